/-
  The walk of nat.Small.
-/
import Derived.Test.YtjkkeilmnklpcaaNat
set_option linter.unusedVariables false
set_option linter.unusedSimpArgs false
namespace Go.Proofs.Ytjkkeilmnklpcaa
open Go.RowKit

theorem nat_or_join (X Y : Nat) (hx : X < 4294967296) (hy : Y < 4294967296) : bits BinOp.or IntKind.u64 (X : Int) ((Y : Int) * 4294967296) = ((X + 4294967296 * Y : Nat) : Int) := by
  have h := u64_or_nat X (Y * 4294967296) (by omega) (by omega)
  rw [Nat.or_comm, nat_join 32 _ _ (by omega) (by omega)] at h
  have e : ((Y : Int) * 4294967296) = ((Y * 4294967296 : Nat) : Int) := by omega
  rw [e, h]; omega
theorem nat_or_zero (X : Nat) (hx : X < 4294967296) : bits BinOp.or IntKind.u64 0 (X : Int) = (X : Int) := by
  have h := u64_or_nat 0 X (by omega) (by omega)
  rw [Nat.zero_or] at h
  exact h

/-- What Small tells: a number below 2^64, or that it isn't. -/
def smallN (n : Nat) : Nat := if (Wd.words n).length ≤ 2 then n else 0
def RetSmall (n : Nat) (w : World) (e : Ending) (w' : World) : Prop := e = .returned (.tuple #[.int .u64 ((smallN n : Nat) : Int), .bool (decide ((Wd.words n).length ≤ 2))]) ∧ w = w'
theorem ret_small {n : Nat} {w : World} {x : Int} {b : Bool} (h1 : x = smallN n) (h2 : b = decide ((Wd.words n).length ≤ 2)) : RetSmall n w (.returned (.tuple #[.int .u64 x, .bool b])) w := ⟨by rw [h1, h2], rfl⟩
theorem small_yes {n : Nat} (h : (Wd.words n).length ≤ 2) : smallN n = n := if_pos h
theorem small_no {n : Nat} (h : ¬ (Wd.words n).length ≤ 2) : smallN n = 0 := if_neg h

set_option maxHeartbeats 800000 in
theorem nat_small {v : Value} {l : List Nat} {w : World} (h : Ws w v l) (hl : l.length ≤ 1000000000) :
    Calls Try.prog 149 #[v] w (RetSmall (Wd.val l) w) := by
  go_enter Try.func149, Try.ntmps149
  go_wp2_with fail
  refine (nat_trim_ws h hl).mono ?_
  rintro e w' ⟨v', rfl, h', rfl⟩
  have el := len_words_val h.ok hl
  generalize Wd.val l = N at *
  obtain ⟨la, hla⟩ : ∃ la, la = Wd.words N := ⟨_, rfl⟩
  rw [← hla] at h' el
  have HV : Hid (Wd.val la = N) := Lib.hid (by rw [hla, Wd.val_words])
  have HLA := Lib.hid hla
  clear h hl hla
  obtain ⟨A, c, rfl, p2, p3, p4, p5⟩ := h'
  clear p3
  match la, p2, p4, p5, HV, HLA, el with
  | [], p2, p4, p5, HV, HLA, el =>
    have H1 : Hid (smallN N = 0 ∧ decide ((Wd.words N).length ≤ 2) = true) := Lib.hid (by
      have e : (Wd.words N).length ≤ 2 := by rw [← HLA.out]; simp
      exact ⟨by rw [small_yes e, ← HV.out]; rfl, decide_eq_true e⟩)
    clear p4 p5
    go_wp2
    refine wp_loop_rounds 1 ?_
    rw [rounds_succ]
    go_wp2
    go_ret2
    exact ret_small (by rw [H1.out.1]; rfl) H1.out.2.symm
  | [x], p2, p4, p5, HV, HLA, el =>
    have hx := Wd.ok_get p4 (i := 0) (by simp)
    obtain ⟨b, o, rfl, hb, hc⟩ := rd_word p5 (k := 0) (by simp)
    simp only [List.getElem_cons_zero, Nat.add_zero] at hx hc
    rw [Wd.B_eq] at hx
    have H1 : Hid (smallN N = x ∧ decide ((Wd.words N).length ≤ 2) = true) := Lib.hid (by
      have e : (Wd.words N).length ≤ 2 := by rw [← HLA.out]; simp
      exact ⟨by rw [small_yes e, ← HV.out]; simp [Wd.val], decide_eq_true e⟩)
    have ho := nat_or_zero x hx
    clear p4 p5
    go_wp2
    refine wp_loop_rounds 2 ?_
    rw [rounds_succ]
    go_wp2
    rw [rounds_succ]
    go_wp2
    go_ret2
    exact ret_small (by rw [H1.out.1]) H1.out.2.symm
  | [x, y], p2, p4, p5, HV, HLA, el =>
    have hx := Wd.ok_get p4 (i := 0) (by simp)
    have hy := Wd.ok_get p4 (i := 1) (by simp)
    obtain ⟨b, o, hA, hb, hc⟩ := rd_word p5 (k := 0) (by simp)
    obtain ⟨b', o', hA', hb', hc'⟩ := rd_word p5 (k := 1) (by simp)
    rw [hA] at hA'
    simp at hA'
    obtain ⟨rfl, rfl⟩ := hA'
    subst hA
    simp only [List.getElem_cons_zero, List.getElem_cons_succ, Nat.add_zero] at hx hy hc hc'
    rw [Wd.B_eq] at hx hy
    have H1 : Hid (smallN N = x + 4294967296 * y ∧ decide ((Wd.words N).length ≤ 2) = true) := Lib.hid (by
      have e : (Wd.words N).length ≤ 2 := by rw [← HLA.out]; simp
      exact ⟨by rw [small_yes e, ← HV.out]; simp [Wd.val, Wd.B_eq], decide_eq_true e⟩)
    have ho := nat_or_zero x hx
    have ho2 := nat_or_join x y hx hy
    clear p4 p5
    go_wp2
    refine wp_loop_rounds 3 ?_
    rw [rounds_succ]
    go_wp2
    rw [rounds_succ]
    go_wp2
    rw [rounds_succ]
    go_wp2
    go_ret2
    exact ret_small (by rw [H1.out.1]; first | rfl | simp) H1.out.2.symm
  | x :: y :: z :: r, p2, p4, p5, HV, HLA, el =>
    have H1 : Hid (smallN N = 0 ∧ decide ((Wd.words N).length ≤ 2) = false) := Lib.hid (by
      have e : ¬ (Wd.words N).length ≤ 2 := by rw [← HLA.out]; simp
      exact ⟨small_no e, decide_eq_false e⟩)
    clear p4 p5
    simp only [List.length_cons] at p2 el ⊢
    generalize r.length = q at *
    go_wp2
    go_ret2
    exact ret_small (by rw [H1.out.1]; rfl) H1.out.2.symm
end Go.Proofs.Ytjkkeilmnklpcaa
