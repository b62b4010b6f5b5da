/-
  Layer 17: how many nodes a field has; its expressions, as the program has them.
-/
import Derived.Test.YtmmcffceeahemaaCodes
set_option linter.unusedVariables false
set_option linter.unusedSimpArgs false
namespace Tr
/-- All lengths. -/
def sumL (ls : List (List Nd)) : Nat := (ls.map List.length).sum
theorem sumL_take {ls : List (List Nd)} {k : Nat} (h : k < ls.length) : sumL (ls.take (k + 1)) = sumL (ls.take k) + ls[k].length := by
  unfold sumL
  rw [List.take_succ_eq_append_getElem h, List.map_append, List.sum_append]
  simp
theorem sumL_le {ls : List (List Nd)} {m : Nat} (h : ∀ l ∈ ls, l.length ≤ m) : sumL ls ≤ ls.length * m := by
  induction ls with
  | nil => simp [sumL]
  | cons l ls ih =>
    have h1 := h l (by simp)
    have h2 := ih (fun x hx => h x (by simp [hx]))
    unfold sumL at h2 ⊢
    simp only [List.map_cons, List.sum_cons, List.length_cons, Nat.add_mul, Nat.one_mul]
    omega
theorem Fd.Small.codes {F : Fd} {p m q : Nat} (h : F.Small p m q) : F.codes.length ≤ p + p ∧ ∀ l ∈ F.codes, Short m q l := by
  obtain ⟨h1, h2, h3, h4⟩ := h
  refine ⟨by simp [Fd.codes]; omega, fun l hl => ?_⟩
  rcases List.mem_append.1 hl with hl | hl
  · obtain ⟨x, hx, rfl⟩ := List.mem_map.1 hl
    exact (h3 x hx).2
  · exact h4 l hl
end Tr
namespace Go.Proofs.Ytmmcffceeahemaa
open Go.RowKit

set_option maxRecDepth 100000 in
set_option maxHeartbeats 3200000 in
theorem ref_size {v : Value} {F : Tr.Fd} {w : World} (h : Fld w v F) (hs : F.Small 12 100 10) :
    Calls Try.prog 22 #[v] w fun e w' => e = .returned (.int .i64 (Tr.sumL F.codes : Nat)) ∧ Up w w' := by
  obtain ⟨hc1, hc2⟩ := hs.codes
  have HC2 := Lib.hid (fun k => Nat.le_trans (Tr.sumL_le (ls := F.codes.take k) (m := 100) (fun l hl => (hc2 l (List.mem_of_mem_take hl)).1)) (Nat.mul_le_mul_right 100 (show (F.codes.take k).length ≤ 24 by rw [List.length_take]; omega)))
  have HS := Lib.hid hs
  clear hc2 hs
  have h0 := h
  obtain ⟨a, b, rfl, ha, hb⟩ := h
  obtain ⟨A, c, rfl⟩ := ha.form
  obtain ⟨B, d, rfl⟩ := hb.form
  have u0 : Up w (w.alloc (.cells #[.slice A F.lets.length c, .slice B F.outs.length d] 25)) := (Up.refl w).alloc _
  clear ha hb
  go_enter Try.func22, Try.ntmps22
  go_wp2_with fail
  refine (ref_codes (h0.up u0) (Nat.le_trans HS.out.1 (by omega)) (Nat.le_trans HS.out.2.1 (by omega))).mono ?_
  rintro e W ⟨V, rfl, hv, u1⟩
  have u2 := u0.trans u1
  clear u0 u1 h0
  obtain ⟨D, n, rfl⟩ := hv.form
  obtain ⟨ls, hls⟩ : ∃ ls, F.codes = ls := ⟨_, rfl⟩
  rw [hls] at hc1 hv
  have HLS := Lib.hid hls
  have HC3 : Hid (∀ k, Tr.sumL (ls.take k) ≤ 24 * 100) := Lib.hid (by rw [← hls]; exact HC2.out)
  rw [hls]
  clear hls HC2
  have HV := Lib.hid hv
  clear hv
  go_wp2
  go_loop [3, 5] (fun s3 s5 => ∃ k : Nat, s5 = .int .i64 k ∧ s3 = .int .i64 ((Tr.sumL (ls.take k) : Nat) : Int) ∧ k ≤ ls.length) (fun _ s5 => ls.length - (intOf s5).toNat)
  case atStart => exact ⟨0, rfl, rfl, Nat.zero_le _⟩
  case round =>
    obtain ⟨k, rfl, rfl, hk⟩ := hrel
    by_cases hlt : k < ls.length
    · obtain ⟨b, o, u, rfl, hb, g1, g2⟩ := HV.out.at_ hlt
      have HT := Lib.hid (Tr.sumL_take hlt)
      have b1 := HC3.out k
      have b2 := HC3.out (k + 1)
      rw [HT.out] at b2
      generalize Tr.sumL (ls.take k) = S at *
      obtain ⟨C, e, rfl⟩ := g2.form
      generalize ls[k].length = N at *
      go_wp2
      go_round
      case rel => exact ⟨k + 1, by go_num, by rw [HT.out]; rfl, by omega⟩
      case measure => simp [intOf]; omega
    · obtain rfl : k = ls.length := by omega
      rw [List.take_length]
      have hb := HC3.out ls.length
      rw [List.take_length] at hb
      go_wp2
      go_ret
      exact ⟨by rw [HLS.out]; rfl, u2⟩
end Go.Proofs.Ytmmcffceeahemaa
