/-
  The walks of layer 17: where an expression begins, how deep it is.
-/
import Derived.Test.YtmmcffceeahemaaTree
import Derived.Test.YtmmcffceeahemaaLowTwos
set_option linter.unusedVariables false
set_option linter.unusedSimpArgs false
namespace Go.Proofs.Ytmmcffceeahemaa
open Go.RowKit

set_option maxRecDepth 100000 in
set_option maxHeartbeats 1600000 in
theorem tree_begin {v : Value} {l p e r : List Tr.Nd} {d : Nat} {w : World} {n : Int} (hl : l = p ++ (e ++ r)) (he : Tr.Ex e d) (hn : n = ((p.length + e.length : Nat) : Int)) (h : Nds w v l) (hb : l.length ≤ 1000000) :
    Calls Try.prog 148 #[v, .int .i64 n] w fun e w' => e = .returned (.int .i64 ((p.length : Nat) : Int)) ∧ w = w' := by
  subst hn
  obtain ⟨A, c, rfl, h1, h2, h3, h4⟩ := h
  have H3 := Lib.hid h3
  have HL := Lib.hid hl
  have hle : p.length + e.length ≤ l.length := by rw [hl, List.length_append, List.length_append]; omega
  have hsl : 1 ≤ 1000000 := by omega
  have HST : Hid (∃ q ds, q.length = e.length ∧ ds.length = 1 ∧ Tr.St q ds ∧ ∃ r', l = p ++ (q ++ r')) := Lib.hid ⟨e, [d], rfl, rfl, he.st, r, hl⟩
  clear h2 h3 hl hsl
  go_enter Try.func148, Try.ntmps148
  go_wp2
  go_loop [1, 5] (fun s1 s5 => ∃ (k o : Nat), s1 = .int .i64 ((p.length + k : Nat) : Int) ∧ s5 = .int .i64 o ∧ k ≤ e.length ∧ o ≤ 1000000 ∧ Hid (∃ q ds, q.length = k ∧ ds.length = o ∧ Tr.St q ds ∧ ∃ r', l = p ++ (q ++ r'))) (fun s1 _ => (intOf s1).toNat)
  case atStart => exact ⟨e.length, 1, by go_num, rfl, Nat.le_refl _, by omega, HST⟩
  case round =>
    obtain ⟨k, o, rfl, rfl, hk, ho, HS⟩ := hrel
    match o, ho, HS with
    | 0, ho, HS =>
      have hk0 : k = 0 := by
        obtain ⟨q, ds, h1, h2, h3, _⟩ := HS.out
        obtain rfl := List.eq_nil_of_length_eq_zero h2
        rw [h3.of_nil] at h1
        exact h1.symm
      subst hk0
      go_wp2
      go_ret
      exact ⟨by simp, rfl⟩
    | o + 1, ho, HS =>
      obtain ⟨k', x, m, hkk, hx, hm, hm2, HN⟩ : ∃ (k' : Nat) (x : Tr.Nd) (m : Nat), k = k' + 1 ∧ l[p.length + k']? = some x ∧ Tr.arN x.op = m ∧ m ≤ 2 ∧ Hid (∃ q ds, q.length = k' ∧ ds.length = o + m ∧ Tr.St q ds ∧ ∃ r', l = p ++ (q ++ r')) := by
        obtain ⟨q, ds, h1, h2, h3, r', h4⟩ := HS.out
        match ds, h2 with
        | d :: ds, h2 =>
          obtain ⟨q', x, es, rfl, h5, h6, h7, h8⟩ := h3.back
          simp only [List.length_append, List.length_cons, List.length_nil] at h1 h2
          refine ⟨q'.length, x, (Tr.arN x.op).toNat, by omega, ?_, by omega, by omega, Lib.hid ⟨q', es, rfl, by omega, h5, [x] ++ r', by rw [h4]; simp⟩⟩
          rw [h4]
          exact Tr.cut_at rfl
      subst hkk
      have hkl : p.length + k' < l.length := by omega
      obtain ⟨b, q, rfl, hb1, g1, g2, u, g3, g4⟩ := h4.at_ hkl
      have hxe : l[p.length + k'] = x := by
        rw [List.getElem?_eq_getElem hkl] at hx
        exact Option.some.inj hx
      rw [hxe] at g1
      have hxo := H3.out l[p.length + k'] (List.getElem_mem hkl)
      rw [hxe] at hxo
      have hop := hxo.1
      have HM := Lib.hid hm
      have hlt : o + m ≤ 1000000 := by
        obtain ⟨q', es, h1, h2, h3, _⟩ := HN.out
        have := h3.len_le
        omega
      clear hx hxe g2 g3 g4 hm hxo
      go_wp2_with fail
      refine (tree_arity hop _).mono ?_
      rintro e w2 ⟨rfl, rfl⟩
      rw [HM.out]
      go_wp2
      go_round
      case rel => exact ⟨k', o + m, by go_num, by go_num, by omega, hlt, HN⟩
      case measure => simp [intOf]; omega

/-- A depth, and where it begins. -/
def RetDeep (d n : Nat) (w : World) (e : Ending) (w' : World) : Prop := e = .returned (.tuple #[.int .i64 (d : Int), .int .i64 (n : Int)]) ∧ w = w'


end Go.Proofs.Ytmmcffceeahemaa
