/-
  What comes in, read: rows of fractions, rows of those, pairs of numbers.
-/
import Derived.Test.YtmmcffceeahemaaGreatSeqLaw
set_option linter.unusedVariables false
set_option linter.unusedSimpArgs false
set_option maxRecDepth 100000
namespace Go.Proofs.YtmmcffceeahemaaGreat
open Go.RowKit Go.ChangeShapes Go.WideShapes Go.Deep

instance : Inhabited F3 := ⟨F3.zero⟩
theorem raws_of_trod {H : Type} {enc : TypeId × Value → H} {W : World} {fuel : Nat} {v : Value} {x : DataW H × List MemPlace} (h : DataW.trod enc Tryz.prog W 0 (fun _ => true) true fuel 44 [v] = some x) : ∃ rs, Sq Rw W v rs := by
 rcases open_slice Tryz.underlying44 h with ⟨hcs, _⟩ | ⟨a, len, cap, m, n, D, Pl, hcs, _, hl, hm, hmm, _, hi⟩
 · simp at hcs
   subst hcs
   exact ⟨[], Sq.nil Rw W⟩
 · simp at hcs hmm
   subst hcs hmm
   have hex : ∀ i, i < len → ∃ y : F3 × Raw, Rw W y.1.agg y.2 ∧ W.cell? (a.add (i * 3)) = some (.bool y.1.s) ∧ W.cell? (a.add (i * 3 + 1)) = some y.1.u ∧ W.cell? (a.add (i * 3 + 2)) = some y.1.d := fun i him => by
    obtain ⟨cs, hc, ht⟩ := hi i (by omega)
    rw [cells_rfrac] at hc
    obtain ⟨ys, n', _, _, hlen, hyl, hf⟩ := DataW.trod_struct Tryz.underlying24 ht
    obtain ⟨_, hcl, hat⟩ := World.cells?_some hc
    match cs, hcl with
    | [c0, c1, c2], _ =>
      have q0 := hat 0 (by omega)
      have q1 := hat 1 (by omega)
      have q2 := hat 2 (by omega)
      rw [add_add] at q0 q1 q2
      simp only [List.getElem?_cons_zero, List.getElem?_cons_succ, Nat.add_zero] at q0 q1 q2
      have k3 : Tryz.prog.cellsOf 4 = 1 := by kernel_rfl
      have f0 : DataW.trod enc Tryz.prog W 0 (fun _ => true) true n' 4 (([c0, c1, c2].drop 0).take (Tryz.prog.cellsOf 4)) = ys[0]? := hf 0 _ rfl
      have f1 : DataW.trod enc Tryz.prog W 0 (fun _ => true) true n' 22 (([c0, c1, c2].drop 1).take (Tryz.prog.cellsOf 22)) = ys[1]? := hf 1 _ rfl
      have f2 : DataW.trod enc Tryz.prog W 0 (fun _ => true) true n' 22 (([c0, c1, c2].drop 2).take (Tryz.prog.cellsOf 22)) = ys[2]? := hf 2 _ rfl
      have hy3 : ys.length = 3 := hyl
      rw [k3] at f0
      rw [cells_words] at f1 f2
      rw [List.getElem?_eq_getElem (by omega)] at f0 f1 f2
      obtain ⟨b0, e0⟩ := DataW.trod_bool Tryz.underlying4 f0
      obtain ⟨l, hw⟩ := words_of_trod f1
      obtain ⟨m, hw2⟩ := words_of_trod f2
      obtain ⟨e0, _⟩ := e0
      simp at e0
      subst e0
      exact ⟨(⟨b0, c1, c2⟩, (b0, l, m)), ⟨c1, c2, rfl, hw, hw2⟩, q0, q1, q2⟩
   obtain ⟨L, hL⟩ := choose_lt (α := F3 × Raw) (p := fun i y => Rw W y.1.agg y.2 ∧ W.cell? (a.add (i * 3)) = some (.bool y.1.s) ∧ W.cell? (a.add (i * 3 + 1)) = some y.1.u ∧ W.cell? (a.add (i * 3 + 2)) = some y.1.d) hex
   have hat : ∀ (j : Nat) x, ((List.range len).map fun i => (L i).1)[j]? = some x → j < len ∧ x = (L j).1 := fun j x hj => by
    simp only [List.getElem?_map, Option.map_eq_some_iff] at hj
    obtain ⟨k, hk, rfl⟩ := hj
    obtain ⟨hk3, hk4⟩ := List.getElem?_eq_some_iff.1 hk
    simp at hk3 hk4
    exact ⟨hk3, by rw [hk4]⟩
   have hlx : (fcells ((List.range len).map fun i => (L i).1)).length = len * 3 := by rw [fcells_len]; simp
   refine ⟨(List.range len).map fun i => (L i).2, some a, m, (List.range len).map fun i => (L i).1, by simp, by simpa using hl, hm, ⟨by simp, fun j x q h1 h2 => ?_⟩, rdv_of_cells hlx fun i u hu => ?_⟩
   · obtain ⟨hj, rfl⟩ := hat j x h1
     simp only [List.getElem?_map, Option.map_eq_some_iff] at h2
     obtain ⟨k, hk, rfl⟩ := h2
     obtain ⟨hk3, hk4⟩ := List.getElem?_eq_some_iff.1 hk
     simp at hk3 hk4
     subst hk4
     exact (hL j hj).1
   · have hil : i < len * 3 := by
      rw [← hlx]
      exact (List.getElem?_eq_some_iff.1 hu).1
     obtain ⟨q, hq, hcase⟩ : ∃ q, q < len ∧ (i = q * 3 ∨ i = q * 3 + 1 ∨ i = q * 3 + 2) := ⟨i / 3, by omega, by omega⟩
     obtain ⟨z1, z2, z3⟩ := fcells_at ((List.range len).map fun i => (L i).1) q (L q).1 (by simp [hq])
     obtain ⟨_, c1, c2, c3⟩ := hL q hq
     rcases hcase with rfl | rfl | rfl
     · rw [z1] at hu; cases hu; exact c1
     · rw [z2] at hu; cases hu; exact c2
     · rw [z3] at hu; cases hu; exact c3
theorem open_fracs {H : Type} {enc : TypeId × Value → H} {W : World} {base : Nat} {v : Value} {d : DataW H} {p : List MemPlace} (hv : Value.okWide Tryz.prog W .any base 44 v) (h : DataW.Trod enc Tryz.prog W 0 (fun _ => true) true 44 v d p) : ∃ rs, Sq Rw W v rs := by
 obtain ⟨a, len, cap, rfl⟩ := okWide_slice Tryz.underlying44 hv
 obtain ⟨fuel, hf⟩ := h
 exact raws_of_trod (fuel := fuel) (x := (d, p)) hf

/-- Rows of fractions, one behind the other. -/
def Sqs {α : Type} (P : World → Value → α → Prop) (w : World) (v : Value) (ls : List (List α)) : Prop :=
 ∃ A c vs, v = .slice A ls.length c ∧ ls.length ≤ c ∧ c ≤ maxLen ∧ vs.length = ls.length ∧ RdV w A vs ∧ ∀ (i : Nat) u l, vs[i]? = some u → ls[i]? = some l → Sq P w u l
theorem Sqs.up {α : Type} {P : World → Value → α → Prop} (kp : Kp P) {w w' : World} {v : Value} {ls : List (List α)} (h : Sqs P w v ls) (hu : Up w w') : Sqs P w' v ls := by
 obtain ⟨A, c, vs, h1, h2, h3, h4, h5, h6⟩ := h
 exact ⟨A, c, vs, h1, h2, h3, h4, h5.up hu, fun i u l hu' hl => (h6 i u l hu' hl).up kp hu⟩
theorem Sqs.form {α : Type} {P : World → Value → α → Prop} {w : World} {v : Value} {ls : List (List α)} (h : Sqs P w v ls) : ∃ A c, v = .slice A ls.length c := by obtain ⟨A, c, vs, h1, _⟩ := h; exact ⟨A, c, h1⟩
theorem Sqs.at_ {α : Type} {P : World → Value → α → Prop} {w : World} {A : Option Addr} {n c : Nat} {ls : List (List α)} (h : Sqs P w (.slice A n c) ls) {k : Nat} (hk : k < ls.length) :
 ∃ b o u, A = some ⟨b, o, none⟩ ∧ b < w.heap.size ∧ w.cell? ⟨b, o + k, none⟩ = some u ∧ Sq P w u ls[k] := by
 obtain ⟨A', c', vs, h1, h2, h3, h4, h5, h6⟩ := h
 cases h1
 have hkv : k < vs.length := by omega
 obtain ⟨b, o, h1, h2, h3⟩ := h5.at_ (List.getElem?_eq_getElem hkv)
 exact ⟨b, o, vs[k], h1, h2, h3, h6 k _ _ (List.getElem?_eq_getElem hkv) (List.getElem?_eq_getElem hk)⟩
theorem cells_fracs : Tryz.prog.cellsOf 44 = 1 := by kernel_rfl

end Go.Proofs.YtmmcffceeahemaaGreat
