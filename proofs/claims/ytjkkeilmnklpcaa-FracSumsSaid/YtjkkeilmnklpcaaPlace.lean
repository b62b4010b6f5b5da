/-
  Memory written in place: one block turns, all else stays.
-/
import Derived.Test.YtjkkeilmnklpcaaShift
set_option linter.unusedVariables false
set_option linter.unusedSimpArgs false
namespace Go.Proofs.Ytjkkeilmnklpcaa
open Go.RowKit

/-- Nothing but one block has turned. -/
def Only (g : Nat) (w w' : World) : Prop := w.grownBy w' (some g)
theorem Only.refl (g : Nat) (w : World) : Only g w w := ⟨rfl, rfl, rfl, Nat.le_refl _, fun _ _ _ => rfl⟩
theorem Only.trans {g : Nat} {a b c : World} (h : Only g a b) (k : Only g b c) : Only g a c :=
  ⟨k.os.trans h.os, k.tape.trans h.tape, k.output.trans h.output, Nat.le_trans h.size k.size, fun i hi hne => (k.block i (Nat.lt_of_lt_of_le hi h.size) hne).trans (h.block i hi hne)⟩
theorem Only.of_up {g : Nat} {w w' : World} (h : Up w w') : Only g w w' := ⟨h.os, h.tape, h.output, h.size, fun k hk _ => h.block k hk⟩
theorem Only.set {g : Nat} {a w : World} (h : Only g a w) (i : Nat) (u : Value) : Only g a (w.setCell ⟨g, i, none⟩ u) := by
  refine h.trans ⟨rfl, rfl, rfl, by simp [World.setCell], fun k hk hne => ?_⟩
  have : k ≠ g := fun e => hne (by rw [e])
  simp [World.setCell, Array.getElem?_modify, Ne.symm this]
theorem Only.set_new {g h : Nat} {a w : World} (k : Only g a w) (hh : a.heap.size ≤ h) (i : Nat) (u : Value) : Only g a (w.setCell ⟨h, i, none⟩ u) := by
  refine ⟨k.os, k.tape, k.output, Nat.le_trans k.size (by simp [World.setCell]), fun j hj hne => ?_⟩
  have hne2 : h ≠ j := by omega
  rw [← k.block j hj hne]
  simp [World.setCell, Array.getElem?_modify, hne2]
theorem Only.drew {g : Nat} {a w : World} (h : Only g a w) : Only g a w.drew := h.trans ⟨rfl, rfl, rfl, Nat.le_refl _, fun _ _ _ => rfl⟩
theorem Only.drewN {g : Nat} {a w : World} (h : Only g a w) (n : Nat) : Only g a (w.drewN n) := h.trans ⟨rfl, rfl, rfl, Nat.le_refl _, fun _ _ _ => rfl⟩
theorem Only.up {g : Nat} {w0 w w' : World} (hu : Up w0 w) (h : Only g w w') (hg : w0.heap.size ≤ g) : Up w0 w' := hu.grown h (fun k hk => by cases hk; exact hg)
theorem Only.size {g : Nat} {w w' : World} (h : Only g w w') : w.heap.size ≤ w'.heap.size := World.grownBy.size h
theorem Only.heap {g k : Nat} {w w' : World} (h : Only g w w') (hk : k < w.heap.size) (hne : k ≠ g) : w'.heap[k]? = w.heap[k]? := World.grownBy.block h k hk (fun e => hne (by cases e; rfl))

/-- A slice that reads as a list, whatever becomes of one block. -/
def Stays (g : Nat) (w : World) (v : Value) (l : List Nat) : Prop := ∀ w', Only g w w' → Ws w' v l
theorem Stays.ws {g : Nat} {w : World} {v : Value} {l : List Nat} (h : Stays g w v l) : Ws w v l := h w (Only.refl g w)
theorem Stays.only {g : Nat} {w w' : World} {v : Value} {l : List Nat} (h : Stays g w v l) (k : Only g w w') : Stays g w' v l := fun w2 h2 => h w2 (k.trans h2)
theorem Stays.of_old {g : Nat} {w0 w : World} {v : Value} {l : List Nat} (h : Ws w0 v l) (hu : Up w0 w) (hg : w0.heap.size ≤ g) : Stays g w v l := fun w' k => h.up (k.up hu hg)
theorem Stays.of_own {g base : Nat} {w : World} {v : Value} {l : List Nat} (h : w.ownsRow base 118 1 v l.length (l.map wv)) (ho : Wd.Ok l) (hg : g < base) : Stays g w v l := fun w' k => by
  refine Ws.of_own (base := base) (h.kept k ?_) ho
  rcases h.2 with ⟨rfl, _⟩ | ⟨b, cap, cur, rfl, hb, _⟩
  · exact .inl rfl
  · refine .inr ?_
    show some b ≠ some g
    simp; omega
/-- What is read of it. -/
theorem Stays.open_ {g : Nat} {w : World} {v : Value} {l : List Nat} (h : Stays g w v l) : ∃ A c, v = .slice A l.length c ∧ Wd.Ok l ∧ ∀ w', Only g w w' → RdV w' A (l.map wv) := by
  obtain ⟨A, c, rfl, _, _, h4, _⟩ := h.ws
  refine ⟨A, c, rfl, h4, fun w' k => ?_⟩
  obtain ⟨A', c', e, _, _, _, h5⟩ := h w' k
  cases e
  exact h5
theorem BlkR.other {w w' : World} {g h : Nat} {l : List Nat} {rest : List Value} (hb : BlkR w g l rest) (k : Only h w w') (hne : g ≠ h) : BlkR w' g l rest := (k.heap hb.lt hne).trans hb
theorem BlkR.up {w w' : World} {g : Nat} {l : List Nat} {rest : List Value} (hb : BlkR w g l rest) (k : Up w w') : BlkR w' g l rest := (k.heap hb.lt).trans hb
theorem BlkR.drewN {w : World} {g : Nat} {l : List Nat} {rest : List Value} (h : BlkR w g l rest) (n : Nat) : BlkR (w.drewN n) g l rest := h

/-- A block in whose midst just these words stand. -/
def BlkP (w : World) (g : Nat) (pre : List Value) (l : List Nat) (rest : List Value) : Prop := w.heap[g]? = some (.cells (pre ++ (l.map wv ++ rest)).toArray 118 (0, 0))
theorem BlkR.mid {w : World} {g : Nat} {l : List Nat} {rest : List Value} (h : BlkR w g l rest) : BlkP w g [] l rest := h
theorem BlkP.lt {w : World} {g : Nat} {pre : List Value} {l : List Nat} {rest : List Value} (h : BlkP w g pre l rest) : g < w.heap.size := (Array.getElem?_eq_some_iff.1 h).1
theorem BlkP.cellD {w : World} {g off : Nat} {pre : List Value} {l : List Nat} {rest : List Value} (h : BlkP w g pre l rest) (ho : pre.length = off) {i : Nat} (hi : i < l.length) : w.cell? ⟨g, off + i, none⟩ = some (.int .u32 ((l.getD i 0 : Nat) : Int)) := by
  subst ho
  rw [getD_lt l hi, cell_of_row w g _ _ _ (0, 0) h]
  simp only [List.getElem?_toArray]
  rw [List.getElem?_append_right (by omega), Nat.add_sub_cancel_left, List.getElem?_append_left (by simpa using hi)]
  simp [wv, hi]
theorem BlkP.free {w : World} {g : Nat} {pre : List Value} {l : List Nat} {rest : List Value} (h : BlkP w g pre l rest) (i : Nat) : w.frozen? ⟨g, i, none⟩ = false := by
  unfold BlkP at h
  simp [World.frozen?, h]
theorem BlkP.set {w : World} {g off : Nat} {pre : List Value} {l : List Nat} {rest : List Value} (h : BlkP w g pre l rest) (ho : pre.length = off) {i : Nat} (hi : i < l.length) (x : Nat) : BlkP (w.setCell ⟨g, off + i, none⟩ (.int .u32 (x : Int))) g pre (l.set i x) rest := by
  subst ho
  unfold BlkP at h ⊢
  simp only [World.setCell, Array.getElem?_modify, h]
  simp [wv, List.map_set, List.set_append, hi]
theorem BlkP.up {w w' : World} {g : Nat} {pre : List Value} {l : List Nat} {rest : List Value} (hb : BlkP w g pre l rest) (k : Up w w') : BlkP w' g pre l rest := (k.heap hb.lt).trans hb
theorem BlkP.other {w w' : World} {g h : Nat} {pre : List Value} {l : List Nat} {rest : List Value} (hb : BlkP w g pre l rest) (k : Only h w w') (hne : g ≠ h) : BlkP w' g pre l rest := (k.heap hb.lt hne).trans hb
theorem BlkP.drew {w : World} {g : Nat} {pre : List Value} {l : List Nat} {rest : List Value} (h : BlkP w g pre l rest) : BlkP w.drew g pre l rest := h
theorem BlkP.drewN {w : World} {g : Nat} {pre : List Value} {l : List Nat} {rest : List Value} (h : BlkP w g pre l rest) (n : Nat) : BlkP (w.drewN n) g pre l rest := h
theorem BlkP.rd {w : World} {g off : Nat} {pre : List Value} {l : List Nat} {rest : List Value} (h : BlkP w g pre l rest) (ho : pre.length = off) : RdV w (some ⟨g, off, none⟩) (l.map wv) := fun _ => by
  refine ⟨g, off, rfl, h.lt, fun j u hj => ?_⟩
  have hlt : j < (l.map wv).length := by
    rcases Nat.lt_or_ge j (l.map wv).length with h | h
    · exact h
    · rw [List.getElem?_eq_none h] at hj; cases hj
  have hlt2 : j < l.length := by simpa using hlt
  rw [h.cellD ho hlt2, ← hj, getD_lt l hlt2]
  simp [wv, hlt2]
theorem BlkP.ws {w : World} {g off c : Nat} {pre : List Value} {l : List Nat} {rest : List Value} (h : BlkP w g pre l rest) (hp : pre.length = off) (ho : Wd.Ok l) (hc : l.length ≤ c) (hm : c ≤ maxLen) : Ws w (.slice (some ⟨g, off, none⟩) l.length c) l :=
  Ws.mk rfl hc hm ho (h.rd hp)
theorem BlkP.stays {w : World} {g off c k : Nat} {pre : List Value} {l : List Nat} {rest : List Value} (h : BlkP w g pre l rest) (hp : pre.length = off) (ho : Wd.Ok l) (hc : l.length ≤ c) (hm : c ≤ maxLen) (hne : g ≠ k) : Stays k w (.slice (some ⟨g, off, none⟩) l.length c) l :=
  fun w' hw => (h.other hw hne).ws hp ho hc hm
/-- Its first word is left behind. -/
theorem BlkP.tail {w : World} {g : Nat} {pre : List Value} {x : Nat} {l : List Nat} {rest : List Value} (h : BlkP w g pre (x :: l) rest) : BlkP w g (pre ++ [wv x]) l rest := by
  unfold BlkP at h ⊢
  rw [h]
  simp
/-- Its last words are left behind. -/
theorem BlkP.cut {w : World} {g : Nat} {pre : List Value} {l : List Nat} {rest : List Value} (h : BlkP w g pre l rest) (n : Nat) : BlkP w g pre (l.take n) ((l.drop n).map wv ++ rest) := by
  unfold BlkP at h ⊢
  rw [h, ← List.append_assoc ((l.take n).map wv), ← List.map_append, List.take_append_drop]

/-- Two slices, and whether there are any. -/
def RetWWB (l m : List Nat) (b : Bool) (w : World) (e : Ending) (w' : World) : Prop := ∃ v u, e = .returned (.tuple #[v, u, .bool b]) ∧ Ws w' v l ∧ Ws w' u m ∧ Up w w'
theorem ret_wwb {v u : Value} {l l' m m' : List Nat} {b : Bool} {w w' : World} (hs : Ws w' v l) (hr : Ws w' u m) (h1 : l = l') (h2 : m = m') (hu : Up w w') : RetWWB l' m' b w (.returned (.tuple #[v, u, .bool b])) w' := ⟨v, u, rfl, by rw [← h1]; exact hs, by rw [← h2]; exact hr, hu⟩
/-- A slice and a word, and whether there are any. -/
def RetWNB (l : List Nat) (x : Nat) (b : Bool) (w : World) (e : Ending) (w' : World) : Prop := ∃ v, e = .returned (.tuple #[v, .int .u32 (x : Int), .bool b]) ∧ Ws w' v l ∧ Up w w'
end Go.Proofs.Ytjkkeilmnklpcaa
