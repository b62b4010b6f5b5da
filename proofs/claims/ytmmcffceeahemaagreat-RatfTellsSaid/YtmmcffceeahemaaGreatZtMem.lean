/-
  Memory: a world that has only grown; a slice that reads as a list of words; a row of the call's own.
-/
import Derived.Test.YtmmcffceeahemaaGreatZtLimb
import Derived.Laws.CopyOwn
import Derived.Deep.Draws
import Derived.Test.YtmmcffceeahemaaGreatZtShort
set_option linter.unusedVariables false
set_option linter.unusedSimpArgs false
namespace Go.Proofs.YtmmcffceeahemaaGreat
open Go.RowKit
/-- Nothing that was there has turned. -/
def Up (w w' : World) : Prop := Below w.heap.size w w'
theorem Up.refl (w : World) : Up w w := Below.refl _ _
theorem Up.below {w w' : World} (h : Up w w') : Below w.heap.size w w' := h
theorem Up.of {w w' : World} (h : Below w.heap.size w w') : Up w w' := h
theorem Up.size {w w' : World} (h : Up w w') : w.heap.size ≤ w'.heap.size := Below.size h
theorem Up.trans {a b c : World} (h : Up a b) (k : Up b c) : Up a c := Below.trans h (Below.mono k (Below.size h))
instance Up.lu {a b c : World} : Lu (Up b c) (Up a b) (Up a c) := luM fun k h => h.trans k
theorem Up.alloc {a w : World} (h : Up a w) (o : Obj) : Up a (w.alloc o) := Below.alloc h (Below.size h) o
theorem Up.drew {a w : World} (h : Up a w) : Up a w.drew := Below.drew h
theorem Up.drewN {a w : World} (h : Up a w) (n : Nat) : Up a (w.drewN n) := ⟨h.os, h.tape, h.output, h.size, h.block⟩
theorem Up.setCell {a w : World} (h : Up a w) {p : Addr} (hp : a.heap.size ≤ p.block) (u : Value) : Up a (w.setCell p u) := Below.setCell h hp u
theorem us {a w : World} {p : Addr} {u : Value} (h : Up a w) (hp : a.heap.size ≤ p.block := by (try dsimp only); omega) : Up a (w.setCell p u) := h.setCell hp u
theorem Up.grown {a w w' : World} {row : Option Nat} (h : Up a w) (hg : w.grownBy w' row) (hr : ∀ k, row = some k → a.heap.size ≤ k) : Up a w' := Below.grown h hg (Below.size h) hr
theorem Up.cell {w w' : World} (h : Up w w') {p : Addr} (hp : p.block < w.heap.size) : w'.cell? p = w.cell? p := Below.cell h hp
instance cell_lu {w w' : World} {p : Addr} {v : Value} : Lu (Up w w') (w.cell? p = some v) (w'.cell? p = some v) := luM fun u h => (u.cell (World.block_lt_of_cell? w _ h)).trans h
theorem Up.heap {w w' : World} (h : Up w w') {g : Nat} (hg : g < w.heap.size) : w'.heap[g]? = w.heap[g]? := Below.block h g hg
/-- Cells that can be read, one behind the other. -/
def RdV (w : World) (A : Option Addr) (vs : List Value) : Prop :=
 0 < vs.length → ∃ b o, A = some ⟨b, o, none⟩ ∧ b < w.heap.size ∧ ∀ (j : Nat) u, vs[j]? = some u → w.cell? ⟨b, o + j, none⟩ = some u
theorem RdV.nil (w : World) (A : Option Addr) : RdV w A [] := fun h => absurd h (by simp)
theorem RdV.up {w w' : World} {A : Option Addr} {vs : List Value} (h : RdV w A vs) (hu : Up w w') : RdV w' A vs := fun hl => by
 obtain ⟨b, o, hA, hb, hc⟩ := h hl
 exact ⟨b, o, hA, Nat.lt_of_lt_of_le hb hu.size, fun j u hj => (hu.cell hb).trans (hc j u hj)⟩
instance RdV.lup {w w' : World} {A : Option Addr} {vs : List Value} : Lu (Up w w') (RdV w A vs) (RdV w' A vs) := luM fun u h => h.up u
theorem RdV.at_ {w : World} {A : Option Addr} {vs : List Value} (h : RdV w A vs) {k : Nat} {u : Value} (hk : vs[k]? = some u) : ∃ b o, A = some ⟨b, o, none⟩ ∧ b < w.heap.size ∧ w.cell? ⟨b, o + k, none⟩ = some u := by
 have hlt : k < vs.length := by
  rcases Nat.lt_or_ge k vs.length with h | h
  · exact h
  · rw [List.getElem?_eq_none h] at hk; cases hk
 obtain ⟨b, o, hA, hb, hc⟩ := h (by omega)
 exact ⟨b, o, hA, hb, hc k u hk⟩
theorem RdV.take {w : World} {A : Option Addr} {vs : List Value} (h : RdV w A vs) (n : Nat) : RdV w A (vs.take n) := fun hl => by
 have hl : 0 < vs.length := by simp at hl; omega
 obtain ⟨b, o, hA, hb, hc⟩ := h hl
 refine ⟨b, o, hA, hb, fun j u hj => hc j u ?_⟩
 rw [List.getElem?_take] at hj
 split at hj
 · exact hj
 · cases hj
theorem RdV.drop {w : World} {b o : Nat} {vs : List Value} (h : RdV w (some ⟨b, o, none⟩) vs) (n : Nat) : RdV w (some ⟨b, o + n, none⟩) (vs.drop n) := fun hl => by
 have hl : 0 < vs.length := by simp at hl; omega
 obtain ⟨b', o', hA, hb, hc⟩ := h hl
 simp at hA
 obtain ⟨rfl, rfl⟩ := hA
 refine ⟨b, o + n, rfl, hb, fun j u hj => ?_⟩
 rw [List.getElem?_drop] at hj
 rw [Nat.add_assoc]
 exact hc _ u hj
/-- A word's cell. -/
def wv (x : Nat) : Value := .int .u32 (x : Int)
/-- A slice of words that reads as a list. -/
def Ws (w : World) (v : Value) (l : List Nat) : Prop := ∃ A c, v = .slice A l.length c ∧ l.length ≤ c ∧ c ≤ maxLen ∧ Wd.Ok l ∧ RdV w A (l.map wv)
theorem Ws.ok {w : World} {v : Value} {l : List Nat} (h : Ws w v l) : Wd.Ok l := by obtain ⟨_, _, _, _, _, h, _⟩ := h; exact h
theorem Ws.shape {w : World} {v : Value} {l : List Nat} (h : Ws w v l) : ∃ A n c, v = .slice A n c := by obtain ⟨A, c, h, _⟩ := h; exact ⟨A, _, c, h⟩
theorem Ws.form {w : World} {v : Value} {l : List Nat} (h : Ws w v l) : ∃ A c, v = .slice A l.length c := by obtain ⟨A, c, h, _⟩ := h; exact ⟨A, c, h⟩
theorem Ws.up {w w' : World} {v : Value} {l : List Nat} (h : Ws w v l) (hu : Up w w') : Ws w' v l := by
 obtain ⟨A, c, h1, h2, h3, h4, h5⟩ := h
 exact ⟨A, c, h1, h2, h3, h4, h5.up hu⟩
instance Ws.lup {w w' : World} {v : Value} {l : List Nat} : Lu (Up w w') (Ws w v l) (Ws w' v l) := luM fun u h => h.up u
theorem Ws.mk {w : World} {A : Option Addr} {n c : Nat} {l : List Nat} (hn : n = l.length) (h2 : l.length ≤ c) (h3 : c ≤ maxLen) (h4 : Wd.Ok l) (h5 : RdV w A (l.map wv)) : Ws w (.slice A n c) l := ⟨A, c, by rw [hn], h2, h3, h4, h5⟩
theorem Ws.nil (w : World) : Ws w (.slice none 0 0) [] := ⟨none, 0, rfl, by simp, by simp, Wd.ok_nil, RdV.nil _ _⟩
/-- The cell at a place. -/
theorem rd_word {w : World} {A : Option Addr} {l : List Nat} (h : RdV w A (l.map wv)) {k : Nat} (hk : k < l.length) : ∃ b o, A = some ⟨b, o, none⟩ ∧ b < w.heap.size ∧ w.cell? ⟨b, o + k, none⟩ = some (.int .u32 ((l[k] : Nat) : Int)) :=
 h.at_ (by rw [List.getElem?_map, List.getElem?_eq_getElem hk]; rfl)
/-- A row of the call's own is read. -/
theorem RdV.of_own {w : World} {base : Nat} {e : TypeId} {A : Option Addr} {n c size : Nat} {xs : List Value} (h : w.ownsRow base e size (.slice A n c) n xs) : RdV w A xs := fun hl => by
 rcases h.2 with ⟨h1, rfl⟩ | ⟨g, cap, cur, hv, _, hg, _, _, _, htake⟩
 · have := h.1; simp at this; subst this; simp at hl
 · simp at hv
   obtain ⟨rfl, rfl⟩ := hv
   refine ⟨g, 0, rfl, (Array.getElem?_eq_some_iff.1 hg).1, fun j u hj => ?_⟩
   rw [Nat.zero_add, cell_of_row w g j cur e (0, 0) hg]
   rw [← htake, List.getElem?_take] at hj
   split at hj
   · simpa using hj
   · cases hj
theorem own_form {w : World} {base : Nat} {e : TypeId} {v : Value} {n size : Nat} {xs : List Value} (h : w.ownsRow base e size v n xs) : ∃ A c, v = .slice A n c ∧ n ≤ c ∧ c ≤ maxLen := by
 rcases h.2 with ⟨h1, rfl⟩ | ⟨g, cap, cur, hv, _, hg, h2, h3, _, htake⟩
 · exact ⟨none, 0, h1, by simp, by simp⟩
 · exact ⟨_, _, hv, h2, h3⟩
theorem Ws.of_own {w : World} {base : Nat} {e : TypeId} {v : Value} {l : List Nat} (h : w.ownsRow base e 1 v l.length (l.map wv)) (ho : Wd.Ok l) : Ws w v l := by
 obtain ⟨A, c, rfl, h1, h2⟩ := own_form h
 exact ⟨A, c, rfl, h1, h2, ho, RdV.of_own h⟩
/-- What comes back: a slice that reads as a list; the world has only grown. -/
def RetW (l : List Nat) (w : World) (e : Ending) (w' : World) : Prop := ∃ v, e = .returned v ∧ Ws w' v l ∧ Up w w'
/-- What comes back: a row of the call's own. -/
def RetO (l : List Nat) (w : World) (e : Ending) (w' : World) : Prop := ∃ v, e = .returned v ∧ w'.ownsRow w.heap.size 122 1 v l.length (l.map wv) ∧ Wd.Ok l ∧ Up w w'
theorem RetO.ws {l : List Nat} {w w' : World} {e : Ending} (h : RetO l w e w') : RetW l w e w' := by
 obtain ⟨v, h1, h2, h3, h4⟩ := h
 exact ⟨v, h1, Ws.of_own h2 h3, h4⟩
theorem info_u32 : (Tryz.prog.info? 122).map (fun i => (i.zero, i.size, i.bytes)) = some (some (.int .u32 0), 1, 4) := by kernel_rfl
theorem words_oneCell (l : List Nat) : ∀ u ∈ l.map wv, u.oneCell' = true := by
 intro u hu
 obtain ⟨x, _, rfl⟩ := List.mem_map.1 hu
 rfl
/-- A block that is known whole: just these words, none frozen. -/
def Blk (w : World) (g : Nat) (l : List Nat) : Prop := w.heap[g]? = some (.cells (l.map wv).toArray 122 (0, 0))
theorem Blk.lt {w : World} {g : Nat} {l : List Nat} (h : Blk w g l) : g < w.heap.size := (Array.getElem?_eq_some_iff.1 h).1
theorem Blk.cell {w : World} {g : Nat} {l : List Nat} (h : Blk w g l) {i : Nat} (hi : i < l.length) : w.cell? ⟨g, i, none⟩ = some (.int .u32 ((l[i] : Nat) : Int)) := by
 rw [cell_of_row w g i _ _ (0, 0) h]
 simp [wv, hi]
theorem Blk.free {w : World} {g : Nat} {l : List Nat} (h : Blk w g l) (i : Nat) : w.frozen? ⟨g, i, none⟩ = false := by
 unfold Blk at h
 simp [World.frozen?, h]
theorem Blk.set {w : World} {g : Nat} {l : List Nat} (h : Blk w g l) (i : Nat) (x : Nat) : Blk (w.setCell ⟨g, i, none⟩ (.int .u32 (x : Int))) g (l.set i x) := by
 unfold Blk at h ⊢
 simp only [World.setCell, Array.getElem?_modify, h]
 simp [wv, List.map_set]
theorem Blk.drewN {w : World} {g : Nat} {l : List Nat} (h : Blk w g l) (n : Nat) : Blk (w.drewN n) g l := h
theorem Blk.drew {w : World} {g : Nat} {l : List Nat} (h : Blk w g l) : Blk w.drew g l := h
theorem Blk.up {w w' : World} {g : Nat} {l : List Nat} (h : Blk w g l) (hu : Up w w') : Blk w' g l := (hu.heap h.lt).trans h
instance Blk.lup {w w' : World} {g : Nat} {l : List Nat} : Lu (Up w w') (Blk w g l) (Blk w' g l) := luM fun u h => h.up u
theorem Blk.grown {w w' : World} {g : Nat} {l : List Nat} (h : Blk w g l) {row : Option Nat} (hg : w.grownBy w' row) (hne : some g ≠ row) : Blk w' g l := (hg.block g h.lt hne).trans h
theorem Blk.rd {w : World} {g : Nat} {l : List Nat} (h : Blk w g l) : RdV w (some ⟨g, 0, none⟩) (l.map wv) := fun _ => by
 refine ⟨g, 0, rfl, h.lt, fun j u hj => ?_⟩
 rw [Nat.zero_add, cell_of_row w g j _ _ (0, 0) h]
 simpa using hj
theorem Blk.ws {w : World} {g : Nat} {l : List Nat} (h : Blk w g l) (ho : Wd.Ok l) (hm : l.length ≤ maxLen) : Ws w (.slice (some ⟨g, 0, none⟩) l.length l.length) l := Ws.mk rfl (Nat.le_refl _) hm ho h.rd
theorem Blk.own {w : World} {g base : Nat} {l : List Nat} (h : Blk w g l) (hb : base ≤ g) (hm : l.length ≤ maxLen) : w.ownsRow base 122 1 (.slice (some ⟨g, 0, none⟩) l.length l.length) l.length (l.map wv) :=
 ⟨by simp, .inr ⟨g, l.length, _, rfl, hb, h, Nat.le_refl _, hm, by simp, by simp [List.take_of_length_le]⟩⟩
/-- 'make([]uint32, n)'. -/
theorem wl_make {w : World} {ops : Array Oper} {rest : List Oper} {o : Oper} {a : Act} {Q : Exit → Act → World → Prop}
 (hg : o.guard = none) (lo co : Operand) (hop : o.op = Op.makeSlice 22 lo co) (n : Nat) {L : Int} (hl : a.eval lo = .int .i64 L) (hc : a.eval co = .int .i64 L) (hL : L = (n : Int)) (hn : n ≤ 400000000000)
 (hK : ∀ w', Blk w' w.heap.size (List.replicate n 0) → Up w w' → wpList Tryz.prog ops Q rest (a.put o.dst (.slice (some ⟨w.heap.size, 0, none⟩) n n)) w') :
 wpList Tryz.prog ops Q (o :: rest) a w := by
 obtain ⟨i0, hi, hz0, hz1, hz2⟩ := info_parts info_u32
 refine wpList_make_full w hg lo co 22 hop w.heap.size 122 i0 (.int .u32 0) 1 Tryz.underlying22 hi hz0 hz1 .i64 .i64 L L n hl hc hL hL (by rw [hz2]; omega) (by unfold maxLen; omega) (Nat.le_refl _) ?_
 intro w' hown hgr
 refine hK w' ?_ ((Up.refl w).grown hgr (fun k h => by cases h))
 rcases hown.2 with ⟨h1, _⟩ | ⟨g, cap, cur, hv, _, hh, _, _, hs, htake⟩
 · cases h1
 · simp at hv
   obtain ⟨rfl, rfl⟩ := hv
   unfold Blk
   rw [hh]
   have e : cur.toList = (madeCells (Value.int .u32 0).cells (n * 1)).toList := by
    rw [← htake, List.take_of_length_le (by simp [hs])]
   have e2 : cur = ((List.replicate n 0).map wv).toArray := by
    apply Array.toList_inj.1
    rw [e]
    show (madeCells #[Value.int .u32 0] (n * 1)).toList = _
    rw [toList_madeCells_one, Nat.mul_one, List.map_replicate]
    rfl
   rw [e2]
/-- 'copy(out, src)' of a whole list into a block of the call's own, from its head on. -/
theorem wl_copy {w0 w : World} {ops : Array Oper} {rest : List Oper} {o : Oper} {a : Act} {Q : Exit → Act → World → Prop} (hgd : o.guard = none) (d s : Operand)
 (ho : o.op = .call { callee := .builtin .copy, args := #[d, s], argTypes := #[22, 22] }) {g n : Nat} {out l : List Nat} {A : Option Addr} {c : Nat} (hd : a.eval d = .slice (some ⟨g, 0, none⟩) n n) (hs : a.eval s = .slice A l.length c)
 (hb : Blk w g out) (hn : n = out.length) (hl : l.length ≤ out.length) (hr : RdV w A (l.map wv)) (hu : Up w0 w) (hg : w0.heap.size ≤ g)
 (hK : ∀ w', Blk w' g (l ++ out.drop l.length) → Up w0 w' → wpList Tryz.prog ops Q rest (a.put o.dst (goInt l.length)) w') :
 wpList Tryz.prog ops Q (o :: rest) a w := by
 have hlen : (l.map wv).length = l.length := by simp
 refine (fun hk => wpList_copy_splice hgd d s 22 22 ho 122 Tryz.underlying22 (by kernel_rfl) (some ⟨g, 0, none⟩) A n n l.length c hd hs g 0 (out.map wv) 122 hb (l.map wv) (by simp [Nat.min_def, hn]; omega) ?_ (by simp; omega) (words_oneCell l) w0.heap.size w0 hu hg hk) ?_
 · intro hpos
   refine ⟨rfl, ?_⟩
   obtain ⟨b, off, rfl, _, hc⟩ := hr hpos
   refine ⟨_, rfl, fun j u hj => ?_⟩
   have := hc j u hj
   unfold Addr.add
   by_cases h0 : j = 0
   · subst h0; simpa using this
   · simpa [h0] using this
 · intro w' hbl hb'
   rw [hlen]
   refine hK w' ?_ hb'
   have := hbl.out
   unfold Blk
   rw [this]
   simp [splice, List.map_drop]
/-- What comes back: a block of the call's own, just these words. -/
def RetB (l : List Nat) (w : World) (e : Ending) (w' : World) : Prop := ∃ g, e = .returned (.slice (some ⟨g, 0, none⟩) l.length l.length) ∧ Blk w' g l ∧ Wd.Ok l ∧ w.heap.size ≤ g ∧ l.length ≤ maxLen ∧ Up w w'
theorem RetB.own {l : List Nat} {w w' : World} {e : Ending} (h : RetB l w e w') : RetO l w e w' := by
 obtain ⟨g, h1, h2, h3, h4, h5, h6⟩ := h
 exact ⟨_, h1, h2.own h4 h5, h3, h6⟩
theorem drewN_add (w : World) (n m : Nat) : (w.drewN n).drewN m = w.drewN (n + m) := by simp [World.drewN, Nat.add_assoc]
theorem blk_new (w : World) (l : List Nat) : Blk (w.alloc (.cells (l.map wv).toArray 122)) w.heap.size l := heap_alloc_new w _
theorem getD_lt (l : List Nat) {i : Nat} (h : i < l.length) : l.getD i 0 = l[i] := by simp [List.getD_eq_getElem?_getD, h]
theorem getD_ge (l : List Nat) {i : Nat} (h : l.length ≤ i) : l.getD i 0 = 0 := by simp [List.getD_eq_getElem?_getD, List.getElem?_eq_none h]
theorem rd_word_D {w : World} {A : Option Addr} {l : List Nat} (h : RdV w A (l.map wv)) {k : Nat} (hk : k < l.length) : ∃ b o, A = some ⟨b, o, none⟩ ∧ b < w.heap.size ∧ w.cell? ⟨b, o + k, none⟩ = some (.int .u32 ((l.getD k 0 : Nat) : Int)) := by
 rw [getD_lt l hk]; exact rd_word h hk
theorem Blk.cellD {w : World} {g : Nat} {l : List Nat} (h : Blk w g l) {i : Nat} (hi : i < l.length) : w.cell? ⟨g, i, none⟩ = some (.int .u32 ((l.getD i 0 : Nat) : Int)) := by rw [getD_lt l hi]; exact h.cell hi
/-- A slice and a bool; a slice and an int. -/
def RetWB (l : List Nat) (b : Bool) (w : World) (e : Ending) (w' : World) : Prop := ∃ v, e = .returned (.tuple #[v, .bool b]) ∧ Ws w' v l ∧ Up w w'
def RetWI (l : List Nat) (i : Int) (w : World) (e : Ending) (w' : World) : Prop := ∃ v, e = .returned (.tuple #[v, .int .i64 i]) ∧ Ws w' v l ∧ Up w w'
/-- A slice of slices of words. -/
def Wss (w : World) (v : Value) (ls : List (List Nat)) : Prop :=
 ∃ A c vs, v = .slice A ls.length c ∧ ls.length ≤ c ∧ c ≤ maxLen ∧ vs.length = ls.length ∧ RdV w A vs ∧ ∀ (i : Nat) u l, vs[i]? = some u → ls[i]? = some l → Ws w u l
theorem Wss.up {w w' : World} {v : Value} {ls : List (List Nat)} (h : Wss w v ls) (hu : Up w w') : Wss w' v ls := by
 obtain ⟨A, c, vs, h1, h2, h3, h4, h5, h6⟩ := h
 exact ⟨A, c, vs, h1, h2, h3, h4, h5.up hu, fun i u l hu' hl => (h6 i u l hu' hl).up hu⟩
instance Wss.lup {w w' : World} {v : Value} {ls : List (List Nat)} : Lu (Up w w') (Wss w v ls) (Wss w' v ls) := luM fun u h => h.up u
theorem rd_words {w : World} {A : Option Addr} {vs : List Value} {ls : List (List Nat)} (h : RdV w A vs) (hl : vs.length = ls.length) (hs : ∀ (i : Nat) u l, vs[i]? = some u → ls[i]? = some l → Ws w u l) {k : Nat} (hk : k < ls.length) :
 ∃ b o u, A = some ⟨b, o, none⟩ ∧ b < w.heap.size ∧ w.cell? ⟨b, o + k, none⟩ = some u ∧ Ws w u ls[k] := by
 have hkv : k < vs.length := by omega
 obtain ⟨b, o, h1, h2, h3⟩ := h.at_ (List.getElem?_eq_getElem hkv)
 exact ⟨b, o, vs[k], h1, h2, h3, hs k _ _ (List.getElem?_eq_getElem hkv) (List.getElem?_eq_getElem hk)⟩
theorem run_append_none {P : Program} {w : World} {base : Nat} {t ty e : TypeId} {i : TypeInfo} {size : Nat} (ht : P.underlying t = some (.slice e)) (hi : P.info? e = some i)
 {v : Value} {n : Nat} {xs : List Value} (hown : w.ownsRow base e size v n xs) (c : Nat) : (Builtin.append_ #[t, t] ty #[v, .slice none 0 c]).run P w = .ok v w := by
 rcases hown.2 with ⟨rfl, rfl⟩ | ⟨g, cap, cur, rfl, _, _, hnc, _⟩
 · simp [Builtin.append_, run_underlying ht, sizeOf, typeInfo, hi, Builtin.lenOf, Builtin.firstCells]
 · simp [Builtin.append_, run_underlying ht, sizeOf, typeInfo, hi, Builtin.lenOf, Builtin.firstCells, hnc, storeCells]
/-- 'append(v, x...)', v a row of the call's own, x any slice: nil, empty or not. -/
theorem wl_append_any {w : World} {ops : Array Oper} {rest : List Oper} {o : Oper} {a : Act} {Q : Exit → Act → World → Prop} (hgd : o.guard = none) (s x : Operand) (t : TypeId)
 (ho : o.op = .call { callee := .builtin .append, args := #[s, x], argTypes := #[t, t] })
 (base : Nat) (e : TypeId) {z : Value} {size bytes : Nat} (ht : Tryz.prog.underlying t = some (.slice e)) (hi : (Tryz.prog.info? e).map (fun i => (i.zero, i.size, i.bytes)) = some (some z, size, bytes)) (hzs : z.cells.size = size) (hsz : 0 < size)
 {v : Value} {n : Nat} {xs : List Value} (hs : a.eval s = v) (hown : w.ownsRow base e size v n xs)
 {A : Option Addr} {m c : Nat} {news : List Value} (hx : a.eval x = .slice A m c) (hr : RdV w A news) (hm : news.length = m * size) (h1 : ∀ u ∈ news, u.oneCell' = true)
 (h63 : n + m ≤ maxLen) (hbytes : (n + m) * bytes ≤ 140737488355328) (hbase : base ≤ w.heap.size)
 (h : ∀ v' w', w'.ownsRow base e size v' (n + m) (xs ++ news) → w.grownBy w' v.ownBlock → wpList Tryz.prog ops Q rest (a.put o.dst v') w') : wpList Tryz.prog ops Q (o :: rest) a w := by
 obtain ⟨i0, hi0, hz0, hz1, hz2⟩ := info_parts hi
 rcases A with _ | ad
 · have hn : news = [] := by
    rcases Nat.eq_zero_or_pos news.length with h0 | h0
    · exact List.eq_nil_of_length_eq_zero h0
    · obtain ⟨b, off, hA, _⟩ := hr h0
      cases hA
   subst hn
   have hm0 : m = 0 := by
    rw [List.length_nil] at hm
    exact (Nat.mul_eq_zero.1 hm.symm).resolve_right (by omega)
   subst hm0
   refine wpList_plain hgd fun K hK => ?_
   have hrun := run_append_none (P := Tryz.prog) (ty := o.type) (w := w) ht hi0 hown c
   unfold Oper.wp
   simp [execOp, ho, resolve, invoke, builtin, hs, hx, hrun, Result.andThen]
   exact hK _ _ (h v w (by simpa using hown) ⟨rfl, rfl, rfl, Nat.le_refl _, fun _ _ _ => rfl⟩)
 · refine wpList_append_own w hgd s x t ho base e i0 z size bytes ht hi0 hz0 hz1 hz2 hzs hsz v n xs hs hown ad m c news hx hm ?_ h1 h63 hbytes hbase (fun v' w' h2 h3 _ => h v' w' h2 h3)
   intro j u hj
   have hpos : 0 < news.length := by
    rcases Nat.eq_zero_or_pos news.length with h0 | h0
    · have := List.eq_nil_of_length_eq_zero h0; subst this; simp at hj
    · exact h0
   obtain ⟨b, off, hA, _, hc⟩ := hr hpos
   simp at hA
   subst hA
   have := hc j u hj
   unfold Addr.add
   by_cases h0 : j = 0
   · subst h0; simpa using this
   · simpa [h0] using this
/-- The same for words. -/
theorem wl_append {w0 w : World} {ops : Array Oper} {rest : List Oper} {o : Oper} {a : Act} {Q : Exit → Act → World → Prop} (hgd : o.guard = none) (s x : Operand)
 (ho : o.op = .call { callee := .builtin .append, args := #[s, x], argTypes := #[22, 22] })
 {v : Value} {n : Nat} {xs : List Nat} (hs : a.eval s = v) (hown : w.ownsRow w0.heap.size 122 1 v n (xs.map wv))
 {A : Option Addr} {m c : Nat} {l : List Nat} (hx : a.eval x = .slice A m c) (hr : RdV w A (l.map wv)) (hm : l.length = m) (hb : n + m ≤ 400000000000) (hu : Up w0 w)
 (h : ∀ v' w', w'.ownsRow w0.heap.size 122 1 v' (n + m) ((xs ++ l).map wv) → Up w0 w' → wpList Tryz.prog ops Q rest (a.put o.dst v') w') : wpList Tryz.prog ops Q (o :: rest) a w := by
 refine wl_append_any hgd s x 22 ho w0.heap.size 122 Tryz.underlying22 info_u32 rfl (by omega) hs hown hx hr (by simp [hm]) (words_oneCell l) (by unfold maxLen; omega) (by omega) hu.size ?_
 intro v' w' h1 h2
 refine h v' w' (by rw [List.map_append]; exact h1) (hu.grown h2 (fun k hk => ?_))
 exact (hown.lt k hk).1
/-- A row of the call's own lies in new memory for whoever called before. -/
theorem own_weaken {w : World} {base base' : Nat} {e : TypeId} {size n : Nat} {v : Value} {xs : List Value} (h : w.ownsRow base e size v n xs) (hb : base' ≤ base) : w.ownsRow base' e size v n xs := by
 refine ⟨h.1, ?_⟩
 rcases h.2 with h2 | ⟨g, cap, cur, h3, h4, h5⟩
 · exact .inl h2
 · exact .inr ⟨g, cap, cur, h3, Nat.le_trans hb h4, h5⟩
/-- Slices laid side by side in a new block. -/
theorem wss_new {w : World} {vs : List Value} {ls : List (List Nat)} {n : Nat} (hl : vs.length = ls.length) (hn : n = ls.length) (hm : ls.length ≤ maxLen) (h : ∀ (i : Nat) u l, vs[i]? = some u → ls[i]? = some l → Ws w u l) :
 Wss (w.alloc (.cells vs.toArray 22)) (.slice (some ⟨w.heap.size, 0, none⟩) n n) ls := by
 subst hn
 refine ⟨_, _, vs, rfl, Nat.le_refl _, hm, hl, fun hpos => ?_, fun i u l hu hl' => (h i u l hu hl').up ((Up.refl w).alloc _)⟩
 refine ⟨w.heap.size, 0, rfl, by simp, fun j u hj => ?_⟩
 rw [Nat.zero_add, cell_of_row _ _ j _ _ (0, 0) (heap_alloc_new w _)]
 simpa using hj
theorem wss_two {w : World} {a b : Value} {l m : List Nat} (ha : Ws w a l) (hb : Ws w b m) : Wss (w.alloc (.cells #[a, b] 22)) (.slice (some ⟨w.heap.size, 0, none⟩) 2 2) [l, m] := by
 refine wss_new (vs := [a, b]) rfl rfl (by simp [maxLen]) ?_
 intro i u k hu hk
 match i with
 | 0 => simp at hu hk; subst hu hk; exact ha
 | 1 => simp at hu hk; subst hu hk; exact hb
 | i + 2 => simp at hu
/-- Words laid side by side in a new block. -/
theorem ws_one (w : World) (X : Nat) (h : X < Wd.B) : Ws (w.alloc (.cells #[.int .u32 (X : Int)] 122)) (.slice (some ⟨w.heap.size, 0, none⟩) 1 1) [X] :=
 Blk.ws (l := [X]) (blk_new w [X]) (by intro x hx; simp at hx; subst hx; exact h) (by simp [maxLen])
end Go.Proofs.YtmmcffceeahemaaGreat
