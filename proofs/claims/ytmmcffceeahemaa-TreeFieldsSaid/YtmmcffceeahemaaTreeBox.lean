/-
  Memory: a block known whole (the same text as XBox, for the claims that do without the low laws).
-/
import Derived.Test.YtmmcffceeahemaaMem
set_option linter.unusedVariables false
set_option linter.unusedSimpArgs false
namespace Go.Proofs.Ytmmcffceeahemaa
open Go.RowKit

/-- A block that is known whole. -/
def Bx (T : TypeId) (w : World) (g : Nat) (vs : List Value) : Prop := w.heap[g]? = some (.cells vs.toArray T (0, 0))
theorem Bx.lt {T : TypeId} {w : World} {g : Nat} {vs : List Value} (h : Bx T w g vs) : g < w.heap.size := (Array.getElem?_eq_some_iff.1 h).1
theorem Bx.cell {T : TypeId} {w : World} {g : Nat} {vs : List Value} (h : Bx T w g vs) {i : Nat} {u : Value} (hi : vs[i]? = some u) : w.cell? ⟨g, i, none⟩ = some u := by
  rw [cell_of_row w g i _ _ (0, 0) h]
  simpa using hi
theorem Bx.c1 {T : TypeId} {w : World} {g : Nat} {a : Value} (h : Bx T w g [a]) : w.cell? ⟨g, 0, none⟩ = some a := h.cell rfl
theorem Bx.c2 {T : TypeId} {w : World} {g : Nat} {a b : Value} (h : Bx T w g [a, b]) : w.cell? ⟨g, 0, none⟩ = some a ∧ w.cell? ⟨g, 1, none⟩ = some b := ⟨h.cell rfl, h.cell rfl⟩
theorem Bx.c3 {T : TypeId} {w : World} {g : Nat} {a b c : Value} (h : Bx T w g [a, b, c]) : w.cell? ⟨g, 0, none⟩ = some a ∧ w.cell? ⟨g, 1, none⟩ = some b ∧ w.cell? ⟨g, 2, none⟩ = some c := ⟨h.cell rfl, h.cell rfl, h.cell rfl⟩
theorem Bx.c4 {T : TypeId} {w : World} {g : Nat} {a b c d : Value} (h : Bx T w g [a, b, c, d]) : w.cell? ⟨g, 0, none⟩ = some a ∧ w.cell? ⟨g, 1, none⟩ = some b ∧ w.cell? ⟨g, 2, none⟩ = some c ∧ w.cell? ⟨g, 3, none⟩ = some d := ⟨h.cell rfl, h.cell rfl, h.cell rfl, h.cell rfl⟩
theorem Bx.c5 {T : TypeId} {w : World} {g : Nat} {a b c d e : Value} (h : Bx T w g [a, b, c, d, e]) : w.cell? ⟨g, 0, none⟩ = some a ∧ w.cell? ⟨g, 1, none⟩ = some b ∧ w.cell? ⟨g, 2, none⟩ = some c ∧ w.cell? ⟨g, 3, none⟩ = some d ∧ w.cell? ⟨g, 4, none⟩ = some e := ⟨h.cell rfl, h.cell rfl, h.cell rfl, h.cell rfl, h.cell rfl⟩
theorem Bx.c6 {T : TypeId} {w : World} {g : Nat} {a b c d e f : Value} (h : Bx T w g [a, b, c, d, e, f]) : w.cell? ⟨g, 0, none⟩ = some a ∧ w.cell? ⟨g, 1, none⟩ = some b ∧ w.cell? ⟨g, 2, none⟩ = some c ∧ w.cell? ⟨g, 3, none⟩ = some d ∧ w.cell? ⟨g, 4, none⟩ = some e ∧ w.cell? ⟨g, 5, none⟩ = some f := ⟨h.cell rfl, h.cell rfl, h.cell rfl, h.cell rfl, h.cell rfl, h.cell rfl⟩
theorem Bx.free {T : TypeId} {w : World} {g : Nat} {vs : List Value} (h : Bx T w g vs) (i : Nat) : w.frozen? ⟨g, i, none⟩ = false := by
  unfold Bx at h
  simp [World.frozen?, h]
theorem Bx.set {T : TypeId} {w : World} {g : Nat} {vs : List Value} (h : Bx T w g vs) (i : Nat) (u : Value) : Bx T (w.setCell ⟨g, i, none⟩ u) g (vs.set i u) := by
  unfold Bx at h ⊢
  simp only [World.setCell, Array.getElem?_modify, h]
  simp
theorem Bx.up {T : TypeId} {w w' : World} {g : Nat} {vs : List Value} (h : Bx T w g vs) (hu : Up w w') : Bx T w' g vs := (hu.heap h.lt).trans h
theorem Bx.new (T : TypeId) (w : World) (vs : List Value) : Bx T (w.alloc (.cells vs.toArray T)) w.heap.size vs := heap_alloc_new w _
theorem Bx.far {T : TypeId} {w : World} {g : Nat} {vs : List Value} (h : Bx T w g vs) {p : Addr} (hp : g ≠ p.block) (u : Value) : Bx T (w.setCell p u) g vs := (Below.heap_setCell w p u g hp).trans h
theorem bx_two (T S : TypeId) (w : World) (vs us : List Value) : Bx T ((w.alloc (.cells vs.toArray T)).alloc (.cells us.toArray S)) w.heap.size vs ∧ Bx S ((w.alloc (.cells vs.toArray T)).alloc (.cells us.toArray S)) (w.heap.size + 1) us := by
  have e : (w.alloc (.cells vs.toArray T)).heap.size = w.heap.size + 1 := by simp
  exact ⟨(Bx.new T w vs).up ((Up.refl _).alloc _), by rw [← e]; exact Bx.new S _ us⟩
theorem bx_three (T S R : TypeId) (w : World) (vs us xs : List Value) :
    Bx T (((w.alloc (.cells vs.toArray T)).alloc (.cells us.toArray S)).alloc (.cells xs.toArray R)) w.heap.size vs ∧ Bx S (((w.alloc (.cells vs.toArray T)).alloc (.cells us.toArray S)).alloc (.cells xs.toArray R)) (w.heap.size + 1) us ∧
    Bx R (((w.alloc (.cells vs.toArray T)).alloc (.cells us.toArray S)).alloc (.cells xs.toArray R)) (w.heap.size + 1 + 1) xs := by
  obtain ⟨h1, h2⟩ := bx_two T S w vs us
  have e : ((w.alloc (.cells vs.toArray T)).alloc (.cells us.toArray S)).heap.size = w.heap.size + 1 + 1 := by simp
  exact ⟨h1.up ((Up.refl _).alloc _), h2.up ((Up.refl _).alloc _), by rw [← e]; exact Bx.new R _ xs⟩

theorem bx_four (T S R U : TypeId) (w : World) (vs us xs ys : List Value) :
    Bx T ((((w.alloc (.cells vs.toArray T)).alloc (.cells us.toArray S)).alloc (.cells xs.toArray R)).alloc (.cells ys.toArray U)) w.heap.size vs ∧ Bx S ((((w.alloc (.cells vs.toArray T)).alloc (.cells us.toArray S)).alloc (.cells xs.toArray R)).alloc (.cells ys.toArray U)) (w.heap.size + 1) us ∧
    Bx R ((((w.alloc (.cells vs.toArray T)).alloc (.cells us.toArray S)).alloc (.cells xs.toArray R)).alloc (.cells ys.toArray U)) (w.heap.size + 1 + 1) xs ∧ Bx U ((((w.alloc (.cells vs.toArray T)).alloc (.cells us.toArray S)).alloc (.cells xs.toArray R)).alloc (.cells ys.toArray U)) (w.heap.size + 1 + 1 + 1) ys := by
  obtain ⟨h1, h2, h3⟩ := bx_three T S R w vs us xs
  have e : (((w.alloc (.cells vs.toArray T)).alloc (.cells us.toArray S)).alloc (.cells xs.toArray R)).heap.size = w.heap.size + 1 + 1 + 1 := by simp
  exact ⟨h1.up ((Up.refl _).alloc _), h2.up ((Up.refl _).alloc _), h3.up ((Up.refl _).alloc _), by rw [← e]; exact Bx.new U _ ys⟩

/-- No word, no slice's element: a cell of a struct. -/
def NoWord : Value → Prop
  | .int .u32 _ => False
  | _ => True
/-- A slice of words is not touched by a store into a struct that holds none. -/
theorem Ws.far {w : World} {v : Value} {l : List Nat} {T : TypeId} {g : Nat} {cs : List Value} (h : Ws w v l) (hb : Bx T w g cs) (hc : ∀ c ∈ cs, NoWord c) (i : Nat) (x : Value) : Ws (w.setCell ⟨g, i, none⟩ x) v l := by
  obtain ⟨A, c, h1, h2, h3, h4, h5⟩ := h
  refine ⟨A, c, h1, h2, h3, h4, fun hl => ?_⟩
  obtain ⟨b, o, e, hlt, hat⟩ := h5 hl
  have hne : b ≠ g := by
    rintro rfl
    have h0 := hat 0 ((l.map wv)[0]) (List.getElem?_eq_getElem hl)
    rw [cell_of_row w b _ _ _ (0, 0) hb] at h0
    have hm := List.mem_of_getElem? (by simpa using h0 : cs[o]? = _)
    have := hc _ (by simpa using hm)
    exact this
  refine ⟨b, o, e, by simpa [World.setCell] using hlt, fun j u hj => ?_⟩
  rw [← hat j u hj]
  exact World.cell?_setCell_other w _ _ x (fun he => by injection he with h1 _; exact hne h1.symm)

/-- Words that can be read stay what they are. -/
def Kw (w w' : World) : Prop := w.heap.size ≤ w'.heap.size ∧ ∀ (p : Addr) (x : Int), w.cell? p = some (.int .u32 x) → w'.cell? p = some (.int .u32 x)
theorem Kw.refl (w : World) : Kw w w := ⟨Nat.le_refl _, fun _ _ h => h⟩
theorem Kw.trans {a b c : World} (h : Kw a b) (k : Kw b c) : Kw a c := ⟨Nat.le_trans h.1 k.1, fun p x hp => k.2 p x (h.2 p x hp)⟩
theorem Up.kw {w w' : World} (h : Up w w') : Kw w w' := ⟨h.size, fun p x hp => (h.cell (World.block_lt_of_cell? w _ hp)).trans hp⟩
theorem Kw.store {w : World} {T : TypeId} {g i : Nat} {cs : List Value} {c : Value} (hb : Bx T w g cs) (hc : cs[i]? = some c) (hn : NoWord c) (x : Value) : Kw w (w.setCell ⟨g, i, none⟩ x) := by
  refine ⟨by simp [World.setCell], fun p y hp => ?_⟩
  refine (World.cell?_setCell_other w _ p x (fun he => ?_)).trans hp
  subst he
  rw [hb.cell hc] at hp
  cases hp
  exact hn
theorem Ws.kw {w w' : World} {v : Value} {l : List Nat} (h : Ws w v l) (hk : Kw w w') : Ws w' v l := by
  obtain ⟨A, c, h1, h2, h3, h4, h5⟩ := h
  refine ⟨A, c, h1, h2, h3, h4, fun hl => ?_⟩
  obtain ⟨b, o, e, hlt, hat⟩ := h5 hl
  refine ⟨b, o, e, Nat.lt_of_lt_of_le hlt hk.1, fun j u hj => ?_⟩
  have hm := hat j u hj
  rw [List.getElem?_map, Option.map_eq_some_iff] at hj
  obtain ⟨x, _, rfl⟩ := hj
  exact hk.2 _ _ hm

theorem Up.alloc_drew {a w : World} (h : Up a w.drew) (o : Obj) : Up a (w.alloc o).drew := Up.alloc (w := w.drew) h o
theorem Up.alloc2_drew {a w : World} (h : Up a w.drew) (o o' : Obj) : Up a ((w.alloc o).alloc o').drew := Up.alloc (w := w.drew.alloc o) (Up.alloc (w := w.drew) h o) o'
theorem Up.skip {w w' : World} {o : Obj} (h : Up (w.alloc o).drew w') : Up w.drew w' := Up.trans (b := w.drew.alloc o) ((Up.refl w.drew).alloc o) h
theorem Up.skip2 {w w' : World} {o o' : Obj} (h : Up ((w.alloc o).alloc o').drew w') : Up w.drew w' := Up.trans (b := (w.drew.alloc o).alloc o') (((Up.refl w.drew).alloc o).alloc o') h
theorem cell_far_block {w : World} {g i : Nat} {x v : Value} {q : Addr} (h : w.cell? q = some v) (hne : g ≠ q.block) : (w.setCell ⟨g, i, none⟩ x).cell? q = some v :=
  (World.cell?_setCell_other w _ q x (fun he => hne (by rw [← he]))).trans h
theorem cell_alloc_drew {w : World} {o : Obj} {v : Value} {q : Addr} (h : w.drew.cell? q = some v) : (w.alloc o).drew.cell? q = some v := (World.cell?_alloc_lt w o q (World.block_lt_of_cell? w.drew _ h)).trans h
theorem cell_alloc2_drew {w : World} {o o' : Obj} {v : Value} {q : Addr} (h : w.drew.cell? q = some v) : ((w.alloc o).alloc o').drew.cell? q = some v := cell_alloc_drew (w := w.alloc o) (cell_alloc_drew h)
theorem Ws.undrew {w : World} {v : Value} {l : List Nat} (h : Ws w.drew v l) : Ws w v l := h

/-- What comes back lies in one cell. -/
theorem run_load_agg {w : World} {T S : TypeId} {g n : Nat} {cs : List Value} (hT : ∀ w : World, (isAgg T).run Try.prog w = .ok true w) (hS : ∀ w : World, (sizeOf T).run Try.prog w = .ok n w) (hb : Bx S w g cs) (hn : cs.length = n) :
    (loadVar T ⟨g, 0, none⟩).run Try.prog w = .ok (.agg cs.toArray) w := by
  subst hn
  have hl := run_loadCells_list (P := Try.prog) w ⟨g, 0, none⟩ cs (fun j v hj => by
    have e : (⟨g, 0, none⟩ : Addr).add j = ⟨g, j, none⟩ := by unfold Addr.add; by_cases h0 : j = 0 <;> simp [h0]
    rw [e]
    exact hb.cell hj)
  simp only [loadVar, Sem.run_bind, hT, hS, hl, Result.andThen, if_true, Sem.run_pure]
theorem run_res_cell {fn : Func} {tmps : Array Value} {w : World} {t : Tmp} {T S : TypeId} {g n : Nat} {cs : List Value} (hres : fn.results = #[.cell t T]) (ht : tmps.getD t undef = .pointer (some ⟨g, 0, none⟩))
    (hT : ∀ w : World, (isAgg T).run Try.prog w = .ok true w) (hS : ∀ w : World, (sizeOf T).run Try.prog w = .ok n w) (hb : Bx S w g cs) (hn : cs.length = n) : (results fn tmps).run Try.prog w = .ok (.agg cs.toArray) w := by
  have := run_load_agg hT hS hb hn
  have ht' : tmps[t]?.getD undef = .pointer (some ⟨g, 0, none⟩) := by simpa using ht
  simp [results, hres, ht', this, asAddr]
theorem run_res_cell_tmp {fn : Func} {tmps : Array Value} {w : World} {t u : Tmp} {T S : TypeId} {g n : Nat} {cs : List Value} (hres : fn.results = #[.cell t T, .tmp u]) (ht : tmps.getD t undef = .pointer (some ⟨g, 0, none⟩))
    (hT : ∀ w : World, (isAgg T).run Try.prog w = .ok true w) (hS : ∀ w : World, (sizeOf T).run Try.prog w = .ok n w) (hb : Bx S w g cs) (hn : cs.length = n) : (results fn tmps).run Try.prog w = .ok (.tuple #[.agg cs.toArray, tmps.getD u undef]) w := by
  have := run_load_agg hT hS hb hn
  have ht' : tmps[t]?.getD undef = .pointer (some ⟨g, 0, none⟩) := by simpa using ht
  simp [results, hres, ht', this, asAddr]
theorem run_res_cell2_tmp {fn : Func} {tmps : Array Value} {w : World} {t t' u : Tmp} {T S T' S' : TypeId} {g n g' n' : Nat} {cs cs' : List Value} (hres : fn.results = #[.cell t T, .cell t' T', .tmp u]) (ht : tmps.getD t undef = .pointer (some ⟨g, 0, none⟩)) (ht' : tmps.getD t' undef = .pointer (some ⟨g', 0, none⟩))
    (hT : ∀ w : World, (isAgg T).run Try.prog w = .ok true w) (hS : ∀ w : World, (sizeOf T).run Try.prog w = .ok n w) (hT' : ∀ w : World, (isAgg T').run Try.prog w = .ok true w) (hS' : ∀ w : World, (sizeOf T').run Try.prog w = .ok n' w) (hb : Bx S w g cs) (hn : cs.length = n) (hb' : Bx S' w g' cs') (hn' : cs'.length = n') :
    (results fn tmps).run Try.prog w = .ok (.tuple #[.agg cs.toArray, .agg cs'.toArray, tmps.getD u undef]) w := by
  have h1 := run_load_agg hT hS hb hn
  have h2 := run_load_agg hT' hS' hb' hn'
  have e1 : tmps[t]?.getD undef = .pointer (some ⟨g, 0, none⟩) := by simpa using ht
  have e2 : tmps[t']?.getD undef = .pointer (some ⟨g', 0, none⟩) := by simpa using ht'
  simp [results, hres, e1, e2, h1, h2, asAddr]
theorem agg_whole (w : World) : (isAgg 67).run Try.prog w = .ok true w := by kernel_rfl
theorem size_whole (w : World) : (sizeOf 67).run Try.prog w = .ok 2 w := by kernel_rfl
end Go.Proofs.Ytmmcffceeahemaa
