/-
  Memory: a block known whole, of any type; a struct that comes back in a cell.
  Layer 8: whole numbers with a sign.
  Layer 8: whole numbers with a sign: those of the machine, differences, order, the floor.
-/
import Derived.Test.YtmmcffceeahemaaGreatZsMem
import Derived.Test.YtmmcffceeahemaaGreatZsPlain
import Derived.Test.YtmmcffceeahemaaGreatZsLowCommon
import Derived.Deep.RegionHeld3
set_option linter.unusedVariables false
set_option linter.unusedSimpArgs false
namespace Go.Proofs.YtmmcffceeahemaaGreat
open Go.RowKit
/-- A block that is known whole. -/
def Bx (T : TypeId) (w : World) (g : Nat) (vs : List Value) : Prop := w.heap[g]? = some (.cells vs.toArray T (0, 0))
theorem Bx.lt {T : TypeId} {w : World} {g : Nat} {vs : List Value} (h : Bx T w g vs) : g < w.heap.size := (Array.getElem?_eq_some_iff.1 h).1
theorem Bx.cell {T : TypeId} {w : World} {g : Nat} {vs : List Value} (h : Bx T w g vs) {i : Nat} {u : Value} (hi : vs[i]? = some u) : w.cell? ⟨g, i, none⟩ = some u := by
 rw [cell_of_row w g i _ _ (0, 0) h]
 simpa using hi
theorem Bx.c1 {T : TypeId} {w : World} {g : Nat} {a : Value} (h : Bx T w g [a]) : w.cell? ⟨g, 0, none⟩ = some a := h.cell rfl
theorem Bx.c2 {T : TypeId} {w : World} {g : Nat} {a b : Value} (h : Bx T w g [a, b]) : w.cell? ⟨g, 0, none⟩ = some a ∧ w.cell? ⟨g, 1, none⟩ = some b := ⟨h.cell rfl, h.cell rfl⟩
theorem Bx.c3 {T : TypeId} {w : World} {g : Nat} {a b c : Value} (h : Bx T w g [a, b, c]) : w.cell? ⟨g, 0, none⟩ = some a ∧ w.cell? ⟨g, 1, none⟩ = some b ∧ w.cell? ⟨g, 2, none⟩ = some c := ⟨h.cell rfl, h.cell rfl, h.cell rfl⟩
theorem Bx.c4 {T : TypeId} {w : World} {g : Nat} {a b c d : Value} (h : Bx T w g [a, b, c, d]) : w.cell? ⟨g, 0, none⟩ = some a ∧ w.cell? ⟨g, 1, none⟩ = some b ∧ w.cell? ⟨g, 2, none⟩ = some c ∧ w.cell? ⟨g, 3, none⟩ = some d := ⟨h.cell rfl, h.cell rfl, h.cell rfl, h.cell rfl⟩
theorem Bx.c5 {T : TypeId} {w : World} {g : Nat} {a b c d e : Value} (h : Bx T w g [a, b, c, d, e]) : w.cell? ⟨g, 0, none⟩ = some a ∧ w.cell? ⟨g, 1, none⟩ = some b ∧ w.cell? ⟨g, 2, none⟩ = some c ∧ w.cell? ⟨g, 3, none⟩ = some d ∧ w.cell? ⟨g, 4, none⟩ = some e := ⟨h.cell rfl, h.cell rfl, h.cell rfl, h.cell rfl, h.cell rfl⟩
theorem Bx.c6 {T : TypeId} {w : World} {g : Nat} {a b c d e f : Value} (h : Bx T w g [a, b, c, d, e, f]) : w.cell? ⟨g, 0, none⟩ = some a ∧ w.cell? ⟨g, 1, none⟩ = some b ∧ w.cell? ⟨g, 2, none⟩ = some c ∧ w.cell? ⟨g, 3, none⟩ = some d ∧ w.cell? ⟨g, 4, none⟩ = some e ∧ w.cell? ⟨g, 5, none⟩ = some f := ⟨h.cell rfl, h.cell rfl, h.cell rfl, h.cell rfl, h.cell rfl, h.cell rfl⟩
theorem Bx.free {T : TypeId} {w : World} {g : Nat} {vs : List Value} (h : Bx T w g vs) (i : Nat) : w.frozen? ⟨g, i, none⟩ = false := by
 unfold Bx at h
 simp [World.frozen?, h]
theorem Bx.set {T : TypeId} {w : World} {g : Nat} {vs : List Value} (h : Bx T w g vs) (i : Nat) (u : Value) : Bx T (w.setCell ⟨g, i, none⟩ u) g (vs.set i u) := by
 unfold Bx at h ⊢
 simp only [World.setCell, Array.getElem?_modify, h]
 simp
theorem Bx.up {T : TypeId} {w w' : World} {g : Nat} {vs : List Value} (h : Bx T w g vs) (hu : Up w w') : Bx T w' g vs := (hu.heap h.lt).trans h
theorem Bx.new (T : TypeId) (w : World) (vs : List Value) : Bx T (w.alloc (.cells vs.toArray T)) w.heap.size vs := heap_alloc_new w _
theorem Bx.far {T : TypeId} {w : World} {g : Nat} {vs : List Value} (h : Bx T w g vs) {p : Addr} (hp : g ≠ p.block) (u : Value) : Bx T (w.setCell p u) g vs := (Below.heap_setCell w p u g hp).trans h
theorem bx_two (T S : TypeId) (w : World) (vs us : List Value) : Bx T ((w.alloc (.cells vs.toArray T)).alloc (.cells us.toArray S)) w.heap.size vs ∧ Bx S ((w.alloc (.cells vs.toArray T)).alloc (.cells us.toArray S)) (w.heap.size + 1) us := by
 have e : (w.alloc (.cells vs.toArray T)).heap.size = w.heap.size + 1 := by simp
 exact ⟨(Bx.new T w vs).up ((Up.refl _).alloc _), by rw [← e]; exact Bx.new S _ us⟩
theorem bx_three (T S R : TypeId) (w : World) (vs us xs : List Value) :
 Bx T (((w.alloc (.cells vs.toArray T)).alloc (.cells us.toArray S)).alloc (.cells xs.toArray R)) w.heap.size vs ∧ Bx S (((w.alloc (.cells vs.toArray T)).alloc (.cells us.toArray S)).alloc (.cells xs.toArray R)) (w.heap.size + 1) us ∧
 Bx R (((w.alloc (.cells vs.toArray T)).alloc (.cells us.toArray S)).alloc (.cells xs.toArray R)) (w.heap.size + 1 + 1) xs := by
 obtain ⟨h1, h2⟩ := bx_two T S w vs us
 have e : ((w.alloc (.cells vs.toArray T)).alloc (.cells us.toArray S)).heap.size = w.heap.size + 1 + 1 := by simp
 exact ⟨h1.up ((Up.refl _).alloc _), h2.up ((Up.refl _).alloc _), by rw [← e]; exact Bx.new R _ xs⟩
theorem bx_four (T S R U : TypeId) (w : World) (vs us xs ys : List Value) :
 Bx T ((((w.alloc (.cells vs.toArray T)).alloc (.cells us.toArray S)).alloc (.cells xs.toArray R)).alloc (.cells ys.toArray U)) w.heap.size vs ∧ Bx S ((((w.alloc (.cells vs.toArray T)).alloc (.cells us.toArray S)).alloc (.cells xs.toArray R)).alloc (.cells ys.toArray U)) (w.heap.size + 1) us ∧
 Bx R ((((w.alloc (.cells vs.toArray T)).alloc (.cells us.toArray S)).alloc (.cells xs.toArray R)).alloc (.cells ys.toArray U)) (w.heap.size + 1 + 1) xs ∧ Bx U ((((w.alloc (.cells vs.toArray T)).alloc (.cells us.toArray S)).alloc (.cells xs.toArray R)).alloc (.cells ys.toArray U)) (w.heap.size + 1 + 1 + 1) ys := by
 obtain ⟨h1, h2, h3⟩ := bx_three T S R w vs us xs
 have e : (((w.alloc (.cells vs.toArray T)).alloc (.cells us.toArray S)).alloc (.cells xs.toArray R)).heap.size = w.heap.size + 1 + 1 + 1 := by simp
 exact ⟨h1.up ((Up.refl _).alloc _), h2.up ((Up.refl _).alloc _), h3.up ((Up.refl _).alloc _), by rw [← e]; exact Bx.new U _ ys⟩
/-- No word, no slice's element: a cell of a struct. -/
def NoWord : Value → Prop
 | .int .u32 _ => False
 | _ => True
/-- A slice of words is not touched by a store into a struct that holds none. -/
theorem Ws.far {w : World} {v : Value} {l : List Nat} {T : TypeId} {g : Nat} {cs : List Value} (h : Ws w v l) (hb : Bx T w g cs) (hc : ∀ c ∈ cs, NoWord c) (i : Nat) (x : Value) : Ws (w.setCell ⟨g, i, none⟩ x) v l := by
 obtain ⟨A, c, h1, h2, h3, h4, h5⟩ := h
 refine ⟨A, c, h1, h2, h3, h4, fun hl => ?_⟩
 obtain ⟨b, o, e, hlt, hat⟩ := h5 hl
 have hne : b ≠ g := by
  rintro rfl
  have h0 := hat 0 ((l.map wv)[0]) (List.getElem?_eq_getElem hl)
  rw [cell_of_row w b _ _ _ (0, 0) hb] at h0
  have hm := List.mem_of_getElem? (by simpa using h0 : cs[o]? = _)
  have := hc _ (by simpa using hm)
  exact this
 refine ⟨b, o, e, by simpa [World.setCell] using hlt, fun j u hj => ?_⟩
 rw [← hat j u hj]
 exact World.cell?_setCell_other w _ _ x (fun he => by injection he with h1 _; exact hne h1.symm)
/-- Words that can be read stay what they are. -/
def Kw (w w' : World) : Prop := w.heap.size ≤ w'.heap.size ∧ ∀ (p : Addr) (x : Int), w.cell? p = some (.int .u32 x) → w'.cell? p = some (.int .u32 x)
theorem Kw.refl (w : World) : Kw w w := ⟨Nat.le_refl _, fun _ _ h => h⟩
theorem Kw.trans {a b c : World} (h : Kw a b) (k : Kw b c) : Kw a c := ⟨Nat.le_trans h.1 k.1, fun p x hp => k.2 p x (h.2 p x hp)⟩
theorem Up.kw {w w' : World} (h : Up w w') : Kw w w' := ⟨h.size, fun p x hp => (h.cell (World.block_lt_of_cell? w _ hp)).trans hp⟩
theorem Kw.store {w : World} {T : TypeId} {g i : Nat} {cs : List Value} {c : Value} (hb : Bx T w g cs) (hc : cs[i]? = some c) (hn : NoWord c) (x : Value) : Kw w (w.setCell ⟨g, i, none⟩ x) := by
 refine ⟨by simp [World.setCell], fun p y hp => ?_⟩
 refine (World.cell?_setCell_other w _ p x (fun he => ?_)).trans hp
 subst he
 rw [hb.cell hc] at hp
 cases hp
 exact hn
theorem Ws.kw {w w' : World} {v : Value} {l : List Nat} (h : Ws w v l) (hk : Kw w w') : Ws w' v l := by
 obtain ⟨A, c, h1, h2, h3, h4, h5⟩ := h
 refine ⟨A, c, h1, h2, h3, h4, fun hl => ?_⟩
 obtain ⟨b, o, e, hlt, hat⟩ := h5 hl
 refine ⟨b, o, e, Nat.lt_of_lt_of_le hlt hk.1, fun j u hj => ?_⟩
 have hm := hat j u hj
 rw [List.getElem?_map, Option.map_eq_some_iff] at hj
 obtain ⟨x, _, rfl⟩ := hj
 exact hk.2 _ _ hm
theorem Up.alloc_drew {a w : World} (h : Up a w.drew) (o : Obj) : Up a (w.alloc o).drew := Up.alloc (w := w.drew) h o
theorem Up.alloc2_drew {a w : World} (h : Up a w.drew) (o o' : Obj) : Up a ((w.alloc o).alloc o').drew := Up.alloc (w := w.drew.alloc o) (Up.alloc (w := w.drew) h o) o'
theorem Up.skip {w w' : World} {o : Obj} (h : Up (w.alloc o).drew w') : Up w.drew w' := Up.trans (b := w.drew.alloc o) ((Up.refl w.drew).alloc o) h
theorem cell_far_block {w : World} {g i : Nat} {x v : Value} {q : Addr} (h : w.cell? q = some v) (hne : g ≠ q.block) : (w.setCell ⟨g, i, none⟩ x).cell? q = some v :=
 (World.cell?_setCell_other w _ q x (fun he => hne (by rw [← he]))).trans h
theorem cell_alloc_drew {w : World} {o : Obj} {v : Value} {q : Addr} (h : w.drew.cell? q = some v) : (w.alloc o).drew.cell? q = some v := (World.cell?_alloc_lt w o q (World.block_lt_of_cell? w.drew _ h)).trans h
theorem cell_alloc2_drew {w : World} {o o' : Obj} {v : Value} {q : Addr} (h : w.drew.cell? q = some v) : ((w.alloc o).alloc o').drew.cell? q = some v := cell_alloc_drew (w := w.alloc o) (cell_alloc_drew h)
theorem Ws.undrew {w : World} {v : Value} {l : List Nat} (h : Ws w.drew v l) : Ws w v l := h
/-- What comes back lies in one cell. -/
theorem run_load_agg {w : World} {T S : TypeId} {g n : Nat} {cs : List Value} (hT : ∀ w : World, (isAgg T).run Tryz.prog w = .ok true w) (hS : ∀ w : World, (sizeOf T).run Tryz.prog w = .ok n w) (hb : Bx S w g cs) (hn : cs.length = n) :
 (loadVar T ⟨g, 0, none⟩).run Tryz.prog w = .ok (.agg cs.toArray) w := by
 subst hn
 have hl := run_loadCells_list (P := Tryz.prog) w ⟨g, 0, none⟩ cs (fun j v hj => by
  have e : (⟨g, 0, none⟩ : Addr).add j = ⟨g, j, none⟩ := by unfold Addr.add; by_cases h0 : j = 0 <;> simp [h0]
  rw [e]
  exact hb.cell hj)
 simp only [loadVar, Sem.run_bind, hT, hS, hl, Result.andThen, if_true, Sem.run_pure]
theorem run_res_cell {fn : Func} {tmps : Array Value} {w : World} {t : Tmp} {T S : TypeId} {g n : Nat} {cs : List Value} (hres : fn.results = #[.cell t T]) (ht : tmps.getD t undef = .pointer (some ⟨g, 0, none⟩))
 (hT : ∀ w : World, (isAgg T).run Tryz.prog w = .ok true w) (hS : ∀ w : World, (sizeOf T).run Tryz.prog w = .ok n w) (hb : Bx S w g cs) (hn : cs.length = n) : (results fn tmps).run Tryz.prog w = .ok (.agg cs.toArray) w := by
 have := run_load_agg hT hS hb hn
 have ht' : tmps[t]?.getD undef = .pointer (some ⟨g, 0, none⟩) := by simpa using ht
 simp [results, hres, ht', this, asAddr]
theorem run_res_cell_tmp {fn : Func} {tmps : Array Value} {w : World} {t u : Tmp} {T S : TypeId} {g n : Nat} {cs : List Value} (hres : fn.results = #[.cell t T, .tmp u]) (ht : tmps.getD t undef = .pointer (some ⟨g, 0, none⟩))
 (hT : ∀ w : World, (isAgg T).run Tryz.prog w = .ok true w) (hS : ∀ w : World, (sizeOf T).run Tryz.prog w = .ok n w) (hb : Bx S w g cs) (hn : cs.length = n) : (results fn tmps).run Tryz.prog w = .ok (.tuple #[.agg cs.toArray, tmps.getD u undef]) w := by
 have := run_load_agg hT hS hb hn
 have ht' : tmps[t]?.getD undef = .pointer (some ⟨g, 0, none⟩) := by simpa using ht
 simp [results, hres, ht', this, asAddr]
theorem run_res_cell2_tmp {fn : Func} {tmps : Array Value} {w : World} {t t' u : Tmp} {T S T' S' : TypeId} {g n g' n' : Nat} {cs cs' : List Value} (hres : fn.results = #[.cell t T, .cell t' T', .tmp u]) (ht : tmps.getD t undef = .pointer (some ⟨g, 0, none⟩)) (ht' : tmps.getD t' undef = .pointer (some ⟨g', 0, none⟩))
 (hT : ∀ w : World, (isAgg T).run Tryz.prog w = .ok true w) (hS : ∀ w : World, (sizeOf T).run Tryz.prog w = .ok n w) (hT' : ∀ w : World, (isAgg T').run Tryz.prog w = .ok true w) (hS' : ∀ w : World, (sizeOf T').run Tryz.prog w = .ok n' w) (hb : Bx S w g cs) (hn : cs.length = n) (hb' : Bx S' w g' cs') (hn' : cs'.length = n') :
 (results fn tmps).run Tryz.prog w = .ok (.tuple #[.agg cs.toArray, .agg cs'.toArray, tmps.getD u undef]) w := by
 have h1 := run_load_agg hT hS hb hn
 have h2 := run_load_agg hT' hS' hb' hn'
 have e1 : tmps[t]?.getD undef = .pointer (some ⟨g, 0, none⟩) := by simpa using ht
 have e2 : tmps[t']?.getD undef = .pointer (some ⟨g', 0, none⟩) := by simpa using ht'
 simp [results, hres, e1, e2, h1, h2, asAddr]
theorem agg_whole (w : World) : (isAgg 32).run Tryz.prog w = .ok true w := by kernel_rfl
theorem size_whole (w : World) : (sizeOf 32).run Tryz.prog w = .ok 2 w := by kernel_rfl
end Go.Proofs.YtmmcffceeahemaaGreat
set_option linter.unusedVariables false
set_option linter.unusedSimpArgs false
namespace Go.Proofs.YtmmcffceeahemaaGreat
open Go.RowKit
/-- A whole number that may be spelled in any way, of at most so many words. -/
def Wh (w : World) (v : Value) (z : Int) (k : Nat) : Prop := ∃ s u l, v = .agg #[.bool s, u] ∧ Ws w u l ∧ Wd.iv s (Wd.val l) = z ∧ l.length ≤ k
theorem Wh.up {w w' : World} {v : Value} {z : Int} {k : Nat} (h : Wh w v z k) (hu : Up w w') : Wh w' v z k := by
 obtain ⟨s, u, l, h1, h2, h3⟩ := h
 exact ⟨s, u, l, h1, h2.up hu, h3⟩
theorem Wh.mono {w : World} {v : Value} {z : Int} {j k : Nat} (h : Wh w v z j) (hk : j ≤ k) : Wh w v z k := by
 obtain ⟨s, u, l, h1, h2, h3, h4⟩ := h
 exact ⟨s, u, l, h1, h2, h3, Nat.le_trans h4 hk⟩
/-- The right one. -/
def Zw (w : World) (v : Value) (z : Int) : Prop := ∃ u, v = .agg #[.bool (Wd.ngb z), u] ∧ Ws w u (Wd.words z.natAbs)
theorem Zw.up {w w' : World} {v : Value} {z : Int} (h : Zw w v z) (hu : Up w w') : Zw w' v z := by
 obtain ⟨u, h1, h2⟩ := h
 exact ⟨u, h1, h2.up hu⟩
theorem Zw.wh {w : World} {v : Value} {z : Int} {k : Nat} (h : Zw w v z) (hk : Wd.Lz z k) : Wh w v z k := by
 obtain ⟨u, h1, h2⟩ := h
 exact ⟨_, u, _, h1, h2, by rw [Wd.val_words, Wd.iv_ngb], hk⟩
theorem Zw.mk {w : World} {u : Value} {n : Nat} {z : Int} {s : Bool} (h : Ws w u (Wd.words n)) (hs : s = Wd.ngb z) (hz : z.natAbs = n) : Zw w (.agg #[.bool s, u]) z := by
 subst hs hz
 exact ⟨u, rfl, h⟩
theorem Wh.lz {w : World} {v : Value} {z : Int} {k : Nat} (h : Wh w v z k) : Wd.Lz z k := by
 obtain ⟨s, u, l, h1, h2, h3, h4⟩ := h
 subst h3
 exact Wd.Lz.iv (Nat.le_trans (Wd.words_val_length h2.ok) h4)
/-- What comes back: a right whole number. -/
def RetZ (z : Int) (w : World) (e : Ending) (w' : World) : Prop := ∃ v, e = .returned v ∧ Zw w' v z ∧ Up w w'
/-- It ends with a struct of two cells, stored into the result's. -/
theorem end_z {fn : Func} {a : Act} {w0 w : World} {t : Tmp} {g : Nat} {z : Int} {s : Bool} {u p q : Value} (hres : fn.results = #[.cell t 32]) (ht : a.tmps.getD t undef = .pointer (some ⟨g, 0, none⟩)) (hd : a.defers = [])
 (h : Zw w (.agg #[.bool s, u]) z) (r : Bx 32 w g [p, q]) (np : NoWord p) (nq : NoWord q) (hu : Up w0 w) (hg : w0.heap.size ≤ g) :
 bodyPost Tryz.prog fn (RetZ z w0) .ret a ((w.setCell ⟨g, 0, none⟩ (.bool s)).setCell ⟨g, 1, none⟩ u) := by
 obtain ⟨v, he, hw⟩ := h
 simp at he
 obtain ⟨rfl, rfl⟩ := he
 have r1 : Bx 32 (w.setCell ⟨g, 0, none⟩ (.bool (Wd.ngb z))) g [.bool (Wd.ngb z), q] := r.set 0 _
 have w1 := hw.far r (by simp [np, nq]) 0 (.bool (Wd.ngb z))
 have w2 := w1.far r1 (by simp [nq]; trivial) 1 u
 have r2 : Bx 32 ((w.setCell ⟨g, 0, none⟩ (.bool (Wd.ngb z))).setCell ⟨g, 1, none⟩ u) g [.bool (Wd.ngb z), u] := r1.set 1 _
 exact bodyPost_ret (run_res_cell hres ht agg_whole size_whole r2 rfl) hd ⟨_, rfl, ⟨u, rfl, w2⟩, (hu.setCell (p := ⟨g, 0, none⟩) hg _).setCell (p := ⟨g, 1, none⟩) hg _⟩
theorem whole_signed {v : Value} {s : Bool} {n : Nat} {w : World} (h : Ws w v (Wd.words n)) (hl : (Wd.words n).length ≤ 100000000000) : Calls Tryz.prog 162 #[.bool s, v] w (RetZ (Wd.iv s n) w) := by
 have HN := Lib.hid (Wd.ngb_words s n)
 obtain ⟨A, c, rfl⟩ := h.form
 generalize hk : (Wd.words n).length = k at *
 have HK := Lib.hid hk
 clear hk
 cases s
 · go_enter Tryz.func162, Tryz.ntmps162
   go_wp2
   exact bodyPost_ret (v := .agg #[.bool false, .slice A k c]) (by simp [results, Tryz.results162, go_sem]) rfl ⟨_, rfl, Zw.mk (h.up ((Up.refl w).alloc _)) (by rw [HN.out]; rfl) (Wd.iv_abs _ _), (Up.refl w).alloc _⟩
 · go_enter Tryz.func162, Tryz.ntmps162
   go_wp2
   exact bodyPost_ret (v := .agg #[.bool (decide (0 < k)), .slice A k c]) (by simp [results, Tryz.results162, go_sem]) rfl ⟨_, rfl, Zw.mk (h.up ((Up.refl w).alloc _)) (by rw [HN.out]; rfl) (Wd.iv_abs _ _), (Up.refl w).alloc _⟩
set_option maxHeartbeats 1600000 in
theorem whole_norm {v : Value} {z : Int} {k : Nat} {w : World} (h : Wh w v z k) (hk : k ≤ 100000000) : Calls Tryz.prog 172 #[v] w (RetZ z w) := by
 obtain ⟨s, u, l, rfl, hl, hz, hle⟩ := h
 have hlen := Nat.le_trans (Wd.words_val_length hl.ok) hle
 obtain ⟨A, c, rfl⟩ := hl.form
 subst hz
 have UP : Up w ((w.alloc (.cells #[.bool s, .slice A l.length c] 32)).alloc (.cells #[.bool false, .slice none 0 0] 32)) := ((Up.refl w).alloc _).alloc _
 obtain ⟨b0, r0⟩ := bx_two 32 32 w [.bool s, .slice A l.length c] [.bool false, .slice none 0 0]
 go_enter Tryz.func172, Tryz.ntmps172
 go_wp2_with fail
 generalize ((w.alloc (.cells #[.bool s, .slice A l.length c] 32)).alloc (.cells #[.bool false, .slice none 0 0] 32)) = W at *
 replace hl := hl.up UP
 obtain ⟨b0_0, b0_1⟩ := b0.c2
 obtain ⟨r0_0, r0_1⟩ := r0.c2
 replace hl := hl.up (Up.refl W).drew
 replace b0 := b0.up (Up.refl W).drew
 replace r0 := r0.up (Up.refl W).drew
 replace UP := UP.trans (Up.refl W).drew
 clear b0_0 b0_1
 obtain ⟨b0_0, b0_1⟩ := b0.c2
 obtain ⟨r0_0, r0_1⟩ := r0.c2
 have r0_f0 := r0.free 0
 have r0_f1 := r0.free 1
 go_region_held3 (fun w' => Up w w' ∧ w'.cell? ⟨w.heap.size, 0, none⟩ = some (.bool s) ∧ w'.cell? ⟨w.heap.size, 1, none⟩ = some (.slice A l.length c))
  (first | with_reducible exact ⟨UP, b0_0, b0_1⟩ | with_reducible exact ⟨((UP.setCell (p := ⟨w.heap.size + 1, 0, none⟩) (by dsimp only; omega) _).setCell (p := ⟨w.heap.size + 1, 1, none⟩) (by dsimp only; omega) _), (cell_far_block (cell_far_block b0_0 (by dsimp only; omega)) (by dsimp only; omega)), (cell_far_block (cell_far_block b0_1 (by dsimp only; omega)) (by dsimp only; omega))⟩ | with_reducible exact ⟨(UP.alloc_drew _), (cell_alloc_drew b0_0), (cell_alloc_drew b0_1)⟩ | with_reducible exact ⟨(UP.alloc2_drew _ _), (cell_alloc2_drew b0_0), (cell_alloc2_drew b0_1)⟩ | (simp only [← World.setCell_drew]; first | with_reducible exact ⟨((UP.setCell (p := ⟨w.heap.size + 1, 0, none⟩) (by dsimp only; omega) _).setCell (p := ⟨w.heap.size + 1, 1, none⟩) (by dsimp only; omega) _), (cell_far_block (cell_far_block b0_0 (by dsimp only; omega)) (by dsimp only; omega)), (cell_far_block (cell_far_block b0_1 (by dsimp only; omega)) (by dsimp only; omega))⟩) | go_keep)
  ((first
    | (go_at_call 176
       ((with_reducible refine (nat_norm hl (by omega)).mono ?_))
       intro e W1 ret1
       obtain ⟨V1, rfl, n1, u1⟩ := ret1.ws
       clear ret1
       replace hl := hl.up u1
       try (replace n1 := n1.up u1)
       try (replace z1 := z1.up u1)
       replace b0 := b0.up u1
       replace r0 := r0.up u1
       replace UP := UP.trans u1
       clear b0_0 b0_1 r0_0 r0_1
       obtain ⟨b0_0, b0_1⟩ := b0.c2
       obtain ⟨r0_0, r0_1⟩ := r0.c2
       replace r0_f0 := r0.free 0
       replace r0_f1 := r0.free 1
       clear u1)
    | (go_at_call 162
       ((with_reducible refine (whole_signed n1 (by omega)).mono ?_))
       rintro e W2 ⟨V2, rfl, z1, u2⟩
       replace hl := hl.up u2
       try (replace n1 := n1.up u2)
       try (replace z1 := z1.up u2)
       replace b0 := b0.up u2
       replace r0 := r0.up u2
       replace UP := UP.trans u2
       clear b0_0 b0_1 r0_0 r0_1
       obtain ⟨b0_0, b0_1⟩ := b0.c2
       obtain ⟨r0_0, r0_1⟩ := r0.c2
       replace r0_f0 := r0.free 0
       replace r0_f1 := r0.free 1
       clear u2
       obtain ⟨Xz1, rfl, z1⟩ := z1
       obtain ⟨Az1, nz1, cz1, rfl⟩ := z1.shape)))
 go_wp2
 exact end_z rfl rfl rfl ⟨_, rfl, z1⟩ r0 trivial trivial UP (by omega)
/-- What comes back: a number, in a world that has only grown. -/
def RetN (z : Int) (w : World) (e : Ending) (w' : World) : Prop := e = .returned (.int .i64 z) ∧ Up w w'
theorem Zw.kw {w w' : World} {v : Value} {z : Int} (h : Zw w v z) (hu : Kw w w') : Zw w' v z := by
 obtain ⟨u, h1, h2⟩ := h
 exact ⟨u, h1, h2.kw hu⟩
theorem Wh.kw {w w' : World} {v : Value} {z : Int} {k : Nat} (h : Wh w v z k) (hu : Kw w w') : Wh w' v z k := by
 obtain ⟨s, u, l, h1, h2, h3⟩ := h
 exact ⟨s, u, l, h1, h2.kw hu, h3⟩
set_option maxHeartbeats 1600000 in
theorem whole_neg {v : Value} {z : Int} {k : Nat} {w : World} (h : Wh w v z k) (hk : k ≤ 100000000) : Calls Tryz.prog 178 #[v] w (RetZ (-z) w) := by
 obtain ⟨s, u, l, rfl, hl, hz, hle⟩ := h
 have hlen := Nat.le_trans (Wd.words_val_length hl.ok) hle
 obtain ⟨A, c, rfl⟩ := hl.form
 subst hz
 rw [← Wd.iv_not]
 have UP : Up w ((w.alloc (.cells #[.bool s, .slice A l.length c] 32)).alloc (.cells #[.bool false, .slice none 0 0] 32)) := ((Up.refl w).alloc _).alloc _
 obtain ⟨b0, r0⟩ := bx_two 32 32 w [.bool s, .slice A l.length c] [.bool false, .slice none 0 0]
 go_enter Tryz.func178, Tryz.ntmps178
 go_wp2_with fail
 generalize ((w.alloc (.cells #[.bool s, .slice A l.length c] 32)).alloc (.cells #[.bool false, .slice none 0 0] 32)) = W at *
 replace hl := hl.up UP
 obtain ⟨b0_0, b0_1⟩ := b0.c2
 obtain ⟨r0_0, r0_1⟩ := r0.c2
 replace hl := hl.up (Up.refl W).drew
 replace b0 := b0.up (Up.refl W).drew
 replace r0 := r0.up (Up.refl W).drew
 replace UP := UP.trans (Up.refl W).drew
 clear b0_0 b0_1
 obtain ⟨b0_0, b0_1⟩ := b0.c2
 obtain ⟨r0_0, r0_1⟩ := r0.c2
 have r0_f0 := r0.free 0
 have r0_f1 := r0.free 1
 go_region_held3 (fun w' => Up w w' ∧ w'.cell? ⟨w.heap.size, 0, none⟩ = some (.bool s) ∧ w'.cell? ⟨w.heap.size, 1, none⟩ = some (.slice A l.length c))
  (first | with_reducible exact ⟨UP, b0_0, b0_1⟩ | with_reducible exact ⟨((UP.setCell (p := ⟨w.heap.size + 1, 0, none⟩) (by dsimp only; omega) _).setCell (p := ⟨w.heap.size + 1, 1, none⟩) (by dsimp only; omega) _), (cell_far_block (cell_far_block b0_0 (by dsimp only; omega)) (by dsimp only; omega)), (cell_far_block (cell_far_block b0_1 (by dsimp only; omega)) (by dsimp only; omega))⟩ | with_reducible exact ⟨(UP.alloc_drew _), (cell_alloc_drew b0_0), (cell_alloc_drew b0_1)⟩ | with_reducible exact ⟨(UP.alloc2_drew _ _), (cell_alloc2_drew b0_0), (cell_alloc2_drew b0_1)⟩ | (simp only [← World.setCell_drew]; first | with_reducible exact ⟨((UP.setCell (p := ⟨w.heap.size + 1, 0, none⟩) (by dsimp only; omega) _).setCell (p := ⟨w.heap.size + 1, 1, none⟩) (by dsimp only; omega) _), (cell_far_block (cell_far_block b0_0 (by dsimp only; omega)) (by dsimp only; omega)), (cell_far_block (cell_far_block b0_1 (by dsimp only; omega)) (by dsimp only; omega))⟩) | go_keep)
  ((first
    | (go_at_call 176
       ((with_reducible refine (nat_norm hl (by omega)).mono ?_))
       intro e W1 ret1
       obtain ⟨V1, rfl, n1, u1⟩ := ret1.ws
       clear ret1
       replace hl := hl.up u1
       try (replace n1 := n1.up u1)
       try (replace z1 := z1.up u1)
       replace b0 := b0.up u1
       replace r0 := r0.up u1
       replace UP := UP.trans u1
       clear b0_0 b0_1 r0_0 r0_1
       obtain ⟨b0_0, b0_1⟩ := b0.c2
       obtain ⟨r0_0, r0_1⟩ := r0.c2
       replace r0_f0 := r0.free 0
       replace r0_f1 := r0.free 1
       clear u1)
    | (go_at_call 162
       ((with_reducible refine (whole_signed n1 (by omega)).mono ?_))
       rintro e W2 ⟨V2, rfl, z1, u2⟩
       replace hl := hl.up u2
       try (replace n1 := n1.up u2)
       try (replace z1 := z1.up u2)
       replace b0 := b0.up u2
       replace r0 := r0.up u2
       replace UP := UP.trans u2
       clear b0_0 b0_1 r0_0 r0_1
       obtain ⟨b0_0, b0_1⟩ := b0.c2
       obtain ⟨r0_0, r0_1⟩ := r0.c2
       replace r0_f0 := r0.free 0
       replace r0_f1 := r0.free 1
       clear u2
       obtain ⟨Xz1, rfl, z1⟩ := z1
       obtain ⟨Az1, nz1, cz1, rfl⟩ := z1.shape)))
 go_wp2
 exact end_z rfl rfl rfl ⟨_, rfl, z1⟩ r0 trivial trivial UP (by omega)
set_option maxHeartbeats 1600000 in
theorem whole_mul {v u : Value} {z y : Int} {j k : Nat} {w : World} (h : Wh w v z j) (h' : Wh w u y k) (hj : j ≤ 100000000) (hk : k ≤ 100000000) : Calls Tryz.prog 152 #[v, u] w (RetZ (z * y) w) := by
 obtain ⟨s, v1, l, rfl, hl, hz, hle⟩ := h
 obtain ⟨t, v2, m, rfl, hm, hy, hme⟩ := h'
 have hlen := Wd.words_mul_le (Wd.words_val_length hl.ok) (Wd.words_val_length hm.ok)
 obtain ⟨A, c, rfl⟩ := hl.form
 obtain ⟨D, d, rfl⟩ := hm.form
 subst hz hy
 rw [← Wd.iv_mul]
 have UP : Up w (((w.alloc (.cells #[.bool s, .slice A l.length c] 32)).alloc (.cells #[.bool t, .slice D m.length d] 32)).alloc (.cells #[.bool false, .slice none 0 0] 32)) := (((Up.refl w).alloc _).alloc _).alloc _
 obtain ⟨b0, b1, r0⟩ := bx_three 32 32 32 w [.bool s, .slice A l.length c] [.bool t, .slice D m.length d] [.bool false, .slice none 0 0]
 go_enter Tryz.func152, Tryz.ntmps152
 go_wp2_with fail
 generalize (((w.alloc (.cells #[.bool s, .slice A l.length c] 32)).alloc (.cells #[.bool t, .slice D m.length d] 32)).alloc (.cells #[.bool false, .slice none 0 0] 32)) = W at *
 replace hl := hl.up UP
 replace hm := hm.up UP
 obtain ⟨b0_0, b0_1⟩ := b0.c2
 obtain ⟨b1_0, b1_1⟩ := b1.c2
 obtain ⟨r0_0, r0_1⟩ := r0.c2
 replace hl := hl.up (Up.refl W).drew
 replace hm := hm.up (Up.refl W).drew
 replace b0 := b0.up (Up.refl W).drew
 replace b1 := b1.up (Up.refl W).drew
 replace r0 := r0.up (Up.refl W).drew
 replace UP := UP.trans (Up.refl W).drew
 clear b0_0 b0_1 b1_0 b1_1
 obtain ⟨b0_0, b0_1⟩ := b0.c2
 obtain ⟨b1_0, b1_1⟩ := b1.c2
 obtain ⟨r0_0, r0_1⟩ := r0.c2
 have r0_f0 := r0.free 0
 have r0_f1 := r0.free 1
 go_region_held3 (fun w' => Up w w' ∧ w'.cell? ⟨w.heap.size, 0, none⟩ = some (.bool s) ∧ w'.cell? ⟨w.heap.size, 1, none⟩ = some (.slice A l.length c) ∧ w'.cell? ⟨w.heap.size + 1, 0, none⟩ = some (.bool t) ∧ w'.cell? ⟨w.heap.size + 1, 1, none⟩ = some (.slice D m.length d))
  (first | with_reducible exact ⟨UP, b0_0, b0_1, b1_0, b1_1⟩ | with_reducible exact ⟨((UP.setCell (p := ⟨w.heap.size + 1 + 1, 0, none⟩) (by dsimp only; omega) _).setCell (p := ⟨w.heap.size + 1 + 1, 1, none⟩) (by dsimp only; omega) _), (cell_far_block (cell_far_block b0_0 (by dsimp only; omega)) (by dsimp only; omega)), (cell_far_block (cell_far_block b0_1 (by dsimp only; omega)) (by dsimp only; omega)), (cell_far_block (cell_far_block b1_0 (by dsimp only; omega)) (by dsimp only; omega)), (cell_far_block (cell_far_block b1_1 (by dsimp only; omega)) (by dsimp only; omega))⟩ | with_reducible exact ⟨(UP.alloc_drew _), (cell_alloc_drew b0_0), (cell_alloc_drew b0_1), (cell_alloc_drew b1_0), (cell_alloc_drew b1_1)⟩ | with_reducible exact ⟨(UP.alloc2_drew _ _), (cell_alloc2_drew b0_0), (cell_alloc2_drew b0_1), (cell_alloc2_drew b1_0), (cell_alloc2_drew b1_1)⟩ | (simp only [← World.setCell_drew]; first | with_reducible exact ⟨((UP.setCell (p := ⟨w.heap.size + 1 + 1, 0, none⟩) (by dsimp only; omega) _).setCell (p := ⟨w.heap.size + 1 + 1, 1, none⟩) (by dsimp only; omega) _), (cell_far_block (cell_far_block b0_0 (by dsimp only; omega)) (by dsimp only; omega)), (cell_far_block (cell_far_block b0_1 (by dsimp only; omega)) (by dsimp only; omega)), (cell_far_block (cell_far_block b1_0 (by dsimp only; omega)) (by dsimp only; omega)), (cell_far_block (cell_far_block b1_1 (by dsimp only; omega)) (by dsimp only; omega))⟩) | go_keep)
  ((first
    | (go_at_call 151
       ((with_reducible refine (prod_mul hl hm (by omega) (by omega)).mono ?_))
       rintro e W1 ⟨V1, rfl, n1, u1⟩
       replace hl := hl.up u1
       replace hm := hm.up u1
       try (replace n1 := n1.up u1)
       try (replace z1 := z1.up u1)
       replace b0 := b0.up u1
       replace b1 := b1.up u1
       replace r0 := r0.up u1
       replace UP := UP.trans u1
       clear b0_0 b0_1 b1_0 b1_1 r0_0 r0_1
       obtain ⟨b0_0, b0_1⟩ := b0.c2
       obtain ⟨b1_0, b1_1⟩ := b1.c2
       obtain ⟨r0_0, r0_1⟩ := r0.c2
       replace r0_f0 := r0.free 0
       replace r0_f1 := r0.free 1
       clear u1)
    | (go_at_call 162
       ((with_reducible refine (whole_signed n1 (by omega)).mono ?_))
       rintro e W2 ⟨V2, rfl, z1, u2⟩
       replace hl := hl.up u2
       replace hm := hm.up u2
       try (replace n1 := n1.up u2)
       try (replace z1 := z1.up u2)
       replace b0 := b0.up u2
       replace b1 := b1.up u2
       replace r0 := r0.up u2
       replace UP := UP.trans u2
       clear b0_0 b0_1 b1_0 b1_1 r0_0 r0_1
       obtain ⟨b0_0, b0_1⟩ := b0.c2
       obtain ⟨b1_0, b1_1⟩ := b1.c2
       obtain ⟨r0_0, r0_1⟩ := r0.c2
       replace r0_f0 := r0.free 0
       replace r0_f1 := r0.free 1
       clear u2
       obtain ⟨Xz1, rfl, z1⟩ := z1
       obtain ⟨Az1, nz1, cz1, rfl⟩ := z1.shape)))
 go_wp2
 exact end_z rfl rfl rfl ⟨_, rfl, z1⟩ r0 trivial trivial UP (by omega)
set_option maxHeartbeats 1600000 in
theorem whole_sign {v : Value} {z : Int} {k : Nat} {w : World} (h : Wh w v z k) (hk : k ≤ 100000000) : Calls Tryz.prog 140 #[v] w (RetN (Wd.sgn z) w) := by
 obtain ⟨s, u, l, rfl, hl, hz, hle⟩ := h
 obtain ⟨A, c, rfl⟩ := hl.form
 subst hz
 by_cases h0 : Wd.val l = 0
 · have H0 : Hid (decide (Wd.val l = 0) = true) := Lib.hid (decide_eq_true h0)
   rw [h0, Wd.iv_zero]
   clear h0
   have UP : Up w (w.alloc (.cells #[.bool s, .slice A l.length c] 32)) := (Up.refl w).alloc _
   have b0 := Bx.new 32 w [.bool s, .slice A l.length c]
   go_enter Tryz.func140, Tryz.ntmps140
   go_wp2_with fail
   generalize (w.alloc (.cells #[.bool s, .slice A l.length c] 32)) = W at *
   replace hl := hl.up UP
   obtain ⟨b0_0, b0_1⟩ := b0.c2
   go_wp2_with fail
   ((with_reducible refine (nat_zero hl (by omega)).mono ?_))
   rintro e W1 ⟨rfl, rfl⟩
   rw [H0.out]
   go_wp2
   go_ret
   exact ⟨rfl, UP⟩
 · have H0 : Hid (decide (Wd.val l = 0) = false) := Lib.hid (decide_eq_false h0)
   have HS : Hid (Wd.sgn (Wd.iv s (Wd.val l)) = if s then -1 else 1) := Lib.hid (by
    cases s
    · exact Wd.sgn_pos (by simp [Wd.iv]; omega)
    · exact Wd.sgn_neg (by simp [Wd.iv]; omega))
   rw [HS.out]
   clear h0
   cases s
   · skip
     have UP : Up w (w.alloc (.cells #[.bool false, .slice A l.length c] 32)) := (Up.refl w).alloc _
     have b0 := Bx.new 32 w [.bool false, .slice A l.length c]
     go_enter Tryz.func140, Tryz.ntmps140
     go_wp2_with fail
     generalize (w.alloc (.cells #[.bool false, .slice A l.length c] 32)) = W at *
     replace hl := hl.up UP
     obtain ⟨b0_0, b0_1⟩ := b0.c2
     go_wp2_with fail
     ((with_reducible refine (nat_zero hl (by omega)).mono ?_))
     rintro e W1 ⟨rfl, rfl⟩
     rw [H0.out]
     go_wp2
     go_ret
     exact ⟨rfl, UP⟩
   · skip
     have UP : Up w (w.alloc (.cells #[.bool true, .slice A l.length c] 32)) := (Up.refl w).alloc _
     have b0 := Bx.new 32 w [.bool true, .slice A l.length c]
     go_enter Tryz.func140, Tryz.ntmps140
     go_wp2_with fail
     generalize (w.alloc (.cells #[.bool true, .slice A l.length c] 32)) = W at *
     replace hl := hl.up UP
     obtain ⟨b0_0, b0_1⟩ := b0.c2
     go_wp2_with fail
     ((with_reducible refine (nat_zero hl (by omega)).mono ?_))
     rintro e W1 ⟨rfl, rfl⟩
     rw [H0.out]
     go_wp2
     go_ret
     exact ⟨rfl, UP⟩
/-- A sum of two of one sign. -/
theorem gap_len {a b k : Nat} (ha : (Wd.words a).length ≤ k) (hb : (Wd.words b).length ≤ k) : (Wd.words (Wd.gapN a b)).length ≤ k := by
 unfold Wd.gapN
 split
 · exact Nat.le_trans (Wd.words_mono (Nat.sub_le _ _)) hb
 · exact Nat.le_trans (Wd.words_mono (Nat.sub_le _ _)) ha
set_option maxRecDepth 100000 in
set_option maxHeartbeats 6400000 in
theorem whole_add {v u : Value} {z y : Int} {j k : Nat} {w : World} (h : Wh w v z j) (h' : Wh w u y k) (hj : j ≤ 90000000) (hk : k ≤ 90000000) : Calls Tryz.prog 150 #[v, u] w (RetZ (z + y) w) := by
 obtain ⟨s, v1, l, rfl, hl, hz, hle⟩ := h
 obtain ⟨t, v2, m, rfl, hm, hy, hme⟩ := h'
 have hlen := Wd.words_add_le1 (m := 90000000) (Nat.le_trans (Wd.words_val_length hl.ok) (by omega)) (Nat.le_trans (Wd.words_val_length hm.ok) (by omega))
 have hgap := gap_len (k := 90000000) (Nat.le_trans (Wd.words_val_length hl.ok) (by omega)) (Nat.le_trans (Wd.words_val_length hm.ok) (by omega))
 have HV : Hid (Wd.vsum [l, m] = Wd.val l + Wd.val m) := Lib.hid (by simp [Wd.vsum])
 obtain ⟨A, c, rfl⟩ := hl.form
 obtain ⟨D, d, rfl⟩ := hm.form
 subst hz hy
 cases s <;> cases t
 · rw [← Wd.iv_add]
   have UP : Up w (((w.alloc (.cells #[.bool false, .slice A l.length c] 32)).alloc (.cells #[.bool false, .slice D m.length d] 32)).alloc (.cells #[.bool false, .slice none 0 0] 32)) := (((Up.refl w).alloc _).alloc _).alloc _
   obtain ⟨b0, b1, r0⟩ := bx_three 32 32 32 w [.bool false, .slice A l.length c] [.bool false, .slice D m.length d] [.bool false, .slice none 0 0]
   go_enter Tryz.func150, Tryz.ntmps150
   go_wp2_with fail
   generalize (((w.alloc (.cells #[.bool false, .slice A l.length c] 32)).alloc (.cells #[.bool false, .slice D m.length d] 32)).alloc (.cells #[.bool false, .slice none 0 0] 32)) = W at *
   replace hl := hl.up UP
   replace hm := hm.up UP
   obtain ⟨b0_0, b0_1⟩ := b0.c2
   obtain ⟨b1_0, b1_1⟩ := b1.c2
   obtain ⟨r0_0, r0_1⟩ := r0.c2
   replace hl := hl.up (Up.refl W).drew
   replace hm := hm.up (Up.refl W).drew
   replace b0 := b0.up (Up.refl W).drew
   replace b1 := b1.up (Up.refl W).drew
   replace r0 := r0.up (Up.refl W).drew
   replace UP := UP.trans (Up.refl W).drew
   clear b0_0 b0_1 b1_0 b1_1
   obtain ⟨b0_0, b0_1⟩ := b0.c2
   obtain ⟨b1_0, b1_1⟩ := b1.c2
   obtain ⟨r0_0, r0_1⟩ := r0.c2
   have r0_f0 := r0.free 0
   have r0_f1 := r0.free 1
   go_region_held3 (fun w' => Up w w' ∧ w'.cell? ⟨w.heap.size, 0, none⟩ = some (.bool false) ∧ w'.cell? ⟨w.heap.size, 1, none⟩ = some (.slice A l.length c) ∧ w'.cell? ⟨w.heap.size + 1, 0, none⟩ = some (.bool false) ∧ w'.cell? ⟨w.heap.size + 1, 1, none⟩ = some (.slice D m.length d))
    (first | with_reducible exact ⟨UP, b0_0, b0_1, b1_0, b1_1⟩ | with_reducible exact ⟨((UP.setCell (p := ⟨w.heap.size + 1 + 1, 0, none⟩) (by dsimp only; omega) _).setCell (p := ⟨w.heap.size + 1 + 1, 1, none⟩) (by dsimp only; omega) _), (cell_far_block (cell_far_block b0_0 (by dsimp only; omega)) (by dsimp only; omega)), (cell_far_block (cell_far_block b0_1 (by dsimp only; omega)) (by dsimp only; omega)), (cell_far_block (cell_far_block b1_0 (by dsimp only; omega)) (by dsimp only; omega)), (cell_far_block (cell_far_block b1_1 (by dsimp only; omega)) (by dsimp only; omega))⟩ | with_reducible exact ⟨(UP.alloc_drew _), (cell_alloc_drew b0_0), (cell_alloc_drew b0_1), (cell_alloc_drew b1_0), (cell_alloc_drew b1_1)⟩ | with_reducible exact ⟨(UP.alloc2_drew _ _), (cell_alloc2_drew b0_0), (cell_alloc2_drew b0_1), (cell_alloc2_drew b1_0), (cell_alloc2_drew b1_1)⟩ | (simp only [← World.setCell_drew]; first | with_reducible exact ⟨((UP.setCell (p := ⟨w.heap.size + 1 + 1, 0, none⟩) (by dsimp only; omega) _).setCell (p := ⟨w.heap.size + 1 + 1, 1, none⟩) (by dsimp only; omega) _), (cell_far_block (cell_far_block b0_0 (by dsimp only; omega)) (by dsimp only; omega)), (cell_far_block (cell_far_block b0_1 (by dsimp only; omega)) (by dsimp only; omega)), (cell_far_block (cell_far_block b1_0 (by dsimp only; omega)) (by dsimp only; omega)), (cell_far_block (cell_far_block b1_1 (by dsimp only; omega)) (by dsimp only; omega))⟩) | go_keep)
    ((first
      | (go_at_call 173
         ((with_reducible refine (nat_add ((wss_two hl.undrew hm.undrew).up (Up.refl _).drew) (by simp) (by simp; omega) (by rw [HV.out]; omega)).mono ?_))
         rintro e W1 ⟨V1, rfl, n1, u1⟩
         replace hl := hl.up (Up.skip u1)
         replace hm := hm.up (Up.skip u1)
         try (replace n1 := n1.up (Up.skip u1))
         try (replace z1 := z1.up (Up.skip u1))
         replace b0 := b0.up (Up.skip u1)
         replace b1 := b1.up (Up.skip u1)
         replace r0 := r0.up (Up.skip u1)
         replace UP := UP.trans (Up.skip u1)
         clear b0_0 b0_1 b1_0 b1_1 r0_0 r0_1
         obtain ⟨b0_0, b0_1⟩ := b0.c2
         obtain ⟨b1_0, b1_1⟩ := b1.c2
         obtain ⟨r0_0, r0_1⟩ := r0.c2
         replace r0_f0 := r0.free 0
         replace r0_f1 := r0.free 1
         clear u1
         rw [HV.out] at n1)
      | (go_at_call 162
         ((with_reducible refine (whole_signed n1 (by omega)).mono ?_))
         rintro e W2 ⟨V2, rfl, z1, u2⟩
         replace hl := hl.up u2
         replace hm := hm.up u2
         try (replace n1 := n1.up u2)
         try (replace z1 := z1.up u2)
         replace b0 := b0.up u2
         replace b1 := b1.up u2
         replace r0 := r0.up u2
         replace UP := UP.trans u2
         clear b0_0 b0_1 b1_0 b1_1 r0_0 r0_1
         obtain ⟨b0_0, b0_1⟩ := b0.c2
         obtain ⟨b1_0, b1_1⟩ := b1.c2
         obtain ⟨r0_0, r0_1⟩ := r0.c2
         replace r0_f0 := r0.free 0
         replace r0_f1 := r0.free 1
         clear u2
         obtain ⟨Xz1, rfl, z1⟩ := z1
         obtain ⟨Az1, nz1, cz1, rfl⟩ := z1.shape)))
   go_wp2
   exact end_z rfl rfl rfl ⟨_, rfl, z1⟩ r0 trivial trivial UP (by omega)
 · rw [← Wd.iv_gap false true _ _ rfl]
   by_cases hlt : Wd.val l < Wd.val m
   · rw [if_pos hlt]
     have HC := Lib.hid (Wd.cmpI_lt hlt)
     clear hlt
     have UP : Up w (((w.alloc (.cells #[.bool false, .slice A l.length c] 32)).alloc (.cells #[.bool true, .slice D m.length d] 32)).alloc (.cells #[.bool false, .slice none 0 0] 32)) := (((Up.refl w).alloc _).alloc _).alloc _
     obtain ⟨b0, b1, r0⟩ := bx_three 32 32 32 w [.bool false, .slice A l.length c] [.bool true, .slice D m.length d] [.bool false, .slice none 0 0]
     go_enter Tryz.func150, Tryz.ntmps150
     go_wp2_with fail
     generalize (((w.alloc (.cells #[.bool false, .slice A l.length c] 32)).alloc (.cells #[.bool true, .slice D m.length d] 32)).alloc (.cells #[.bool false, .slice none 0 0] 32)) = W at *
     replace hl := hl.up UP
     replace hm := hm.up UP
     obtain ⟨b0_0, b0_1⟩ := b0.c2
     obtain ⟨b1_0, b1_1⟩ := b1.c2
     obtain ⟨r0_0, r0_1⟩ := r0.c2
     go_wp2_with fail
     ((with_reducible refine (nat_gap hl hm (by omega) (by omega)).mono ?_))
     rintro e W1 ⟨V1, rfl, n1, u1⟩
     replace hl := hl.up u1
     replace hm := hm.up u1
     replace b0 := b0.up u1
     replace b1 := b1.up u1
     replace r0 := r0.up u1
     replace UP := UP.trans u1
     clear b0_0 b0_1 b1_0 b1_1 r0_0 r0_1
     obtain ⟨b0_0, b0_1⟩ := b0.c2
     obtain ⟨b1_0, b1_1⟩ := b1.c2
     obtain ⟨r0_0, r0_1⟩ := r0.c2
     clear u1
     rw [HC.out]
     go_wp2_with fail
     ((with_reducible refine (whole_signed n1 (by omega)).mono ?_))
     rintro e W2 ⟨V2, rfl, z1, u2⟩
     replace hl := hl.up u2
     replace hm := hm.up u2
     replace n1 := n1.up u2
     replace b0 := b0.up u2
     replace b1 := b1.up u2
     replace r0 := r0.up u2
     replace UP := UP.trans u2
     clear b0_0 b0_1 b1_0 b1_1 r0_0 r0_1
     obtain ⟨b0_0, b0_1⟩ := b0.c2
     obtain ⟨b1_0, b1_1⟩ := b1.c2
     obtain ⟨r0_0, r0_1⟩ := r0.c2
     clear u2
     obtain ⟨Xz1, rfl, z1⟩ := z1
     obtain ⟨Az1, nz1, cz1, rfl⟩ := z1.shape
     have q0 := r0.free 0
     have q1 := r0.free 1
     go_wp2
     exact end_z rfl rfl rfl ⟨_, rfl, z1⟩ r0 trivial trivial UP (by omega)
   · rw [if_neg hlt]
     have HC : Hid (∃ t, Wd.cmpI (Wd.val l) (Wd.val m) = t ∧ 0 ≤ t) := Lib.hid ⟨_, rfl, by have := @Wd.cmpI_neg (Wd.val l) (Wd.val m); omega⟩
     clear hlt
     have UP : Up w (((w.alloc (.cells #[.bool false, .slice A l.length c] 32)).alloc (.cells #[.bool true, .slice D m.length d] 32)).alloc (.cells #[.bool false, .slice none 0 0] 32)) := (((Up.refl w).alloc _).alloc _).alloc _
     obtain ⟨b0, b1, r0⟩ := bx_three 32 32 32 w [.bool false, .slice A l.length c] [.bool true, .slice D m.length d] [.bool false, .slice none 0 0]
     go_enter Tryz.func150, Tryz.ntmps150
     go_wp2_with fail
     generalize (((w.alloc (.cells #[.bool false, .slice A l.length c] 32)).alloc (.cells #[.bool true, .slice D m.length d] 32)).alloc (.cells #[.bool false, .slice none 0 0] 32)) = W at *
     replace hl := hl.up UP
     replace hm := hm.up UP
     obtain ⟨b0_0, b0_1⟩ := b0.c2
     obtain ⟨b1_0, b1_1⟩ := b1.c2
     obtain ⟨r0_0, r0_1⟩ := r0.c2
     go_wp2_with fail
     ((with_reducible refine (nat_gap hl hm (by omega) (by omega)).mono ?_))
     rintro e W1 ⟨V1, rfl, n1, u1⟩
     replace hl := hl.up u1
     replace hm := hm.up u1
     replace b0 := b0.up u1
     replace b1 := b1.up u1
     replace r0 := r0.up u1
     replace UP := UP.trans u1
     clear b0_0 b0_1 b1_0 b1_1 r0_0 r0_1
     obtain ⟨b0_0, b0_1⟩ := b0.c2
     obtain ⟨b1_0, b1_1⟩ := b1.c2
     obtain ⟨r0_0, r0_1⟩ := r0.c2
     clear u1
     obtain ⟨t, ht, h0⟩ := HC.out
     rw [ht]
     clear ht
     go_wp2_with fail
     ((with_reducible refine (whole_signed n1 (by omega)).mono ?_))
     rintro e W2 ⟨V2, rfl, z1, u2⟩
     replace hl := hl.up u2
     replace hm := hm.up u2
     replace n1 := n1.up u2
     replace b0 := b0.up u2
     replace b1 := b1.up u2
     replace r0 := r0.up u2
     replace UP := UP.trans u2
     clear b0_0 b0_1 b1_0 b1_1 r0_0 r0_1
     obtain ⟨b0_0, b0_1⟩ := b0.c2
     obtain ⟨b1_0, b1_1⟩ := b1.c2
     obtain ⟨r0_0, r0_1⟩ := r0.c2
     clear u2
     obtain ⟨Xz1, rfl, z1⟩ := z1
     obtain ⟨Az1, nz1, cz1, rfl⟩ := z1.shape
     have q0 := r0.free 0
     have q1 := r0.free 1
     go_wp2
     exact end_z rfl rfl rfl ⟨_, rfl, z1⟩ r0 trivial trivial UP (by omega)
 · rw [← Wd.iv_gap true false _ _ rfl]
   by_cases hlt : Wd.val l < Wd.val m
   · rw [if_pos hlt]
     have HC := Lib.hid (Wd.cmpI_lt hlt)
     clear hlt
     have UP : Up w (((w.alloc (.cells #[.bool true, .slice A l.length c] 32)).alloc (.cells #[.bool false, .slice D m.length d] 32)).alloc (.cells #[.bool false, .slice none 0 0] 32)) := (((Up.refl w).alloc _).alloc _).alloc _
     obtain ⟨b0, b1, r0⟩ := bx_three 32 32 32 w [.bool true, .slice A l.length c] [.bool false, .slice D m.length d] [.bool false, .slice none 0 0]
     go_enter Tryz.func150, Tryz.ntmps150
     go_wp2_with fail
     generalize (((w.alloc (.cells #[.bool true, .slice A l.length c] 32)).alloc (.cells #[.bool false, .slice D m.length d] 32)).alloc (.cells #[.bool false, .slice none 0 0] 32)) = W at *
     replace hl := hl.up UP
     replace hm := hm.up UP
     obtain ⟨b0_0, b0_1⟩ := b0.c2
     obtain ⟨b1_0, b1_1⟩ := b1.c2
     obtain ⟨r0_0, r0_1⟩ := r0.c2
     go_wp2_with fail
     ((with_reducible refine (nat_gap hl hm (by omega) (by omega)).mono ?_))
     rintro e W1 ⟨V1, rfl, n1, u1⟩
     replace hl := hl.up u1
     replace hm := hm.up u1
     replace b0 := b0.up u1
     replace b1 := b1.up u1
     replace r0 := r0.up u1
     replace UP := UP.trans u1
     clear b0_0 b0_1 b1_0 b1_1 r0_0 r0_1
     obtain ⟨b0_0, b0_1⟩ := b0.c2
     obtain ⟨b1_0, b1_1⟩ := b1.c2
     obtain ⟨r0_0, r0_1⟩ := r0.c2
     clear u1
     rw [HC.out]
     go_wp2_with fail
     ((with_reducible refine (whole_signed n1 (by omega)).mono ?_))
     rintro e W2 ⟨V2, rfl, z1, u2⟩
     replace hl := hl.up u2
     replace hm := hm.up u2
     replace n1 := n1.up u2
     replace b0 := b0.up u2
     replace b1 := b1.up u2
     replace r0 := r0.up u2
     replace UP := UP.trans u2
     clear b0_0 b0_1 b1_0 b1_1 r0_0 r0_1
     obtain ⟨b0_0, b0_1⟩ := b0.c2
     obtain ⟨b1_0, b1_1⟩ := b1.c2
     obtain ⟨r0_0, r0_1⟩ := r0.c2
     clear u2
     obtain ⟨Xz1, rfl, z1⟩ := z1
     obtain ⟨Az1, nz1, cz1, rfl⟩ := z1.shape
     have q0 := r0.free 0
     have q1 := r0.free 1
     go_wp2
     exact end_z rfl rfl rfl ⟨_, rfl, z1⟩ r0 trivial trivial UP (by omega)
   · rw [if_neg hlt]
     have HC : Hid (∃ t, Wd.cmpI (Wd.val l) (Wd.val m) = t ∧ 0 ≤ t) := Lib.hid ⟨_, rfl, by have := @Wd.cmpI_neg (Wd.val l) (Wd.val m); omega⟩
     clear hlt
     have UP : Up w (((w.alloc (.cells #[.bool true, .slice A l.length c] 32)).alloc (.cells #[.bool false, .slice D m.length d] 32)).alloc (.cells #[.bool false, .slice none 0 0] 32)) := (((Up.refl w).alloc _).alloc _).alloc _
     obtain ⟨b0, b1, r0⟩ := bx_three 32 32 32 w [.bool true, .slice A l.length c] [.bool false, .slice D m.length d] [.bool false, .slice none 0 0]
     go_enter Tryz.func150, Tryz.ntmps150
     go_wp2_with fail
     generalize (((w.alloc (.cells #[.bool true, .slice A l.length c] 32)).alloc (.cells #[.bool false, .slice D m.length d] 32)).alloc (.cells #[.bool false, .slice none 0 0] 32)) = W at *
     replace hl := hl.up UP
     replace hm := hm.up UP
     obtain ⟨b0_0, b0_1⟩ := b0.c2
     obtain ⟨b1_0, b1_1⟩ := b1.c2
     obtain ⟨r0_0, r0_1⟩ := r0.c2
     go_wp2_with fail
     ((with_reducible refine (nat_gap hl hm (by omega) (by omega)).mono ?_))
     rintro e W1 ⟨V1, rfl, n1, u1⟩
     replace hl := hl.up u1
     replace hm := hm.up u1
     replace b0 := b0.up u1
     replace b1 := b1.up u1
     replace r0 := r0.up u1
     replace UP := UP.trans u1
     clear b0_0 b0_1 b1_0 b1_1 r0_0 r0_1
     obtain ⟨b0_0, b0_1⟩ := b0.c2
     obtain ⟨b1_0, b1_1⟩ := b1.c2
     obtain ⟨r0_0, r0_1⟩ := r0.c2
     clear u1
     obtain ⟨t, ht, h0⟩ := HC.out
     rw [ht]
     clear ht
     go_wp2_with fail
     ((with_reducible refine (whole_signed n1 (by omega)).mono ?_))
     rintro e W2 ⟨V2, rfl, z1, u2⟩
     replace hl := hl.up u2
     replace hm := hm.up u2
     replace n1 := n1.up u2
     replace b0 := b0.up u2
     replace b1 := b1.up u2
     replace r0 := r0.up u2
     replace UP := UP.trans u2
     clear b0_0 b0_1 b1_0 b1_1 r0_0 r0_1
     obtain ⟨b0_0, b0_1⟩ := b0.c2
     obtain ⟨b1_0, b1_1⟩ := b1.c2
     obtain ⟨r0_0, r0_1⟩ := r0.c2
     clear u2
     obtain ⟨Xz1, rfl, z1⟩ := z1
     obtain ⟨Az1, nz1, cz1, rfl⟩ := z1.shape
     have q0 := r0.free 0
     have q1 := r0.free 1
     go_wp2
     exact end_z rfl rfl rfl ⟨_, rfl, z1⟩ r0 trivial trivial UP (by omega)
 · rw [← Wd.iv_add]
   have UP : Up w (((w.alloc (.cells #[.bool true, .slice A l.length c] 32)).alloc (.cells #[.bool true, .slice D m.length d] 32)).alloc (.cells #[.bool false, .slice none 0 0] 32)) := (((Up.refl w).alloc _).alloc _).alloc _
   obtain ⟨b0, b1, r0⟩ := bx_three 32 32 32 w [.bool true, .slice A l.length c] [.bool true, .slice D m.length d] [.bool false, .slice none 0 0]
   go_enter Tryz.func150, Tryz.ntmps150
   go_wp2_with fail
   generalize (((w.alloc (.cells #[.bool true, .slice A l.length c] 32)).alloc (.cells #[.bool true, .slice D m.length d] 32)).alloc (.cells #[.bool false, .slice none 0 0] 32)) = W at *
   replace hl := hl.up UP
   replace hm := hm.up UP
   obtain ⟨b0_0, b0_1⟩ := b0.c2
   obtain ⟨b1_0, b1_1⟩ := b1.c2
   obtain ⟨r0_0, r0_1⟩ := r0.c2
   replace hl := hl.up (Up.refl W).drew
   replace hm := hm.up (Up.refl W).drew
   replace b0 := b0.up (Up.refl W).drew
   replace b1 := b1.up (Up.refl W).drew
   replace r0 := r0.up (Up.refl W).drew
   replace UP := UP.trans (Up.refl W).drew
   clear b0_0 b0_1 b1_0 b1_1
   obtain ⟨b0_0, b0_1⟩ := b0.c2
   obtain ⟨b1_0, b1_1⟩ := b1.c2
   obtain ⟨r0_0, r0_1⟩ := r0.c2
   have r0_f0 := r0.free 0
   have r0_f1 := r0.free 1
   go_region_held3 (fun w' => Up w w' ∧ w'.cell? ⟨w.heap.size, 0, none⟩ = some (.bool true) ∧ w'.cell? ⟨w.heap.size, 1, none⟩ = some (.slice A l.length c) ∧ w'.cell? ⟨w.heap.size + 1, 0, none⟩ = some (.bool true) ∧ w'.cell? ⟨w.heap.size + 1, 1, none⟩ = some (.slice D m.length d))
    (first | with_reducible exact ⟨UP, b0_0, b0_1, b1_0, b1_1⟩ | with_reducible exact ⟨((UP.setCell (p := ⟨w.heap.size + 1 + 1, 0, none⟩) (by dsimp only; omega) _).setCell (p := ⟨w.heap.size + 1 + 1, 1, none⟩) (by dsimp only; omega) _), (cell_far_block (cell_far_block b0_0 (by dsimp only; omega)) (by dsimp only; omega)), (cell_far_block (cell_far_block b0_1 (by dsimp only; omega)) (by dsimp only; omega)), (cell_far_block (cell_far_block b1_0 (by dsimp only; omega)) (by dsimp only; omega)), (cell_far_block (cell_far_block b1_1 (by dsimp only; omega)) (by dsimp only; omega))⟩ | with_reducible exact ⟨(UP.alloc_drew _), (cell_alloc_drew b0_0), (cell_alloc_drew b0_1), (cell_alloc_drew b1_0), (cell_alloc_drew b1_1)⟩ | with_reducible exact ⟨(UP.alloc2_drew _ _), (cell_alloc2_drew b0_0), (cell_alloc2_drew b0_1), (cell_alloc2_drew b1_0), (cell_alloc2_drew b1_1)⟩ | (simp only [← World.setCell_drew]; first | with_reducible exact ⟨((UP.setCell (p := ⟨w.heap.size + 1 + 1, 0, none⟩) (by dsimp only; omega) _).setCell (p := ⟨w.heap.size + 1 + 1, 1, none⟩) (by dsimp only; omega) _), (cell_far_block (cell_far_block b0_0 (by dsimp only; omega)) (by dsimp only; omega)), (cell_far_block (cell_far_block b0_1 (by dsimp only; omega)) (by dsimp only; omega)), (cell_far_block (cell_far_block b1_0 (by dsimp only; omega)) (by dsimp only; omega)), (cell_far_block (cell_far_block b1_1 (by dsimp only; omega)) (by dsimp only; omega))⟩) | go_keep)
    ((first
      | (go_at_call 173
         ((with_reducible refine (nat_add ((wss_two hl.undrew hm.undrew).up (Up.refl _).drew) (by simp) (by simp; omega) (by rw [HV.out]; omega)).mono ?_))
         rintro e W1 ⟨V1, rfl, n1, u1⟩
         replace hl := hl.up (Up.skip u1)
         replace hm := hm.up (Up.skip u1)
         try (replace n1 := n1.up (Up.skip u1))
         try (replace z1 := z1.up (Up.skip u1))
         replace b0 := b0.up (Up.skip u1)
         replace b1 := b1.up (Up.skip u1)
         replace r0 := r0.up (Up.skip u1)
         replace UP := UP.trans (Up.skip u1)
         clear b0_0 b0_1 b1_0 b1_1 r0_0 r0_1
         obtain ⟨b0_0, b0_1⟩ := b0.c2
         obtain ⟨b1_0, b1_1⟩ := b1.c2
         obtain ⟨r0_0, r0_1⟩ := r0.c2
         replace r0_f0 := r0.free 0
         replace r0_f1 := r0.free 1
         clear u1
         rw [HV.out] at n1)
      | (go_at_call 162
         ((with_reducible refine (whole_signed n1 (by omega)).mono ?_))
         rintro e W2 ⟨V2, rfl, z1, u2⟩
         replace hl := hl.up u2
         replace hm := hm.up u2
         try (replace n1 := n1.up u2)
         try (replace z1 := z1.up u2)
         replace b0 := b0.up u2
         replace b1 := b1.up u2
         replace r0 := r0.up u2
         replace UP := UP.trans u2
         clear b0_0 b0_1 b1_0 b1_1 r0_0 r0_1
         obtain ⟨b0_0, b0_1⟩ := b0.c2
         obtain ⟨b1_0, b1_1⟩ := b1.c2
         obtain ⟨r0_0, r0_1⟩ := r0.c2
         replace r0_f0 := r0.free 0
         replace r0_f1 := r0.free 1
         clear u2
         obtain ⟨Xz1, rfl, z1⟩ := z1
         obtain ⟨Az1, nz1, cz1, rfl⟩ := z1.shape)))
   go_wp2
   exact end_z rfl rfl rfl ⟨_, rfl, z1⟩ r0 trivial trivial UP (by omega)
end Go.Proofs.YtmmcffceeahemaaGreat
set_option linter.unusedVariables false
set_option linter.unusedSimpArgs false
namespace Go.Proofs.YtmmcffceeahemaaGreat
open Go.RowKit
theorem u64_neg {n : Int} (h : n < 0) (h2 : -9223372036854775808 ≤ n) : IntKind.u64.wrap (-IntKind.u64.wrap n) = (n.natAbs : Int) := by
 rw [IntKind.wrap_u64, IntKind.wrap_u64]; omega
set_option maxHeartbeats 1600000 in
theorem whole_of {n : Int} (hn : -9223372036854775808 ≤ n ∧ n ≤ 9223372036854775807) (w : World) : Calls Tryz.prog 134 #[.int .i64 n] w (RetZ n w) := by
 have hlen : (Wd.words n.natAbs).length ≤ 2 := Wd.words_64 (by omega)
 by_cases h : n < 0
 · have e : Wd.iv true n.natAbs = n := by rw [Wd.iv_true]; omega
   have E := Lib.hid e
   clear e
   have UP : Up w (w.alloc (.cells #[.bool false, .slice none 0 0] 32)) := (Up.refl w).alloc _
   have r0 := Bx.new 32 w [.bool false, .slice none 0 0]
   go_enter Tryz.func134, Tryz.ntmps134
   go_wp2_with fail
   generalize (w.alloc (.cells #[.bool false, .slice none 0 0] 32)) = W at *
   obtain ⟨r0_0, r0_1⟩ := r0.c2
   go_wp2_with fail
   ((with_reducible refine (nat_of n.natAbs (by rw [u64_neg (by omega) (by omega)]) (by omega) _).mono ?_))
   rintro e W1 ⟨V1, rfl, n1, u1⟩
   replace r0 := r0.up u1
   replace UP := UP.trans u1
   clear r0_0 r0_1
   obtain ⟨r0_0, r0_1⟩ := r0.c2
   clear u1
   go_wp2_with fail
   ((with_reducible refine (whole_signed n1 (by omega)).mono ?_))
   rintro e W2 ⟨V2, rfl, z1, u2⟩
   replace n1 := n1.up u2
   replace r0 := r0.up u2
   replace UP := UP.trans u2
   clear r0_0 r0_1
   obtain ⟨r0_0, r0_1⟩ := r0.c2
   clear u2
   rw [E.out] at z1
   obtain ⟨Xz1, rfl, z1⟩ := z1
   obtain ⟨Az1, nz1, cz1, rfl⟩ := z1.shape
   have q0 := r0.free 0
   have q1 := r0.free 1
   go_wp2
   exact end_z rfl rfl rfl ⟨_, rfl, z1⟩ r0 trivial trivial UP (by omega)
 · have e : Wd.iv false n.natAbs = n := by rw [Wd.iv_false]; omega
   have E := Lib.hid e
   clear e
   have UP : Up w (w.alloc (.cells #[.bool false, .slice none 0 0] 32)) := (Up.refl w).alloc _
   have r0 := Bx.new 32 w [.bool false, .slice none 0 0]
   go_enter Tryz.func134, Tryz.ntmps134
   go_wp2_with fail
   generalize (w.alloc (.cells #[.bool false, .slice none 0 0] 32)) = W at *
   obtain ⟨r0_0, r0_1⟩ := r0.c2
   go_wp2_with fail
   ((with_reducible refine (nat_of n.natAbs (by first | (rw [IntKind.wrap_u64]; omega) | omega) (by omega) _).mono ?_))
   rintro e W1 ⟨V1, rfl, n1, u1⟩
   replace r0 := r0.up u1
   replace UP := UP.trans u1
   clear r0_0 r0_1
   obtain ⟨r0_0, r0_1⟩ := r0.c2
   clear u1
   go_wp2_with fail
   ((with_reducible refine (whole_signed n1 (by omega)).mono ?_))
   rintro e W2 ⟨V2, rfl, z1, u2⟩
   replace n1 := n1.up u2
   replace r0 := r0.up u2
   replace UP := UP.trans u2
   clear r0_0 r0_1
   obtain ⟨r0_0, r0_1⟩ := r0.c2
   clear u2
   rw [E.out] at z1
   obtain ⟨Xz1, rfl, z1⟩ := z1
   obtain ⟨Az1, nz1, cz1, rfl⟩ := z1.shape
   have q0 := r0.free 0
   have q1 := r0.free 1
   go_wp2
   exact end_z rfl rfl rfl ⟨_, rfl, z1⟩ r0 trivial trivial UP (by omega)
set_option maxHeartbeats 1600000 in
theorem whole_sub {v u : Value} {z y : Int} {j k : Nat} {w : World} (h : Wh w v z j) (h' : Wh w u y k) (hj : j ≤ 90000000) (hk : k ≤ 90000000) : Calls Tryz.prog 155 #[v, u] w (RetZ (z - y) w) := by
 have H1 := h
 have H2 := h'
 rw [Int.sub_eq_add_neg]
 obtain ⟨s, v1, l, rfl, hl, hz, hle⟩ := h
 obtain ⟨t, v2, m, rfl, hm, hy, hme⟩ := h'
 obtain ⟨A, c, rfl⟩ := hl.form
 obtain ⟨D, d, rfl⟩ := hm.form
 clear hl hm hz hy
 have UP : Up w (((w.alloc (.cells #[.bool s, .slice A l.length c] 32)).alloc (.cells #[.bool t, .slice D m.length d] 32)).alloc (.cells #[.bool false, .slice none 0 0] 32)) := (((Up.refl w).alloc _).alloc _).alloc _
 obtain ⟨b0, b1, r0⟩ := bx_three 32 32 32 w [.bool s, .slice A l.length c] [.bool t, .slice D m.length d] [.bool false, .slice none 0 0]
 go_enter Tryz.func155, Tryz.ntmps155
 go_wp2_with fail
 generalize (((w.alloc (.cells #[.bool s, .slice A l.length c] 32)).alloc (.cells #[.bool t, .slice D m.length d] 32)).alloc (.cells #[.bool false, .slice none 0 0] 32)) = W at *
 replace H1 := H1.up UP
 replace H2 := H2.up UP
 obtain ⟨b0_0, b0_1⟩ := b0.c2
 obtain ⟨b1_0, b1_1⟩ := b1.c2
 obtain ⟨r0_0, r0_1⟩ := r0.c2
 replace H1 := H1.up (Up.refl W).drew
 replace H2 := H2.up (Up.refl W).drew
 replace b0 := b0.up (Up.refl W).drew
 replace b1 := b1.up (Up.refl W).drew
 replace r0 := r0.up (Up.refl W).drew
 replace UP := UP.trans (Up.refl W).drew
 clear b0_0 b0_1 b1_0 b1_1
 obtain ⟨b0_0, b0_1⟩ := b0.c2
 obtain ⟨b1_0, b1_1⟩ := b1.c2
 obtain ⟨r0_0, r0_1⟩ := r0.c2
 have r0_f0 := r0.free 0
 have r0_f1 := r0.free 1
 go_region_held3 (fun w' => Up w w' ∧ w'.cell? ⟨w.heap.size, 0, none⟩ = some (.bool s) ∧ w'.cell? ⟨w.heap.size, 1, none⟩ = some (.slice A l.length c) ∧ w'.cell? ⟨w.heap.size + 1, 0, none⟩ = some (.bool t) ∧ w'.cell? ⟨w.heap.size + 1, 1, none⟩ = some (.slice D m.length d))
  (first | with_reducible exact ⟨UP, b0_0, b0_1, b1_0, b1_1⟩ | with_reducible exact ⟨((UP.setCell (p := ⟨w.heap.size + 1 + 1, 0, none⟩) (by dsimp only; omega) _).setCell (p := ⟨w.heap.size + 1 + 1, 1, none⟩) (by dsimp only; omega) _), (cell_far_block (cell_far_block b0_0 (by dsimp only; omega)) (by dsimp only; omega)), (cell_far_block (cell_far_block b0_1 (by dsimp only; omega)) (by dsimp only; omega)), (cell_far_block (cell_far_block b1_0 (by dsimp only; omega)) (by dsimp only; omega)), (cell_far_block (cell_far_block b1_1 (by dsimp only; omega)) (by dsimp only; omega))⟩ | with_reducible exact ⟨(UP.alloc_drew _), (cell_alloc_drew b0_0), (cell_alloc_drew b0_1), (cell_alloc_drew b1_0), (cell_alloc_drew b1_1)⟩ | with_reducible exact ⟨(UP.alloc2_drew _ _), (cell_alloc2_drew b0_0), (cell_alloc2_drew b0_1), (cell_alloc2_drew b1_0), (cell_alloc2_drew b1_1)⟩ | (simp only [← World.setCell_drew]; first | with_reducible exact ⟨((UP.setCell (p := ⟨w.heap.size + 1 + 1, 0, none⟩) (by dsimp only; omega) _).setCell (p := ⟨w.heap.size + 1 + 1, 1, none⟩) (by dsimp only; omega) _), (cell_far_block (cell_far_block b0_0 (by dsimp only; omega)) (by dsimp only; omega)), (cell_far_block (cell_far_block b0_1 (by dsimp only; omega)) (by dsimp only; omega)), (cell_far_block (cell_far_block b1_0 (by dsimp only; omega)) (by dsimp only; omega)), (cell_far_block (cell_far_block b1_1 (by dsimp only; omega)) (by dsimp only; omega))⟩) | go_keep)
  ((first
    | (go_at_call 178
       ((with_reducible refine (whole_neg H2 (by omega)).mono ?_))
       rintro e W1 ⟨V1, rfl, n1, u1⟩
       replace H1 := H1.up u1
       replace H2 := H2.up u1
       try (replace n1 := n1.up u1)
       try (replace z1 := z1.up u1)
       replace b0 := b0.up u1
       replace b1 := b1.up u1
       replace r0 := r0.up u1
       replace UP := UP.trans u1
       clear b0_0 b0_1 b1_0 b1_1 r0_0 r0_1
       obtain ⟨b0_0, b0_1⟩ := b0.c2
       obtain ⟨b1_0, b1_1⟩ := b1.c2
       obtain ⟨r0_0, r0_1⟩ := r0.c2
       replace r0_f0 := r0.free 0
       replace r0_f1 := r0.free 1
       clear u1)
    | (go_at_call 150
       ((with_reducible refine (whole_add H1 (n1.wh (H2.lz.neg)) (by omega) (by omega)).mono ?_))
       rintro e W2 ⟨V2, rfl, z1, u2⟩
       replace H1 := H1.up u2
       replace H2 := H2.up u2
       try (replace n1 := n1.up u2)
       try (replace z1 := z1.up u2)
       replace b0 := b0.up u2
       replace b1 := b1.up u2
       replace r0 := r0.up u2
       replace UP := UP.trans u2
       clear b0_0 b0_1 b1_0 b1_1 r0_0 r0_1
       obtain ⟨b0_0, b0_1⟩ := b0.c2
       obtain ⟨b1_0, b1_1⟩ := b1.c2
       obtain ⟨r0_0, r0_1⟩ := r0.c2
       replace r0_f0 := r0.free 0
       replace r0_f1 := r0.free 1
       clear u2
       obtain ⟨Xz1, rfl, z1⟩ := z1
       obtain ⟨Az1, nz1, cz1, rfl⟩ := z1.shape)))
 go_wp2
 exact end_z rfl rfl rfl ⟨_, rfl, z1⟩ r0 trivial trivial UP (by omega)
set_option maxHeartbeats 1600000 in
theorem whole_cmp {v u : Value} {z y : Int} {j k : Nat} {w : World} (h : Wh w v z j) (h' : Wh w u y k) (hj : j ≤ 90000000) (hk : k ≤ 90000000) : Calls Tryz.prog 141 #[v, u] w (RetN (Wd.sgn (z - y)) w) := by
 have H1 := h
 have H2 := h'
 obtain ⟨s, v1, l, rfl, hl, hz, hle⟩ := h
 obtain ⟨t, v2, m, rfl, hm, hy, hme⟩ := h'
 obtain ⟨A, c, rfl⟩ := hl.form
 obtain ⟨D, d, rfl⟩ := hm.form
 have HL := (H1.lz.mono hj).add (H2.lz.neg.mono hk)
 rw [← Int.sub_eq_add_neg] at HL
 clear hl hm hz hy
 have UP : Up w ((w.alloc (.cells #[.bool s, .slice A l.length c] 32)).alloc (.cells #[.bool t, .slice D m.length d] 32)) := ((Up.refl w).alloc _).alloc _
 obtain ⟨b0, b1⟩ := bx_two 32 32 w [.bool s, .slice A l.length c] [.bool t, .slice D m.length d]
 go_enter Tryz.func141, Tryz.ntmps141
 go_wp2_with fail
 generalize ((w.alloc (.cells #[.bool s, .slice A l.length c] 32)).alloc (.cells #[.bool t, .slice D m.length d] 32)) = W at *
 replace H1 := H1.up UP
 replace H2 := H2.up UP
 obtain ⟨b0_0, b0_1⟩ := b0.c2
 obtain ⟨b1_0, b1_1⟩ := b1.c2
 go_wp2_with fail
 ((with_reducible refine (whole_sub H1 H2 (by omega) (by omega)).mono ?_))
 rintro e W1 ⟨V1, rfl, z1, u1⟩
 replace H1 := H1.up u1
 replace H2 := H2.up u1
 replace b0 := b0.up u1
 replace b1 := b1.up u1
 replace UP := UP.trans u1
 clear b0_0 b0_1 b1_0 b1_1
 obtain ⟨b0_0, b0_1⟩ := b0.c2
 obtain ⟨b1_0, b1_1⟩ := b1.c2
 clear u1
 go_wp2_with fail
 ((with_reducible refine (whole_sign (z1.wh HL) (by omega)).mono ?_))
 rintro e W2 ⟨rfl, u2⟩
 replace H1 := H1.up u2
 replace H2 := H2.up u2
 replace z1 := z1.up u2
 replace b0 := b0.up u2
 replace b1 := b1.up u2
 replace UP := UP.trans u2
 clear b0_0 b0_1 b1_0 b1_1
 obtain ⟨b0_0, b0_1⟩ := b0.c2
 obtain ⟨b1_0, b1_1⟩ := b1.c2
 clear u2
 go_wp2
 go_ret
 exact ⟨rfl, UP⟩
theorem lz_one : Wd.Lz 1 1 := Wd.words_one_len
/-- What comes back of the floor: it, something left, and that there is one. -/
def RetFl (q : Int) (w : World) (e : Ending) (w' : World) : Prop := ∃ V R y, e = .returned (.tuple #[V, R, .bool true]) ∧ Zw w' V q ∧ Zw w' R y ∧ Up w w'
set_option maxRecDepth 100000 in
set_option maxHeartbeats 6400000 in
theorem whole_floor {v u : Value} {z y : Int} {j k : Nat} {w : World} (h : Wh w v z j) (h' : Wh w u y k) (hj : j ≤ 40000000) (hk : k ≤ 40000000) (hy0 : 0 < y) : Calls Tryz.prog 181 #[v, u] w (RetFl (z / y) w) := by
 have H1 := h
 have H2 := h'
 obtain ⟨s, v1, l, rfl, hl, hz, hle⟩ := h
 obtain ⟨t, v2, m, rfl, hm, hy, hme⟩ := h'
 obtain ⟨A, c, rfl⟩ := hl.form
 obtain ⟨D, d, rfl⟩ := hm.form
 have hM : Wd.val m ≠ 0 := by rintro h0; rw [h0, Wd.iv_zero] at hy; omega
 have hQ : (Wd.words (Wd.val l / Wd.val m)).length ≤ 40000000 := Nat.le_trans (Nat.le_trans (Wd.words_mono (Nat.div_le_self _ _)) (Wd.words_val_length hl.ok)) (by omega)
 have HQ2 : Wd.Lz (Wd.iv (s != t) (Wd.val l / Wd.val m)) 40000000 := Wd.Lz.iv hQ
 have hm0 := Wd.floor_math (s := s) (t := t) (N := Wd.val l) (M := Wd.val m) (by rw [hy]; exact hy0)
 rw [hz, hy] at hm0
 have HY : Hid (Wd.sgn y = 1) := Lib.hid (Wd.sgn_pos hy0)
 generalize hq : Wd.iv (s != t) (Wd.val l / Wd.val m) = q at *
 have HQ := Lib.hid hq
 have LQY := HQ2.mul (H2.lz.mono hk)
 have LR := (H1.lz.mono hj).add LQY.neg
 rw [← Int.sub_eq_add_neg] at LR
 have HM := Lib.hid hM
 clear hM hz hy hq
 generalize hr : z - q * y = r at *
 have HR := Lib.hid hr
 have L1 := (HQ2.add (Wd.Lz.neg (z := 1) (k := 1) Wd.words_one_len))
 clear hr
 rcases hm0 with ⟨hneg, he⟩ | ⟨hpos, he⟩
 · have HE := Lib.hid he
   have HS : Hid (Wd.sgn r = -1) := Lib.hid (Wd.sgn_neg hneg)
   clear he hneg
   have UP : Up w ((((w.alloc (.cells #[.bool s, .slice A l.length c] 32)).alloc (.cells #[.bool t, .slice D m.length d] 32)).alloc (.cells #[.bool false, .slice none 0 0] 32)).alloc (.cells #[.bool false, .slice none 0 0] 32)) := ((((Up.refl w).alloc _).alloc _).alloc _).alloc _
   obtain ⟨b0, b1, q0, r0⟩ := bx_four 32 32 32 32 w [.bool s, .slice A l.length c] [.bool t, .slice D m.length d] [.bool false, .slice none 0 0] [.bool false, .slice none 0 0]
   go_enter Tryz.func181, Tryz.ntmps181
   go_wp2_with fail
   generalize ((((w.alloc (.cells #[.bool s, .slice A l.length c] 32)).alloc (.cells #[.bool t, .slice D m.length d] 32)).alloc (.cells #[.bool false, .slice none 0 0] 32)).alloc (.cells #[.bool false, .slice none 0 0] 32)) = W at *
   replace hl := hl.up UP
   replace hm := hm.up UP
   replace H1 := H1.up UP
   replace H2 := H2.up UP
   obtain ⟨b0_0, b0_1⟩ := b0.c2
   obtain ⟨b1_0, b1_1⟩ := b1.c2
   obtain ⟨q0_0, q0_1⟩ := q0.c2
   obtain ⟨r0_0, r0_1⟩ := r0.c2
   go_wp2_with fail
   ((with_reducible refine (quot_div hl hm (by omega) (by omega) HM.out).mono ?_))
   rintro e W1 ⟨V1, V1', rfl, n1, n2, u1⟩
   replace hl := hl.up u1
   replace hm := hm.up u1
   replace H1 := H1.up u1
   replace H2 := H2.up u1
   replace b0 := b0.up u1
   replace b1 := b1.up u1
   replace q0 := q0.up u1
   replace r0 := r0.up u1
   replace UP := UP.trans u1
   clear b0_0 b0_1 b1_0 b1_1 q0_0 q0_1 r0_0 r0_1
   obtain ⟨b0_0, b0_1⟩ := b0.c2
   obtain ⟨b1_0, b1_1⟩ := b1.c2
   obtain ⟨q0_0, q0_1⟩ := q0.c2
   obtain ⟨r0_0, r0_1⟩ := r0.c2
   clear u1
   go_wp2_with fail
   ((with_reducible refine (whole_signed n1 (by omega)).mono ?_))
   rintro e W2 ⟨V2, rfl, z1, u2⟩
   replace hl := hl.up u2
   replace hm := hm.up u2
   replace H1 := H1.up u2
   replace H2 := H2.up u2
   replace n1 := n1.up u2
   replace n2 := n2.up u2
   replace b0 := b0.up u2
   replace b1 := b1.up u2
   replace q0 := q0.up u2
   replace r0 := r0.up u2
   replace UP := UP.trans u2
   clear b0_0 b0_1 b1_0 b1_1 q0_0 q0_1 r0_0 r0_1
   obtain ⟨b0_0, b0_1⟩ := b0.c2
   obtain ⟨b1_0, b1_1⟩ := b1.c2
   obtain ⟨q0_0, q0_1⟩ := q0.c2
   obtain ⟨r0_0, r0_1⟩ := r0.c2
   clear u2
   rw [show Wd.iv (!s == t) (Wd.val l / Wd.val m) = q from HQ.out] at z1
   obtain ⟨Xz1, rfl, z1⟩ := z1
   obtain ⟨Az1, nz1, cz1, rfl⟩ := z1.shape
   have qf0 := q0.free 0
   have qf1 := q0.free 1
   go_wp2_with fail
   clear qf0 qf1
   have KW : Kw (W2) ((W2).setCell ⟨w.heap.size + 1 + 1, 0, none⟩ (.bool (Wd.ngb q))) := Kw.store (c := (.bool false)) q0 rfl trivial _
   replace hl := hl.kw KW
   replace hm := hm.kw KW
   replace H1 := H1.kw KW
   replace H2 := H2.kw KW
   replace n1 := n1.kw KW
   replace n2 := n2.kw KW
   replace z1 := z1.kw KW
   replace b0 := b0.far (p := ⟨w.heap.size + 1 + 1, 0, none⟩) (by dsimp only; omega) (.bool (Wd.ngb q))
   replace b1 := b1.far (p := ⟨w.heap.size + 1 + 1, 0, none⟩) (by dsimp only; omega) (.bool (Wd.ngb q))
   replace r0 := r0.far (p := ⟨w.heap.size + 1 + 1, 0, none⟩) (by dsimp only; omega) (.bool (Wd.ngb q))
   replace q0 : Bx 32 ((W2).setCell ⟨w.heap.size + 1 + 1, 0, none⟩ (.bool (Wd.ngb q))) (w.heap.size + 1 + 1) [.bool (Wd.ngb q), .slice none 0 0] := q0.set 0 (.bool (Wd.ngb q))
   replace UP := UP.setCell (p := ⟨w.heap.size + 1 + 1, 0, none⟩) (by dsimp only; omega) (.bool (Wd.ngb q))
   have KW : Kw (((W2).setCell ⟨w.heap.size + 1 + 1, 0, none⟩ (.bool (Wd.ngb q)))) ((((W2).setCell ⟨w.heap.size + 1 + 1, 0, none⟩ (.bool (Wd.ngb q)))).setCell ⟨w.heap.size + 1 + 1, 1, none⟩ (.slice Az1 nz1 cz1)) := Kw.store (c := (.slice none 0 0)) q0 rfl trivial _
   replace hl := hl.kw KW
   replace hm := hm.kw KW
   replace H1 := H1.kw KW
   replace H2 := H2.kw KW
   replace n1 := n1.kw KW
   replace n2 := n2.kw KW
   replace z1 := z1.kw KW
   replace b0 := b0.far (p := ⟨w.heap.size + 1 + 1, 1, none⟩) (by dsimp only; omega) (.slice Az1 nz1 cz1)
   replace b1 := b1.far (p := ⟨w.heap.size + 1 + 1, 1, none⟩) (by dsimp only; omega) (.slice Az1 nz1 cz1)
   replace r0 := r0.far (p := ⟨w.heap.size + 1 + 1, 1, none⟩) (by dsimp only; omega) (.slice Az1 nz1 cz1)
   replace q0 : Bx 32 ((((W2).setCell ⟨w.heap.size + 1 + 1, 0, none⟩ (.bool (Wd.ngb q)))).setCell ⟨w.heap.size + 1 + 1, 1, none⟩ (.slice Az1 nz1 cz1)) (w.heap.size + 1 + 1) [.bool (Wd.ngb q), .slice Az1 nz1 cz1] := q0.set 1 (.slice Az1 nz1 cz1)
   replace UP := UP.setCell (p := ⟨w.heap.size + 1 + 1, 1, none⟩) (by dsimp only; omega) (.slice Az1 nz1 cz1)
   clear KW
   generalize ((((W2).setCell ⟨w.heap.size + 1 + 1, 0, none⟩ (.bool (Wd.ngb q)))).setCell ⟨w.heap.size + 1 + 1, 1, none⟩ (.slice Az1 nz1 cz1)) = W3 at *
   clear b0_0 b0_1 b1_0 b1_1 q0_0 q0_1 r0_0 r0_1
   obtain ⟨b0_0, b0_1⟩ := b0.c2
   obtain ⟨b1_0, b1_1⟩ := b1.c2
   obtain ⟨q0_0, q0_1⟩ := q0.c2
   obtain ⟨r0_0, r0_1⟩ := r0.c2
   have Z1 : Wh W3 (.agg #[.bool (Wd.ngb q), .slice Az1 nz1 cz1]) q 40000000 := Zw.wh ⟨_, rfl, z1⟩ HQ2
   replace hl := hl.up (Up.refl W3).drew
   replace hm := hm.up (Up.refl W3).drew
   replace H1 := H1.up (Up.refl W3).drew
   replace H2 := H2.up (Up.refl W3).drew
   replace n1 := n1.up (Up.refl W3).drew
   replace n2 := n2.up (Up.refl W3).drew
   replace z1 := z1.up (Up.refl W3).drew
   replace Z1 := Z1.up (Up.refl W3).drew
   replace b0 := b0.up (Up.refl W3).drew
   replace b1 := b1.up (Up.refl W3).drew
   replace q0 := q0.up (Up.refl W3).drew
   replace r0 := r0.up (Up.refl W3).drew
   replace UP := UP.trans (Up.refl W3).drew
   clear b0_0 b0_1 b1_0 b1_1 q0_0 q0_1
   obtain ⟨b0_0, b0_1⟩ := b0.c2
   obtain ⟨b1_0, b1_1⟩ := b1.c2
   obtain ⟨q0_0, q0_1⟩ := q0.c2
   obtain ⟨r0_0, r0_1⟩ := r0.c2
   have r0_f0 := r0.free 0
   have r0_f1 := r0.free 1
   go_region_held3 (fun w' => Up w w' ∧ w'.cell? ⟨w.heap.size, 0, none⟩ = some (.bool s) ∧ w'.cell? ⟨w.heap.size, 1, none⟩ = some (.slice A l.length c) ∧ w'.cell? ⟨w.heap.size + 1, 0, none⟩ = some (.bool t) ∧ w'.cell? ⟨w.heap.size + 1, 1, none⟩ = some (.slice D m.length d) ∧ w'.cell? ⟨w.heap.size + 1 + 1, 0, none⟩ = some (.bool (Wd.ngb q)) ∧ w'.cell? ⟨w.heap.size + 1 + 1, 1, none⟩ = some (.slice Az1 nz1 cz1))
    (first | with_reducible exact ⟨UP, b0_0, b0_1, b1_0, b1_1, q0_0, q0_1⟩ | with_reducible exact ⟨((UP.setCell (p := ⟨w.heap.size + 1 + 1 + 1, 0, none⟩) (by dsimp only; omega) _).setCell (p := ⟨w.heap.size + 1 + 1 + 1, 1, none⟩) (by dsimp only; omega) _), (cell_far_block (cell_far_block b0_0 (by dsimp only; omega)) (by dsimp only; omega)), (cell_far_block (cell_far_block b0_1 (by dsimp only; omega)) (by dsimp only; omega)), (cell_far_block (cell_far_block b1_0 (by dsimp only; omega)) (by dsimp only; omega)), (cell_far_block (cell_far_block b1_1 (by dsimp only; omega)) (by dsimp only; omega)), (cell_far_block (cell_far_block q0_0 (by dsimp only; omega)) (by dsimp only; omega)), (cell_far_block (cell_far_block q0_1 (by dsimp only; omega)) (by dsimp only; omega))⟩ | with_reducible exact ⟨(UP.alloc_drew _), (cell_alloc_drew b0_0), (cell_alloc_drew b0_1), (cell_alloc_drew b1_0), (cell_alloc_drew b1_1), (cell_alloc_drew q0_0), (cell_alloc_drew q0_1)⟩ | with_reducible exact ⟨(UP.alloc2_drew _ _), (cell_alloc2_drew b0_0), (cell_alloc2_drew b0_1), (cell_alloc2_drew b1_0), (cell_alloc2_drew b1_1), (cell_alloc2_drew q0_0), (cell_alloc2_drew q0_1)⟩ | (simp only [← World.setCell_drew]; first | with_reducible exact ⟨((UP.setCell (p := ⟨w.heap.size + 1 + 1 + 1, 0, none⟩) (by dsimp only; omega) _).setCell (p := ⟨w.heap.size + 1 + 1 + 1, 1, none⟩) (by dsimp only; omega) _), (cell_far_block (cell_far_block b0_0 (by dsimp only; omega)) (by dsimp only; omega)), (cell_far_block (cell_far_block b0_1 (by dsimp only; omega)) (by dsimp only; omega)), (cell_far_block (cell_far_block b1_0 (by dsimp only; omega)) (by dsimp only; omega)), (cell_far_block (cell_far_block b1_1 (by dsimp only; omega)) (by dsimp only; omega)), (cell_far_block (cell_far_block q0_0 (by dsimp only; omega)) (by dsimp only; omega)), (cell_far_block (cell_far_block q0_1 (by dsimp only; omega)) (by dsimp only; omega))⟩) | go_keep)
    ((first
      | (go_at_call 152
         ((with_reducible refine (whole_mul Z1 H2 (by omega) (by omega)).mono ?_))
         rintro e W4 ⟨V4, rfl, p1, u4⟩
         replace hl := hl.up u4
         replace hm := hm.up u4
         replace H1 := H1.up u4
         replace H2 := H2.up u4
         replace n1 := n1.up u4
         replace n2 := n2.up u4
         replace z1 := z1.up u4
         replace Z1 := Z1.up u4
         try (replace p1 := p1.up u4)
         try (replace z2 := z2.up u4)
         replace b0 := b0.up u4
         replace b1 := b1.up u4
         replace q0 := q0.up u4
         replace r0 := r0.up u4
         replace UP := UP.trans u4
         clear b0_0 b0_1 b1_0 b1_1 q0_0 q0_1 r0_0 r0_1
         obtain ⟨b0_0, b0_1⟩ := b0.c2
         obtain ⟨b1_0, b1_1⟩ := b1.c2
         obtain ⟨q0_0, q0_1⟩ := q0.c2
         obtain ⟨r0_0, r0_1⟩ := r0.c2
         replace r0_f0 := r0.free 0
         replace r0_f1 := r0.free 1
         clear u4)
      | (go_at_call 155
         ((with_reducible refine (whole_sub H1 (p1.wh LQY) (by omega) (by omega)).mono ?_))
         rintro e W5 ⟨V5, rfl, z2, u5⟩
         replace hl := hl.up u5
         replace hm := hm.up u5
         replace H1 := H1.up u5
         replace H2 := H2.up u5
         replace n1 := n1.up u5
         replace n2 := n2.up u5
         replace z1 := z1.up u5
         replace Z1 := Z1.up u5
         try (replace p1 := p1.up u5)
         try (replace z2 := z2.up u5)
         replace b0 := b0.up u5
         replace b1 := b1.up u5
         replace q0 := q0.up u5
         replace r0 := r0.up u5
         replace UP := UP.trans u5
         clear b0_0 b0_1 b1_0 b1_1 q0_0 q0_1 r0_0 r0_1
         obtain ⟨b0_0, b0_1⟩ := b0.c2
         obtain ⟨b1_0, b1_1⟩ := b1.c2
         obtain ⟨q0_0, q0_1⟩ := q0.c2
         obtain ⟨r0_0, r0_1⟩ := r0.c2
         replace r0_f0 := r0.free 0
         replace r0_f1 := r0.free 1
         clear u5
         rw [HR.out] at z2
         obtain ⟨Xz2, rfl, z2⟩ := z2
         obtain ⟨Az2, nz2, cz2, rfl⟩ := z2.shape)))
   go_wp2_with fail
   clear r0_f0 r0_f1
   have KW : Kw (W5) ((W5).setCell ⟨w.heap.size + 1 + 1 + 1, 0, none⟩ (.bool (Wd.ngb r))) := Kw.store (c := (.bool false)) r0 rfl trivial _
   replace hl := hl.kw KW
   replace hm := hm.kw KW
   replace H1 := H1.kw KW
   replace H2 := H2.kw KW
   replace n1 := n1.kw KW
   replace n2 := n2.kw KW
   replace z1 := z1.kw KW
   replace Z1 := Z1.kw KW
   replace p1 := p1.kw KW
   replace z2 := z2.kw KW
   replace b0 := b0.far (p := ⟨w.heap.size + 1 + 1 + 1, 0, none⟩) (by dsimp only; omega) (.bool (Wd.ngb r))
   replace b1 := b1.far (p := ⟨w.heap.size + 1 + 1 + 1, 0, none⟩) (by dsimp only; omega) (.bool (Wd.ngb r))
   replace q0 := q0.far (p := ⟨w.heap.size + 1 + 1 + 1, 0, none⟩) (by dsimp only; omega) (.bool (Wd.ngb r))
   replace r0 : Bx 32 ((W5).setCell ⟨w.heap.size + 1 + 1 + 1, 0, none⟩ (.bool (Wd.ngb r))) (w.heap.size + 1 + 1 + 1) [.bool (Wd.ngb r), .slice none 0 0] := r0.set 0 (.bool (Wd.ngb r))
   replace UP := UP.setCell (p := ⟨w.heap.size + 1 + 1 + 1, 0, none⟩) (by dsimp only; omega) (.bool (Wd.ngb r))
   have KW : Kw (((W5).setCell ⟨w.heap.size + 1 + 1 + 1, 0, none⟩ (.bool (Wd.ngb r)))) ((((W5).setCell ⟨w.heap.size + 1 + 1 + 1, 0, none⟩ (.bool (Wd.ngb r)))).setCell ⟨w.heap.size + 1 + 1 + 1, 1, none⟩ (.slice Az2 nz2 cz2)) := Kw.store (c := (.slice none 0 0)) r0 rfl trivial _
   replace hl := hl.kw KW
   replace hm := hm.kw KW
   replace H1 := H1.kw KW
   replace H2 := H2.kw KW
   replace n1 := n1.kw KW
   replace n2 := n2.kw KW
   replace z1 := z1.kw KW
   replace Z1 := Z1.kw KW
   replace p1 := p1.kw KW
   replace z2 := z2.kw KW
   replace b0 := b0.far (p := ⟨w.heap.size + 1 + 1 + 1, 1, none⟩) (by dsimp only; omega) (.slice Az2 nz2 cz2)
   replace b1 := b1.far (p := ⟨w.heap.size + 1 + 1 + 1, 1, none⟩) (by dsimp only; omega) (.slice Az2 nz2 cz2)
   replace q0 := q0.far (p := ⟨w.heap.size + 1 + 1 + 1, 1, none⟩) (by dsimp only; omega) (.slice Az2 nz2 cz2)
   replace r0 : Bx 32 ((((W5).setCell ⟨w.heap.size + 1 + 1 + 1, 0, none⟩ (.bool (Wd.ngb r)))).setCell ⟨w.heap.size + 1 + 1 + 1, 1, none⟩ (.slice Az2 nz2 cz2)) (w.heap.size + 1 + 1 + 1) [.bool (Wd.ngb r), .slice Az2 nz2 cz2] := r0.set 1 (.slice Az2 nz2 cz2)
   replace UP := UP.setCell (p := ⟨w.heap.size + 1 + 1 + 1, 1, none⟩) (by dsimp only; omega) (.slice Az2 nz2 cz2)
   clear KW
   generalize ((((W5).setCell ⟨w.heap.size + 1 + 1 + 1, 0, none⟩ (.bool (Wd.ngb r)))).setCell ⟨w.heap.size + 1 + 1 + 1, 1, none⟩ (.slice Az2 nz2 cz2)) = W6 at *
   clear b0_0 b0_1 b1_0 b1_1 q0_0 q0_1 r0_0 r0_1
   obtain ⟨b0_0, b0_1⟩ := b0.c2
   obtain ⟨b1_0, b1_1⟩ := b1.c2
   obtain ⟨q0_0, q0_1⟩ := q0.c2
   obtain ⟨r0_0, r0_1⟩ := r0.c2
   have Z2 : Wh W6 (.agg #[.bool (Wd.ngb r), .slice Az2 nz2 cz2]) r 90000000 := Zw.wh ⟨_, rfl, z2⟩ (LR.mono (by omega))
   replace hl := hl.up (Up.refl W6).drew
   replace hm := hm.up (Up.refl W6).drew
   replace H1 := H1.up (Up.refl W6).drew
   replace H2 := H2.up (Up.refl W6).drew
   replace n1 := n1.up (Up.refl W6).drew
   replace n2 := n2.up (Up.refl W6).drew
   replace z1 := z1.up (Up.refl W6).drew
   replace Z1 := Z1.up (Up.refl W6).drew
   replace p1 := p1.up (Up.refl W6).drew
   replace z2 := z2.up (Up.refl W6).drew
   replace Z2 := Z2.up (Up.refl W6).drew
   replace b0 := b0.up (Up.refl W6).drew
   replace b1 := b1.up (Up.refl W6).drew
   replace q0 := q0.up (Up.refl W6).drew
   replace r0 := r0.up (Up.refl W6).drew
   replace UP := UP.trans (Up.refl W6).drew
   clear b0_0 b0_1 b1_0 b1_1 q0_0 q0_1 r0_0 r0_1
   obtain ⟨b0_0, b0_1⟩ := b0.c2
   obtain ⟨b1_0, b1_1⟩ := b1.c2
   obtain ⟨q0_0, q0_1⟩ := q0.c2
   obtain ⟨r0_0, r0_1⟩ := r0.c2
   go_region_held3 (fun w' => Up w w' ∧ w'.cell? ⟨w.heap.size, 0, none⟩ = some (.bool s) ∧ w'.cell? ⟨w.heap.size, 1, none⟩ = some (.slice A l.length c) ∧ w'.cell? ⟨w.heap.size + 1, 0, none⟩ = some (.bool t) ∧ w'.cell? ⟨w.heap.size + 1, 1, none⟩ = some (.slice D m.length d) ∧ w'.cell? ⟨w.heap.size + 1 + 1, 0, none⟩ = some (.bool (Wd.ngb q)) ∧ w'.cell? ⟨w.heap.size + 1 + 1, 1, none⟩ = some (.slice Az1 nz1 cz1) ∧ w'.cell? ⟨w.heap.size + 1 + 1 + 1, 0, none⟩ = some (.bool (Wd.ngb r)) ∧ w'.cell? ⟨w.heap.size + 1 + 1 + 1, 1, none⟩ = some (.slice Az2 nz2 cz2))
    (first | with_reducible exact ⟨UP, b0_0, b0_1, b1_0, b1_1, q0_0, q0_1, r0_0, r0_1⟩ | with_reducible exact ⟨(UP.alloc_drew _), (cell_alloc_drew b0_0), (cell_alloc_drew b0_1), (cell_alloc_drew b1_0), (cell_alloc_drew b1_1), (cell_alloc_drew q0_0), (cell_alloc_drew q0_1), (cell_alloc_drew r0_0), (cell_alloc_drew r0_1)⟩ | with_reducible exact ⟨(UP.alloc2_drew _ _), (cell_alloc2_drew b0_0), (cell_alloc2_drew b0_1), (cell_alloc2_drew b1_0), (cell_alloc2_drew b1_1), (cell_alloc2_drew q0_0), (cell_alloc2_drew q0_1), (cell_alloc2_drew r0_0), (cell_alloc2_drew r0_1)⟩ | go_keep)
    ((first
      | (go_at_call 140
         ((with_reducible refine (whole_sign Z2 (by omega)).mono ?_))
         rintro e W7 ⟨rfl, u7⟩
         replace hl := hl.up u7
         replace hm := hm.up u7
         replace H1 := H1.up u7
         replace H2 := H2.up u7
         replace n1 := n1.up u7
         replace n2 := n2.up u7
         replace z1 := z1.up u7
         replace Z1 := Z1.up u7
         replace p1 := p1.up u7
         replace z2 := z2.up u7
         replace Z2 := Z2.up u7
         replace b0 := b0.up u7
         replace b1 := b1.up u7
         replace q0 := q0.up u7
         replace r0 := r0.up u7
         replace UP := UP.trans u7
         clear b0_0 b0_1 b1_0 b1_1 q0_0 q0_1 r0_0 r0_1
         obtain ⟨b0_0, b0_1⟩ := b0.c2
         obtain ⟨b1_0, b1_1⟩ := b1.c2
         obtain ⟨q0_0, q0_1⟩ := q0.c2
         obtain ⟨r0_0, r0_1⟩ := r0.c2
         clear u7
         rw [HS.out])
      | (go_at_call 140
         ((with_reducible refine (whole_sign H2 (by omega)).mono ?_))
         rintro e W8 ⟨rfl, u8⟩
         replace hl := hl.up u8
         replace hm := hm.up u8
         replace H1 := H1.up u8
         replace H2 := H2.up u8
         replace n1 := n1.up u8
         replace n2 := n2.up u8
         replace z1 := z1.up u8
         replace Z1 := Z1.up u8
         replace p1 := p1.up u8
         replace z2 := z2.up u8
         replace Z2 := Z2.up u8
         replace b0 := b0.up u8
         replace b1 := b1.up u8
         replace q0 := q0.up u8
         replace r0 := r0.up u8
         replace UP := UP.trans u8
         clear b0_0 b0_1 b1_0 b1_1 q0_0 q0_1 r0_0 r0_1
         obtain ⟨b0_0, b0_1⟩ := b0.c2
         obtain ⟨b1_0, b1_1⟩ := b1.c2
         obtain ⟨q0_0, q0_1⟩ := q0.c2
         obtain ⟨r0_0, r0_1⟩ := r0.c2
         clear u8
         rw [HY.out])))
   go_wp2_with fail
   replace hl := hl.up (Up.refl W8).drew
   replace hm := hm.up (Up.refl W8).drew
   replace H1 := H1.up (Up.refl W8).drew
   replace H2 := H2.up (Up.refl W8).drew
   replace n1 := n1.up (Up.refl W8).drew
   replace n2 := n2.up (Up.refl W8).drew
   replace z1 := z1.up (Up.refl W8).drew
   replace Z1 := Z1.up (Up.refl W8).drew
   replace p1 := p1.up (Up.refl W8).drew
   replace z2 := z2.up (Up.refl W8).drew
   replace Z2 := Z2.up (Up.refl W8).drew
   replace b0 := b0.up (Up.refl W8).drew
   replace b1 := b1.up (Up.refl W8).drew
   replace q0 := q0.up (Up.refl W8).drew
   replace r0 := r0.up (Up.refl W8).drew
   replace UP := UP.trans (Up.refl W8).drew
   clear b0_0 b0_1 b1_0 b1_1 r0_0 r0_1
   obtain ⟨b0_0, b0_1⟩ := b0.c2
   obtain ⟨b1_0, b1_1⟩ := b1.c2
   obtain ⟨q0_0, q0_1⟩ := q0.c2
   have q0_f0 := q0.free 0
   have q0_f1 := q0.free 1
   obtain ⟨r0_0, r0_1⟩ := r0.c2
   go_region_with ((first
    | (go_at_call 134
       ((with_reducible refine (whole_of (by omega) _).mono ?_))
       rintro e W9 ⟨V9, rfl, o1, u9⟩
       replace hl := hl.up u9
       replace hm := hm.up u9
       replace H1 := H1.up u9
       replace H2 := H2.up u9
       replace n1 := n1.up u9
       replace n2 := n2.up u9
       replace z1 := z1.up u9
       replace Z1 := Z1.up u9
       replace p1 := p1.up u9
       replace z2 := z2.up u9
       replace Z2 := Z2.up u9
       try (replace o1 := o1.up u9)
       try (replace z3 := z3.up u9)
       replace b0 := b0.up u9
       replace b1 := b1.up u9
       replace q0 := q0.up u9
       replace r0 := r0.up u9
       replace UP := UP.trans u9
       clear b0_0 b0_1 b1_0 b1_1 q0_0 q0_1 r0_0 r0_1
       obtain ⟨b0_0, b0_1⟩ := b0.c2
       obtain ⟨b1_0, b1_1⟩ := b1.c2
       obtain ⟨q0_0, q0_1⟩ := q0.c2
       replace q0_f0 := q0.free 0
       replace q0_f1 := q0.free 1
       obtain ⟨r0_0, r0_1⟩ := r0.c2
       clear u9)
    | (go_at_call 155
       ((with_reducible refine (whole_sub Z1 (o1.wh (k := 1) lz_one) (by omega) (by omega)).mono ?_))
       rintro e W10 ⟨V10, rfl, z3, u10⟩
       replace hl := hl.up u10
       replace hm := hm.up u10
       replace H1 := H1.up u10
       replace H2 := H2.up u10
       replace n1 := n1.up u10
       replace n2 := n2.up u10
       replace z1 := z1.up u10
       replace Z1 := Z1.up u10
       replace p1 := p1.up u10
       replace z2 := z2.up u10
       replace Z2 := Z2.up u10
       try (replace o1 := o1.up u10)
       try (replace z3 := z3.up u10)
       replace b0 := b0.up u10
       replace b1 := b1.up u10
       replace q0 := q0.up u10
       replace r0 := r0.up u10
       replace UP := UP.trans u10
       clear b0_0 b0_1 b1_0 b1_1 q0_0 q0_1 r0_0 r0_1
       obtain ⟨b0_0, b0_1⟩ := b0.c2
       obtain ⟨b1_0, b1_1⟩ := b1.c2
       obtain ⟨q0_0, q0_1⟩ := q0.c2
       replace q0_f0 := q0.free 0
       replace q0_f1 := q0.free 1
       obtain ⟨r0_0, r0_1⟩ := r0.c2
       clear u10
       obtain ⟨Xz3, rfl, z3⟩ := z3
       obtain ⟨Az3, nz3, cz3, rfl⟩ := z3.shape)))
   all_goals
    go_wp2_with fail
    clear q0_f0 q0_f1
    have KW : Kw (W10) ((W10).setCell ⟨w.heap.size + 1 + 1, 0, none⟩ (.bool (Wd.ngb (q - 1)))) := Kw.store (c := (.bool (Wd.ngb q))) q0 rfl trivial _
    replace hl := hl.kw KW
    replace hm := hm.kw KW
    replace H1 := H1.kw KW
    replace H2 := H2.kw KW
    replace n1 := n1.kw KW
    replace n2 := n2.kw KW
    replace z1 := z1.kw KW
    replace Z1 := Z1.kw KW
    replace p1 := p1.kw KW
    replace z2 := z2.kw KW
    replace Z2 := Z2.kw KW
    replace o1 := o1.kw KW
    replace z3 := z3.kw KW
    replace b0 := b0.far (p := ⟨w.heap.size + 1 + 1, 0, none⟩) (by dsimp only; omega) (.bool (Wd.ngb (q - 1)))
    replace b1 := b1.far (p := ⟨w.heap.size + 1 + 1, 0, none⟩) (by dsimp only; omega) (.bool (Wd.ngb (q - 1)))
    replace r0 := r0.far (p := ⟨w.heap.size + 1 + 1, 0, none⟩) (by dsimp only; omega) (.bool (Wd.ngb (q - 1)))
    replace q0 : Bx 32 ((W10).setCell ⟨w.heap.size + 1 + 1, 0, none⟩ (.bool (Wd.ngb (q - 1)))) (w.heap.size + 1 + 1) [.bool (Wd.ngb (q - 1)), .slice Az1 nz1 cz1] := q0.set 0 (.bool (Wd.ngb (q - 1)))
    replace UP := UP.setCell (p := ⟨w.heap.size + 1 + 1, 0, none⟩) (by dsimp only; omega) (.bool (Wd.ngb (q - 1)))
    have KW : Kw (((W10).setCell ⟨w.heap.size + 1 + 1, 0, none⟩ (.bool (Wd.ngb (q - 1))))) ((((W10).setCell ⟨w.heap.size + 1 + 1, 0, none⟩ (.bool (Wd.ngb (q - 1))))).setCell ⟨w.heap.size + 1 + 1, 1, none⟩ (.slice Az3 nz3 cz3)) := Kw.store (c := (.slice Az1 nz1 cz1)) q0 rfl trivial _
    replace hl := hl.kw KW
    replace hm := hm.kw KW
    replace H1 := H1.kw KW
    replace H2 := H2.kw KW
    replace n1 := n1.kw KW
    replace n2 := n2.kw KW
    replace z1 := z1.kw KW
    replace Z1 := Z1.kw KW
    replace p1 := p1.kw KW
    replace z2 := z2.kw KW
    replace Z2 := Z2.kw KW
    replace o1 := o1.kw KW
    replace z3 := z3.kw KW
    replace b0 := b0.far (p := ⟨w.heap.size + 1 + 1, 1, none⟩) (by dsimp only; omega) (.slice Az3 nz3 cz3)
    replace b1 := b1.far (p := ⟨w.heap.size + 1 + 1, 1, none⟩) (by dsimp only; omega) (.slice Az3 nz3 cz3)
    replace r0 := r0.far (p := ⟨w.heap.size + 1 + 1, 1, none⟩) (by dsimp only; omega) (.slice Az3 nz3 cz3)
    replace q0 : Bx 32 ((((W10).setCell ⟨w.heap.size + 1 + 1, 0, none⟩ (.bool (Wd.ngb (q - 1))))).setCell ⟨w.heap.size + 1 + 1, 1, none⟩ (.slice Az3 nz3 cz3)) (w.heap.size + 1 + 1) [.bool (Wd.ngb (q - 1)), .slice Az3 nz3 cz3] := q0.set 1 (.slice Az3 nz3 cz3)
    replace UP := UP.setCell (p := ⟨w.heap.size + 1 + 1, 1, none⟩) (by dsimp only; omega) (.slice Az3 nz3 cz3)
    clear KW
    generalize ((((W10).setCell ⟨w.heap.size + 1 + 1, 0, none⟩ (.bool (Wd.ngb (q - 1))))).setCell ⟨w.heap.size + 1 + 1, 1, none⟩ (.slice Az3 nz3 cz3)) = W11 at *
    clear b0_0 b0_1 b1_0 b1_1 q0_0 q0_1 r0_0 r0_1
    obtain ⟨b0_0, b0_1⟩ := b0.c2
    obtain ⟨b1_0, b1_1⟩ := b1.c2
    obtain ⟨q0_0, q0_1⟩ := q0.c2
    obtain ⟨r0_0, r0_1⟩ := r0.c2
    go_wp2_with fail
    ((with_reducible refine (whole_add Z2 H2 (by omega) (by omega)).mono ?_))
    rintro e W12 ⟨V12, rfl, z4, u12⟩
    replace hl := hl.up u12
    replace hm := hm.up u12
    replace H1 := H1.up u12
    replace H2 := H2.up u12
    replace n1 := n1.up u12
    replace n2 := n2.up u12
    replace z1 := z1.up u12
    replace Z1 := Z1.up u12
    replace p1 := p1.up u12
    replace z2 := z2.up u12
    replace Z2 := Z2.up u12
    replace o1 := o1.up u12
    replace z3 := z3.up u12
    replace b0 := b0.up u12
    replace b1 := b1.up u12
    replace q0 := q0.up u12
    replace r0 := r0.up u12
    replace UP := UP.trans u12
    clear b0_0 b0_1 b1_0 b1_1 q0_0 q0_1 r0_0 r0_1
    obtain ⟨b0_0, b0_1⟩ := b0.c2
    obtain ⟨b1_0, b1_1⟩ := b1.c2
    obtain ⟨q0_0, q0_1⟩ := q0.c2
    obtain ⟨r0_0, r0_1⟩ := r0.c2
    clear u12
    obtain ⟨Xz4, rfl, z4⟩ := z4
    obtain ⟨Az4, nz4, cz4, rfl⟩ := z4.shape
    have g2 := r0.free 0
    have g3 := r0.free 1
    go_wp2_with fail
    clear g2 g3
    have KW : Kw (W12) ((W12).setCell ⟨w.heap.size + 1 + 1 + 1, 0, none⟩ (.bool (Wd.ngb (r + y)))) := Kw.store (c := (.bool (Wd.ngb r))) r0 rfl trivial _
    replace hl := hl.kw KW
    replace hm := hm.kw KW
    replace H1 := H1.kw KW
    replace H2 := H2.kw KW
    replace n1 := n1.kw KW
    replace n2 := n2.kw KW
    replace z1 := z1.kw KW
    replace Z1 := Z1.kw KW
    replace p1 := p1.kw KW
    replace z2 := z2.kw KW
    replace Z2 := Z2.kw KW
    replace o1 := o1.kw KW
    replace z3 := z3.kw KW
    replace z4 := z4.kw KW
    replace b0 := b0.far (p := ⟨w.heap.size + 1 + 1 + 1, 0, none⟩) (by dsimp only; omega) (.bool (Wd.ngb (r + y)))
    replace b1 := b1.far (p := ⟨w.heap.size + 1 + 1 + 1, 0, none⟩) (by dsimp only; omega) (.bool (Wd.ngb (r + y)))
    replace q0 := q0.far (p := ⟨w.heap.size + 1 + 1 + 1, 0, none⟩) (by dsimp only; omega) (.bool (Wd.ngb (r + y)))
    replace r0 : Bx 32 ((W12).setCell ⟨w.heap.size + 1 + 1 + 1, 0, none⟩ (.bool (Wd.ngb (r + y)))) (w.heap.size + 1 + 1 + 1) [.bool (Wd.ngb (r + y)), .slice Az2 nz2 cz2] := r0.set 0 (.bool (Wd.ngb (r + y)))
    replace UP := UP.setCell (p := ⟨w.heap.size + 1 + 1 + 1, 0, none⟩) (by dsimp only; omega) (.bool (Wd.ngb (r + y)))
    have KW : Kw (((W12).setCell ⟨w.heap.size + 1 + 1 + 1, 0, none⟩ (.bool (Wd.ngb (r + y))))) ((((W12).setCell ⟨w.heap.size + 1 + 1 + 1, 0, none⟩ (.bool (Wd.ngb (r + y))))).setCell ⟨w.heap.size + 1 + 1 + 1, 1, none⟩ (.slice Az4 nz4 cz4)) := Kw.store (c := (.slice Az2 nz2 cz2)) r0 rfl trivial _
    replace hl := hl.kw KW
    replace hm := hm.kw KW
    replace H1 := H1.kw KW
    replace H2 := H2.kw KW
    replace n1 := n1.kw KW
    replace n2 := n2.kw KW
    replace z1 := z1.kw KW
    replace Z1 := Z1.kw KW
    replace p1 := p1.kw KW
    replace z2 := z2.kw KW
    replace Z2 := Z2.kw KW
    replace o1 := o1.kw KW
    replace z3 := z3.kw KW
    replace z4 := z4.kw KW
    replace b0 := b0.far (p := ⟨w.heap.size + 1 + 1 + 1, 1, none⟩) (by dsimp only; omega) (.slice Az4 nz4 cz4)
    replace b1 := b1.far (p := ⟨w.heap.size + 1 + 1 + 1, 1, none⟩) (by dsimp only; omega) (.slice Az4 nz4 cz4)
    replace q0 := q0.far (p := ⟨w.heap.size + 1 + 1 + 1, 1, none⟩) (by dsimp only; omega) (.slice Az4 nz4 cz4)
    replace r0 : Bx 32 ((((W12).setCell ⟨w.heap.size + 1 + 1 + 1, 0, none⟩ (.bool (Wd.ngb (r + y))))).setCell ⟨w.heap.size + 1 + 1 + 1, 1, none⟩ (.slice Az4 nz4 cz4)) (w.heap.size + 1 + 1 + 1) [.bool (Wd.ngb (r + y)), .slice Az4 nz4 cz4] := r0.set 1 (.slice Az4 nz4 cz4)
    replace UP := UP.setCell (p := ⟨w.heap.size + 1 + 1 + 1, 1, none⟩) (by dsimp only; omega) (.slice Az4 nz4 cz4)
    clear KW
    generalize ((((W12).setCell ⟨w.heap.size + 1 + 1 + 1, 0, none⟩ (.bool (Wd.ngb (r + y))))).setCell ⟨w.heap.size + 1 + 1 + 1, 1, none⟩ (.slice Az4 nz4 cz4)) = W13 at *
    clear b0_0 b0_1 b1_0 b1_1 q0_0 q0_1 r0_0 r0_1
    obtain ⟨b0_0, b0_1⟩ := b0.c2
    obtain ⟨b1_0, b1_1⟩ := b1.c2
    obtain ⟨q0_0, q0_1⟩ := q0.c2
    obtain ⟨r0_0, r0_1⟩ := r0.c2
    have g0 := q0.free 0
    have g1 := q0.free 1
    have g2 := r0.free 0
    have g3 := r0.free 1
    go_region
    clear g0 g1 g2 g3
    have KW : Kw (W13) ((W13).setCell ⟨w.heap.size + 1 + 1, 0, none⟩ (.bool (Wd.ngb (q - 1)))) := Kw.store (c := (.bool (Wd.ngb (q - 1)))) q0 rfl trivial _
    replace hl := hl.kw KW
    replace hm := hm.kw KW
    replace H1 := H1.kw KW
    replace H2 := H2.kw KW
    replace n1 := n1.kw KW
    replace n2 := n2.kw KW
    replace z1 := z1.kw KW
    replace Z1 := Z1.kw KW
    replace p1 := p1.kw KW
    replace z2 := z2.kw KW
    replace Z2 := Z2.kw KW
    replace o1 := o1.kw KW
    replace z3 := z3.kw KW
    replace z4 := z4.kw KW
    replace b0 := b0.far (p := ⟨w.heap.size + 1 + 1, 0, none⟩) (by dsimp only; omega) (.bool (Wd.ngb (q - 1)))
    replace b1 := b1.far (p := ⟨w.heap.size + 1 + 1, 0, none⟩) (by dsimp only; omega) (.bool (Wd.ngb (q - 1)))
    replace r0 := r0.far (p := ⟨w.heap.size + 1 + 1, 0, none⟩) (by dsimp only; omega) (.bool (Wd.ngb (q - 1)))
    replace q0 : Bx 32 ((W13).setCell ⟨w.heap.size + 1 + 1, 0, none⟩ (.bool (Wd.ngb (q - 1)))) (w.heap.size + 1 + 1) [.bool (Wd.ngb (q - 1)), .slice Az3 nz3 cz3] := q0.set 0 (.bool (Wd.ngb (q - 1)))
    replace UP := UP.setCell (p := ⟨w.heap.size + 1 + 1, 0, none⟩) (by dsimp only; omega) (.bool (Wd.ngb (q - 1)))
    have KW : Kw (((W13).setCell ⟨w.heap.size + 1 + 1, 0, none⟩ (.bool (Wd.ngb (q - 1))))) ((((W13).setCell ⟨w.heap.size + 1 + 1, 0, none⟩ (.bool (Wd.ngb (q - 1))))).setCell ⟨w.heap.size + 1 + 1, 1, none⟩ (.slice Az3 nz3 cz3)) := Kw.store (c := (.slice Az3 nz3 cz3)) q0 rfl trivial _
    replace hl := hl.kw KW
    replace hm := hm.kw KW
    replace H1 := H1.kw KW
    replace H2 := H2.kw KW
    replace n1 := n1.kw KW
    replace n2 := n2.kw KW
    replace z1 := z1.kw KW
    replace Z1 := Z1.kw KW
    replace p1 := p1.kw KW
    replace z2 := z2.kw KW
    replace Z2 := Z2.kw KW
    replace o1 := o1.kw KW
    replace z3 := z3.kw KW
    replace z4 := z4.kw KW
    replace b0 := b0.far (p := ⟨w.heap.size + 1 + 1, 1, none⟩) (by dsimp only; omega) (.slice Az3 nz3 cz3)
    replace b1 := b1.far (p := ⟨w.heap.size + 1 + 1, 1, none⟩) (by dsimp only; omega) (.slice Az3 nz3 cz3)
    replace r0 := r0.far (p := ⟨w.heap.size + 1 + 1, 1, none⟩) (by dsimp only; omega) (.slice Az3 nz3 cz3)
    replace q0 : Bx 32 ((((W13).setCell ⟨w.heap.size + 1 + 1, 0, none⟩ (.bool (Wd.ngb (q - 1))))).setCell ⟨w.heap.size + 1 + 1, 1, none⟩ (.slice Az3 nz3 cz3)) (w.heap.size + 1 + 1) [.bool (Wd.ngb (q - 1)), .slice Az3 nz3 cz3] := q0.set 1 (.slice Az3 nz3 cz3)
    replace UP := UP.setCell (p := ⟨w.heap.size + 1 + 1, 1, none⟩) (by dsimp only; omega) (.slice Az3 nz3 cz3)
    clear KW
    generalize ((((W13).setCell ⟨w.heap.size + 1 + 1, 0, none⟩ (.bool (Wd.ngb (q - 1))))).setCell ⟨w.heap.size + 1 + 1, 1, none⟩ (.slice Az3 nz3 cz3)) = W14 at *
    clear b0_0 b0_1 b1_0 b1_1 q0_0 q0_1 r0_0 r0_1
    obtain ⟨b0_0, b0_1⟩ := b0.c2
    obtain ⟨b1_0, b1_1⟩ := b1.c2
    obtain ⟨q0_0, q0_1⟩ := q0.c2
    obtain ⟨r0_0, r0_1⟩ := r0.c2
    have KW : Kw (W14) ((W14).setCell ⟨w.heap.size + 1 + 1 + 1, 0, none⟩ (.bool (Wd.ngb (r + y)))) := Kw.store (c := (.bool (Wd.ngb (r + y)))) r0 rfl trivial _
    replace hl := hl.kw KW
    replace hm := hm.kw KW
    replace H1 := H1.kw KW
    replace H2 := H2.kw KW
    replace n1 := n1.kw KW
    replace n2 := n2.kw KW
    replace z1 := z1.kw KW
    replace Z1 := Z1.kw KW
    replace p1 := p1.kw KW
    replace z2 := z2.kw KW
    replace Z2 := Z2.kw KW
    replace o1 := o1.kw KW
    replace z3 := z3.kw KW
    replace z4 := z4.kw KW
    replace b0 := b0.far (p := ⟨w.heap.size + 1 + 1 + 1, 0, none⟩) (by dsimp only; omega) (.bool (Wd.ngb (r + y)))
    replace b1 := b1.far (p := ⟨w.heap.size + 1 + 1 + 1, 0, none⟩) (by dsimp only; omega) (.bool (Wd.ngb (r + y)))
    replace q0 := q0.far (p := ⟨w.heap.size + 1 + 1 + 1, 0, none⟩) (by dsimp only; omega) (.bool (Wd.ngb (r + y)))
    replace r0 : Bx 32 ((W14).setCell ⟨w.heap.size + 1 + 1 + 1, 0, none⟩ (.bool (Wd.ngb (r + y)))) (w.heap.size + 1 + 1 + 1) [.bool (Wd.ngb (r + y)), .slice Az4 nz4 cz4] := r0.set 0 (.bool (Wd.ngb (r + y)))
    replace UP := UP.setCell (p := ⟨w.heap.size + 1 + 1 + 1, 0, none⟩) (by dsimp only; omega) (.bool (Wd.ngb (r + y)))
    have KW : Kw (((W14).setCell ⟨w.heap.size + 1 + 1 + 1, 0, none⟩ (.bool (Wd.ngb (r + y))))) ((((W14).setCell ⟨w.heap.size + 1 + 1 + 1, 0, none⟩ (.bool (Wd.ngb (r + y))))).setCell ⟨w.heap.size + 1 + 1 + 1, 1, none⟩ (.slice Az4 nz4 cz4)) := Kw.store (c := (.slice Az4 nz4 cz4)) r0 rfl trivial _
    replace hl := hl.kw KW
    replace hm := hm.kw KW
    replace H1 := H1.kw KW
    replace H2 := H2.kw KW
    replace n1 := n1.kw KW
    replace n2 := n2.kw KW
    replace z1 := z1.kw KW
    replace Z1 := Z1.kw KW
    replace p1 := p1.kw KW
    replace z2 := z2.kw KW
    replace Z2 := Z2.kw KW
    replace o1 := o1.kw KW
    replace z3 := z3.kw KW
    replace z4 := z4.kw KW
    replace b0 := b0.far (p := ⟨w.heap.size + 1 + 1 + 1, 1, none⟩) (by dsimp only; omega) (.slice Az4 nz4 cz4)
    replace b1 := b1.far (p := ⟨w.heap.size + 1 + 1 + 1, 1, none⟩) (by dsimp only; omega) (.slice Az4 nz4 cz4)
    replace q0 := q0.far (p := ⟨w.heap.size + 1 + 1 + 1, 1, none⟩) (by dsimp only; omega) (.slice Az4 nz4 cz4)
    replace r0 : Bx 32 ((((W14).setCell ⟨w.heap.size + 1 + 1 + 1, 0, none⟩ (.bool (Wd.ngb (r + y))))).setCell ⟨w.heap.size + 1 + 1 + 1, 1, none⟩ (.slice Az4 nz4 cz4)) (w.heap.size + 1 + 1 + 1) [.bool (Wd.ngb (r + y)), .slice Az4 nz4 cz4] := r0.set 1 (.slice Az4 nz4 cz4)
    replace UP := UP.setCell (p := ⟨w.heap.size + 1 + 1 + 1, 1, none⟩) (by dsimp only; omega) (.slice Az4 nz4 cz4)
    clear KW
    generalize ((((W14).setCell ⟨w.heap.size + 1 + 1 + 1, 0, none⟩ (.bool (Wd.ngb (r + y))))).setCell ⟨w.heap.size + 1 + 1 + 1, 1, none⟩ (.slice Az4 nz4 cz4)) = W15 at *
    clear b0_0 b0_1 b1_0 b1_1 q0_0 q0_1 r0_0 r0_1
    obtain ⟨b0_0, b0_1⟩ := b0.c2
    obtain ⟨b1_0, b1_1⟩ := b1.c2
    obtain ⟨q0_0, q0_1⟩ := q0.c2
    obtain ⟨r0_0, r0_1⟩ := r0.c2
    replace hl := hl.up (Up.refl W15).drew
    replace hm := hm.up (Up.refl W15).drew
    replace H1 := H1.up (Up.refl W15).drew
    replace H2 := H2.up (Up.refl W15).drew
    replace n1 := n1.up (Up.refl W15).drew
    replace n2 := n2.up (Up.refl W15).drew
    replace z1 := z1.up (Up.refl W15).drew
    replace Z1 := Z1.up (Up.refl W15).drew
    replace p1 := p1.up (Up.refl W15).drew
    replace z2 := z2.up (Up.refl W15).drew
    replace Z2 := Z2.up (Up.refl W15).drew
    replace o1 := o1.up (Up.refl W15).drew
    replace z3 := z3.up (Up.refl W15).drew
    replace z4 := z4.up (Up.refl W15).drew
    replace b0 := b0.up (Up.refl W15).drew
    replace b1 := b1.up (Up.refl W15).drew
    replace q0 := q0.up (Up.refl W15).drew
    replace r0 := r0.up (Up.refl W15).drew
    replace UP := UP.trans (Up.refl W15).drew
    clear b0_0 b0_1 b1_0 b1_1 q0_0 q0_1 r0_0 r0_1
    obtain ⟨b0_0, b0_1⟩ := b0.c2
    obtain ⟨b1_0, b1_1⟩ := b1.c2
    obtain ⟨q0_0, q0_1⟩ := q0.c2
    obtain ⟨r0_0, r0_1⟩ := r0.c2
    generalize W15.drew = W16 at *
    go_wp2
    exact bodyPost_ret (run_res_cell2_tmp rfl rfl rfl agg_whole size_whole agg_whole size_whole q0 rfl r0 rfl) rfl ⟨_, _, (r + y), rfl, by rw [← HE.out]; exact ⟨_, rfl, z3⟩, ⟨_, rfl, z4⟩, UP⟩
 · have HE := Lib.hid he
   clear he
   rcases Int.lt_or_eq_of_le hpos with h0 | h0
   · have HS : Hid (Wd.sgn r = 1) := Lib.hid (Wd.sgn_pos h0)
     clear h0 hpos
     have UP : Up w ((((w.alloc (.cells #[.bool s, .slice A l.length c] 32)).alloc (.cells #[.bool t, .slice D m.length d] 32)).alloc (.cells #[.bool false, .slice none 0 0] 32)).alloc (.cells #[.bool false, .slice none 0 0] 32)) := ((((Up.refl w).alloc _).alloc _).alloc _).alloc _
     obtain ⟨b0, b1, q0, r0⟩ := bx_four 32 32 32 32 w [.bool s, .slice A l.length c] [.bool t, .slice D m.length d] [.bool false, .slice none 0 0] [.bool false, .slice none 0 0]
     go_enter Tryz.func181, Tryz.ntmps181
     go_wp2_with fail
     generalize ((((w.alloc (.cells #[.bool s, .slice A l.length c] 32)).alloc (.cells #[.bool t, .slice D m.length d] 32)).alloc (.cells #[.bool false, .slice none 0 0] 32)).alloc (.cells #[.bool false, .slice none 0 0] 32)) = W at *
     replace hl := hl.up UP
     replace hm := hm.up UP
     replace H1 := H1.up UP
     replace H2 := H2.up UP
     obtain ⟨b0_0, b0_1⟩ := b0.c2
     obtain ⟨b1_0, b1_1⟩ := b1.c2
     obtain ⟨q0_0, q0_1⟩ := q0.c2
     obtain ⟨r0_0, r0_1⟩ := r0.c2
     go_wp2_with fail
     ((with_reducible refine (quot_div hl hm (by omega) (by omega) HM.out).mono ?_))
     rintro e W1 ⟨V1, V1', rfl, n1, n2, u1⟩
     replace hl := hl.up u1
     replace hm := hm.up u1
     replace H1 := H1.up u1
     replace H2 := H2.up u1
     replace b0 := b0.up u1
     replace b1 := b1.up u1
     replace q0 := q0.up u1
     replace r0 := r0.up u1
     replace UP := UP.trans u1
     clear b0_0 b0_1 b1_0 b1_1 q0_0 q0_1 r0_0 r0_1
     obtain ⟨b0_0, b0_1⟩ := b0.c2
     obtain ⟨b1_0, b1_1⟩ := b1.c2
     obtain ⟨q0_0, q0_1⟩ := q0.c2
     obtain ⟨r0_0, r0_1⟩ := r0.c2
     clear u1
     go_wp2_with fail
     ((with_reducible refine (whole_signed n1 (by omega)).mono ?_))
     rintro e W2 ⟨V2, rfl, z1, u2⟩
     replace hl := hl.up u2
     replace hm := hm.up u2
     replace H1 := H1.up u2
     replace H2 := H2.up u2
     replace n1 := n1.up u2
     replace n2 := n2.up u2
     replace b0 := b0.up u2
     replace b1 := b1.up u2
     replace q0 := q0.up u2
     replace r0 := r0.up u2
     replace UP := UP.trans u2
     clear b0_0 b0_1 b1_0 b1_1 q0_0 q0_1 r0_0 r0_1
     obtain ⟨b0_0, b0_1⟩ := b0.c2
     obtain ⟨b1_0, b1_1⟩ := b1.c2
     obtain ⟨q0_0, q0_1⟩ := q0.c2
     obtain ⟨r0_0, r0_1⟩ := r0.c2
     clear u2
     rw [show Wd.iv (!s == t) (Wd.val l / Wd.val m) = q from HQ.out] at z1
     obtain ⟨Xz1, rfl, z1⟩ := z1
     obtain ⟨Az1, nz1, cz1, rfl⟩ := z1.shape
     have qf0 := q0.free 0
     have qf1 := q0.free 1
     go_wp2_with fail
     clear qf0 qf1
     have KW : Kw (W2) ((W2).setCell ⟨w.heap.size + 1 + 1, 0, none⟩ (.bool (Wd.ngb q))) := Kw.store (c := (.bool false)) q0 rfl trivial _
     replace hl := hl.kw KW
     replace hm := hm.kw KW
     replace H1 := H1.kw KW
     replace H2 := H2.kw KW
     replace n1 := n1.kw KW
     replace n2 := n2.kw KW
     replace z1 := z1.kw KW
     replace b0 := b0.far (p := ⟨w.heap.size + 1 + 1, 0, none⟩) (by dsimp only; omega) (.bool (Wd.ngb q))
     replace b1 := b1.far (p := ⟨w.heap.size + 1 + 1, 0, none⟩) (by dsimp only; omega) (.bool (Wd.ngb q))
     replace r0 := r0.far (p := ⟨w.heap.size + 1 + 1, 0, none⟩) (by dsimp only; omega) (.bool (Wd.ngb q))
     replace q0 : Bx 32 ((W2).setCell ⟨w.heap.size + 1 + 1, 0, none⟩ (.bool (Wd.ngb q))) (w.heap.size + 1 + 1) [.bool (Wd.ngb q), .slice none 0 0] := q0.set 0 (.bool (Wd.ngb q))
     replace UP := UP.setCell (p := ⟨w.heap.size + 1 + 1, 0, none⟩) (by dsimp only; omega) (.bool (Wd.ngb q))
     have KW : Kw (((W2).setCell ⟨w.heap.size + 1 + 1, 0, none⟩ (.bool (Wd.ngb q)))) ((((W2).setCell ⟨w.heap.size + 1 + 1, 0, none⟩ (.bool (Wd.ngb q)))).setCell ⟨w.heap.size + 1 + 1, 1, none⟩ (.slice Az1 nz1 cz1)) := Kw.store (c := (.slice none 0 0)) q0 rfl trivial _
     replace hl := hl.kw KW
     replace hm := hm.kw KW
     replace H1 := H1.kw KW
     replace H2 := H2.kw KW
     replace n1 := n1.kw KW
     replace n2 := n2.kw KW
     replace z1 := z1.kw KW
     replace b0 := b0.far (p := ⟨w.heap.size + 1 + 1, 1, none⟩) (by dsimp only; omega) (.slice Az1 nz1 cz1)
     replace b1 := b1.far (p := ⟨w.heap.size + 1 + 1, 1, none⟩) (by dsimp only; omega) (.slice Az1 nz1 cz1)
     replace r0 := r0.far (p := ⟨w.heap.size + 1 + 1, 1, none⟩) (by dsimp only; omega) (.slice Az1 nz1 cz1)
     replace q0 : Bx 32 ((((W2).setCell ⟨w.heap.size + 1 + 1, 0, none⟩ (.bool (Wd.ngb q)))).setCell ⟨w.heap.size + 1 + 1, 1, none⟩ (.slice Az1 nz1 cz1)) (w.heap.size + 1 + 1) [.bool (Wd.ngb q), .slice Az1 nz1 cz1] := q0.set 1 (.slice Az1 nz1 cz1)
     replace UP := UP.setCell (p := ⟨w.heap.size + 1 + 1, 1, none⟩) (by dsimp only; omega) (.slice Az1 nz1 cz1)
     clear KW
     generalize ((((W2).setCell ⟨w.heap.size + 1 + 1, 0, none⟩ (.bool (Wd.ngb q)))).setCell ⟨w.heap.size + 1 + 1, 1, none⟩ (.slice Az1 nz1 cz1)) = W3 at *
     clear b0_0 b0_1 b1_0 b1_1 q0_0 q0_1 r0_0 r0_1
     obtain ⟨b0_0, b0_1⟩ := b0.c2
     obtain ⟨b1_0, b1_1⟩ := b1.c2
     obtain ⟨q0_0, q0_1⟩ := q0.c2
     obtain ⟨r0_0, r0_1⟩ := r0.c2
     have Z1 : Wh W3 (.agg #[.bool (Wd.ngb q), .slice Az1 nz1 cz1]) q 40000000 := Zw.wh ⟨_, rfl, z1⟩ HQ2
     replace hl := hl.up (Up.refl W3).drew
     replace hm := hm.up (Up.refl W3).drew
     replace H1 := H1.up (Up.refl W3).drew
     replace H2 := H2.up (Up.refl W3).drew
     replace n1 := n1.up (Up.refl W3).drew
     replace n2 := n2.up (Up.refl W3).drew
     replace z1 := z1.up (Up.refl W3).drew
     replace Z1 := Z1.up (Up.refl W3).drew
     replace b0 := b0.up (Up.refl W3).drew
     replace b1 := b1.up (Up.refl W3).drew
     replace q0 := q0.up (Up.refl W3).drew
     replace r0 := r0.up (Up.refl W3).drew
     replace UP := UP.trans (Up.refl W3).drew
     clear b0_0 b0_1 b1_0 b1_1 q0_0 q0_1
     obtain ⟨b0_0, b0_1⟩ := b0.c2
     obtain ⟨b1_0, b1_1⟩ := b1.c2
     obtain ⟨q0_0, q0_1⟩ := q0.c2
     obtain ⟨r0_0, r0_1⟩ := r0.c2
     have r0_f0 := r0.free 0
     have r0_f1 := r0.free 1
     go_region_held3 (fun w' => Up w w' ∧ w'.cell? ⟨w.heap.size, 0, none⟩ = some (.bool s) ∧ w'.cell? ⟨w.heap.size, 1, none⟩ = some (.slice A l.length c) ∧ w'.cell? ⟨w.heap.size + 1, 0, none⟩ = some (.bool t) ∧ w'.cell? ⟨w.heap.size + 1, 1, none⟩ = some (.slice D m.length d) ∧ w'.cell? ⟨w.heap.size + 1 + 1, 0, none⟩ = some (.bool (Wd.ngb q)) ∧ w'.cell? ⟨w.heap.size + 1 + 1, 1, none⟩ = some (.slice Az1 nz1 cz1))
      (first | with_reducible exact ⟨UP, b0_0, b0_1, b1_0, b1_1, q0_0, q0_1⟩ | with_reducible exact ⟨((UP.setCell (p := ⟨w.heap.size + 1 + 1 + 1, 0, none⟩) (by dsimp only; omega) _).setCell (p := ⟨w.heap.size + 1 + 1 + 1, 1, none⟩) (by dsimp only; omega) _), (cell_far_block (cell_far_block b0_0 (by dsimp only; omega)) (by dsimp only; omega)), (cell_far_block (cell_far_block b0_1 (by dsimp only; omega)) (by dsimp only; omega)), (cell_far_block (cell_far_block b1_0 (by dsimp only; omega)) (by dsimp only; omega)), (cell_far_block (cell_far_block b1_1 (by dsimp only; omega)) (by dsimp only; omega)), (cell_far_block (cell_far_block q0_0 (by dsimp only; omega)) (by dsimp only; omega)), (cell_far_block (cell_far_block q0_1 (by dsimp only; omega)) (by dsimp only; omega))⟩ | with_reducible exact ⟨(UP.alloc_drew _), (cell_alloc_drew b0_0), (cell_alloc_drew b0_1), (cell_alloc_drew b1_0), (cell_alloc_drew b1_1), (cell_alloc_drew q0_0), (cell_alloc_drew q0_1)⟩ | with_reducible exact ⟨(UP.alloc2_drew _ _), (cell_alloc2_drew b0_0), (cell_alloc2_drew b0_1), (cell_alloc2_drew b1_0), (cell_alloc2_drew b1_1), (cell_alloc2_drew q0_0), (cell_alloc2_drew q0_1)⟩ | (simp only [← World.setCell_drew]; first | with_reducible exact ⟨((UP.setCell (p := ⟨w.heap.size + 1 + 1 + 1, 0, none⟩) (by dsimp only; omega) _).setCell (p := ⟨w.heap.size + 1 + 1 + 1, 1, none⟩) (by dsimp only; omega) _), (cell_far_block (cell_far_block b0_0 (by dsimp only; omega)) (by dsimp only; omega)), (cell_far_block (cell_far_block b0_1 (by dsimp only; omega)) (by dsimp only; omega)), (cell_far_block (cell_far_block b1_0 (by dsimp only; omega)) (by dsimp only; omega)), (cell_far_block (cell_far_block b1_1 (by dsimp only; omega)) (by dsimp only; omega)), (cell_far_block (cell_far_block q0_0 (by dsimp only; omega)) (by dsimp only; omega)), (cell_far_block (cell_far_block q0_1 (by dsimp only; omega)) (by dsimp only; omega))⟩) | go_keep)
      ((first
        | (go_at_call 152
           ((with_reducible refine (whole_mul Z1 H2 (by omega) (by omega)).mono ?_))
           rintro e W4 ⟨V4, rfl, p1, u4⟩
           replace hl := hl.up u4
           replace hm := hm.up u4
           replace H1 := H1.up u4
           replace H2 := H2.up u4
           replace n1 := n1.up u4
           replace n2 := n2.up u4
           replace z1 := z1.up u4
           replace Z1 := Z1.up u4
           try (replace p1 := p1.up u4)
           try (replace z2 := z2.up u4)
           replace b0 := b0.up u4
           replace b1 := b1.up u4
           replace q0 := q0.up u4
           replace r0 := r0.up u4
           replace UP := UP.trans u4
           clear b0_0 b0_1 b1_0 b1_1 q0_0 q0_1 r0_0 r0_1
           obtain ⟨b0_0, b0_1⟩ := b0.c2
           obtain ⟨b1_0, b1_1⟩ := b1.c2
           obtain ⟨q0_0, q0_1⟩ := q0.c2
           obtain ⟨r0_0, r0_1⟩ := r0.c2
           replace r0_f0 := r0.free 0
           replace r0_f1 := r0.free 1
           clear u4)
        | (go_at_call 155
           ((with_reducible refine (whole_sub H1 (p1.wh LQY) (by omega) (by omega)).mono ?_))
           rintro e W5 ⟨V5, rfl, z2, u5⟩
           replace hl := hl.up u5
           replace hm := hm.up u5
           replace H1 := H1.up u5
           replace H2 := H2.up u5
           replace n1 := n1.up u5
           replace n2 := n2.up u5
           replace z1 := z1.up u5
           replace Z1 := Z1.up u5
           try (replace p1 := p1.up u5)
           try (replace z2 := z2.up u5)
           replace b0 := b0.up u5
           replace b1 := b1.up u5
           replace q0 := q0.up u5
           replace r0 := r0.up u5
           replace UP := UP.trans u5
           clear b0_0 b0_1 b1_0 b1_1 q0_0 q0_1 r0_0 r0_1
           obtain ⟨b0_0, b0_1⟩ := b0.c2
           obtain ⟨b1_0, b1_1⟩ := b1.c2
           obtain ⟨q0_0, q0_1⟩ := q0.c2
           obtain ⟨r0_0, r0_1⟩ := r0.c2
           replace r0_f0 := r0.free 0
           replace r0_f1 := r0.free 1
           clear u5
           rw [HR.out] at z2
           obtain ⟨Xz2, rfl, z2⟩ := z2
           obtain ⟨Az2, nz2, cz2, rfl⟩ := z2.shape)))
     go_wp2_with fail
     clear r0_f0 r0_f1
     have KW : Kw (W5) ((W5).setCell ⟨w.heap.size + 1 + 1 + 1, 0, none⟩ (.bool (Wd.ngb r))) := Kw.store (c := (.bool false)) r0 rfl trivial _
     replace hl := hl.kw KW
     replace hm := hm.kw KW
     replace H1 := H1.kw KW
     replace H2 := H2.kw KW
     replace n1 := n1.kw KW
     replace n2 := n2.kw KW
     replace z1 := z1.kw KW
     replace Z1 := Z1.kw KW
     replace p1 := p1.kw KW
     replace z2 := z2.kw KW
     replace b0 := b0.far (p := ⟨w.heap.size + 1 + 1 + 1, 0, none⟩) (by dsimp only; omega) (.bool (Wd.ngb r))
     replace b1 := b1.far (p := ⟨w.heap.size + 1 + 1 + 1, 0, none⟩) (by dsimp only; omega) (.bool (Wd.ngb r))
     replace q0 := q0.far (p := ⟨w.heap.size + 1 + 1 + 1, 0, none⟩) (by dsimp only; omega) (.bool (Wd.ngb r))
     replace r0 : Bx 32 ((W5).setCell ⟨w.heap.size + 1 + 1 + 1, 0, none⟩ (.bool (Wd.ngb r))) (w.heap.size + 1 + 1 + 1) [.bool (Wd.ngb r), .slice none 0 0] := r0.set 0 (.bool (Wd.ngb r))
     replace UP := UP.setCell (p := ⟨w.heap.size + 1 + 1 + 1, 0, none⟩) (by dsimp only; omega) (.bool (Wd.ngb r))
     have KW : Kw (((W5).setCell ⟨w.heap.size + 1 + 1 + 1, 0, none⟩ (.bool (Wd.ngb r)))) ((((W5).setCell ⟨w.heap.size + 1 + 1 + 1, 0, none⟩ (.bool (Wd.ngb r)))).setCell ⟨w.heap.size + 1 + 1 + 1, 1, none⟩ (.slice Az2 nz2 cz2)) := Kw.store (c := (.slice none 0 0)) r0 rfl trivial _
     replace hl := hl.kw KW
     replace hm := hm.kw KW
     replace H1 := H1.kw KW
     replace H2 := H2.kw KW
     replace n1 := n1.kw KW
     replace n2 := n2.kw KW
     replace z1 := z1.kw KW
     replace Z1 := Z1.kw KW
     replace p1 := p1.kw KW
     replace z2 := z2.kw KW
     replace b0 := b0.far (p := ⟨w.heap.size + 1 + 1 + 1, 1, none⟩) (by dsimp only; omega) (.slice Az2 nz2 cz2)
     replace b1 := b1.far (p := ⟨w.heap.size + 1 + 1 + 1, 1, none⟩) (by dsimp only; omega) (.slice Az2 nz2 cz2)
     replace q0 := q0.far (p := ⟨w.heap.size + 1 + 1 + 1, 1, none⟩) (by dsimp only; omega) (.slice Az2 nz2 cz2)
     replace r0 : Bx 32 ((((W5).setCell ⟨w.heap.size + 1 + 1 + 1, 0, none⟩ (.bool (Wd.ngb r)))).setCell ⟨w.heap.size + 1 + 1 + 1, 1, none⟩ (.slice Az2 nz2 cz2)) (w.heap.size + 1 + 1 + 1) [.bool (Wd.ngb r), .slice Az2 nz2 cz2] := r0.set 1 (.slice Az2 nz2 cz2)
     replace UP := UP.setCell (p := ⟨w.heap.size + 1 + 1 + 1, 1, none⟩) (by dsimp only; omega) (.slice Az2 nz2 cz2)
     clear KW
     generalize ((((W5).setCell ⟨w.heap.size + 1 + 1 + 1, 0, none⟩ (.bool (Wd.ngb r)))).setCell ⟨w.heap.size + 1 + 1 + 1, 1, none⟩ (.slice Az2 nz2 cz2)) = W6 at *
     clear b0_0 b0_1 b1_0 b1_1 q0_0 q0_1 r0_0 r0_1
     obtain ⟨b0_0, b0_1⟩ := b0.c2
     obtain ⟨b1_0, b1_1⟩ := b1.c2
     obtain ⟨q0_0, q0_1⟩ := q0.c2
     obtain ⟨r0_0, r0_1⟩ := r0.c2
     have Z2 : Wh W6 (.agg #[.bool (Wd.ngb r), .slice Az2 nz2 cz2]) r 90000000 := Zw.wh ⟨_, rfl, z2⟩ (LR.mono (by omega))
     replace hl := hl.up (Up.refl W6).drew
     replace hm := hm.up (Up.refl W6).drew
     replace H1 := H1.up (Up.refl W6).drew
     replace H2 := H2.up (Up.refl W6).drew
     replace n1 := n1.up (Up.refl W6).drew
     replace n2 := n2.up (Up.refl W6).drew
     replace z1 := z1.up (Up.refl W6).drew
     replace Z1 := Z1.up (Up.refl W6).drew
     replace p1 := p1.up (Up.refl W6).drew
     replace z2 := z2.up (Up.refl W6).drew
     replace Z2 := Z2.up (Up.refl W6).drew
     replace b0 := b0.up (Up.refl W6).drew
     replace b1 := b1.up (Up.refl W6).drew
     replace q0 := q0.up (Up.refl W6).drew
     replace r0 := r0.up (Up.refl W6).drew
     replace UP := UP.trans (Up.refl W6).drew
     clear b0_0 b0_1 b1_0 b1_1 q0_0 q0_1 r0_0 r0_1
     obtain ⟨b0_0, b0_1⟩ := b0.c2
     obtain ⟨b1_0, b1_1⟩ := b1.c2
     obtain ⟨q0_0, q0_1⟩ := q0.c2
     obtain ⟨r0_0, r0_1⟩ := r0.c2
     go_region_held3 (fun w' => Up w w' ∧ w'.cell? ⟨w.heap.size, 0, none⟩ = some (.bool s) ∧ w'.cell? ⟨w.heap.size, 1, none⟩ = some (.slice A l.length c) ∧ w'.cell? ⟨w.heap.size + 1, 0, none⟩ = some (.bool t) ∧ w'.cell? ⟨w.heap.size + 1, 1, none⟩ = some (.slice D m.length d) ∧ w'.cell? ⟨w.heap.size + 1 + 1, 0, none⟩ = some (.bool (Wd.ngb q)) ∧ w'.cell? ⟨w.heap.size + 1 + 1, 1, none⟩ = some (.slice Az1 nz1 cz1) ∧ w'.cell? ⟨w.heap.size + 1 + 1 + 1, 0, none⟩ = some (.bool (Wd.ngb r)) ∧ w'.cell? ⟨w.heap.size + 1 + 1 + 1, 1, none⟩ = some (.slice Az2 nz2 cz2))
      (first | with_reducible exact ⟨UP, b0_0, b0_1, b1_0, b1_1, q0_0, q0_1, r0_0, r0_1⟩ | with_reducible exact ⟨(UP.alloc_drew _), (cell_alloc_drew b0_0), (cell_alloc_drew b0_1), (cell_alloc_drew b1_0), (cell_alloc_drew b1_1), (cell_alloc_drew q0_0), (cell_alloc_drew q0_1), (cell_alloc_drew r0_0), (cell_alloc_drew r0_1)⟩ | with_reducible exact ⟨(UP.alloc2_drew _ _), (cell_alloc2_drew b0_0), (cell_alloc2_drew b0_1), (cell_alloc2_drew b1_0), (cell_alloc2_drew b1_1), (cell_alloc2_drew q0_0), (cell_alloc2_drew q0_1), (cell_alloc2_drew r0_0), (cell_alloc2_drew r0_1)⟩ | go_keep)
      ((first
        | (go_at_call 140
           ((with_reducible refine (whole_sign Z2 (by omega)).mono ?_))
           rintro e W7 ⟨rfl, u7⟩
           replace hl := hl.up u7
           replace hm := hm.up u7
           replace H1 := H1.up u7
           replace H2 := H2.up u7
           replace n1 := n1.up u7
           replace n2 := n2.up u7
           replace z1 := z1.up u7
           replace Z1 := Z1.up u7
           replace p1 := p1.up u7
           replace z2 := z2.up u7
           replace Z2 := Z2.up u7
           replace b0 := b0.up u7
           replace b1 := b1.up u7
           replace q0 := q0.up u7
           replace r0 := r0.up u7
           replace UP := UP.trans u7
           clear b0_0 b0_1 b1_0 b1_1 q0_0 q0_1 r0_0 r0_1
           obtain ⟨b0_0, b0_1⟩ := b0.c2
           obtain ⟨b1_0, b1_1⟩ := b1.c2
           obtain ⟨q0_0, q0_1⟩ := q0.c2
           obtain ⟨r0_0, r0_1⟩ := r0.c2
           clear u7
           rw [HS.out])
        | (go_at_call 140
           ((with_reducible refine (whole_sign H2 (by omega)).mono ?_))
           rintro e W8 ⟨rfl, u8⟩
           replace hl := hl.up u8
           replace hm := hm.up u8
           replace H1 := H1.up u8
           replace H2 := H2.up u8
           replace n1 := n1.up u8
           replace n2 := n2.up u8
           replace z1 := z1.up u8
           replace Z1 := Z1.up u8
           replace p1 := p1.up u8
           replace z2 := z2.up u8
           replace Z2 := Z2.up u8
           replace b0 := b0.up u8
           replace b1 := b1.up u8
           replace q0 := q0.up u8
           replace r0 := r0.up u8
           replace UP := UP.trans u8
           clear b0_0 b0_1 b1_0 b1_1 q0_0 q0_1 r0_0 r0_1
           obtain ⟨b0_0, b0_1⟩ := b0.c2
           obtain ⟨b1_0, b1_1⟩ := b1.c2
           obtain ⟨q0_0, q0_1⟩ := q0.c2
           obtain ⟨r0_0, r0_1⟩ := r0.c2
           clear u8
           rw [HY.out])))
     go_wp2_with fail
     have g0 := q0.free 0
     have g1 := q0.free 1
     have g2 := r0.free 0
     have g3 := r0.free 1
     go_region
     clear g0 g1 g2 g3
     have KW : Kw (W8) ((W8).setCell ⟨w.heap.size + 1 + 1, 0, none⟩ (.bool (Wd.ngb q))) := Kw.store (c := (.bool (Wd.ngb q))) q0 rfl trivial _
     replace hl := hl.kw KW
     replace hm := hm.kw KW
     replace H1 := H1.kw KW
     replace H2 := H2.kw KW
     replace n1 := n1.kw KW
     replace n2 := n2.kw KW
     replace z1 := z1.kw KW
     replace Z1 := Z1.kw KW
     replace p1 := p1.kw KW
     replace z2 := z2.kw KW
     replace Z2 := Z2.kw KW
     replace b0 := b0.far (p := ⟨w.heap.size + 1 + 1, 0, none⟩) (by dsimp only; omega) (.bool (Wd.ngb q))
     replace b1 := b1.far (p := ⟨w.heap.size + 1 + 1, 0, none⟩) (by dsimp only; omega) (.bool (Wd.ngb q))
     replace r0 := r0.far (p := ⟨w.heap.size + 1 + 1, 0, none⟩) (by dsimp only; omega) (.bool (Wd.ngb q))
     replace q0 : Bx 32 ((W8).setCell ⟨w.heap.size + 1 + 1, 0, none⟩ (.bool (Wd.ngb q))) (w.heap.size + 1 + 1) [.bool (Wd.ngb q), .slice Az1 nz1 cz1] := q0.set 0 (.bool (Wd.ngb q))
     replace UP := UP.setCell (p := ⟨w.heap.size + 1 + 1, 0, none⟩) (by dsimp only; omega) (.bool (Wd.ngb q))
     have KW : Kw (((W8).setCell ⟨w.heap.size + 1 + 1, 0, none⟩ (.bool (Wd.ngb q)))) ((((W8).setCell ⟨w.heap.size + 1 + 1, 0, none⟩ (.bool (Wd.ngb q)))).setCell ⟨w.heap.size + 1 + 1, 1, none⟩ (.slice Az1 nz1 cz1)) := Kw.store (c := (.slice Az1 nz1 cz1)) q0 rfl trivial _
     replace hl := hl.kw KW
     replace hm := hm.kw KW
     replace H1 := H1.kw KW
     replace H2 := H2.kw KW
     replace n1 := n1.kw KW
     replace n2 := n2.kw KW
     replace z1 := z1.kw KW
     replace Z1 := Z1.kw KW
     replace p1 := p1.kw KW
     replace z2 := z2.kw KW
     replace Z2 := Z2.kw KW
     replace b0 := b0.far (p := ⟨w.heap.size + 1 + 1, 1, none⟩) (by dsimp only; omega) (.slice Az1 nz1 cz1)
     replace b1 := b1.far (p := ⟨w.heap.size + 1 + 1, 1, none⟩) (by dsimp only; omega) (.slice Az1 nz1 cz1)
     replace r0 := r0.far (p := ⟨w.heap.size + 1 + 1, 1, none⟩) (by dsimp only; omega) (.slice Az1 nz1 cz1)
     replace q0 : Bx 32 ((((W8).setCell ⟨w.heap.size + 1 + 1, 0, none⟩ (.bool (Wd.ngb q)))).setCell ⟨w.heap.size + 1 + 1, 1, none⟩ (.slice Az1 nz1 cz1)) (w.heap.size + 1 + 1) [.bool (Wd.ngb q), .slice Az1 nz1 cz1] := q0.set 1 (.slice Az1 nz1 cz1)
     replace UP := UP.setCell (p := ⟨w.heap.size + 1 + 1, 1, none⟩) (by dsimp only; omega) (.slice Az1 nz1 cz1)
     clear KW
     generalize ((((W8).setCell ⟨w.heap.size + 1 + 1, 0, none⟩ (.bool (Wd.ngb q)))).setCell ⟨w.heap.size + 1 + 1, 1, none⟩ (.slice Az1 nz1 cz1)) = W9 at *
     clear b0_0 b0_1 b1_0 b1_1 q0_0 q0_1 r0_0 r0_1
     obtain ⟨b0_0, b0_1⟩ := b0.c2
     obtain ⟨b1_0, b1_1⟩ := b1.c2
     obtain ⟨q0_0, q0_1⟩ := q0.c2
     obtain ⟨r0_0, r0_1⟩ := r0.c2
     have KW : Kw (W9) ((W9).setCell ⟨w.heap.size + 1 + 1 + 1, 0, none⟩ (.bool (Wd.ngb r))) := Kw.store (c := (.bool (Wd.ngb r))) r0 rfl trivial _
     replace hl := hl.kw KW
     replace hm := hm.kw KW
     replace H1 := H1.kw KW
     replace H2 := H2.kw KW
     replace n1 := n1.kw KW
     replace n2 := n2.kw KW
     replace z1 := z1.kw KW
     replace Z1 := Z1.kw KW
     replace p1 := p1.kw KW
     replace z2 := z2.kw KW
     replace Z2 := Z2.kw KW
     replace b0 := b0.far (p := ⟨w.heap.size + 1 + 1 + 1, 0, none⟩) (by dsimp only; omega) (.bool (Wd.ngb r))
     replace b1 := b1.far (p := ⟨w.heap.size + 1 + 1 + 1, 0, none⟩) (by dsimp only; omega) (.bool (Wd.ngb r))
     replace q0 := q0.far (p := ⟨w.heap.size + 1 + 1 + 1, 0, none⟩) (by dsimp only; omega) (.bool (Wd.ngb r))
     replace r0 : Bx 32 ((W9).setCell ⟨w.heap.size + 1 + 1 + 1, 0, none⟩ (.bool (Wd.ngb r))) (w.heap.size + 1 + 1 + 1) [.bool (Wd.ngb r), .slice Az2 nz2 cz2] := r0.set 0 (.bool (Wd.ngb r))
     replace UP := UP.setCell (p := ⟨w.heap.size + 1 + 1 + 1, 0, none⟩) (by dsimp only; omega) (.bool (Wd.ngb r))
     have KW : Kw (((W9).setCell ⟨w.heap.size + 1 + 1 + 1, 0, none⟩ (.bool (Wd.ngb r)))) ((((W9).setCell ⟨w.heap.size + 1 + 1 + 1, 0, none⟩ (.bool (Wd.ngb r)))).setCell ⟨w.heap.size + 1 + 1 + 1, 1, none⟩ (.slice Az2 nz2 cz2)) := Kw.store (c := (.slice Az2 nz2 cz2)) r0 rfl trivial _
     replace hl := hl.kw KW
     replace hm := hm.kw KW
     replace H1 := H1.kw KW
     replace H2 := H2.kw KW
     replace n1 := n1.kw KW
     replace n2 := n2.kw KW
     replace z1 := z1.kw KW
     replace Z1 := Z1.kw KW
     replace p1 := p1.kw KW
     replace z2 := z2.kw KW
     replace Z2 := Z2.kw KW
     replace b0 := b0.far (p := ⟨w.heap.size + 1 + 1 + 1, 1, none⟩) (by dsimp only; omega) (.slice Az2 nz2 cz2)
     replace b1 := b1.far (p := ⟨w.heap.size + 1 + 1 + 1, 1, none⟩) (by dsimp only; omega) (.slice Az2 nz2 cz2)
     replace q0 := q0.far (p := ⟨w.heap.size + 1 + 1 + 1, 1, none⟩) (by dsimp only; omega) (.slice Az2 nz2 cz2)
     replace r0 : Bx 32 ((((W9).setCell ⟨w.heap.size + 1 + 1 + 1, 0, none⟩ (.bool (Wd.ngb r)))).setCell ⟨w.heap.size + 1 + 1 + 1, 1, none⟩ (.slice Az2 nz2 cz2)) (w.heap.size + 1 + 1 + 1) [.bool (Wd.ngb r), .slice Az2 nz2 cz2] := r0.set 1 (.slice Az2 nz2 cz2)
     replace UP := UP.setCell (p := ⟨w.heap.size + 1 + 1 + 1, 1, none⟩) (by dsimp only; omega) (.slice Az2 nz2 cz2)
     clear KW
     generalize ((((W9).setCell ⟨w.heap.size + 1 + 1 + 1, 0, none⟩ (.bool (Wd.ngb r)))).setCell ⟨w.heap.size + 1 + 1 + 1, 1, none⟩ (.slice Az2 nz2 cz2)) = W10 at *
     clear b0_0 b0_1 b1_0 b1_1 q0_0 q0_1 r0_0 r0_1
     obtain ⟨b0_0, b0_1⟩ := b0.c2
     obtain ⟨b1_0, b1_1⟩ := b1.c2
     obtain ⟨q0_0, q0_1⟩ := q0.c2
     obtain ⟨r0_0, r0_1⟩ := r0.c2
     replace hl := hl.up (Up.refl W10).drew
     replace hm := hm.up (Up.refl W10).drew
     replace H1 := H1.up (Up.refl W10).drew
     replace H2 := H2.up (Up.refl W10).drew
     replace n1 := n1.up (Up.refl W10).drew
     replace n2 := n2.up (Up.refl W10).drew
     replace z1 := z1.up (Up.refl W10).drew
     replace Z1 := Z1.up (Up.refl W10).drew
     replace p1 := p1.up (Up.refl W10).drew
     replace z2 := z2.up (Up.refl W10).drew
     replace Z2 := Z2.up (Up.refl W10).drew
     replace b0 := b0.up (Up.refl W10).drew
     replace b1 := b1.up (Up.refl W10).drew
     replace q0 := q0.up (Up.refl W10).drew
     replace r0 := r0.up (Up.refl W10).drew
     replace UP := UP.trans (Up.refl W10).drew
     clear b0_0 b0_1 b1_0 b1_1 q0_0 q0_1 r0_0 r0_1
     obtain ⟨b0_0, b0_1⟩ := b0.c2
     obtain ⟨b1_0, b1_1⟩ := b1.c2
     obtain ⟨q0_0, q0_1⟩ := q0.c2
     obtain ⟨r0_0, r0_1⟩ := r0.c2
     generalize W10.drew = W11 at *
     go_wp2
     exact bodyPost_ret (run_res_cell2_tmp rfl rfl rfl agg_whole size_whole agg_whole size_whole q0 rfl r0 rfl) rfl ⟨_, _, r, rfl, by rw [← HE.out]; exact ⟨_, rfl, z1⟩, ⟨_, rfl, z2⟩, UP⟩
   · have HS : Hid (Wd.sgn r = 0) := Lib.hid (by rw [← h0]; rfl)
     clear h0 hpos
     have UP : Up w ((((w.alloc (.cells #[.bool s, .slice A l.length c] 32)).alloc (.cells #[.bool t, .slice D m.length d] 32)).alloc (.cells #[.bool false, .slice none 0 0] 32)).alloc (.cells #[.bool false, .slice none 0 0] 32)) := ((((Up.refl w).alloc _).alloc _).alloc _).alloc _
     obtain ⟨b0, b1, q0, r0⟩ := bx_four 32 32 32 32 w [.bool s, .slice A l.length c] [.bool t, .slice D m.length d] [.bool false, .slice none 0 0] [.bool false, .slice none 0 0]
     go_enter Tryz.func181, Tryz.ntmps181
     go_wp2_with fail
     generalize ((((w.alloc (.cells #[.bool s, .slice A l.length c] 32)).alloc (.cells #[.bool t, .slice D m.length d] 32)).alloc (.cells #[.bool false, .slice none 0 0] 32)).alloc (.cells #[.bool false, .slice none 0 0] 32)) = W at *
     replace hl := hl.up UP
     replace hm := hm.up UP
     replace H1 := H1.up UP
     replace H2 := H2.up UP
     obtain ⟨b0_0, b0_1⟩ := b0.c2
     obtain ⟨b1_0, b1_1⟩ := b1.c2
     obtain ⟨q0_0, q0_1⟩ := q0.c2
     obtain ⟨r0_0, r0_1⟩ := r0.c2
     go_wp2_with fail
     ((with_reducible refine (quot_div hl hm (by omega) (by omega) HM.out).mono ?_))
     rintro e W1 ⟨V1, V1', rfl, n1, n2, u1⟩
     replace hl := hl.up u1
     replace hm := hm.up u1
     replace H1 := H1.up u1
     replace H2 := H2.up u1
     replace b0 := b0.up u1
     replace b1 := b1.up u1
     replace q0 := q0.up u1
     replace r0 := r0.up u1
     replace UP := UP.trans u1
     clear b0_0 b0_1 b1_0 b1_1 q0_0 q0_1 r0_0 r0_1
     obtain ⟨b0_0, b0_1⟩ := b0.c2
     obtain ⟨b1_0, b1_1⟩ := b1.c2
     obtain ⟨q0_0, q0_1⟩ := q0.c2
     obtain ⟨r0_0, r0_1⟩ := r0.c2
     clear u1
     go_wp2_with fail
     ((with_reducible refine (whole_signed n1 (by omega)).mono ?_))
     rintro e W2 ⟨V2, rfl, z1, u2⟩
     replace hl := hl.up u2
     replace hm := hm.up u2
     replace H1 := H1.up u2
     replace H2 := H2.up u2
     replace n1 := n1.up u2
     replace n2 := n2.up u2
     replace b0 := b0.up u2
     replace b1 := b1.up u2
     replace q0 := q0.up u2
     replace r0 := r0.up u2
     replace UP := UP.trans u2
     clear b0_0 b0_1 b1_0 b1_1 q0_0 q0_1 r0_0 r0_1
     obtain ⟨b0_0, b0_1⟩ := b0.c2
     obtain ⟨b1_0, b1_1⟩ := b1.c2
     obtain ⟨q0_0, q0_1⟩ := q0.c2
     obtain ⟨r0_0, r0_1⟩ := r0.c2
     clear u2
     rw [show Wd.iv (!s == t) (Wd.val l / Wd.val m) = q from HQ.out] at z1
     obtain ⟨Xz1, rfl, z1⟩ := z1
     obtain ⟨Az1, nz1, cz1, rfl⟩ := z1.shape
     have qf0 := q0.free 0
     have qf1 := q0.free 1
     go_wp2_with fail
     clear qf0 qf1
     have KW : Kw (W2) ((W2).setCell ⟨w.heap.size + 1 + 1, 0, none⟩ (.bool (Wd.ngb q))) := Kw.store (c := (.bool false)) q0 rfl trivial _
     replace hl := hl.kw KW
     replace hm := hm.kw KW
     replace H1 := H1.kw KW
     replace H2 := H2.kw KW
     replace n1 := n1.kw KW
     replace n2 := n2.kw KW
     replace z1 := z1.kw KW
     replace b0 := b0.far (p := ⟨w.heap.size + 1 + 1, 0, none⟩) (by dsimp only; omega) (.bool (Wd.ngb q))
     replace b1 := b1.far (p := ⟨w.heap.size + 1 + 1, 0, none⟩) (by dsimp only; omega) (.bool (Wd.ngb q))
     replace r0 := r0.far (p := ⟨w.heap.size + 1 + 1, 0, none⟩) (by dsimp only; omega) (.bool (Wd.ngb q))
     replace q0 : Bx 32 ((W2).setCell ⟨w.heap.size + 1 + 1, 0, none⟩ (.bool (Wd.ngb q))) (w.heap.size + 1 + 1) [.bool (Wd.ngb q), .slice none 0 0] := q0.set 0 (.bool (Wd.ngb q))
     replace UP := UP.setCell (p := ⟨w.heap.size + 1 + 1, 0, none⟩) (by dsimp only; omega) (.bool (Wd.ngb q))
     have KW : Kw (((W2).setCell ⟨w.heap.size + 1 + 1, 0, none⟩ (.bool (Wd.ngb q)))) ((((W2).setCell ⟨w.heap.size + 1 + 1, 0, none⟩ (.bool (Wd.ngb q)))).setCell ⟨w.heap.size + 1 + 1, 1, none⟩ (.slice Az1 nz1 cz1)) := Kw.store (c := (.slice none 0 0)) q0 rfl trivial _
     replace hl := hl.kw KW
     replace hm := hm.kw KW
     replace H1 := H1.kw KW
     replace H2 := H2.kw KW
     replace n1 := n1.kw KW
     replace n2 := n2.kw KW
     replace z1 := z1.kw KW
     replace b0 := b0.far (p := ⟨w.heap.size + 1 + 1, 1, none⟩) (by dsimp only; omega) (.slice Az1 nz1 cz1)
     replace b1 := b1.far (p := ⟨w.heap.size + 1 + 1, 1, none⟩) (by dsimp only; omega) (.slice Az1 nz1 cz1)
     replace r0 := r0.far (p := ⟨w.heap.size + 1 + 1, 1, none⟩) (by dsimp only; omega) (.slice Az1 nz1 cz1)
     replace q0 : Bx 32 ((((W2).setCell ⟨w.heap.size + 1 + 1, 0, none⟩ (.bool (Wd.ngb q)))).setCell ⟨w.heap.size + 1 + 1, 1, none⟩ (.slice Az1 nz1 cz1)) (w.heap.size + 1 + 1) [.bool (Wd.ngb q), .slice Az1 nz1 cz1] := q0.set 1 (.slice Az1 nz1 cz1)
     replace UP := UP.setCell (p := ⟨w.heap.size + 1 + 1, 1, none⟩) (by dsimp only; omega) (.slice Az1 nz1 cz1)
     clear KW
     generalize ((((W2).setCell ⟨w.heap.size + 1 + 1, 0, none⟩ (.bool (Wd.ngb q)))).setCell ⟨w.heap.size + 1 + 1, 1, none⟩ (.slice Az1 nz1 cz1)) = W3 at *
     clear b0_0 b0_1 b1_0 b1_1 q0_0 q0_1 r0_0 r0_1
     obtain ⟨b0_0, b0_1⟩ := b0.c2
     obtain ⟨b1_0, b1_1⟩ := b1.c2
     obtain ⟨q0_0, q0_1⟩ := q0.c2
     obtain ⟨r0_0, r0_1⟩ := r0.c2
     have Z1 : Wh W3 (.agg #[.bool (Wd.ngb q), .slice Az1 nz1 cz1]) q 40000000 := Zw.wh ⟨_, rfl, z1⟩ HQ2
     replace hl := hl.up (Up.refl W3).drew
     replace hm := hm.up (Up.refl W3).drew
     replace H1 := H1.up (Up.refl W3).drew
     replace H2 := H2.up (Up.refl W3).drew
     replace n1 := n1.up (Up.refl W3).drew
     replace n2 := n2.up (Up.refl W3).drew
     replace z1 := z1.up (Up.refl W3).drew
     replace Z1 := Z1.up (Up.refl W3).drew
     replace b0 := b0.up (Up.refl W3).drew
     replace b1 := b1.up (Up.refl W3).drew
     replace q0 := q0.up (Up.refl W3).drew
     replace r0 := r0.up (Up.refl W3).drew
     replace UP := UP.trans (Up.refl W3).drew
     clear b0_0 b0_1 b1_0 b1_1 q0_0 q0_1
     obtain ⟨b0_0, b0_1⟩ := b0.c2
     obtain ⟨b1_0, b1_1⟩ := b1.c2
     obtain ⟨q0_0, q0_1⟩ := q0.c2
     obtain ⟨r0_0, r0_1⟩ := r0.c2
     have r0_f0 := r0.free 0
     have r0_f1 := r0.free 1
     go_region_held3 (fun w' => Up w w' ∧ w'.cell? ⟨w.heap.size, 0, none⟩ = some (.bool s) ∧ w'.cell? ⟨w.heap.size, 1, none⟩ = some (.slice A l.length c) ∧ w'.cell? ⟨w.heap.size + 1, 0, none⟩ = some (.bool t) ∧ w'.cell? ⟨w.heap.size + 1, 1, none⟩ = some (.slice D m.length d) ∧ w'.cell? ⟨w.heap.size + 1 + 1, 0, none⟩ = some (.bool (Wd.ngb q)) ∧ w'.cell? ⟨w.heap.size + 1 + 1, 1, none⟩ = some (.slice Az1 nz1 cz1))
      (first | with_reducible exact ⟨UP, b0_0, b0_1, b1_0, b1_1, q0_0, q0_1⟩ | with_reducible exact ⟨((UP.setCell (p := ⟨w.heap.size + 1 + 1 + 1, 0, none⟩) (by dsimp only; omega) _).setCell (p := ⟨w.heap.size + 1 + 1 + 1, 1, none⟩) (by dsimp only; omega) _), (cell_far_block (cell_far_block b0_0 (by dsimp only; omega)) (by dsimp only; omega)), (cell_far_block (cell_far_block b0_1 (by dsimp only; omega)) (by dsimp only; omega)), (cell_far_block (cell_far_block b1_0 (by dsimp only; omega)) (by dsimp only; omega)), (cell_far_block (cell_far_block b1_1 (by dsimp only; omega)) (by dsimp only; omega)), (cell_far_block (cell_far_block q0_0 (by dsimp only; omega)) (by dsimp only; omega)), (cell_far_block (cell_far_block q0_1 (by dsimp only; omega)) (by dsimp only; omega))⟩ | with_reducible exact ⟨(UP.alloc_drew _), (cell_alloc_drew b0_0), (cell_alloc_drew b0_1), (cell_alloc_drew b1_0), (cell_alloc_drew b1_1), (cell_alloc_drew q0_0), (cell_alloc_drew q0_1)⟩ | with_reducible exact ⟨(UP.alloc2_drew _ _), (cell_alloc2_drew b0_0), (cell_alloc2_drew b0_1), (cell_alloc2_drew b1_0), (cell_alloc2_drew b1_1), (cell_alloc2_drew q0_0), (cell_alloc2_drew q0_1)⟩ | (simp only [← World.setCell_drew]; first | with_reducible exact ⟨((UP.setCell (p := ⟨w.heap.size + 1 + 1 + 1, 0, none⟩) (by dsimp only; omega) _).setCell (p := ⟨w.heap.size + 1 + 1 + 1, 1, none⟩) (by dsimp only; omega) _), (cell_far_block (cell_far_block b0_0 (by dsimp only; omega)) (by dsimp only; omega)), (cell_far_block (cell_far_block b0_1 (by dsimp only; omega)) (by dsimp only; omega)), (cell_far_block (cell_far_block b1_0 (by dsimp only; omega)) (by dsimp only; omega)), (cell_far_block (cell_far_block b1_1 (by dsimp only; omega)) (by dsimp only; omega)), (cell_far_block (cell_far_block q0_0 (by dsimp only; omega)) (by dsimp only; omega)), (cell_far_block (cell_far_block q0_1 (by dsimp only; omega)) (by dsimp only; omega))⟩) | go_keep)
      ((first
        | (go_at_call 152
           ((with_reducible refine (whole_mul Z1 H2 (by omega) (by omega)).mono ?_))
           rintro e W4 ⟨V4, rfl, p1, u4⟩
           replace hl := hl.up u4
           replace hm := hm.up u4
           replace H1 := H1.up u4
           replace H2 := H2.up u4
           replace n1 := n1.up u4
           replace n2 := n2.up u4
           replace z1 := z1.up u4
           replace Z1 := Z1.up u4
           try (replace p1 := p1.up u4)
           try (replace z2 := z2.up u4)
           replace b0 := b0.up u4
           replace b1 := b1.up u4
           replace q0 := q0.up u4
           replace r0 := r0.up u4
           replace UP := UP.trans u4
           clear b0_0 b0_1 b1_0 b1_1 q0_0 q0_1 r0_0 r0_1
           obtain ⟨b0_0, b0_1⟩ := b0.c2
           obtain ⟨b1_0, b1_1⟩ := b1.c2
           obtain ⟨q0_0, q0_1⟩ := q0.c2
           obtain ⟨r0_0, r0_1⟩ := r0.c2
           replace r0_f0 := r0.free 0
           replace r0_f1 := r0.free 1
           clear u4)
        | (go_at_call 155
           ((with_reducible refine (whole_sub H1 (p1.wh LQY) (by omega) (by omega)).mono ?_))
           rintro e W5 ⟨V5, rfl, z2, u5⟩
           replace hl := hl.up u5
           replace hm := hm.up u5
           replace H1 := H1.up u5
           replace H2 := H2.up u5
           replace n1 := n1.up u5
           replace n2 := n2.up u5
           replace z1 := z1.up u5
           replace Z1 := Z1.up u5
           try (replace p1 := p1.up u5)
           try (replace z2 := z2.up u5)
           replace b0 := b0.up u5
           replace b1 := b1.up u5
           replace q0 := q0.up u5
           replace r0 := r0.up u5
           replace UP := UP.trans u5
           clear b0_0 b0_1 b1_0 b1_1 q0_0 q0_1 r0_0 r0_1
           obtain ⟨b0_0, b0_1⟩ := b0.c2
           obtain ⟨b1_0, b1_1⟩ := b1.c2
           obtain ⟨q0_0, q0_1⟩ := q0.c2
           obtain ⟨r0_0, r0_1⟩ := r0.c2
           replace r0_f0 := r0.free 0
           replace r0_f1 := r0.free 1
           clear u5
           rw [HR.out] at z2
           obtain ⟨Xz2, rfl, z2⟩ := z2
           obtain ⟨Az2, nz2, cz2, rfl⟩ := z2.shape)))
     go_wp2_with fail
     clear r0_f0 r0_f1
     have KW : Kw (W5) ((W5).setCell ⟨w.heap.size + 1 + 1 + 1, 0, none⟩ (.bool (Wd.ngb r))) := Kw.store (c := (.bool false)) r0 rfl trivial _
     replace hl := hl.kw KW
     replace hm := hm.kw KW
     replace H1 := H1.kw KW
     replace H2 := H2.kw KW
     replace n1 := n1.kw KW
     replace n2 := n2.kw KW
     replace z1 := z1.kw KW
     replace Z1 := Z1.kw KW
     replace p1 := p1.kw KW
     replace z2 := z2.kw KW
     replace b0 := b0.far (p := ⟨w.heap.size + 1 + 1 + 1, 0, none⟩) (by dsimp only; omega) (.bool (Wd.ngb r))
     replace b1 := b1.far (p := ⟨w.heap.size + 1 + 1 + 1, 0, none⟩) (by dsimp only; omega) (.bool (Wd.ngb r))
     replace q0 := q0.far (p := ⟨w.heap.size + 1 + 1 + 1, 0, none⟩) (by dsimp only; omega) (.bool (Wd.ngb r))
     replace r0 : Bx 32 ((W5).setCell ⟨w.heap.size + 1 + 1 + 1, 0, none⟩ (.bool (Wd.ngb r))) (w.heap.size + 1 + 1 + 1) [.bool (Wd.ngb r), .slice none 0 0] := r0.set 0 (.bool (Wd.ngb r))
     replace UP := UP.setCell (p := ⟨w.heap.size + 1 + 1 + 1, 0, none⟩) (by dsimp only; omega) (.bool (Wd.ngb r))
     have KW : Kw (((W5).setCell ⟨w.heap.size + 1 + 1 + 1, 0, none⟩ (.bool (Wd.ngb r)))) ((((W5).setCell ⟨w.heap.size + 1 + 1 + 1, 0, none⟩ (.bool (Wd.ngb r)))).setCell ⟨w.heap.size + 1 + 1 + 1, 1, none⟩ (.slice Az2 nz2 cz2)) := Kw.store (c := (.slice none 0 0)) r0 rfl trivial _
     replace hl := hl.kw KW
     replace hm := hm.kw KW
     replace H1 := H1.kw KW
     replace H2 := H2.kw KW
     replace n1 := n1.kw KW
     replace n2 := n2.kw KW
     replace z1 := z1.kw KW
     replace Z1 := Z1.kw KW
     replace p1 := p1.kw KW
     replace z2 := z2.kw KW
     replace b0 := b0.far (p := ⟨w.heap.size + 1 + 1 + 1, 1, none⟩) (by dsimp only; omega) (.slice Az2 nz2 cz2)
     replace b1 := b1.far (p := ⟨w.heap.size + 1 + 1 + 1, 1, none⟩) (by dsimp only; omega) (.slice Az2 nz2 cz2)
     replace q0 := q0.far (p := ⟨w.heap.size + 1 + 1 + 1, 1, none⟩) (by dsimp only; omega) (.slice Az2 nz2 cz2)
     replace r0 : Bx 32 ((((W5).setCell ⟨w.heap.size + 1 + 1 + 1, 0, none⟩ (.bool (Wd.ngb r)))).setCell ⟨w.heap.size + 1 + 1 + 1, 1, none⟩ (.slice Az2 nz2 cz2)) (w.heap.size + 1 + 1 + 1) [.bool (Wd.ngb r), .slice Az2 nz2 cz2] := r0.set 1 (.slice Az2 nz2 cz2)
     replace UP := UP.setCell (p := ⟨w.heap.size + 1 + 1 + 1, 1, none⟩) (by dsimp only; omega) (.slice Az2 nz2 cz2)
     clear KW
     generalize ((((W5).setCell ⟨w.heap.size + 1 + 1 + 1, 0, none⟩ (.bool (Wd.ngb r)))).setCell ⟨w.heap.size + 1 + 1 + 1, 1, none⟩ (.slice Az2 nz2 cz2)) = W6 at *
     clear b0_0 b0_1 b1_0 b1_1 q0_0 q0_1 r0_0 r0_1
     obtain ⟨b0_0, b0_1⟩ := b0.c2
     obtain ⟨b1_0, b1_1⟩ := b1.c2
     obtain ⟨q0_0, q0_1⟩ := q0.c2
     obtain ⟨r0_0, r0_1⟩ := r0.c2
     have Z2 : Wh W6 (.agg #[.bool (Wd.ngb r), .slice Az2 nz2 cz2]) r 90000000 := Zw.wh ⟨_, rfl, z2⟩ (LR.mono (by omega))
     replace hl := hl.up (Up.refl W6).drew
     replace hm := hm.up (Up.refl W6).drew
     replace H1 := H1.up (Up.refl W6).drew
     replace H2 := H2.up (Up.refl W6).drew
     replace n1 := n1.up (Up.refl W6).drew
     replace n2 := n2.up (Up.refl W6).drew
     replace z1 := z1.up (Up.refl W6).drew
     replace Z1 := Z1.up (Up.refl W6).drew
     replace p1 := p1.up (Up.refl W6).drew
     replace z2 := z2.up (Up.refl W6).drew
     replace Z2 := Z2.up (Up.refl W6).drew
     replace b0 := b0.up (Up.refl W6).drew
     replace b1 := b1.up (Up.refl W6).drew
     replace q0 := q0.up (Up.refl W6).drew
     replace r0 := r0.up (Up.refl W6).drew
     replace UP := UP.trans (Up.refl W6).drew
     clear b0_0 b0_1 b1_0 b1_1 q0_0 q0_1 r0_0 r0_1
     obtain ⟨b0_0, b0_1⟩ := b0.c2
     obtain ⟨b1_0, b1_1⟩ := b1.c2
     obtain ⟨q0_0, q0_1⟩ := q0.c2
     obtain ⟨r0_0, r0_1⟩ := r0.c2
     go_region_held3 (fun w' => Up w w' ∧ w'.cell? ⟨w.heap.size, 0, none⟩ = some (.bool s) ∧ w'.cell? ⟨w.heap.size, 1, none⟩ = some (.slice A l.length c) ∧ w'.cell? ⟨w.heap.size + 1, 0, none⟩ = some (.bool t) ∧ w'.cell? ⟨w.heap.size + 1, 1, none⟩ = some (.slice D m.length d) ∧ w'.cell? ⟨w.heap.size + 1 + 1, 0, none⟩ = some (.bool (Wd.ngb q)) ∧ w'.cell? ⟨w.heap.size + 1 + 1, 1, none⟩ = some (.slice Az1 nz1 cz1) ∧ w'.cell? ⟨w.heap.size + 1 + 1 + 1, 0, none⟩ = some (.bool (Wd.ngb r)) ∧ w'.cell? ⟨w.heap.size + 1 + 1 + 1, 1, none⟩ = some (.slice Az2 nz2 cz2))
      (first | with_reducible exact ⟨UP, b0_0, b0_1, b1_0, b1_1, q0_0, q0_1, r0_0, r0_1⟩ | with_reducible exact ⟨(UP.alloc_drew _), (cell_alloc_drew b0_0), (cell_alloc_drew b0_1), (cell_alloc_drew b1_0), (cell_alloc_drew b1_1), (cell_alloc_drew q0_0), (cell_alloc_drew q0_1), (cell_alloc_drew r0_0), (cell_alloc_drew r0_1)⟩ | with_reducible exact ⟨(UP.alloc2_drew _ _), (cell_alloc2_drew b0_0), (cell_alloc2_drew b0_1), (cell_alloc2_drew b1_0), (cell_alloc2_drew b1_1), (cell_alloc2_drew q0_0), (cell_alloc2_drew q0_1), (cell_alloc2_drew r0_0), (cell_alloc2_drew r0_1)⟩ | go_keep)
      ((first
        | (go_at_call 140
           ((with_reducible refine (whole_sign Z2 (by omega)).mono ?_))
           rintro e W7 ⟨rfl, u7⟩
           replace hl := hl.up u7
           replace hm := hm.up u7
           replace H1 := H1.up u7
           replace H2 := H2.up u7
           replace n1 := n1.up u7
           replace n2 := n2.up u7
           replace z1 := z1.up u7
           replace Z1 := Z1.up u7
           replace p1 := p1.up u7
           replace z2 := z2.up u7
           replace Z2 := Z2.up u7
           replace b0 := b0.up u7
           replace b1 := b1.up u7
           replace q0 := q0.up u7
           replace r0 := r0.up u7
           replace UP := UP.trans u7
           clear b0_0 b0_1 b1_0 b1_1 q0_0 q0_1 r0_0 r0_1
           obtain ⟨b0_0, b0_1⟩ := b0.c2
           obtain ⟨b1_0, b1_1⟩ := b1.c2
           obtain ⟨q0_0, q0_1⟩ := q0.c2
           obtain ⟨r0_0, r0_1⟩ := r0.c2
           clear u7
           rw [HS.out])
        | (go_at_call 140
           ((with_reducible refine (whole_sign H2 (by omega)).mono ?_))
           rintro e W8 ⟨rfl, u8⟩
           replace hl := hl.up u8
           replace hm := hm.up u8
           replace H1 := H1.up u8
           replace H2 := H2.up u8
           replace n1 := n1.up u8
           replace n2 := n2.up u8
           replace z1 := z1.up u8
           replace Z1 := Z1.up u8
           replace p1 := p1.up u8
           replace z2 := z2.up u8
           replace Z2 := Z2.up u8
           replace b0 := b0.up u8
           replace b1 := b1.up u8
           replace q0 := q0.up u8
           replace r0 := r0.up u8
           replace UP := UP.trans u8
           clear b0_0 b0_1 b1_0 b1_1 q0_0 q0_1 r0_0 r0_1
           obtain ⟨b0_0, b0_1⟩ := b0.c2
           obtain ⟨b1_0, b1_1⟩ := b1.c2
           obtain ⟨q0_0, q0_1⟩ := q0.c2
           obtain ⟨r0_0, r0_1⟩ := r0.c2
           clear u8
           rw [HY.out])))
     go_wp2_with fail
     have g0 := q0.free 0
     have g1 := q0.free 1
     have g2 := r0.free 0
     have g3 := r0.free 1
     go_region
     clear g0 g1 g2 g3
     have KW : Kw (W8) ((W8).setCell ⟨w.heap.size + 1 + 1, 0, none⟩ (.bool (Wd.ngb q))) := Kw.store (c := (.bool (Wd.ngb q))) q0 rfl trivial _
     replace hl := hl.kw KW
     replace hm := hm.kw KW
     replace H1 := H1.kw KW
     replace H2 := H2.kw KW
     replace n1 := n1.kw KW
     replace n2 := n2.kw KW
     replace z1 := z1.kw KW
     replace Z1 := Z1.kw KW
     replace p1 := p1.kw KW
     replace z2 := z2.kw KW
     replace Z2 := Z2.kw KW
     replace b0 := b0.far (p := ⟨w.heap.size + 1 + 1, 0, none⟩) (by dsimp only; omega) (.bool (Wd.ngb q))
     replace b1 := b1.far (p := ⟨w.heap.size + 1 + 1, 0, none⟩) (by dsimp only; omega) (.bool (Wd.ngb q))
     replace r0 := r0.far (p := ⟨w.heap.size + 1 + 1, 0, none⟩) (by dsimp only; omega) (.bool (Wd.ngb q))
     replace q0 : Bx 32 ((W8).setCell ⟨w.heap.size + 1 + 1, 0, none⟩ (.bool (Wd.ngb q))) (w.heap.size + 1 + 1) [.bool (Wd.ngb q), .slice Az1 nz1 cz1] := q0.set 0 (.bool (Wd.ngb q))
     replace UP := UP.setCell (p := ⟨w.heap.size + 1 + 1, 0, none⟩) (by dsimp only; omega) (.bool (Wd.ngb q))
     have KW : Kw (((W8).setCell ⟨w.heap.size + 1 + 1, 0, none⟩ (.bool (Wd.ngb q)))) ((((W8).setCell ⟨w.heap.size + 1 + 1, 0, none⟩ (.bool (Wd.ngb q)))).setCell ⟨w.heap.size + 1 + 1, 1, none⟩ (.slice Az1 nz1 cz1)) := Kw.store (c := (.slice Az1 nz1 cz1)) q0 rfl trivial _
     replace hl := hl.kw KW
     replace hm := hm.kw KW
     replace H1 := H1.kw KW
     replace H2 := H2.kw KW
     replace n1 := n1.kw KW
     replace n2 := n2.kw KW
     replace z1 := z1.kw KW
     replace Z1 := Z1.kw KW
     replace p1 := p1.kw KW
     replace z2 := z2.kw KW
     replace Z2 := Z2.kw KW
     replace b0 := b0.far (p := ⟨w.heap.size + 1 + 1, 1, none⟩) (by dsimp only; omega) (.slice Az1 nz1 cz1)
     replace b1 := b1.far (p := ⟨w.heap.size + 1 + 1, 1, none⟩) (by dsimp only; omega) (.slice Az1 nz1 cz1)
     replace r0 := r0.far (p := ⟨w.heap.size + 1 + 1, 1, none⟩) (by dsimp only; omega) (.slice Az1 nz1 cz1)
     replace q0 : Bx 32 ((((W8).setCell ⟨w.heap.size + 1 + 1, 0, none⟩ (.bool (Wd.ngb q)))).setCell ⟨w.heap.size + 1 + 1, 1, none⟩ (.slice Az1 nz1 cz1)) (w.heap.size + 1 + 1) [.bool (Wd.ngb q), .slice Az1 nz1 cz1] := q0.set 1 (.slice Az1 nz1 cz1)
     replace UP := UP.setCell (p := ⟨w.heap.size + 1 + 1, 1, none⟩) (by dsimp only; omega) (.slice Az1 nz1 cz1)
     clear KW
     generalize ((((W8).setCell ⟨w.heap.size + 1 + 1, 0, none⟩ (.bool (Wd.ngb q)))).setCell ⟨w.heap.size + 1 + 1, 1, none⟩ (.slice Az1 nz1 cz1)) = W9 at *
     clear b0_0 b0_1 b1_0 b1_1 q0_0 q0_1 r0_0 r0_1
     obtain ⟨b0_0, b0_1⟩ := b0.c2
     obtain ⟨b1_0, b1_1⟩ := b1.c2
     obtain ⟨q0_0, q0_1⟩ := q0.c2
     obtain ⟨r0_0, r0_1⟩ := r0.c2
     have KW : Kw (W9) ((W9).setCell ⟨w.heap.size + 1 + 1 + 1, 0, none⟩ (.bool (Wd.ngb r))) := Kw.store (c := (.bool (Wd.ngb r))) r0 rfl trivial _
     replace hl := hl.kw KW
     replace hm := hm.kw KW
     replace H1 := H1.kw KW
     replace H2 := H2.kw KW
     replace n1 := n1.kw KW
     replace n2 := n2.kw KW
     replace z1 := z1.kw KW
     replace Z1 := Z1.kw KW
     replace p1 := p1.kw KW
     replace z2 := z2.kw KW
     replace Z2 := Z2.kw KW
     replace b0 := b0.far (p := ⟨w.heap.size + 1 + 1 + 1, 0, none⟩) (by dsimp only; omega) (.bool (Wd.ngb r))
     replace b1 := b1.far (p := ⟨w.heap.size + 1 + 1 + 1, 0, none⟩) (by dsimp only; omega) (.bool (Wd.ngb r))
     replace q0 := q0.far (p := ⟨w.heap.size + 1 + 1 + 1, 0, none⟩) (by dsimp only; omega) (.bool (Wd.ngb r))
     replace r0 : Bx 32 ((W9).setCell ⟨w.heap.size + 1 + 1 + 1, 0, none⟩ (.bool (Wd.ngb r))) (w.heap.size + 1 + 1 + 1) [.bool (Wd.ngb r), .slice Az2 nz2 cz2] := r0.set 0 (.bool (Wd.ngb r))
     replace UP := UP.setCell (p := ⟨w.heap.size + 1 + 1 + 1, 0, none⟩) (by dsimp only; omega) (.bool (Wd.ngb r))
     have KW : Kw (((W9).setCell ⟨w.heap.size + 1 + 1 + 1, 0, none⟩ (.bool (Wd.ngb r)))) ((((W9).setCell ⟨w.heap.size + 1 + 1 + 1, 0, none⟩ (.bool (Wd.ngb r)))).setCell ⟨w.heap.size + 1 + 1 + 1, 1, none⟩ (.slice Az2 nz2 cz2)) := Kw.store (c := (.slice Az2 nz2 cz2)) r0 rfl trivial _
     replace hl := hl.kw KW
     replace hm := hm.kw KW
     replace H1 := H1.kw KW
     replace H2 := H2.kw KW
     replace n1 := n1.kw KW
     replace n2 := n2.kw KW
     replace z1 := z1.kw KW
     replace Z1 := Z1.kw KW
     replace p1 := p1.kw KW
     replace z2 := z2.kw KW
     replace Z2 := Z2.kw KW
     replace b0 := b0.far (p := ⟨w.heap.size + 1 + 1 + 1, 1, none⟩) (by dsimp only; omega) (.slice Az2 nz2 cz2)
     replace b1 := b1.far (p := ⟨w.heap.size + 1 + 1 + 1, 1, none⟩) (by dsimp only; omega) (.slice Az2 nz2 cz2)
     replace q0 := q0.far (p := ⟨w.heap.size + 1 + 1 + 1, 1, none⟩) (by dsimp only; omega) (.slice Az2 nz2 cz2)
     replace r0 : Bx 32 ((((W9).setCell ⟨w.heap.size + 1 + 1 + 1, 0, none⟩ (.bool (Wd.ngb r)))).setCell ⟨w.heap.size + 1 + 1 + 1, 1, none⟩ (.slice Az2 nz2 cz2)) (w.heap.size + 1 + 1 + 1) [.bool (Wd.ngb r), .slice Az2 nz2 cz2] := r0.set 1 (.slice Az2 nz2 cz2)
     replace UP := UP.setCell (p := ⟨w.heap.size + 1 + 1 + 1, 1, none⟩) (by dsimp only; omega) (.slice Az2 nz2 cz2)
     clear KW
     generalize ((((W9).setCell ⟨w.heap.size + 1 + 1 + 1, 0, none⟩ (.bool (Wd.ngb r)))).setCell ⟨w.heap.size + 1 + 1 + 1, 1, none⟩ (.slice Az2 nz2 cz2)) = W10 at *
     clear b0_0 b0_1 b1_0 b1_1 q0_0 q0_1 r0_0 r0_1
     obtain ⟨b0_0, b0_1⟩ := b0.c2
     obtain ⟨b1_0, b1_1⟩ := b1.c2
     obtain ⟨q0_0, q0_1⟩ := q0.c2
     obtain ⟨r0_0, r0_1⟩ := r0.c2
     replace hl := hl.up (Up.refl W10).drew
     replace hm := hm.up (Up.refl W10).drew
     replace H1 := H1.up (Up.refl W10).drew
     replace H2 := H2.up (Up.refl W10).drew
     replace n1 := n1.up (Up.refl W10).drew
     replace n2 := n2.up (Up.refl W10).drew
     replace z1 := z1.up (Up.refl W10).drew
     replace Z1 := Z1.up (Up.refl W10).drew
     replace p1 := p1.up (Up.refl W10).drew
     replace z2 := z2.up (Up.refl W10).drew
     replace Z2 := Z2.up (Up.refl W10).drew
     replace b0 := b0.up (Up.refl W10).drew
     replace b1 := b1.up (Up.refl W10).drew
     replace q0 := q0.up (Up.refl W10).drew
     replace r0 := r0.up (Up.refl W10).drew
     replace UP := UP.trans (Up.refl W10).drew
     clear b0_0 b0_1 b1_0 b1_1 q0_0 q0_1 r0_0 r0_1
     obtain ⟨b0_0, b0_1⟩ := b0.c2
     obtain ⟨b1_0, b1_1⟩ := b1.c2
     obtain ⟨q0_0, q0_1⟩ := q0.c2
     obtain ⟨r0_0, r0_1⟩ := r0.c2
     generalize W10.drew = W11 at *
     go_wp2
     exact bodyPost_ret (run_res_cell2_tmp rfl rfl rfl agg_whole size_whole agg_whole size_whole q0 rfl r0 rfl) rfl ⟨_, _, r, rfl, by rw [← HE.out]; exact ⟨_, rfl, z1⟩, ⟨_, rfl, z2⟩, UP⟩
end Go.Proofs.YtmmcffceeahemaaGreat
