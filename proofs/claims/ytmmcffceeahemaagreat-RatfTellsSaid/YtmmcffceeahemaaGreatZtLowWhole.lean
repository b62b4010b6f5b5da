/-
  Memory: a block known whole, of any type; a struct that comes back in a cell.
  Layer 8: whole numbers with a sign.
  Layer 8: whole numbers with a sign: those of the machine, differences, order, the floor.
-/
import Derived.Test.YtmmcffceeahemaaGreatZtMem
import Derived.Test.YtmmcffceeahemaaGreatZtPlain
import Derived.Test.YtmmcffceeahemaaGreatZtLowCommon
import Derived.Deep.RegionHeld3
import Derived.Test.YtmmcffceeahemaaGreatZtShort
set_option linter.unusedVariables false
set_option linter.unusedSimpArgs false
namespace Go.Proofs.YtmmcffceeahemaaGreat
open Go.RowKit
/-- A block that is known whole. -/
def Bx (T : TypeId) (w : World) (g : Nat) (vs : List Value) : Prop := w.heap[g]? = some (.cells vs.toArray T (0, 0))
theorem Bx.lt {T : TypeId} {w : World} {g : Nat} {vs : List Value} (h : Bx T w g vs) : g < w.heap.size := (Array.getElem?_eq_some_iff.1 h).1
theorem Bx.cell {T : TypeId} {w : World} {g : Nat} {vs : List Value} (h : Bx T w g vs) {i : Nat} {u : Value} (hi : vs[i]? = some u) : w.cell? ⟨g, i, none⟩ = some u := by
 rw [cell_of_row w g i _ _ (0, 0) h]
 simpa using hi
theorem Bx.c1 {T : TypeId} {w : World} {g : Nat} {a : Value} (h : Bx T w g [a]) : w.cell? ⟨g, 0, none⟩ = some a := h.cell rfl
theorem Bx.c2 {T : TypeId} {w : World} {g : Nat} {a b : Value} (h : Bx T w g [a, b]) : w.cell? ⟨g, 0, none⟩ = some a ∧ w.cell? ⟨g, 1, none⟩ = some b := ⟨h.cell rfl, h.cell rfl⟩
theorem Bx.c3 {T : TypeId} {w : World} {g : Nat} {a b c : Value} (h : Bx T w g [a, b, c]) : w.cell? ⟨g, 0, none⟩ = some a ∧ w.cell? ⟨g, 1, none⟩ = some b ∧ w.cell? ⟨g, 2, none⟩ = some c := ⟨h.cell rfl, h.cell rfl, h.cell rfl⟩
theorem Bx.c4 {T : TypeId} {w : World} {g : Nat} {a b c d : Value} (h : Bx T w g [a, b, c, d]) : w.cell? ⟨g, 0, none⟩ = some a ∧ w.cell? ⟨g, 1, none⟩ = some b ∧ w.cell? ⟨g, 2, none⟩ = some c ∧ w.cell? ⟨g, 3, none⟩ = some d := ⟨h.cell rfl, h.cell rfl, h.cell rfl, h.cell rfl⟩
theorem Bx.c5 {T : TypeId} {w : World} {g : Nat} {a b c d e : Value} (h : Bx T w g [a, b, c, d, e]) : w.cell? ⟨g, 0, none⟩ = some a ∧ w.cell? ⟨g, 1, none⟩ = some b ∧ w.cell? ⟨g, 2, none⟩ = some c ∧ w.cell? ⟨g, 3, none⟩ = some d ∧ w.cell? ⟨g, 4, none⟩ = some e := ⟨h.cell rfl, h.cell rfl, h.cell rfl, h.cell rfl, h.cell rfl⟩
theorem Bx.c6 {T : TypeId} {w : World} {g : Nat} {a b c d e f : Value} (h : Bx T w g [a, b, c, d, e, f]) : w.cell? ⟨g, 0, none⟩ = some a ∧ w.cell? ⟨g, 1, none⟩ = some b ∧ w.cell? ⟨g, 2, none⟩ = some c ∧ w.cell? ⟨g, 3, none⟩ = some d ∧ w.cell? ⟨g, 4, none⟩ = some e ∧ w.cell? ⟨g, 5, none⟩ = some f := ⟨h.cell rfl, h.cell rfl, h.cell rfl, h.cell rfl, h.cell rfl, h.cell rfl⟩
theorem Bx.free {T : TypeId} {w : World} {g : Nat} {vs : List Value} (h : Bx T w g vs) (i : Nat) : w.frozen? ⟨g, i, none⟩ = false := by
 unfold Bx at h
 simp [World.frozen?, h]
theorem Bx.set {T : TypeId} {w : World} {g : Nat} {vs : List Value} (h : Bx T w g vs) (i : Nat) (u : Value) : Bx T (w.setCell ⟨g, i, none⟩ u) g (vs.set i u) := by
 unfold Bx at h ⊢
 simp only [World.setCell, Array.getElem?_modify, h]
 simp
theorem Bx.up {T : TypeId} {w w' : World} {g : Nat} {vs : List Value} (h : Bx T w g vs) (hu : Up w w') : Bx T w' g vs := (hu.heap h.lt).trans h
theorem Bx.fa {T : TypeId} {w : World} {g : Nat} {vs : List Value} (h : Bx T w g vs) (o : Obj) (i : Nat) : (w.alloc o).frozen? ⟨g, i, none⟩ = false := (h.up ((Up.refl w).alloc o)).free i
theorem Bx.fa2 {T : TypeId} {w : World} {g : Nat} {vs : List Value} (h : Bx T w g vs) (o o' : Obj) (i : Nat) : ((w.alloc o).alloc o').frozen? ⟨g, i, none⟩ = false := (h.up (((Up.refl w).alloc o).alloc o')).free i
instance Bx.lup {T : TypeId} {w w' : World} {g : Nat} {vs : List Value} : Lu (Up w w') (Bx T w g vs) (Bx T w' g vs) := luM fun u h => h.up u
theorem Bx.new (T : TypeId) (w : World) (vs : List Value) : Bx T (w.alloc (.cells vs.toArray T)) w.heap.size vs := heap_alloc_new w _
theorem Bx.far {T : TypeId} {w : World} {g : Nat} {vs : List Value} (h : Bx T w g vs) {p : Addr} (hp : g ≠ p.block) (u : Value) : Bx T (w.setCell p u) g vs := (Below.heap_setCell w p u g hp).trans h
theorem Bx.fr {T : TypeId} {w : World} {b : Nat} {vs : List Value} (h : Bx T w b vs) (g i : Nat) (u : Value) (hp : b ≠ g := by (try dsimp only); omega) : Bx T (w.setCell ⟨g, i, none⟩ u) b vs := h.far (p := ⟨g, i, none⟩) hp u
theorem bx_two (T S : TypeId) (w : World) (vs us : List Value) : Bx T ((w.alloc (.cells vs.toArray T)).alloc (.cells us.toArray S)) w.heap.size vs ∧ Bx S ((w.alloc (.cells vs.toArray T)).alloc (.cells us.toArray S)) (w.heap.size + 1) us := by
 have e : (w.alloc (.cells vs.toArray T)).heap.size = w.heap.size + 1 := by simp
 exact ⟨(Bx.new T w vs).up ((Up.refl _).alloc _), by rw [← e]; exact Bx.new S _ us⟩
theorem bx_three (T S R : TypeId) (w : World) (vs us xs : List Value) :
 Bx T (((w.alloc (.cells vs.toArray T)).alloc (.cells us.toArray S)).alloc (.cells xs.toArray R)) w.heap.size vs ∧ Bx S (((w.alloc (.cells vs.toArray T)).alloc (.cells us.toArray S)).alloc (.cells xs.toArray R)) (w.heap.size + 1) us ∧
 Bx R (((w.alloc (.cells vs.toArray T)).alloc (.cells us.toArray S)).alloc (.cells xs.toArray R)) (w.heap.size + 1 + 1) xs := by
 obtain ⟨h1, h2⟩ := bx_two T S w vs us
 have e : ((w.alloc (.cells vs.toArray T)).alloc (.cells us.toArray S)).heap.size = w.heap.size + 1 + 1 := by simp
 exact ⟨h1.up ((Up.refl _).alloc _), h2.up ((Up.refl _).alloc _), by rw [← e]; exact Bx.new R _ xs⟩
/-- No word, no slice's element: a cell of a struct. -/
def NoWord : Value → Prop
 | .int .u32 _ => False
 | _ => True
/-- A slice of words is not touched by a store into a struct that holds none. -/
theorem Ws.far {w : World} {v : Value} {l : List Nat} {T : TypeId} {g : Nat} {cs : List Value} (h : Ws w v l) (hb : Bx T w g cs) (hc : ∀ c ∈ cs, NoWord c) (i : Nat) (x : Value) : Ws (w.setCell ⟨g, i, none⟩ x) v l := by
 obtain ⟨A, c, h1, h2, h3, h4, h5⟩ := h
 refine ⟨A, c, h1, h2, h3, h4, fun hl => ?_⟩
 obtain ⟨b, o, e, hlt, hat⟩ := h5 hl
 have hne : b ≠ g := by
  rintro rfl
  have h0 := hat 0 ((l.map wv)[0]) (List.getElem?_eq_getElem hl)
  rw [cell_of_row w b _ _ _ (0, 0) hb] at h0
  have hm := List.mem_of_getElem? (by simpa using h0 : cs[o]? = _)
  have := hc _ (by simpa using hm)
  exact this
 refine ⟨b, o, e, by simpa [World.setCell] using hlt, fun j u hj => ?_⟩
 rw [← hat j u hj]
 exact World.cell?_setCell_other w _ _ x (fun he => by injection he with h1 _; exact hne h1.symm)
/-- Words that can be read stay what they are. -/
def Kw (w w' : World) : Prop := w.heap.size ≤ w'.heap.size ∧ ∀ (p : Addr) (x : Int), w.cell? p = some (.int .u32 x) → w'.cell? p = some (.int .u32 x)
theorem Kw.refl (w : World) : Kw w w := ⟨Nat.le_refl _, fun _ _ h => h⟩
theorem Kw.trans {a b c : World} (h : Kw a b) (k : Kw b c) : Kw a c := ⟨Nat.le_trans h.1 k.1, fun p x hp => k.2 p x (h.2 p x hp)⟩
theorem Up.kw {w w' : World} (h : Up w w') : Kw w w' := ⟨h.size, fun p x hp => (h.cell (World.block_lt_of_cell? w _ hp)).trans hp⟩
theorem Kw.store {w : World} {T : TypeId} {g i : Nat} {cs : List Value} {c : Value} (hb : Bx T w g cs) (hc : cs[i]? = some c) (hn : NoWord c) (x : Value) : Kw w (w.setCell ⟨g, i, none⟩ x) := by
 refine ⟨by simp [World.setCell], fun p y hp => ?_⟩
 refine (World.cell?_setCell_other w _ p x (fun he => ?_)).trans hp
 subst he
 rw [hb.cell hc] at hp
 cases hp
 exact hn
theorem Ws.kw {w w' : World} {v : Value} {l : List Nat} (h : Ws w v l) (hk : Kw w w') : Ws w' v l := by
 obtain ⟨A, c, h1, h2, h3, h4, h5⟩ := h
 refine ⟨A, c, h1, h2, h3, h4, fun hl => ?_⟩
 obtain ⟨b, o, e, hlt, hat⟩ := h5 hl
 refine ⟨b, o, e, Nat.lt_of_lt_of_le hlt hk.1, fun j u hj => ?_⟩
 have hm := hat j u hj
 rw [List.getElem?_map, Option.map_eq_some_iff] at hj
 obtain ⟨x, _, rfl⟩ := hj
 exact hk.2 _ _ hm
instance Ws.lkw {w w' : World} {v : Value} {l : List Nat} : Lu (Kw w w') (Ws w v l) (Ws w' v l) := luM fun u h => h.kw u
theorem Up.alloc_drew {a w : World} (h : Up a w.drew) (o : Obj) : Up a (w.alloc o).drew := Up.alloc (w := w.drew) h o
theorem Up.alloc2_drew {a w : World} (h : Up a w.drew) (o o' : Obj) : Up a ((w.alloc o).alloc o').drew := Up.alloc (w := w.drew.alloc o) (Up.alloc (w := w.drew) h o) o'
theorem Up.skip {w w' : World} {o : Obj} (h : Up (w.alloc o).drew w') : Up w.drew w' := Up.trans (b := w.drew.alloc o) ((Up.refl w.drew).alloc o) h
theorem cell_far_block {w : World} {g i : Nat} {x v : Value} {q : Addr} (h : w.cell? q = some v) (hne : g ≠ q.block) : (w.setCell ⟨g, i, none⟩ x).cell? q = some v :=
 (World.cell?_setCell_other w _ q x (fun he => hne (by rw [← he]))).trans h
theorem cf {w : World} {g i : Nat} {x v : Value} {q : Addr} (h : w.cell? q = some v) (hne : g ≠ q.block := by (try dsimp only); omega) : (w.setCell ⟨g, i, none⟩ x).cell? q = some v := cell_far_block h hne
theorem cell_alloc_drew {w : World} {o : Obj} {v : Value} {q : Addr} (h : w.drew.cell? q = some v) : (w.alloc o).drew.cell? q = some v := (World.cell?_alloc_lt w o q (World.block_lt_of_cell? w.drew _ h)).trans h
theorem cAd {w : World} {o : Obj} {v : Value} {q : Addr} (h : w.drew.cell? q = some v) : (w.alloc o).drew.cell? q = some v := cell_alloc_drew h
theorem cell_alloc2_drew {w : World} {o o' : Obj} {v : Value} {q : Addr} (h : w.drew.cell? q = some v) : ((w.alloc o).alloc o').drew.cell? q = some v := cell_alloc_drew (w := w.alloc o) (cAd h)
theorem cAe {w : World} {o o' : Obj} {v : Value} {q : Addr} (h : w.drew.cell? q = some v) : ((w.alloc o).alloc o').drew.cell? q = some v := cell_alloc2_drew h
theorem Ws.undrew {w : World} {v : Value} {l : List Nat} (h : Ws w.drew v l) : Ws w v l := h
/-- What comes back lies in one cell. -/
theorem run_load_agg {w : World} {T S : TypeId} {g n : Nat} {cs : List Value} (hT : ∀ w : World, (isAgg T).run Tryz.prog w = .ok true w) (hS : ∀ w : World, (sizeOf T).run Tryz.prog w = .ok n w) (hb : Bx S w g cs) (hn : cs.length = n) :
 (loadVar T ⟨g, 0, none⟩).run Tryz.prog w = .ok (.agg cs.toArray) w := by
 subst hn
 have hl := run_loadCells_list (P := Tryz.prog) w ⟨g, 0, none⟩ cs (fun j v hj => by
  have e : (⟨g, 0, none⟩ : Addr).add j = ⟨g, j, none⟩ := by unfold Addr.add; by_cases h0 : j = 0 <;> simp [h0]
  rw [e]
  exact hb.cell hj)
 simp only [loadVar, Sem.run_bind, hT, hS, hl, Result.andThen, if_true, Sem.run_pure]
theorem run_res_cell {fn : Func} {tmps : Array Value} {w : World} {t : Tmp} {T S : TypeId} {g n : Nat} {cs : List Value} (hres : fn.results = #[.cell t T]) (ht : tmps.getD t undef = .pointer (some ⟨g, 0, none⟩))
 (hT : ∀ w : World, (isAgg T).run Tryz.prog w = .ok true w) (hS : ∀ w : World, (sizeOf T).run Tryz.prog w = .ok n w) (hb : Bx S w g cs) (hn : cs.length = n) : (results fn tmps).run Tryz.prog w = .ok (.agg cs.toArray) w := by
 have := run_load_agg hT hS hb hn
 have ht' : tmps[t]?.getD undef = .pointer (some ⟨g, 0, none⟩) := by simpa using ht
 simp [results, hres, ht', this, asAddr]
theorem run_res_cell_tmp {fn : Func} {tmps : Array Value} {w : World} {t u : Tmp} {T S : TypeId} {g n : Nat} {cs : List Value} (hres : fn.results = #[.cell t T, .tmp u]) (ht : tmps.getD t undef = .pointer (some ⟨g, 0, none⟩))
 (hT : ∀ w : World, (isAgg T).run Tryz.prog w = .ok true w) (hS : ∀ w : World, (sizeOf T).run Tryz.prog w = .ok n w) (hb : Bx S w g cs) (hn : cs.length = n) : (results fn tmps).run Tryz.prog w = .ok (.tuple #[.agg cs.toArray, tmps.getD u undef]) w := by
 have := run_load_agg hT hS hb hn
 have ht' : tmps[t]?.getD undef = .pointer (some ⟨g, 0, none⟩) := by simpa using ht
 simp [results, hres, ht', this, asAddr]
theorem agg_whole (w : World) : (isAgg 32).run Tryz.prog w = .ok true w := by kernel_rfl
theorem size_whole (w : World) : (sizeOf 32).run Tryz.prog w = .ok 2 w := by kernel_rfl
end Go.Proofs.YtmmcffceeahemaaGreat
namespace Go.Proofs.YtmmcffceeahemaaGreat
open Go.RowKit
/-- A whole number that may be spelled in any way, of at most so many words. -/
def Wh (w : World) (v : Value) (z : Int) (k : Nat) : Prop := ∃ s u l, v = .agg #[.bool s, u] ∧ Ws w u l ∧ Wd.iv s (Wd.val l) = z ∧ l.length ≤ k
theorem Wh.up {w w' : World} {v : Value} {z : Int} {k : Nat} (h : Wh w v z k) (hu : Up w w') : Wh w' v z k := by
 obtain ⟨s, u, l, h1, h2, h3⟩ := h
 exact ⟨s, u, l, h1, h2.up hu, h3⟩
instance Wh.lup {w w' : World} {v : Value} {z : Int} {k : Nat} : Lu (Up w w') (Wh w v z k) (Wh w' v z k) := luM fun u h => h.up u
theorem Wh.mono {w : World} {v : Value} {z : Int} {j k : Nat} (h : Wh w v z j) (hk : j ≤ k) : Wh w v z k := by
 obtain ⟨s, u, l, h1, h2, h3, h4⟩ := h
 exact ⟨s, u, l, h1, h2, h3, Nat.le_trans h4 hk⟩
/-- The right one. -/
def Zw (w : World) (v : Value) (z : Int) : Prop := ∃ u, v = .agg #[.bool (Wd.ngb z), u] ∧ Ws w u (Wd.words z.natAbs)
theorem Zw.up {w w' : World} {v : Value} {z : Int} (h : Zw w v z) (hu : Up w w') : Zw w' v z := by
 obtain ⟨u, h1, h2⟩ := h
 exact ⟨u, h1, h2.up hu⟩
instance Zw.lup {w w' : World} {v : Value} {z : Int} : Lu (Up w w') (Zw w v z) (Zw w' v z) := luM fun u h => h.up u
theorem Zw.wh {w : World} {v : Value} {z : Int} {k : Nat} (h : Zw w v z) (hk : Wd.Lz z k) : Wh w v z k := by
 obtain ⟨u, h1, h2⟩ := h
 exact ⟨_, u, _, h1, h2, by rw [Wd.val_words, Wd.iv_ngb], hk⟩
theorem Zw.mk {w : World} {u : Value} {n : Nat} {z : Int} {s : Bool} (h : Ws w u (Wd.words n)) (hs : s = Wd.ngb z) (hz : z.natAbs = n) : Zw w (.agg #[.bool s, u]) z := by
 subst hs hz
 exact ⟨u, rfl, h⟩
theorem Wh.lz {w : World} {v : Value} {z : Int} {k : Nat} (h : Wh w v z k) : Wd.Lz z k := by
 obtain ⟨s, u, l, h1, h2, h3, h4⟩ := h
 subst h3
 exact Wd.Lz.iv (Nat.le_trans (Wd.words_val_length h2.ok) h4)
/-- What comes back: a right whole number. -/
def RetZ (z : Int) (w : World) (e : Ending) (w' : World) : Prop := ∃ v, e = .returned v ∧ Zw w' v z ∧ Up w w'
/-- It ends with a struct of two cells, stored into the result's. -/
theorem end_z {fn : Func} {a : Act} {w0 w : World} {t : Tmp} {g : Nat} {z : Int} {s : Bool} {u p q : Value} (hres : fn.results = #[.cell t 32]) (ht : a.tmps.getD t undef = .pointer (some ⟨g, 0, none⟩)) (hd : a.defers = [])
 (h : Zw w (.agg #[.bool s, u]) z) (r : Bx 32 w g [p, q]) (np : NoWord p) (nq : NoWord q) (hu : Up w0 w) (hg : w0.heap.size ≤ g) :
 bodyPost Tryz.prog fn (RetZ z w0) .ret a ((w.setCell ⟨g, 0, none⟩ (.bool s)).setCell ⟨g, 1, none⟩ u) := by
 obtain ⟨v, he, hw⟩ := h
 simp at he
 obtain ⟨rfl, rfl⟩ := he
 have r1 : Bx 32 (w.setCell ⟨g, 0, none⟩ (.bool (Wd.ngb z))) g [.bool (Wd.ngb z), q] := r.set 0 _
 have w1 := hw.far r (by simp [np, nq]) 0 (.bool (Wd.ngb z))
 have w2 := w1.far r1 (by simp [nq]; trivial) 1 u
 have r2 : Bx 32 ((w.setCell ⟨g, 0, none⟩ (.bool (Wd.ngb z))).setCell ⟨g, 1, none⟩ u) g [.bool (Wd.ngb z), u] := r1.set 1 _
 exact bodyPost_ret (run_res_cell hres ht agg_whole size_whole r2 rfl) hd ⟨_, rfl, ⟨u, rfl, w2⟩, (hu.setCell (p := ⟨g, 0, none⟩) hg _).setCell (p := ⟨g, 1, none⟩) hg _⟩
theorem whole_signed {v : Value} {s : Bool} {n : Nat} {w : World} (h : Ws w v (Wd.words n)) (hl : (Wd.words n).length ≤ 100000000000) : Calls Tryz.prog 162 #[.bool s, v] w (RetZ (Wd.iv s n) w) := by
 have HN := Lib.hid (Wd.ngb_words s n)
 obtain ⟨A, c, rfl⟩ := h.form
 generalize hk : (Wd.words n).length = k at *
 have HK := Lib.hid hk
 clear hk
 cases s
 · go_enter Tryz.func162, Tryz.ntmps162
   go_wp2
   exact bodyPost_ret (v := .agg #[.bool false, .slice A k c]) (by simp [results, Tryz.results162, go_sem]) rfl ⟨_, rfl, Zw.mk (h.up ((Up.refl w).alloc _)) (by rw [HN.out]; rfl) (Wd.iv_abs _ _), (Up.refl w).alloc _⟩
 · go_enter Tryz.func162, Tryz.ntmps162
   go_wp2
   exact bodyPost_ret (v := .agg #[.bool (decide (0 < k)), .slice A k c]) (by simp [results, Tryz.results162, go_sem]) rfl ⟨_, rfl, Zw.mk (h.up ((Up.refl w).alloc _)) (by rw [HN.out]; rfl) (Wd.iv_abs _ _), (Up.refl w).alloc _⟩
set_option maxHeartbeats 1600000 in
theorem whole_norm {v : Value} {z : Int} {k : Nat} {w : World} (h : Wh w v z k) (hk : k ≤ 100000000) : Calls Tryz.prog 172 #[v] w (RetZ z w) := by
 obtain ⟨s, u, l, rfl, hl, hz, hle⟩ := h
 have hlen := Nat.le_trans (Wd.words_val_length hl.ok) hle
 obtain ⟨A, c, rfl⟩ := hl.form
 subst hz
 have UP : Up w ((w.alloc (.cells #[.bool s, .slice A l.length c] 32)).alloc (.cells #[.bool false, .slice none 0 0] 32)) := ((Up.refl w).alloc _).alloc _
 obtain ⟨b0, r0⟩ := bx_two 32 32 w [.bool s, .slice A l.length c] [.bool false, .slice none 0 0]
 go_enter Tryz.func172, Tryz.ntmps172
 go_wp2_with fail
 generalize ((w.alloc (.cells #[.bool s, .slice A l.length c] 32)).alloc (.cells #[.bool false, .slice none 0 0] 32)) = W at *
 replace hl := hl.up UP
 obtain ⟨b0_0, b0_1⟩ := b0.c2
 obtain ⟨r0_0, r0_1⟩ := r0.c2
 revert UP b0 r0 hl b0_0 b0_1
 refine lg6 (Up.refl W).drew ?_
 intro UP b0 r0 hl b0_0 b0_1
 obtain ⟨r0_0, r0_1⟩ := r0.c2
 have r0_f0 := r0.free
 go_region_held3 (fun w' => Up w w' ∧ w'.cell? ⟨w.heap.size, 0, none⟩ = some (.bool s) ∧ w'.cell? ⟨w.heap.size, 1, none⟩ = some (.slice A l.length c))
  (first | with_reducible exact ⟨UP, b0_0, b0_1⟩ | with_reducible exact ⟨(UP.alloc_drew _), (cAd b0_0), (cAd b0_1)⟩ | with_reducible exact ⟨(UP.alloc2_drew _ _), (cAe b0_0), (cAe b0_1)⟩ | ((try simp only [← World.setCell_drew]); first | with_reducible exact ⟨(us (us UP)), (cf (cf b0_0)), (cf (cf b0_1))⟩) | go_keep)
  ((first
    | (go_at_call 176
       ((with_reducible refine (nat_norm hl (by omega)).mono ?_))
       intro e W1 ret1
       obtain ⟨V1, rfl, n1, u1⟩ := ret1.ws
       clear ret1
       revert UP b0 r0 hl b0_0 b0_1 r0_0 r0_1; refine lg8 u1 ?_; intro UP b0 r0 hl b0_0 b0_1 r0_0 r0_1
       try (replace n1 := n1.up u1)
       try (replace z1 := z1.up u1)
       replace r0_f0 := r0.free
       clear u1)
    | (go_at_call 162
       ((with_reducible refine (whole_signed n1 (by omega)).mono ?_))
       rintro e W2 ⟨V2, rfl, z1, u2⟩
       revert UP b0 r0 hl b0_0 b0_1 r0_0 r0_1; refine lg8 u2 ?_; intro UP b0 r0 hl b0_0 b0_1 r0_0 r0_1
       try (replace n1 := n1.up u2)
       try (replace z1 := z1.up u2)
       replace r0_f0 := r0.free
       clear u2
       obtain ⟨Xz1, rfl, z1⟩ := z1
       obtain ⟨Az1, nz1, cz1, rfl⟩ := z1.shape)))
 go_wp2
 exact end_z rfl rfl rfl ⟨_, rfl, z1⟩ r0 trivial trivial UP (by omega)
/-- What comes back: a number, in a world that has only grown. -/
def RetN (z : Int) (w : World) (e : Ending) (w' : World) : Prop := e = .returned (.int .i64 z) ∧ Up w w'
theorem Zw.kw {w w' : World} {v : Value} {z : Int} (h : Zw w v z) (hu : Kw w w') : Zw w' v z := by
 obtain ⟨u, h1, h2⟩ := h
 exact ⟨u, h1, h2.kw hu⟩
instance Zw.lkw {w w' : World} {v : Value} {z : Int} : Lu (Kw w w') (Zw w v z) (Zw w' v z) := luM fun u h => h.kw u
theorem Wh.kw {w w' : World} {v : Value} {z : Int} {k : Nat} (h : Wh w v z k) (hu : Kw w w') : Wh w' v z k := by
 obtain ⟨s, u, l, h1, h2, h3⟩ := h
 exact ⟨s, u, l, h1, h2.kw hu, h3⟩
instance Wh.lkw {w w' : World} {v : Value} {z : Int} {k : Nat} : Lu (Kw w w') (Wh w v z k) (Wh w' v z k) := luM fun u h => h.kw u
set_option maxHeartbeats 1600000 in
theorem whole_neg {v : Value} {z : Int} {k : Nat} {w : World} (h : Wh w v z k) (hk : k ≤ 100000000) : Calls Tryz.prog 178 #[v] w (RetZ (-z) w) := by
 obtain ⟨s, u, l, rfl, hl, hz, hle⟩ := h
 have hlen := Nat.le_trans (Wd.words_val_length hl.ok) hle
 obtain ⟨A, c, rfl⟩ := hl.form
 subst hz
 rw [← Wd.iv_not]
 have UP : Up w ((w.alloc (.cells #[.bool s, .slice A l.length c] 32)).alloc (.cells #[.bool false, .slice none 0 0] 32)) := ((Up.refl w).alloc _).alloc _
 obtain ⟨b0, r0⟩ := bx_two 32 32 w [.bool s, .slice A l.length c] [.bool false, .slice none 0 0]
 go_enter Tryz.func178, Tryz.ntmps178
 go_wp2_with fail
 generalize ((w.alloc (.cells #[.bool s, .slice A l.length c] 32)).alloc (.cells #[.bool false, .slice none 0 0] 32)) = W at *
 replace hl := hl.up UP
 obtain ⟨b0_0, b0_1⟩ := b0.c2
 obtain ⟨r0_0, r0_1⟩ := r0.c2
 revert UP b0 r0 hl b0_0 b0_1
 refine lg6 (Up.refl W).drew ?_
 intro UP b0 r0 hl b0_0 b0_1
 obtain ⟨r0_0, r0_1⟩ := r0.c2
 have r0_f0 := r0.free
 go_region_held3 (fun w' => Up w w' ∧ w'.cell? ⟨w.heap.size, 0, none⟩ = some (.bool s) ∧ w'.cell? ⟨w.heap.size, 1, none⟩ = some (.slice A l.length c))
  (first | with_reducible exact ⟨UP, b0_0, b0_1⟩ | with_reducible exact ⟨(UP.alloc_drew _), (cAd b0_0), (cAd b0_1)⟩ | with_reducible exact ⟨(UP.alloc2_drew _ _), (cAe b0_0), (cAe b0_1)⟩ | ((try simp only [← World.setCell_drew]); first | with_reducible exact ⟨(us (us UP)), (cf (cf b0_0)), (cf (cf b0_1))⟩) | go_keep)
  ((first
    | (go_at_call 176
       ((with_reducible refine (nat_norm hl (by omega)).mono ?_))
       intro e W1 ret1
       obtain ⟨V1, rfl, n1, u1⟩ := ret1.ws
       clear ret1
       revert UP b0 r0 hl b0_0 b0_1 r0_0 r0_1; refine lg8 u1 ?_; intro UP b0 r0 hl b0_0 b0_1 r0_0 r0_1
       try (replace n1 := n1.up u1)
       try (replace z1 := z1.up u1)
       replace r0_f0 := r0.free
       clear u1)
    | (go_at_call 162
       ((with_reducible refine (whole_signed n1 (by omega)).mono ?_))
       rintro e W2 ⟨V2, rfl, z1, u2⟩
       revert UP b0 r0 hl b0_0 b0_1 r0_0 r0_1; refine lg8 u2 ?_; intro UP b0 r0 hl b0_0 b0_1 r0_0 r0_1
       try (replace n1 := n1.up u2)
       try (replace z1 := z1.up u2)
       replace r0_f0 := r0.free
       clear u2
       obtain ⟨Xz1, rfl, z1⟩ := z1
       obtain ⟨Az1, nz1, cz1, rfl⟩ := z1.shape)))
 go_wp2
 exact end_z rfl rfl rfl ⟨_, rfl, z1⟩ r0 trivial trivial UP (by omega)
set_option maxHeartbeats 1600000 in
theorem whole_mul {v u : Value} {z y : Int} {j k : Nat} {w : World} (h : Wh w v z j) (h' : Wh w u y k) (hj : j ≤ 100000000) (hk : k ≤ 100000000) : Calls Tryz.prog 152 #[v, u] w (RetZ (z * y) w) := by
 obtain ⟨s, v1, l, rfl, hl, hz, hle⟩ := h
 obtain ⟨t, v2, m, rfl, hm, hy, hme⟩ := h'
 have hlen := Wd.words_mul_le (Wd.words_val_length hl.ok) (Wd.words_val_length hm.ok)
 obtain ⟨A, c, rfl⟩ := hl.form
 obtain ⟨D, d, rfl⟩ := hm.form
 subst hz hy
 rw [← Wd.iv_mul]
 have UP : Up w (((w.alloc (.cells #[.bool s, .slice A l.length c] 32)).alloc (.cells #[.bool t, .slice D m.length d] 32)).alloc (.cells #[.bool false, .slice none 0 0] 32)) := (((Up.refl w).alloc _).alloc _).alloc _
 obtain ⟨b0, b1, r0⟩ := bx_three 32 32 32 w [.bool s, .slice A l.length c] [.bool t, .slice D m.length d] [.bool false, .slice none 0 0]
 go_enter Tryz.func152, Tryz.ntmps152
 go_wp2_with fail
 generalize (((w.alloc (.cells #[.bool s, .slice A l.length c] 32)).alloc (.cells #[.bool t, .slice D m.length d] 32)).alloc (.cells #[.bool false, .slice none 0 0] 32)) = W at *
 replace hl := hl.up UP
 replace hm := hm.up UP
 obtain ⟨b0_0, b0_1⟩ := b0.c2
 obtain ⟨b1_0, b1_1⟩ := b1.c2
 obtain ⟨r0_0, r0_1⟩ := r0.c2
 revert UP b0 b1 r0 hl hm b0_0 b0_1 b1_0 b1_1
 refine lg10 (Up.refl W).drew ?_
 intro UP b0 b1 r0 hl hm b0_0 b0_1 b1_0 b1_1
 obtain ⟨r0_0, r0_1⟩ := r0.c2
 have r0_f0 := r0.free
 go_region_held3 (fun w' => Up w w' ∧ w'.cell? ⟨w.heap.size, 0, none⟩ = some (.bool s) ∧ w'.cell? ⟨w.heap.size, 1, none⟩ = some (.slice A l.length c) ∧ w'.cell? ⟨w.heap.size + 1, 0, none⟩ = some (.bool t) ∧ w'.cell? ⟨w.heap.size + 1, 1, none⟩ = some (.slice D m.length d))
  (first | with_reducible exact ⟨UP, b0_0, b0_1, b1_0, b1_1⟩ | with_reducible exact ⟨(UP.alloc_drew _), (cAd b0_0), (cAd b0_1), (cAd b1_0), (cAd b1_1)⟩ | with_reducible exact ⟨(UP.alloc2_drew _ _), (cAe b0_0), (cAe b0_1), (cAe b1_0), (cAe b1_1)⟩ | ((try simp only [← World.setCell_drew]); first | with_reducible exact ⟨(us (us UP)), (cf (cf b0_0)), (cf (cf b0_1)), (cf (cf b1_0)), (cf (cf b1_1))⟩) | go_keep)
  ((first
    | (go_at_call 151
       ((with_reducible refine (prod_mul hl hm (by omega) (by omega)).mono ?_))
       rintro e W1 ⟨V1, rfl, n1, u1⟩
       revert UP b0 b1 r0 hl hm b0_0 b0_1 b1_0 b1_1 r0_0 r0_1; refine lg12 u1 ?_; intro UP b0 b1 r0 hl hm b0_0 b0_1 b1_0 b1_1 r0_0 r0_1
       try (replace n1 := n1.up u1)
       try (replace z1 := z1.up u1)
       replace r0_f0 := r0.free
       clear u1)
    | (go_at_call 162
       ((with_reducible refine (whole_signed n1 (by omega)).mono ?_))
       rintro e W2 ⟨V2, rfl, z1, u2⟩
       revert UP b0 b1 r0 hl hm b0_0 b0_1 b1_0 b1_1 r0_0 r0_1; refine lg12 u2 ?_; intro UP b0 b1 r0 hl hm b0_0 b0_1 b1_0 b1_1 r0_0 r0_1
       try (replace n1 := n1.up u2)
       try (replace z1 := z1.up u2)
       replace r0_f0 := r0.free
       clear u2
       obtain ⟨Xz1, rfl, z1⟩ := z1
       obtain ⟨Az1, nz1, cz1, rfl⟩ := z1.shape)))
 go_wp2
 exact end_z rfl rfl rfl ⟨_, rfl, z1⟩ r0 trivial trivial UP (by omega)
set_option maxHeartbeats 1600000 in
theorem whole_sign {v : Value} {z : Int} {k : Nat} {w : World} (h : Wh w v z k) (hk : k ≤ 100000000) : Calls Tryz.prog 140 #[v] w (RetN (Wd.sgn z) w) := by
 obtain ⟨s, u, l, rfl, hl, hz, hle⟩ := h
 obtain ⟨A, c, rfl⟩ := hl.form
 subst hz
 by_cases h0 : Wd.val l = 0
 · have H0 : Hid (decide (Wd.val l = 0) = true) := Lib.hid (decide_eq_true h0)
   rw [h0, Wd.iv_zero]
   clear h0
   have UP : Up w (w.alloc (.cells #[.bool s, .slice A l.length c] 32)) := (Up.refl w).alloc _
   have b0 := Bx.new 32 w [.bool s, .slice A l.length c]
   go_enter Tryz.func140, Tryz.ntmps140
   go_wp2_with fail
   generalize (w.alloc (.cells #[.bool s, .slice A l.length c] 32)) = W at *
   replace hl := hl.up UP
   obtain ⟨b0_0, b0_1⟩ := b0.c2
   go_wp2_with fail
   ((with_reducible refine (nat_zero hl (by omega)).mono ?_))
   rintro e W1 ⟨rfl, rfl⟩
   rw [H0.out]
   go_wp2
   go_ret
   exact ⟨rfl, UP⟩
 · have H0 : Hid (decide (Wd.val l = 0) = false) := Lib.hid (decide_eq_false h0)
   have HS : Hid (Wd.sgn (Wd.iv s (Wd.val l)) = if s then -1 else 1) := Lib.hid (by
    cases s
    · exact Wd.sgn_pos (by simp [Wd.iv]; omega)
    · exact Wd.sgn_neg (by simp [Wd.iv]; omega))
   rw [HS.out]
   clear h0
   cases s
   · skip
     have UP : Up w (w.alloc (.cells #[.bool false, .slice A l.length c] 32)) := (Up.refl w).alloc _
     have b0 := Bx.new 32 w [.bool false, .slice A l.length c]
     go_enter Tryz.func140, Tryz.ntmps140
     go_wp2_with fail
     generalize (w.alloc (.cells #[.bool false, .slice A l.length c] 32)) = W at *
     replace hl := hl.up UP
     obtain ⟨b0_0, b0_1⟩ := b0.c2
     go_wp2_with fail
     ((with_reducible refine (nat_zero hl (by omega)).mono ?_))
     rintro e W1 ⟨rfl, rfl⟩
     rw [H0.out]
     go_wp2
     go_ret
     exact ⟨rfl, UP⟩
   · skip
     have UP : Up w (w.alloc (.cells #[.bool true, .slice A l.length c] 32)) := (Up.refl w).alloc _
     have b0 := Bx.new 32 w [.bool true, .slice A l.length c]
     go_enter Tryz.func140, Tryz.ntmps140
     go_wp2_with fail
     generalize (w.alloc (.cells #[.bool true, .slice A l.length c] 32)) = W at *
     replace hl := hl.up UP
     obtain ⟨b0_0, b0_1⟩ := b0.c2
     go_wp2_with fail
     ((with_reducible refine (nat_zero hl (by omega)).mono ?_))
     rintro e W1 ⟨rfl, rfl⟩
     rw [H0.out]
     go_wp2
     go_ret
     exact ⟨rfl, UP⟩
/-- A sum of two of one sign. -/
theorem gap_len {a b k : Nat} (ha : (Wd.words a).length ≤ k) (hb : (Wd.words b).length ≤ k) : (Wd.words (Wd.gapN a b)).length ≤ k := by
 unfold Wd.gapN
 split
 · exact Nat.le_trans (Wd.words_mono (Nat.sub_le _ _)) hb
 · exact Nat.le_trans (Wd.words_mono (Nat.sub_le _ _)) ha
set_option maxRecDepth 100000 in
set_option maxHeartbeats 6400000 in
theorem whole_add {v u : Value} {z y : Int} {j k : Nat} {w : World} (h : Wh w v z j) (h' : Wh w u y k) (hj : j ≤ 90000000) (hk : k ≤ 90000000) : Calls Tryz.prog 150 #[v, u] w (RetZ (z + y) w) := by
 obtain ⟨s, v1, l, rfl, hl, hz, hle⟩ := h
 obtain ⟨t, v2, m, rfl, hm, hy, hme⟩ := h'
 have hlen := Wd.words_add_le1 (m := 90000000) (Nat.le_trans (Wd.words_val_length hl.ok) (by omega)) (Nat.le_trans (Wd.words_val_length hm.ok) (by omega))
 have hgap := gap_len (k := 90000000) (Nat.le_trans (Wd.words_val_length hl.ok) (by omega)) (Nat.le_trans (Wd.words_val_length hm.ok) (by omega))
 have HV : Hid (Wd.vsum [l, m] = Wd.val l + Wd.val m) := Lib.hid (by simp [Wd.vsum])
 obtain ⟨A, c, rfl⟩ := hl.form
 obtain ⟨D, d, rfl⟩ := hm.form
 subst hz hy
 cases s <;> cases t
 · rw [← Wd.iv_add]
   have UP : Up w (((w.alloc (.cells #[.bool false, .slice A l.length c] 32)).alloc (.cells #[.bool false, .slice D m.length d] 32)).alloc (.cells #[.bool false, .slice none 0 0] 32)) := (((Up.refl w).alloc _).alloc _).alloc _
   obtain ⟨b0, b1, r0⟩ := bx_three 32 32 32 w [.bool false, .slice A l.length c] [.bool false, .slice D m.length d] [.bool false, .slice none 0 0]
   go_enter Tryz.func150, Tryz.ntmps150
   go_wp2_with fail
   generalize (((w.alloc (.cells #[.bool false, .slice A l.length c] 32)).alloc (.cells #[.bool false, .slice D m.length d] 32)).alloc (.cells #[.bool false, .slice none 0 0] 32)) = W at *
   replace hl := hl.up UP
   replace hm := hm.up UP
   obtain ⟨b0_0, b0_1⟩ := b0.c2
   obtain ⟨b1_0, b1_1⟩ := b1.c2
   obtain ⟨r0_0, r0_1⟩ := r0.c2
   revert UP b0 b1 r0 hl hm b0_0 b0_1 b1_0 b1_1; refine lg10 (Up.refl W).drew ?_; intro UP b0 b1 r0 hl hm b0_0 b0_1 b1_0 b1_1
   obtain ⟨r0_0, r0_1⟩ := r0.c2
   have r0_f0 := r0.free
   go_region_held3 (fun w' => Up w w' ∧ w'.cell? ⟨w.heap.size, 0, none⟩ = some (.bool false) ∧ w'.cell? ⟨w.heap.size, 1, none⟩ = some (.slice A l.length c) ∧ w'.cell? ⟨w.heap.size + 1, 0, none⟩ = some (.bool false) ∧ w'.cell? ⟨w.heap.size + 1, 1, none⟩ = some (.slice D m.length d))
    (first | with_reducible exact ⟨UP, b0_0, b0_1, b1_0, b1_1⟩ | with_reducible exact ⟨(UP.alloc_drew _), (cAd b0_0), (cAd b0_1), (cAd b1_0), (cAd b1_1)⟩ | with_reducible exact ⟨(UP.alloc2_drew _ _), (cAe b0_0), (cAe b0_1), (cAe b1_0), (cAe b1_1)⟩ | ((try simp only [← World.setCell_drew]); first | with_reducible exact ⟨(us (us UP)), (cf (cf b0_0)), (cf (cf b0_1)), (cf (cf b1_0)), (cf (cf b1_1))⟩) | go_keep)
    ((first
      | (go_at_call 173
         ((with_reducible refine (nat_add ((wss_two hl.undrew hm.undrew).up (Up.refl _).drew) (by simp) (by simp; omega) (by rw [HV.out]; omega)).mono ?_))
         rintro e W1 ⟨V1, rfl, n1, u1⟩
         revert UP b0 b1 r0 hl hm b0_0 b0_1 b1_0 b1_1 r0_0 r0_1; refine lg12 (Up.skip u1) ?_; intro UP b0 b1 r0 hl hm b0_0 b0_1 b1_0 b1_1 r0_0 r0_1
         try (replace n1 := n1.up (Up.skip u1))
         try (replace z1 := z1.up (Up.skip u1))
         replace r0_f0 := r0.free
         clear u1
         rw [HV.out] at n1)
      | (go_at_call 162
         ((with_reducible refine (whole_signed n1 (by omega)).mono ?_))
         rintro e W2 ⟨V2, rfl, z1, u2⟩
         revert UP b0 b1 r0 hl hm b0_0 b0_1 b1_0 b1_1 r0_0 r0_1; refine lg12 u2 ?_; intro UP b0 b1 r0 hl hm b0_0 b0_1 b1_0 b1_1 r0_0 r0_1
         try (replace n1 := n1.up u2)
         try (replace z1 := z1.up u2)
         replace r0_f0 := r0.free
         clear u2
         obtain ⟨Xz1, rfl, z1⟩ := z1
         obtain ⟨Az1, nz1, cz1, rfl⟩ := z1.shape)))
   go_wp2
   exact end_z rfl rfl rfl ⟨_, rfl, z1⟩ r0 trivial trivial UP (by omega)
 · rw [← Wd.iv_gap false true _ _ rfl]
   by_cases hlt : Wd.val l < Wd.val m
   · rw [if_pos hlt]
     have HC := Lib.hid (Wd.cmpI_lt hlt)
     clear hlt
     have UP : Up w (((w.alloc (.cells #[.bool false, .slice A l.length c] 32)).alloc (.cells #[.bool true, .slice D m.length d] 32)).alloc (.cells #[.bool false, .slice none 0 0] 32)) := (((Up.refl w).alloc _).alloc _).alloc _
     obtain ⟨b0, b1, r0⟩ := bx_three 32 32 32 w [.bool false, .slice A l.length c] [.bool true, .slice D m.length d] [.bool false, .slice none 0 0]
     go_enter Tryz.func150, Tryz.ntmps150
     go_wp2_with fail
     generalize (((w.alloc (.cells #[.bool false, .slice A l.length c] 32)).alloc (.cells #[.bool true, .slice D m.length d] 32)).alloc (.cells #[.bool false, .slice none 0 0] 32)) = W at *
     refine li2 UP hl hm ?_; clear hl hm; intro hl hm
     obtain ⟨b0_0, b0_1⟩ := b0.c2
     obtain ⟨b1_0, b1_1⟩ := b1.c2
     obtain ⟨r0_0, r0_1⟩ := r0.c2
     go_wp2_with fail
     ((with_reducible refine (nat_gap hl hm (by omega) (by omega)).mono ?_))
     rintro e W1 ⟨V1, rfl, n1, u1⟩
     revert UP b0 b1 r0 hl hm b0_0 b0_1 b1_0 b1_1 r0_0 r0_1; revert u1; refine lh12 ?_; intro UP b0 b1 r0 hl hm b0_0 b0_1 b1_0 b1_1 r0_0 r0_1
     rw [HC.out]
     go_wp2_with fail
     ((with_reducible refine (whole_signed n1 (by omega)).mono ?_))
     rintro e W2 ⟨V2, rfl, z1, u2⟩
     revert n1 UP b0 b1 r0 hl hm b0_0 b0_1 b1_0 b1_1 r0_0; refine lg12 u2 ?_; intro n1 UP b0 b1 r0 hl hm b0_0 b0_1 b1_0 b1_1 r0_0; revert r0_1; revert u2; refine lh1 ?_; intro r0_1
     obtain ⟨Xz1, rfl, z1⟩ := z1
     obtain ⟨Az1, nz1, cz1, rfl⟩ := z1.shape
     have q0 := r0.free 0
     have q1 := r0.free 1
     go_wp2
     exact end_z rfl rfl rfl ⟨_, rfl, z1⟩ r0 trivial trivial UP (by omega)
   · rw [if_neg hlt]
     have HC : Hid (∃ t, Wd.cmpI (Wd.val l) (Wd.val m) = t ∧ 0 ≤ t) := Lib.hid ⟨_, rfl, by have := @Wd.cmpI_neg (Wd.val l) (Wd.val m); omega⟩
     clear hlt
     have UP : Up w (((w.alloc (.cells #[.bool false, .slice A l.length c] 32)).alloc (.cells #[.bool true, .slice D m.length d] 32)).alloc (.cells #[.bool false, .slice none 0 0] 32)) := (((Up.refl w).alloc _).alloc _).alloc _
     obtain ⟨b0, b1, r0⟩ := bx_three 32 32 32 w [.bool false, .slice A l.length c] [.bool true, .slice D m.length d] [.bool false, .slice none 0 0]
     go_enter Tryz.func150, Tryz.ntmps150
     go_wp2_with fail
     generalize (((w.alloc (.cells #[.bool false, .slice A l.length c] 32)).alloc (.cells #[.bool true, .slice D m.length d] 32)).alloc (.cells #[.bool false, .slice none 0 0] 32)) = W at *
     refine li2 UP hl hm ?_; clear hl hm; intro hl hm
     obtain ⟨b0_0, b0_1⟩ := b0.c2
     obtain ⟨b1_0, b1_1⟩ := b1.c2
     obtain ⟨r0_0, r0_1⟩ := r0.c2
     go_wp2_with fail
     ((with_reducible refine (nat_gap hl hm (by omega) (by omega)).mono ?_))
     rintro e W1 ⟨V1, rfl, n1, u1⟩
     revert UP b0 b1 r0 hl hm b0_0 b0_1 b1_0 b1_1 r0_0 r0_1; revert u1; refine lh12 ?_; intro UP b0 b1 r0 hl hm b0_0 b0_1 b1_0 b1_1 r0_0 r0_1
     obtain ⟨t, ht, h0⟩ := HC.out
     rw [ht]
     clear ht
     go_wp2_with fail
     ((with_reducible refine (whole_signed n1 (by omega)).mono ?_))
     rintro e W2 ⟨V2, rfl, z1, u2⟩
     revert n1 UP b0 b1 r0 hl hm b0_0 b0_1 b1_0 b1_1 r0_0; refine lg12 u2 ?_; intro n1 UP b0 b1 r0 hl hm b0_0 b0_1 b1_0 b1_1 r0_0; revert r0_1; revert u2; refine lh1 ?_; intro r0_1
     obtain ⟨Xz1, rfl, z1⟩ := z1
     obtain ⟨Az1, nz1, cz1, rfl⟩ := z1.shape
     have q0 := r0.free 0
     have q1 := r0.free 1
     go_wp2
     exact end_z rfl rfl rfl ⟨_, rfl, z1⟩ r0 trivial trivial UP (by omega)
 · rw [← Wd.iv_gap true false _ _ rfl]
   by_cases hlt : Wd.val l < Wd.val m
   · rw [if_pos hlt]
     have HC := Lib.hid (Wd.cmpI_lt hlt)
     clear hlt
     have UP : Up w (((w.alloc (.cells #[.bool true, .slice A l.length c] 32)).alloc (.cells #[.bool false, .slice D m.length d] 32)).alloc (.cells #[.bool false, .slice none 0 0] 32)) := (((Up.refl w).alloc _).alloc _).alloc _
     obtain ⟨b0, b1, r0⟩ := bx_three 32 32 32 w [.bool true, .slice A l.length c] [.bool false, .slice D m.length d] [.bool false, .slice none 0 0]
     go_enter Tryz.func150, Tryz.ntmps150
     go_wp2_with fail
     generalize (((w.alloc (.cells #[.bool true, .slice A l.length c] 32)).alloc (.cells #[.bool false, .slice D m.length d] 32)).alloc (.cells #[.bool false, .slice none 0 0] 32)) = W at *
     refine li2 UP hl hm ?_; clear hl hm; intro hl hm
     obtain ⟨b0_0, b0_1⟩ := b0.c2
     obtain ⟨b1_0, b1_1⟩ := b1.c2
     obtain ⟨r0_0, r0_1⟩ := r0.c2
     go_wp2_with fail
     ((with_reducible refine (nat_gap hl hm (by omega) (by omega)).mono ?_))
     rintro e W1 ⟨V1, rfl, n1, u1⟩
     revert UP b0 b1 r0 hl hm b0_0 b0_1 b1_0 b1_1 r0_0 r0_1; revert u1; refine lh12 ?_; intro UP b0 b1 r0 hl hm b0_0 b0_1 b1_0 b1_1 r0_0 r0_1
     rw [HC.out]
     go_wp2_with fail
     ((with_reducible refine (whole_signed n1 (by omega)).mono ?_))
     rintro e W2 ⟨V2, rfl, z1, u2⟩
     revert n1 UP b0 b1 r0 hl hm b0_0 b0_1 b1_0 b1_1 r0_0; refine lg12 u2 ?_; intro n1 UP b0 b1 r0 hl hm b0_0 b0_1 b1_0 b1_1 r0_0; revert r0_1; revert u2; refine lh1 ?_; intro r0_1
     obtain ⟨Xz1, rfl, z1⟩ := z1
     obtain ⟨Az1, nz1, cz1, rfl⟩ := z1.shape
     have q0 := r0.free 0
     have q1 := r0.free 1
     go_wp2
     exact end_z rfl rfl rfl ⟨_, rfl, z1⟩ r0 trivial trivial UP (by omega)
   · rw [if_neg hlt]
     have HC : Hid (∃ t, Wd.cmpI (Wd.val l) (Wd.val m) = t ∧ 0 ≤ t) := Lib.hid ⟨_, rfl, by have := @Wd.cmpI_neg (Wd.val l) (Wd.val m); omega⟩
     clear hlt
     have UP : Up w (((w.alloc (.cells #[.bool true, .slice A l.length c] 32)).alloc (.cells #[.bool false, .slice D m.length d] 32)).alloc (.cells #[.bool false, .slice none 0 0] 32)) := (((Up.refl w).alloc _).alloc _).alloc _
     obtain ⟨b0, b1, r0⟩ := bx_three 32 32 32 w [.bool true, .slice A l.length c] [.bool false, .slice D m.length d] [.bool false, .slice none 0 0]
     go_enter Tryz.func150, Tryz.ntmps150
     go_wp2_with fail
     generalize (((w.alloc (.cells #[.bool true, .slice A l.length c] 32)).alloc (.cells #[.bool false, .slice D m.length d] 32)).alloc (.cells #[.bool false, .slice none 0 0] 32)) = W at *
     refine li2 UP hl hm ?_; clear hl hm; intro hl hm
     obtain ⟨b0_0, b0_1⟩ := b0.c2
     obtain ⟨b1_0, b1_1⟩ := b1.c2
     obtain ⟨r0_0, r0_1⟩ := r0.c2
     go_wp2_with fail
     ((with_reducible refine (nat_gap hl hm (by omega) (by omega)).mono ?_))
     rintro e W1 ⟨V1, rfl, n1, u1⟩
     revert UP b0 b1 r0 hl hm b0_0 b0_1 b1_0 b1_1 r0_0 r0_1; revert u1; refine lh12 ?_; intro UP b0 b1 r0 hl hm b0_0 b0_1 b1_0 b1_1 r0_0 r0_1
     obtain ⟨t, ht, h0⟩ := HC.out
     rw [ht]
     clear ht
     go_wp2_with fail
     ((with_reducible refine (whole_signed n1 (by omega)).mono ?_))
     rintro e W2 ⟨V2, rfl, z1, u2⟩
     revert n1 UP b0 b1 r0 hl hm b0_0 b0_1 b1_0 b1_1 r0_0; refine lg12 u2 ?_; intro n1 UP b0 b1 r0 hl hm b0_0 b0_1 b1_0 b1_1 r0_0; revert r0_1; revert u2; refine lh1 ?_; intro r0_1
     obtain ⟨Xz1, rfl, z1⟩ := z1
     obtain ⟨Az1, nz1, cz1, rfl⟩ := z1.shape
     have q0 := r0.free 0
     have q1 := r0.free 1
     go_wp2
     exact end_z rfl rfl rfl ⟨_, rfl, z1⟩ r0 trivial trivial UP (by omega)
 · rw [← Wd.iv_add]
   have UP : Up w (((w.alloc (.cells #[.bool true, .slice A l.length c] 32)).alloc (.cells #[.bool true, .slice D m.length d] 32)).alloc (.cells #[.bool false, .slice none 0 0] 32)) := (((Up.refl w).alloc _).alloc _).alloc _
   obtain ⟨b0, b1, r0⟩ := bx_three 32 32 32 w [.bool true, .slice A l.length c] [.bool true, .slice D m.length d] [.bool false, .slice none 0 0]
   go_enter Tryz.func150, Tryz.ntmps150
   go_wp2_with fail
   generalize (((w.alloc (.cells #[.bool true, .slice A l.length c] 32)).alloc (.cells #[.bool true, .slice D m.length d] 32)).alloc (.cells #[.bool false, .slice none 0 0] 32)) = W at *
   replace hl := hl.up UP
   replace hm := hm.up UP
   obtain ⟨b0_0, b0_1⟩ := b0.c2
   obtain ⟨b1_0, b1_1⟩ := b1.c2
   obtain ⟨r0_0, r0_1⟩ := r0.c2
   revert UP b0 b1 r0 hl hm b0_0 b0_1 b1_0 b1_1; refine lg10 (Up.refl W).drew ?_; intro UP b0 b1 r0 hl hm b0_0 b0_1 b1_0 b1_1
   obtain ⟨r0_0, r0_1⟩ := r0.c2
   have r0_f0 := r0.free
   go_region_held3 (fun w' => Up w w' ∧ w'.cell? ⟨w.heap.size, 0, none⟩ = some (.bool true) ∧ w'.cell? ⟨w.heap.size, 1, none⟩ = some (.slice A l.length c) ∧ w'.cell? ⟨w.heap.size + 1, 0, none⟩ = some (.bool true) ∧ w'.cell? ⟨w.heap.size + 1, 1, none⟩ = some (.slice D m.length d))
    (first | with_reducible exact ⟨UP, b0_0, b0_1, b1_0, b1_1⟩ | with_reducible exact ⟨(UP.alloc_drew _), (cAd b0_0), (cAd b0_1), (cAd b1_0), (cAd b1_1)⟩ | with_reducible exact ⟨(UP.alloc2_drew _ _), (cAe b0_0), (cAe b0_1), (cAe b1_0), (cAe b1_1)⟩ | ((try simp only [← World.setCell_drew]); first | with_reducible exact ⟨(us (us UP)), (cf (cf b0_0)), (cf (cf b0_1)), (cf (cf b1_0)), (cf (cf b1_1))⟩) | go_keep)
    ((first
      | (go_at_call 173
         ((with_reducible refine (nat_add ((wss_two hl.undrew hm.undrew).up (Up.refl _).drew) (by simp) (by simp; omega) (by rw [HV.out]; omega)).mono ?_))
         rintro e W1 ⟨V1, rfl, n1, u1⟩
         revert UP b0 b1 r0 hl hm b0_0 b0_1 b1_0 b1_1 r0_0 r0_1; refine lg12 (Up.skip u1) ?_; intro UP b0 b1 r0 hl hm b0_0 b0_1 b1_0 b1_1 r0_0 r0_1
         try (replace n1 := n1.up (Up.skip u1))
         try (replace z1 := z1.up (Up.skip u1))
         replace r0_f0 := r0.free
         clear u1
         rw [HV.out] at n1)
      | (go_at_call 162
         ((with_reducible refine (whole_signed n1 (by omega)).mono ?_))
         rintro e W2 ⟨V2, rfl, z1, u2⟩
         revert UP b0 b1 r0 hl hm b0_0 b0_1 b1_0 b1_1 r0_0 r0_1; refine lg12 u2 ?_; intro UP b0 b1 r0 hl hm b0_0 b0_1 b1_0 b1_1 r0_0 r0_1
         try (replace n1 := n1.up u2)
         try (replace z1 := z1.up u2)
         replace r0_f0 := r0.free
         clear u2
         obtain ⟨Xz1, rfl, z1⟩ := z1
         obtain ⟨Az1, nz1, cz1, rfl⟩ := z1.shape)))
   go_wp2
   exact end_z rfl rfl rfl ⟨_, rfl, z1⟩ r0 trivial trivial UP (by omega)
end Go.Proofs.YtmmcffceeahemaaGreat
namespace Go.Proofs.YtmmcffceeahemaaGreat
open Go.RowKit
theorem u64_neg {n : Int} (h : n < 0) (h2 : -9223372036854775808 ≤ n) : IntKind.u64.wrap (-IntKind.u64.wrap n) = (n.natAbs : Int) := by
 rw [IntKind.wrap_u64, IntKind.wrap_u64]; omega
set_option maxHeartbeats 1600000 in
theorem whole_of {n : Int} (hn : -9223372036854775808 ≤ n ∧ n ≤ 9223372036854775807) (w : World) : Calls Tryz.prog 134 #[.int .i64 n] w (RetZ n w) := by
 have hlen : (Wd.words n.natAbs).length ≤ 2 := Wd.words_64 (by omega)
 by_cases h : n < 0
 · have e : Wd.iv true n.natAbs = n := by rw [Wd.iv_true]; omega
   have E := Lib.hid e
   clear e
   have UP : Up w (w.alloc (.cells #[.bool false, .slice none 0 0] 32)) := (Up.refl w).alloc _
   have r0 := Bx.new 32 w [.bool false, .slice none 0 0]
   go_enter Tryz.func134, Tryz.ntmps134
   go_wp2_with fail
   generalize (w.alloc (.cells #[.bool false, .slice none 0 0] 32)) = W at *
   obtain ⟨r0_0, r0_1⟩ := r0.c2
   go_wp2_with fail
   ((with_reducible refine (nat_of n.natAbs (by rw [u64_neg (by omega) (by omega)]) (by omega) _).mono ?_))
   rintro e W1 ⟨V1, rfl, n1, u1⟩
   revert UP r0 r0_0 r0_1; revert u1; refine lh4 ?_; intro UP r0 r0_0 r0_1
   go_wp2_with fail
   ((with_reducible refine (whole_signed n1 (by omega)).mono ?_))
   rintro e W2 ⟨V2, rfl, z1, u2⟩
   revert n1 UP r0 r0_0 r0_1; revert u2; refine lh5 ?_; intro n1 UP r0 r0_0 r0_1
   rw [E.out] at z1
   obtain ⟨Xz1, rfl, z1⟩ := z1
   obtain ⟨Az1, nz1, cz1, rfl⟩ := z1.shape
   have q0 := r0.free 0
   have q1 := r0.free 1
   go_wp2
   exact end_z rfl rfl rfl ⟨_, rfl, z1⟩ r0 trivial trivial UP (by omega)
 · have e : Wd.iv false n.natAbs = n := by rw [Wd.iv_false]; omega
   have E := Lib.hid e
   clear e
   have UP : Up w (w.alloc (.cells #[.bool false, .slice none 0 0] 32)) := (Up.refl w).alloc _
   have r0 := Bx.new 32 w [.bool false, .slice none 0 0]
   go_enter Tryz.func134, Tryz.ntmps134
   go_wp2_with fail
   generalize (w.alloc (.cells #[.bool false, .slice none 0 0] 32)) = W at *
   obtain ⟨r0_0, r0_1⟩ := r0.c2
   go_wp2_with fail
   ((with_reducible refine (nat_of n.natAbs (by first | (rw [IntKind.wrap_u64]; omega) | omega) (by omega) _).mono ?_))
   rintro e W1 ⟨V1, rfl, n1, u1⟩
   revert UP r0 r0_0 r0_1; revert u1; refine lh4 ?_; intro UP r0 r0_0 r0_1
   go_wp2_with fail
   ((with_reducible refine (whole_signed n1 (by omega)).mono ?_))
   rintro e W2 ⟨V2, rfl, z1, u2⟩
   revert n1 UP r0 r0_0 r0_1; revert u2; refine lh5 ?_; intro n1 UP r0 r0_0 r0_1
   rw [E.out] at z1
   obtain ⟨Xz1, rfl, z1⟩ := z1
   obtain ⟨Az1, nz1, cz1, rfl⟩ := z1.shape
   have q0 := r0.free 0
   have q1 := r0.free 1
   go_wp2
   exact end_z rfl rfl rfl ⟨_, rfl, z1⟩ r0 trivial trivial UP (by omega)
set_option maxHeartbeats 1600000 in
theorem whole_sub {v u : Value} {z y : Int} {j k : Nat} {w : World} (h : Wh w v z j) (h' : Wh w u y k) (hj : j ≤ 90000000) (hk : k ≤ 90000000) : Calls Tryz.prog 155 #[v, u] w (RetZ (z - y) w) := by
 have H1 := h
 have H2 := h'
 rw [Int.sub_eq_add_neg]
 obtain ⟨s, v1, l, rfl, hl, hz, hle⟩ := h
 obtain ⟨t, v2, m, rfl, hm, hy, hme⟩ := h'
 obtain ⟨A, c, rfl⟩ := hl.form
 obtain ⟨D, d, rfl⟩ := hm.form
 clear hl hm hz hy
 have UP : Up w (((w.alloc (.cells #[.bool s, .slice A l.length c] 32)).alloc (.cells #[.bool t, .slice D m.length d] 32)).alloc (.cells #[.bool false, .slice none 0 0] 32)) := (((Up.refl w).alloc _).alloc _).alloc _
 obtain ⟨b0, b1, r0⟩ := bx_three 32 32 32 w [.bool s, .slice A l.length c] [.bool t, .slice D m.length d] [.bool false, .slice none 0 0]
 go_enter Tryz.func155, Tryz.ntmps155
 go_wp2_with fail
 generalize (((w.alloc (.cells #[.bool s, .slice A l.length c] 32)).alloc (.cells #[.bool t, .slice D m.length d] 32)).alloc (.cells #[.bool false, .slice none 0 0] 32)) = W at *
 revert H1 H2
 refine lg2 UP ?_
 intro H1 H2
 obtain ⟨b0_0, b0_1⟩ := b0.c2
 obtain ⟨b1_0, b1_1⟩ := b1.c2
 obtain ⟨r0_0, r0_1⟩ := r0.c2
 revert UP b0 b1 r0 H1 H2 b0_0 b0_1 b1_0 b1_1
 refine lg10 (Up.refl W).drew ?_
 intro UP b0 b1 r0 H1 H2 b0_0 b0_1 b1_0 b1_1
 obtain ⟨r0_0, r0_1⟩ := r0.c2
 have r0_f0 := r0.free
 go_region_held3 (fun w' => Up w w' ∧ w'.cell? ⟨w.heap.size, 0, none⟩ = some (.bool s) ∧ w'.cell? ⟨w.heap.size, 1, none⟩ = some (.slice A l.length c) ∧ w'.cell? ⟨w.heap.size + 1, 0, none⟩ = some (.bool t) ∧ w'.cell? ⟨w.heap.size + 1, 1, none⟩ = some (.slice D m.length d))
  (first | with_reducible exact ⟨UP, b0_0, b0_1, b1_0, b1_1⟩ | with_reducible exact ⟨(UP.alloc_drew _), (cAd b0_0), (cAd b0_1), (cAd b1_0), (cAd b1_1)⟩ | with_reducible exact ⟨(UP.alloc2_drew _ _), (cAe b0_0), (cAe b0_1), (cAe b1_0), (cAe b1_1)⟩ | ((try simp only [← World.setCell_drew]); first | with_reducible exact ⟨(us (us UP)), (cf (cf b0_0)), (cf (cf b0_1)), (cf (cf b1_0)), (cf (cf b1_1))⟩) | go_keep)
  ((first
    | (go_at_call 178
       ((with_reducible refine (whole_neg H2 (by omega)).mono ?_))
       rintro e W1 ⟨V1, rfl, n1, u1⟩
       revert UP b0 b1 r0 H1 H2 b0_0 b0_1 b1_0 b1_1 r0_0 r0_1; refine lg12 u1 ?_; intro UP b0 b1 r0 H1 H2 b0_0 b0_1 b1_0 b1_1 r0_0 r0_1
       try (replace n1 := n1.up u1)
       try (replace z1 := z1.up u1)
       replace r0_f0 := r0.free
       clear u1)
    | (go_at_call 150
       ((with_reducible refine (whole_add H1 (n1.wh (H2.lz.neg)) (by omega) (by omega)).mono ?_))
       rintro e W2 ⟨V2, rfl, z1, u2⟩
       revert UP b0 b1 r0 H1 H2 b0_0 b0_1 b1_0 b1_1 r0_0 r0_1; refine lg12 u2 ?_; intro UP b0 b1 r0 H1 H2 b0_0 b0_1 b1_0 b1_1 r0_0 r0_1
       try (replace n1 := n1.up u2)
       try (replace z1 := z1.up u2)
       replace r0_f0 := r0.free
       clear u2
       obtain ⟨Xz1, rfl, z1⟩ := z1
       obtain ⟨Az1, nz1, cz1, rfl⟩ := z1.shape)))
 go_wp2
 exact end_z rfl rfl rfl ⟨_, rfl, z1⟩ r0 trivial trivial UP (by omega)
set_option maxHeartbeats 1600000 in
theorem whole_cmp {v u : Value} {z y : Int} {j k : Nat} {w : World} (h : Wh w v z j) (h' : Wh w u y k) (hj : j ≤ 90000000) (hk : k ≤ 90000000) : Calls Tryz.prog 141 #[v, u] w (RetN (Wd.sgn (z - y)) w) := by
 have H1 := h
 have H2 := h'
 obtain ⟨s, v1, l, rfl, hl, hz, hle⟩ := h
 obtain ⟨t, v2, m, rfl, hm, hy, hme⟩ := h'
 obtain ⟨A, c, rfl⟩ := hl.form
 obtain ⟨D, d, rfl⟩ := hm.form
 have HL := (H1.lz.mono hj).add (H2.lz.neg.mono hk)
 rw [← Int.sub_eq_add_neg] at HL
 clear hl hm hz hy
 have UP : Up w ((w.alloc (.cells #[.bool s, .slice A l.length c] 32)).alloc (.cells #[.bool t, .slice D m.length d] 32)) := ((Up.refl w).alloc _).alloc _
 obtain ⟨b0, b1⟩ := bx_two 32 32 w [.bool s, .slice A l.length c] [.bool t, .slice D m.length d]
 go_enter Tryz.func141, Tryz.ntmps141
 go_wp2_with fail
 generalize ((w.alloc (.cells #[.bool s, .slice A l.length c] 32)).alloc (.cells #[.bool t, .slice D m.length d] 32)) = W at *
 revert H1 H2
 refine lg2 UP ?_
 intro H1 H2
 obtain ⟨b0_0, b0_1⟩ := b0.c2
 obtain ⟨b1_0, b1_1⟩ := b1.c2
 go_wp2_with fail
 ((with_reducible refine (whole_sub H1 H2 (by omega) (by omega)).mono ?_))
 rintro e W1 ⟨V1, rfl, z1, u1⟩
 revert UP b0 b1 H1 H2 b0_0 b0_1 b1_0 b1_1
 revert u1
 refine lh9 ?_
 intro UP b0 b1 H1 H2 b0_0 b0_1 b1_0 b1_1
 go_wp2_with fail
 ((with_reducible refine (whole_sign (z1.wh HL) (by omega)).mono ?_))
 rintro e W2 ⟨rfl, u2⟩
 revert z1 UP b0 b1 H1 H2 b0_0 b0_1 b1_0 b1_1
 revert u2
 refine lh10 ?_
 intro z1 UP b0 b1 H1 H2 b0_0 b0_1 b1_0 b1_1
 go_wp2
 go_ret
 exact ⟨rfl, UP⟩
end Go.Proofs.YtmmcffceeahemaaGreat
