/-
  Layer 9: fractions: the right one, the parts.
  Layer 9: fractions: sums, products, quotients.
  Layer 9: fractions: products, quotients, those of numbers, signs.
-/
import Derived.Test.YtmmcffceeahemaaGreatZtPlain
import Derived.Test.YtmmcffceeahemaaGreatZtLowWhole
import Derived.Deep.RegionWith
import Derived.Test.YtmmcffceeahemaaGreatZtShort
set_option linter.unusedVariables false
set_option linter.unusedSimpArgs false
namespace Go.Proofs.YtmmcffceeahemaaGreat
open Go.RowKit
/-- A fraction that may be spelled in any way, of at most so many words in each number. -/
def Fr (w : World) (v : Value) (q : Rat) (k : Nat) : Prop :=
 ∃ s u d l m, v = .agg #[.bool s, u, d] ∧ Ws w u l ∧ Ws w d m ∧ mkRat (Wd.iv s (Wd.val l)) (Wd.val m) = q ∧ l.length ≤ k ∧ m.length ≤ k ∧ 1 ≤ k
theorem Fr.kw {w w' : World} {v : Value} {q : Rat} {k : Nat} (h : Fr w v q k) (hu : Kw w w') : Fr w' v q k := by
 obtain ⟨s, u, d, l, m, h1, h2, h3, h4⟩ := h
 exact ⟨s, u, d, l, m, h1, h2.kw hu, h3.kw hu, h4⟩
instance Fr.lkw {w w' : World} {v : Value} {q : Rat} {k : Nat} : Lu (Kw w w') (Fr w v q k) (Fr w' v q k) := luM fun u h => h.kw u
theorem Fr.up {w w' : World} {v : Value} {q : Rat} {k : Nat} (h : Fr w v q k) (hu : Up w w') : Fr w' v q k := h.kw hu.kw
instance Fr.lup {w w' : World} {v : Value} {q : Rat} {k : Nat} : Lu (Up w w') (Fr w v q k) (Fr w' v q k) := luM fun u h => h.up u
theorem Fr.mono {w : World} {v : Value} {q : Rat} {j k : Nat} (h : Fr w v q j) (hk : j ≤ k) : Fr w v q k := by
 obtain ⟨s, u, d, l, m, h1, h2, h3, h4, h5, h6, h7⟩ := h
 exact ⟨s, u, d, l, m, h1, h2, h3, h4, Nat.le_trans h5 hk, Nat.le_trans h6 hk, Nat.le_trans h7 hk⟩
theorem Fr.lq {w : World} {v : Value} {q : Rat} {k : Nat} (h : Fr w v q k) : Wd.Lq q k := by
 obtain ⟨s, u, d, l, m, h1, h2, h3, rfl, h5, h6, h7⟩ := h
 exact Wd.Lq.mk (Wd.Lz.iv (Nat.le_trans (Wd.words_val_length h2.ok) h5)) (Nat.le_trans (Wd.words_val_length h3.ok) h6) h7
/-- The right one. -/
def Qw (w : World) (v : Value) (q : Rat) : Prop := ∃ u d, v = .agg #[.bool (Wd.ngb q.num), u, d] ∧ Ws w u (Wd.words q.num.natAbs) ∧ Ws w d (Wd.words q.den)
theorem Qw.kw {w w' : World} {v : Value} {q : Rat} (h : Qw w v q) (hu : Kw w w') : Qw w' v q := by
 obtain ⟨u, d, h1, h2, h3⟩ := h
 exact ⟨u, d, h1, h2.kw hu, h3.kw hu⟩
instance Qw.lkw {w w' : World} {v : Value} {q : Rat} : Lu (Kw w w') (Qw w v q) (Qw w' v q) := luM fun u h => h.kw u
theorem Qw.up {w w' : World} {v : Value} {q : Rat} (h : Qw w v q) (hu : Up w w') : Qw w' v q := h.kw hu.kw
instance Qw.lup {w w' : World} {v : Value} {q : Rat} : Lu (Up w w') (Qw w v q) (Qw w' v q) := luM fun u h => h.up u
theorem Qw.fr {w : World} {v : Value} {q : Rat} {k : Nat} (h : Qw w v q) (hk : Wd.Lq q k) : Fr w v q k := by
 obtain ⟨u, d, h1, h2, h3⟩ := h
 exact ⟨_, u, d, _, _, h1, h2, h3, by rw [Wd.val_words, Wd.val_words, Wd.iv_ngb, Rat.mkRat_self], hk.1, hk.2, hk.pos⟩
theorem Qw.mk {w : World} {u d : Value} {q : Rat} {s : Bool} {n m : Nat} (h : Ws w u (Wd.words n)) (k : Ws w d (Wd.words m)) (hs : s = Wd.ngb q.num) (hn : q.num.natAbs = n) (hm : q.den = m) : Qw w (.agg #[.bool s, u, d]) q := by
 subst hs hn hm
 exact ⟨u, d, rfl, h, k⟩
/-- What comes back: a right fraction; one, and whether there is any. -/
def RetQ (q : Rat) (w : World) (e : Ending) (w' : World) : Prop := ∃ v, e = .returned v ∧ Qw w' v q ∧ Up w w'
def RetQB (q : Rat) (b : Bool) (w : World) (e : Ending) (w' : World) : Prop := ∃ v, e = .returned (.tuple #[v, .bool b]) ∧ Qw w' v q ∧ Up w w'
theorem agg_frac (w : World) : (isAgg 34).run Tryz.prog w = .ok true w := by kernel_rfl
theorem size_frac (w : World) : (sizeOf 34).run Tryz.prog w = .ok 3 w := by kernel_rfl
theorem q_stored {w0 w : World} {T : TypeId} {g : Nat} {q : Rat} {s : Bool} {u d p1 p2 p3 : Value}
 (h : Qw w (.agg #[.bool s, u, d]) q) (r : Bx T w g [p1, p2, p3]) (n1 : NoWord p1) (n2 : NoWord p2) (n3 : NoWord p3) (hu : Up w0 w) (hg : w0.heap.size ≤ g) :
 Bx T (((w.setCell ⟨g, 0, none⟩ (.bool s)).setCell ⟨g, 1, none⟩ u).setCell ⟨g, 2, none⟩ d) g [.bool s, u, d] ∧ Qw (((w.setCell ⟨g, 0, none⟩ (.bool s)).setCell ⟨g, 1, none⟩ u).setCell ⟨g, 2, none⟩ d) (.agg #[.bool s, u, d]) q ∧
  Up w0 (((w.setCell ⟨g, 0, none⟩ (.bool s)).setCell ⟨g, 1, none⟩ u).setCell ⟨g, 2, none⟩ d) := by
 have r1 : Bx T (w.setCell ⟨g, 0, none⟩ (.bool s)) g [.bool s, p2, p3] := r.set 0 _
 have r2 : Bx T ((w.setCell ⟨g, 0, none⟩ (.bool s)).setCell ⟨g, 1, none⟩ u) g [.bool s, u, p3] := r1.set 1 _
 have r3 : Bx T (((w.setCell ⟨g, 0, none⟩ (.bool s)).setCell ⟨g, 1, none⟩ u).setCell ⟨g, 2, none⟩ d) g [.bool s, u, d] := r2.set 2 _
 have k1 := Kw.store (i := 0) (c := p1) r rfl n1 (.bool s)
 have k2 := Kw.store (i := 1) (c := p2) r1 rfl n2 u
 have k3 := Kw.store (i := 2) (c := p3) r2 rfl n3 d
 exact ⟨r3, h.kw ((k1.trans k2).trans k3), ((hu.setCell (p := ⟨g, 0, none⟩) hg _).setCell (p := ⟨g, 1, none⟩) hg _).setCell (p := ⟨g, 2, none⟩) hg _⟩
/-- It ends with a fraction, stored into the result's cell. -/
theorem end_q {fn : Func} {a : Act} {w0 w : World} {t : Tmp} {g : Nat} {q : Rat} {s : Bool} {u d p1 p2 p3 : Value} (hres : fn.results = #[.cell t 34]) (ht : a.tmps.getD t undef = .pointer (some ⟨g, 0, none⟩)) (hd : a.defers = [])
 (h : Qw w (.agg #[.bool s, u, d]) q) (r : Bx 34 w g [p1, p2, p3]) (n1 : NoWord p1) (n2 : NoWord p2) (n3 : NoWord p3) (hu : Up w0 w) (hg : w0.heap.size ≤ g) :
 bodyPost Tryz.prog fn (RetQ q w0) .ret a (((w.setCell ⟨g, 0, none⟩ (.bool s)).setCell ⟨g, 1, none⟩ u).setCell ⟨g, 2, none⟩ d) := by
 obtain ⟨r3, h3, u3⟩ := q_stored h r n1 n2 n3 hu hg
 exact bodyPost_ret (run_res_cell hres ht agg_frac size_frac r3 rfl) hd ⟨_, rfl, h3, u3⟩
theorem end_qb {fn : Func} {a : Act} {w0 w : World} {t t' : Tmp} {g : Nat} {q : Rat} {b s : Bool} {u d p1 p2 p3 : Value} (hres : fn.results = #[.cell t 34, .tmp t']) (ht : a.tmps.getD t undef = .pointer (some ⟨g, 0, none⟩)) (hb : a.tmps.getD t' undef = .bool b) (hd : a.defers = [])
 (h : Qw w (.agg #[.bool s, u, d]) q) (r : Bx 34 w g [p1, p2, p3]) (n1 : NoWord p1) (n2 : NoWord p2) (n3 : NoWord p3) (hu : Up w0 w) (hg : w0.heap.size ≤ g) :
 bodyPost Tryz.prog fn (RetQB q b w0) .ret a (((w.setCell ⟨g, 0, none⟩ (.bool s)).setCell ⟨g, 1, none⟩ u).setCell ⟨g, 2, none⟩ d) := by
 obtain ⟨r3, h3, u3⟩ := q_stored h r n1 n2 n3 hu hg
 refine bodyPost_ret (run_res_cell_tmp hres ht agg_frac size_frac r3 rfl) hd ⟨_, by rw [hb], h3, u3⟩
theorem Wh.mk {w : World} {u : Value} {l : List Nat} {k : Nat} (s : Bool) (h : Ws w u l) (hk : l.length ≤ k) : Wh w (.agg #[.bool s, u]) (Wd.iv s (Wd.val l)) k := ⟨s, u, l, rfl, h, rfl, hk⟩
theorem len_over {n k : Nat} (h : (Wd.words n).length ≤ k) (g : Nat) : (Wd.words (n / g)).length ≤ k := Nat.le_trans (Wd.words_mono (Nat.div_le_self _ _)) h
set_option maxHeartbeats 1600000 in
theorem frac_cancel {v u : Value} {z : Int} {m : List Nat} {j : Nat} {w : World} (h : Wh w v z j) (h' : Ws w u m) (hj : j ≤ 100000000) (hk : m.length ≤ 100000000) (h0 : Wd.val m ≠ 0) : Calls Tryz.prog 149 #[v, u] w (RetQ (mkRat z (Wd.val m)) w) := by
 obtain ⟨s, v1, l, rfl, hl, hz, hle⟩ := h
 have h1 := len_over (Wd.words_val_length hl.ok) (Nat.gcd (Wd.val l) (Wd.val m))
 obtain ⟨A, c, rfl⟩ := hl.form
 obtain ⟨D, d, rfl⟩ := h'.form
 subst hz
 have HP := Lib.hid (Wd.mkRat_parts s (Wd.val l) h0)
 clear h0
 have UP : Up w ((w.alloc (.cells #[.bool s, .slice A l.length c] 32)).alloc (.cells #[.bool false, .slice none 0 0, .slice none 0 0] 34)) := ((Up.refl w).alloc _).alloc _
 obtain ⟨b0, r0⟩ := bx_two 32 34 w [.bool s, .slice A l.length c] [.bool false, .slice none 0 0, .slice none 0 0]
 go_enter Tryz.func149, Tryz.ntmps149
 go_wp2_with fail
 generalize ((w.alloc (.cells #[.bool s, .slice A l.length c] 32)).alloc (.cells #[.bool false, .slice none 0 0, .slice none 0 0] 34)) = W at *
 replace hl := hl.up UP
 replace h' := h'.up UP
 obtain ⟨b0_0, b0_1⟩ := b0.c2
 obtain ⟨r0_0, r0_1, r0_2⟩ := r0.c3
 have r0_f0 := r0.free
 go_wp2_with fail
 ((with_reducible refine (common_cancel hl h' (by omega) (by omega)).mono ?_))
 rintro e W1 ⟨V1, V1', rfl, n1, n2, u1⟩
 revert UP b0 r0 hl h' b0_0 b0_1 r0_0 r0_1 r0_2
 refine lg10 u1 ?_
 intro UP b0 r0 hl h' b0_0 b0_1 r0_0 r0_1 r0_2
 replace r0_f0 := r0.free
 clear u1
 obtain ⟨A1, k1, c1, rfl⟩ := n1.shape
 go_wp2_with fail
 ((with_reducible refine (whole_norm (Wh.mk s n1 (k := 100000000) (by omega)) (by omega)).mono ?_))
 rintro e W2 ⟨V2, rfl, z1, u2⟩
 revert n2 UP b0 r0 hl h' b0_0 b0_1 r0_0 r0_1 r0_2 n1
 refine lg12 u2 ?_
 intro n2 UP b0 r0 hl h' b0_0 b0_1 r0_0 r0_1 r0_2 n1
 replace r0_f0 := r0.free
 clear u2
 rw [Wd.val_words] at z1
 obtain ⟨Xz1, rfl, z1⟩ := z1
 obtain ⟨Az1, nz1, cz1, rfl⟩ := z1.shape
 obtain ⟨A2, k2, c2, rfl⟩ := n2.shape
 go_wp2_with fail
 exact end_q rfl rfl rfl (Qw.mk z1 n2 (by rw [HP.out.1]) (by rw [HP.out.1]) HP.out.2) r0 trivial trivial trivial UP (by omega)
/-- What comes back of the parts. -/
def RetParts (q : Rat) (k : Nat) (w : World) (e : Ending) (w' : World) : Prop :=
 ∃ s L D l m, e = .returned (.tuple #[.agg #[.bool s, L], D]) ∧ Ws w' L l ∧ Ws w' D m ∧ Hid (mkRat (Wd.iv s (Wd.val l)) (Wd.val m) = q ∧ Wd.val m ≠ 0) ∧ l.length ≤ k ∧ m.length ≤ k ∧ Up w w'
theorem end_parts {fn : Func} {a : Act} {w0 w : World} {t t' : Tmp} {g k : Nat} {q : Rat} {s : Bool} {u d p1 p2 : Value} {l m : List Nat} (hres : fn.results = #[.cell t 32, .tmp t']) (ht : a.tmps.getD t undef = .pointer (some ⟨g, 0, none⟩)) (hd' : a.tmps.getD t' undef = d) (hd : a.defers = [])
 (h : Ws w u l) (h' : Ws w d m) (hq : Hid (mkRat (Wd.iv s (Wd.val l)) (Wd.val m) = q ∧ Wd.val m ≠ 0)) (hl : l.length ≤ k) (hm : m.length ≤ k) (r : Bx 32 w g [p1, p2]) (n1 : NoWord p1) (n2 : NoWord p2) (hu : Up w0 w) (hg : w0.heap.size ≤ g) :
 bodyPost Tryz.prog fn (RetParts q k w0) .ret a ((w.setCell ⟨g, 0, none⟩ (.bool s)).setCell ⟨g, 1, none⟩ u) := by
 have r1 : Bx 32 (w.setCell ⟨g, 0, none⟩ (.bool s)) g [.bool s, p2] := r.set 0 _
 have r2 : Bx 32 ((w.setCell ⟨g, 0, none⟩ (.bool s)).setCell ⟨g, 1, none⟩ u) g [.bool s, u] := r1.set 1 _
 have k1 := (Kw.store (i := 0) (c := p1) r rfl n1 (.bool s)).trans (Kw.store (i := 1) (c := p2) r1 rfl n2 u)
 exact bodyPost_ret (run_res_cell_tmp hres ht agg_whole size_whole r2 rfl) hd ⟨s, u, d, l, m, by rw [hd'], h.kw k1, h'.kw k1, hq, hl, hm, (hu.setCell (p := ⟨g, 0, none⟩) hg _).setCell (p := ⟨g, 1, none⟩) hg _⟩
set_option maxHeartbeats 1600000 in
theorem frac_parts {v : Value} {q : Rat} {k : Nat} {w : World} (h : Fr w v q k) (hk : k ≤ 100000000) : Calls Tryz.prog 139 #[v] w (RetParts q k w) := by
 obtain ⟨s, v1, v2, l, m, rfl, hl, hm, hq, hle, hme, h1⟩ := h
 obtain ⟨A, c, rfl⟩ := hl.form
 obtain ⟨D, d, rfl⟩ := hm.form
 by_cases h0 : Wd.val m = 0
 · have H0 : Hid (decide (Wd.val m = 0) = true) := Lib.hid (decide_eq_true h0)
   have HQ : Hid (mkRat (Wd.iv false (Wd.val [])) (Wd.val (Wd.words 1)) = q ∧ Wd.val (Wd.words 1) ≠ 0) := Lib.hid (by
    rw [h0, Rat.mkRat_zero] at hq
    rw [Wd.val_words]
    exact ⟨by rw [← hq]; rfl, by omega⟩)
   have hlen : (Wd.words 1).length ≤ k := Nat.le_trans Wd.words_one_len h1
   clear h0 hq
   have UP : Up w ((w.alloc (.cells #[.bool s, .slice A l.length c, .slice D m.length d] 34)).alloc (.cells #[.bool false, .slice none 0 0] 32)) := ((Up.refl w).alloc _).alloc _
   obtain ⟨b0, r0⟩ := bx_two 34 32 w [.bool s, .slice A l.length c, .slice D m.length d] [.bool false, .slice none 0 0]
   go_enter Tryz.func139, Tryz.ntmps139
   go_wp2_with fail
   generalize ((w.alloc (.cells #[.bool s, .slice A l.length c, .slice D m.length d] 34)).alloc (.cells #[.bool false, .slice none 0 0] 32)) = W at *
   revert hl hm; refine lg2 UP ?_; intro hl hm
   obtain ⟨b0_0, b0_1, b0_2⟩ := b0.c3
   obtain ⟨r0_0, r0_1⟩ := r0.c2
   have r0_f0 := r0.free
   go_wp2_with fail
   ((with_reducible refine (nat_zero hm (by omega)).mono ?_))
   rintro e W1 ⟨rfl, rfl⟩
   rw [H0.out]
   go_wp2_with fail
   ((with_reducible refine (nat_of (n := 1) 1 rfl (by omega) _).mono ?_))
   rintro e W2 ⟨V2, rfl, n1, u2⟩
   revert UP b0 r0 hl hm b0_0 b0_1 b0_2 r0_0 r0_1; refine lg10 u2 ?_; intro UP b0 r0 hl hm b0_0 b0_1 b0_2 r0_0 r0_1
   replace r0_f0 := r0.free
   clear u2
   obtain ⟨A1, k1, c1, rfl⟩ := n1.shape
   go_wp2_with fail
   exact end_parts rfl rfl rfl rfl (Ws.nil _) n1 HQ (by simp) hlen r0 trivial trivial UP (by omega)
 · have H0 : Hid (decide (Wd.val m = 0) = false) := Lib.hid (decide_eq_false h0)
   have HQ : Hid (mkRat (Wd.iv s (Wd.val l)) (Wd.val m) = q ∧ Wd.val m ≠ 0) := Lib.hid ⟨hq, h0⟩
   clear h0 hq
   have UP : Up w ((w.alloc (.cells #[.bool s, .slice A l.length c, .slice D m.length d] 34)).alloc (.cells #[.bool false, .slice none 0 0] 32)) := ((Up.refl w).alloc _).alloc _
   obtain ⟨b0, r0⟩ := bx_two 34 32 w [.bool s, .slice A l.length c, .slice D m.length d] [.bool false, .slice none 0 0]
   go_enter Tryz.func139, Tryz.ntmps139
   go_wp2_with fail
   generalize ((w.alloc (.cells #[.bool s, .slice A l.length c, .slice D m.length d] 34)).alloc (.cells #[.bool false, .slice none 0 0] 32)) = W at *
   revert hl hm; refine lg2 UP ?_; intro hl hm
   obtain ⟨b0_0, b0_1, b0_2⟩ := b0.c3
   obtain ⟨r0_0, r0_1⟩ := r0.c2
   have r0_f0 := r0.free
   go_wp2_with fail
   ((with_reducible refine (nat_zero hm (by omega)).mono ?_))
   rintro e W1 ⟨rfl, rfl⟩
   rw [H0.out]
   go_wp2_with fail
   revert UP b0 r0 hl hm b0_0 b0_1 b0_2; refine lg8 (Up.refl W).drew ?_; intro UP b0 r0 hl hm b0_0 b0_1 b0_2
   obtain ⟨r0_0, r0_1⟩ := r0.c2
   have r0_f0 := r0.free
   go_region_held3 (fun w' => Up w w' ∧ w'.cell? ⟨w.heap.size, 0, none⟩ = some (.bool s) ∧ w'.cell? ⟨w.heap.size, 1, none⟩ = some (.slice A l.length c) ∧ w'.cell? ⟨w.heap.size, 2, none⟩ = some (.slice D m.length d))
    (first | with_reducible exact ⟨UP, b0_0, b0_1, b0_2⟩ | with_reducible exact ⟨(UP.alloc_drew _), (cAd b0_0), (cAd b0_1), (cAd b0_2)⟩ | with_reducible exact ⟨(UP.alloc2_drew _ _), (cAe b0_0), (cAe b0_1), (cAe b0_2)⟩ | ((try simp only [← World.setCell_drew]); first | with_reducible exact ⟨(us (us UP)), (cf (cf b0_0)), (cf (cf b0_1)), (cf (cf b0_2))⟩) | go_keep)
    (fail)
   go_wp2_with fail
   simp only [← World.setCell_drew]
   exact end_parts (t' := 3) rfl rfl rfl rfl hl hm HQ hle hme r0 trivial trivial UP (by omega)
end Go.Proofs.YtmmcffceeahemaaGreat
namespace Go.Proofs.YtmmcffceeahemaaGreat
open Go.RowKit
theorem cell_alloc {w : World} {o : Obj} {v : Value} {q : Addr} (h : w.cell? q = some v) : (w.alloc o).cell? q = some v := (World.cell?_alloc_lt w o q (World.block_lt_of_cell? w _ h)).trans h
theorem cA {w : World} {v : Value} {q : Addr} (h : w.cell? q = some v) (o : Obj) : (w.alloc o).cell? q = some v := cell_alloc h
theorem cA2 {w : World} {v : Value} {q : Addr} (h : w.cell? q = some v) (o o' : Obj) : ((w.alloc o).alloc o').cell? q = some v := cell_alloc (cell_alloc h)
theorem cA3 {w : World} {v : Value} {q : Addr} (h : w.cell? q = some v) (o o' o3 : Obj) : (((w.alloc o).alloc o').alloc o3).cell? q = some v := cell_alloc (cA2 h o o')
set_option maxHeartbeats 1600000 in
theorem frac_norm {v : Value} {q : Rat} {k : Nat} {w : World} (h : Fr w v q k) (hk : k ≤ 100000000) : Calls Tryz.prog 120 #[v] w (RetQ q w) := by
 have H := h
 obtain ⟨s, v1, v2, l, m, rfl, hl, hm, _⟩ := h
 obtain ⟨A, c, rfl⟩ := hl.form
 obtain ⟨D, d, rfl⟩ := hm.form
 clear hl hm
 have UP : Up w ((w.alloc (.cells #[.bool s, .slice A l.length c, .slice D m.length d] 34)).alloc (.cells #[.bool false, .slice none 0 0, .slice none 0 0] 34)) := ((Up.refl w).alloc _).alloc _
 obtain ⟨b0, r0⟩ := bx_two 34 34 w [.bool s, .slice A l.length c, .slice D m.length d] [.bool false, .slice none 0 0, .slice none 0 0]
 go_enter Tryz.func120, Tryz.ntmps120
 go_wp2_with fail
 generalize ((w.alloc (.cells #[.bool s, .slice A l.length c, .slice D m.length d] 34)).alloc (.cells #[.bool false, .slice none 0 0, .slice none 0 0] 34)) = W at *
 replace H := H.up UP
 obtain ⟨b0_0, b0_1, b0_2⟩ := b0.c3
 obtain ⟨r0_0, r0_1, r0_2⟩ := r0.c3
 have r0_f0 := r0.free
 go_wp2_with fail
 ((with_reducible refine (frac_parts H (by omega)).mono ?_))
 rintro e W1 ⟨sp, Lp, Dp, lp_, mp_, rfl, p, pd, hp, hlp, hmp, u1⟩
 obtain ⟨Ap, np, cp, rfl⟩ := p.shape
 obtain ⟨Apd, npd, cpd, rfl⟩ := pd.shape
 revert UP b0 r0 H b0_0 b0_1 b0_2 r0_0 r0_1 r0_2
 refine lg10 u1 ?_
 intro UP b0 r0 H b0_0 b0_1 b0_2 r0_0 r0_1 r0_2
 replace r0_f0 := r0.free
 clear u1
 go_wp2_with fail
 ((with_reducible refine (frac_cancel (Wh.mk sp p (k := 100000000) (by omega)) pd (by omega) (by omega) hp.out.2).mono ?_))
 rintro e W2 ⟨V2, rfl, q1, u2⟩
 revert p pd UP b0 r0 H b0_0 b0_1 b0_2 r0_0 r0_1 r0_2
 refine lg12 u2 ?_
 intro p pd UP b0 r0 H b0_0 b0_1 b0_2 r0_0 r0_1 r0_2
 replace r0_f0 := r0.free
 clear u2
 rw [hp.out.1] at q1
 obtain ⟨Xq1, Yq1, rfl, q1, q1d⟩ := q1
 obtain ⟨Aq1, nq1, cq1, rfl⟩ := q1.shape
 obtain ⟨Aq1d, nq1d, cq1d, rfl⟩ := q1d.shape
 go_wp2_with fail
 exact end_q rfl rfl rfl ⟨_, _, rfl, q1, q1d⟩ r0 trivial trivial trivial UP (by omega)
set_option maxHeartbeats 1600000 in
theorem frac_sign {v : Value} {q : Rat} {k : Nat} {w : World} (h : Fr w v q k) (hk : k ≤ 100000000) : Calls Tryz.prog 94 #[v] w (RetN (Wd.sgn q.num) w) := by
 have H := h
 obtain ⟨s, v1, v2, l, m, rfl, hl, hm, _⟩ := h
 obtain ⟨A, c, rfl⟩ := hl.form
 obtain ⟨D, d, rfl⟩ := hm.form
 clear hl hm
 have UP : Up w (w.alloc (.cells #[.bool s, .slice A l.length c, .slice D m.length d] 34)) := (Up.refl w).alloc _
 have b0 := Bx.new 34 w [.bool s, .slice A l.length c, .slice D m.length d]
 go_enter Tryz.func94, Tryz.ntmps94
 go_wp2_with fail
 generalize (w.alloc (.cells #[.bool s, .slice A l.length c, .slice D m.length d] 34)) = W at *
 replace H := H.up UP
 obtain ⟨b0_0, b0_1, b0_2⟩ := b0.c3
 go_wp2_with fail
 ((with_reducible refine (frac_parts H (by omega)).mono ?_))
 rintro e W1 ⟨sp, Lp, Dp, lp_, mp_, rfl, p, pd, hp, hlp, hmp, u1⟩
 obtain ⟨Ap, np, cp, rfl⟩ := p.shape
 obtain ⟨Apd, npd, cpd, rfl⟩ := pd.shape
 revert UP b0 H b0_0 b0_1 b0_2
 revert u1
 refine lh6 ?_
 intro UP b0 H b0_0 b0_1 b0_2
 have b0_0a := cA b0_0
 have b0_1a := cA b0_1
 have b0_2a := cA b0_2
 go_wp2_with fail
 clear b0_0a b0_1a b0_2a
 have x1 := Bx.new 32 W1 [.bool sp, .slice Ap np cp]
 have b0_lt_x1 := b0.lt
 have nu := ((Up.refl W1).alloc (.cells #[.bool sp, .slice Ap np cp] 32))
 revert p pd UP b0 H
 revert nu
 refine lh5 ?_
 intro p pd UP b0 H
 generalize (W1.alloc (.cells #[.bool sp, .slice Ap np cp] 32)) = W2 at *
 clear b0_0 b0_1 b0_2
 obtain ⟨b0_0, b0_1, b0_2⟩ := b0.c3
 obtain ⟨x1_0, x1_1⟩ := x1.c2
 ((with_reducible refine (whole_sign (Wh.mk sp p (k := 100000000) (by omega)) (by omega)).mono ?_))
 rintro e W3 ⟨rfl, u3⟩
 revert x1 p pd UP b0 H b0_0 b0_1 b0_2 x1_0 x1_1
 revert u3
 refine lh11 ?_
 intro x1 p pd UP b0 H b0_0 b0_1 b0_2 x1_0 x1_1
 go_wp2
 go_ret
 refine ⟨?_, UP⟩
 rw [← hp.out.1, Wd.sgn_mkRat _ _ hp.out.2]
 rfl
set_option maxHeartbeats 1600000 in
theorem frac_cross {v u : Value} {z : Int} {m : List Nat} {j : Nat} {w : World} (h : Wh w v z j) (h' : Ws w u m) (hj : j ≤ 100000000) (hk : m.length ≤ 100000000) : Calls Tryz.prog 142 #[v, u] w (RetZ (z * (Wd.val m : Int)) w) := by
 have H := h
 obtain ⟨s, v1, l, rfl, hl, _⟩ := h
 obtain ⟨A, c, rfl⟩ := hl.form
 obtain ⟨D, d, rfl⟩ := h'.form
 clear hl
 have UP : Up w ((w.alloc (.cells #[.bool s, .slice A l.length c] 32)).alloc (.cells #[.bool false, .slice none 0 0] 32)) := ((Up.refl w).alloc _).alloc _
 obtain ⟨b0, r0⟩ := bx_two 32 32 w [.bool s, .slice A l.length c] [.bool false, .slice none 0 0]
 go_enter Tryz.func142, Tryz.ntmps142
 go_wp2_with fail
 generalize ((w.alloc (.cells #[.bool s, .slice A l.length c] 32)).alloc (.cells #[.bool false, .slice none 0 0] 32)) = W at *
 revert H h'
 refine lg2 UP ?_
 intro H h'
 obtain ⟨b0_0, b0_1⟩ := b0.c2
 obtain ⟨r0_0, r0_1⟩ := r0.c2
 have r0_f0 := r0.free
 go_wp2_with fail
 ((with_reducible refine (whole_mul H (Wh.mk false h' (k := 100000000) (by omega)) (by omega) (by omega)).mono ?_))
 rintro e W1 ⟨V1, rfl, z1, u1⟩
 revert UP b0 r0 H h' b0_0 b0_1 r0_0 r0_1
 refine lg9 u1 ?_
 intro UP b0 r0 H h' b0_0 b0_1 r0_0 r0_1
 replace r0_f0 := r0.free
 clear u1
 obtain ⟨Xz1, rfl, z1⟩ := z1
 obtain ⟨Az1, nz1, cz1, rfl⟩ := z1.shape
 go_wp2_with fail
 exact end_z rfl rfl rfl ⟨_, rfl, z1⟩ r0 trivial trivial UP (by omega)
set_option maxRecDepth 100000 in
set_option maxHeartbeats 3200000 in
theorem frac_cmp {v u : Value} {q r : Rat} {j k : Nat} {w : World} (h : Fr w v q j) (h' : Fr w u r k) (hj : j ≤ 20000000) (hk : k ≤ 20000000) : Calls Tryz.prog 96 #[v, u] w (RetN (Wd.cmpQ q r) w) := by
 have H := h
 have K := h'
 obtain ⟨s, v1, v2, l, m, rfl, hl, hm, _⟩ := h
 obtain ⟨t, v3, v4, l', m', rfl, hl', hm', _⟩ := h'
 obtain ⟨A, c, rfl⟩ := hl.form
 obtain ⟨D, d, rfl⟩ := hm.form
 obtain ⟨A', c', rfl⟩ := hl'.form
 obtain ⟨D', d', rfl⟩ := hm'.form
 clear hl hm hl' hm'
 have UP : Up w ((w.alloc (.cells #[.bool s, .slice A l.length c, .slice D m.length d] 34)).alloc (.cells #[.bool t, .slice A' l'.length c', .slice D' m'.length d'] 34)) := ((Up.refl w).alloc _).alloc _
 obtain ⟨b0, b1⟩ := bx_two 34 34 w [.bool s, .slice A l.length c, .slice D m.length d] [.bool t, .slice A' l'.length c', .slice D' m'.length d']
 go_enter Tryz.func96, Tryz.ntmps96
 go_wp2_with fail
 generalize ((w.alloc (.cells #[.bool s, .slice A l.length c, .slice D m.length d] 34)).alloc (.cells #[.bool t, .slice A' l'.length c', .slice D' m'.length d'] 34)) = W at *
 revert H K
 refine lg2 UP ?_
 intro H K
 obtain ⟨b0_0, b0_1, b0_2⟩ := b0.c3
 obtain ⟨b1_0, b1_1, b1_2⟩ := b1.c3
 go_wp2_with fail
 ((with_reducible refine (frac_parts H (by omega)).mono ?_))
 rintro e W1 ⟨sp, Lp, Dp, lp_, mp_, rfl, p, pd, hp, hlp, hmp, u1⟩
 obtain ⟨Ap, np, cp, rfl⟩ := p.shape
 obtain ⟨Apd, npd, cpd, rfl⟩ := pd.shape
 revert UP b0 b1 H K b0_0 b0_1 b0_2 b1_0 b1_1 b1_2
 revert u1
 refine lh11 ?_
 intro UP b0 b1 H K b0_0 b0_1 b0_2 b1_0 b1_1 b1_2
 have b0_0a := cA b0_0
 have b0_1a := cA b0_1
 have b0_2a := cA b0_2
 have b1_0a := cA b1_0
 have b1_1a := cA b1_1
 have b1_2a := cA b1_2
 go_wp2_with fail
 clear b0_0a b0_1a b0_2a b1_0a b1_1a b1_2a
 have x1 := Bx.new 32 W1 [.bool sp, .slice Ap np cp]
 have b0_lt_x1 := b0.lt
 have b1_lt_x1 := b1.lt
 have nu := ((Up.refl W1).alloc (.cells #[.bool sp, .slice Ap np cp] 32))
 revert p pd UP b0 b1 H K
 revert nu
 refine lh7 ?_
 intro p pd UP b0 b1 H K
 generalize (W1.alloc (.cells #[.bool sp, .slice Ap np cp] 32)) = W2 at *
 clear b0_0 b0_1 b0_2 b1_0 b1_1 b1_2
 obtain ⟨b0_0, b0_1, b0_2⟩ := b0.c3
 obtain ⟨b1_0, b1_1, b1_2⟩ := b1.c3
 obtain ⟨x1_0, x1_1⟩ := x1.c2
 ((with_reducible refine (frac_parts K (by omega)).mono ?_))
 rintro e W3 ⟨so, Lo, Do, lo_, mo_, rfl, o, od, ho, hlo, hmo, u3⟩
 obtain ⟨Ao, no, co, rfl⟩ := o.shape
 obtain ⟨Aod, nod, cod, rfl⟩ := od.shape
 revert x1 p pd UP b0 b1 H K b0_0 b0_1 b0_2 b1_0
 refine lg12 u3 ?_
 intro x1 p pd UP b0 b1 H K b0_0 b0_1 b0_2 b1_0
 revert b1_1 b1_2 x1_0 x1_1
 revert u3
 refine lh4 ?_
 intro b1_1 b1_2 x1_0 x1_1
 have b0_0a := cA b0_0
 have b0_1a := cA b0_1
 have b0_2a := cA b0_2
 have b1_0a := cA b1_0
 have b1_1a := cA b1_1
 have b1_2a := cA b1_2
 have x1_0a := cA x1_0
 have x1_1a := cA x1_1
 go_wp2_with fail
 clear b0_0a b0_1a b0_2a b1_0a b1_1a b1_2a x1_0a x1_1a
 have x2 := Bx.new 32 W3 [.bool so, .slice Ao no co]
 have b0_lt_x2 := b0.lt
 have b1_lt_x2 := b1.lt
 have x1_lt_x2 := x1.lt
 have nu := ((Up.refl W3).alloc (.cells #[.bool so, .slice Ao no co] 32))
 revert o od x1 p pd UP b0 b1 H K
 revert nu
 refine lh10 ?_
 intro o od x1 p pd UP b0 b1 H K
 generalize (W3.alloc (.cells #[.bool so, .slice Ao no co] 32)) = W4 at *
 clear b0_0 b0_1 b0_2 b1_0 b1_1 b1_2 x1_0 x1_1
 obtain ⟨b0_0, b0_1, b0_2⟩ := b0.c3
 obtain ⟨b1_0, b1_1, b1_2⟩ := b1.c3
 obtain ⟨x1_0, x1_1⟩ := x1.c2
 obtain ⟨x2_0, x2_1⟩ := x2.c2
 have lp := Wd.words_val_length p.ok
 have lpd := Wd.words_val_length pd.ok
 have lo := Wd.words_val_length o.ok
 have lod := Wd.words_val_length od.ok
 have LP := (Wd.Lz.iv (s := sp) lp).mul (y := (Wd.val mo_ : Int)) lod
 have LO := (Wd.Lz.iv (s := so) lo).mul (y := (Wd.val mp_ : Int)) lpd
 have LM := Wd.words_mul_le lpd lod
 have WP : Wh W4 (.agg #[.bool sp, .slice Ap np cp]) (Wd.iv sp (Wd.val lp_)) 100000000 := Wh.mk sp p (by omega)
 have WO : Wh W4 (.agg #[.bool so, .slice Ao no co]) (Wd.iv so (Wd.val lo_)) 100000000 := Wh.mk so o (by omega)
 revert x2 o od x1 p pd b0 b1 H K WP WO
 refine lg12 (Up.refl W4).drew ?_
 intro x2 o od x1 p pd b0 b1 H K WP WO
 revert UP b0_0 b0_1 b0_2 b1_0 b1_1 b1_2 x1_0 x1_1 x2_0 x2_1
 refine lg11 (Up.refl W4).drew ?_
 intro UP b0_0 b0_1 b0_2 b1_0 b1_1 b1_2 x1_0 x1_1 x2_0 x2_1
 go_region_held3 (fun w' => Up w w' ∧ w'.cell? ⟨w.heap.size, 0, none⟩ = some (.bool s) ∧ w'.cell? ⟨w.heap.size, 1, none⟩ = some (.slice A l.length c) ∧ w'.cell? ⟨w.heap.size, 2, none⟩ = some (.slice D m.length d) ∧ w'.cell? ⟨w.heap.size + 1, 0, none⟩ = some (.bool t) ∧ w'.cell? ⟨w.heap.size + 1, 1, none⟩ = some (.slice A' l'.length c') ∧ w'.cell? ⟨w.heap.size + 1, 2, none⟩ = some (.slice D' m'.length d') ∧ w'.cell? ⟨W1.heap.size, 0, none⟩ = some (.bool sp) ∧ w'.cell? ⟨W1.heap.size, 1, none⟩ = some (.slice Ap np cp) ∧ w'.cell? ⟨W3.heap.size, 0, none⟩ = some (.bool so) ∧ w'.cell? ⟨W3.heap.size, 1, none⟩ = some (.slice Ao no co))
  (first | with_reducible exact ⟨UP, b0_0, b0_1, b0_2, b1_0, b1_1, b1_2, x1_0, x1_1, x2_0, x2_1⟩ | with_reducible exact ⟨(UP.alloc_drew _), (cAd b0_0), (cAd b0_1), (cAd b0_2), (cAd b1_0), (cAd b1_1), (cAd b1_2), (cAd x1_0), (cAd x1_1), (cAd x2_0), (cAd x2_1)⟩ | with_reducible exact ⟨(UP.alloc2_drew _ _), (cAe b0_0), (cAe b0_1), (cAe b0_2), (cAe b1_0), (cAe b1_1), (cAe b1_2), (cAe x1_0), (cAe x1_1), (cAe x2_0), (cAe x2_1)⟩ | go_keep)
  ((first
    | (go_at_call 142
       ((with_reducible refine (frac_cross WP od (by omega) (by omega)).mono ?_))
       rintro e W5 ⟨V5, rfl, x, u5⟩
       revert x2 o od x1 p pd b0 b1 H K WP WO; refine lg12 u5 ?_; intro x2 o od x1 p pd b0 b1 H K WP WO; revert UP b0_0 b0_1 b0_2 b1_0 b1_1 b1_2 x1_0 x1_1 x2_0 x2_1; refine lg11 u5 ?_; intro UP b0_0 b0_1 b0_2 b1_0 b1_1 b1_2 x1_0 x1_1 x2_0 x2_1
       try (replace x := x.up u5)
       try (replace y := y.up u5)
       clear u5)
    | (go_at_call 142
       ((with_reducible refine (frac_cross WO pd (by omega) (by omega)).mono ?_))
       rintro e W6 ⟨V6, rfl, y, u6⟩
       revert x2 o od x1 p pd b0 b1 H K WP WO; refine lg12 u6 ?_; intro x2 o od x1 p pd b0 b1 H K WP WO; revert UP b0_0 b0_1 b0_2 b1_0 b1_1 b1_2 x1_0 x1_1 x2_0 x2_1; refine lg11 u6 ?_; intro UP b0_0 b0_1 b0_2 b1_0 b1_1 b1_2 x1_0 x1_1 x2_0 x2_1
       try (replace x := x.up u6)
       try (replace y := y.up u6)
       clear u6)
    | (go_at_call 141
       ((with_reducible refine (whole_cmp (x.wh LP) (y.wh LO) (by omega) (by omega)).mono ?_))
       rintro e W7 ⟨rfl, u7⟩
       revert x2 o od x1 p pd b0 b1 H K WP WO; refine lg12 u7 ?_; intro x2 o od x1 p pd b0 b1 H K WP WO; revert UP b0_0 b0_1 b0_2 b1_0 b1_1 b1_2 x1_0 x1_1 x2_0 x2_1; refine lg11 u7 ?_; intro UP b0_0 b0_1 b0_2 b1_0 b1_1 b1_2 x1_0 x1_1 x2_0 x2_1
       try (replace x := x.up u7)
       try (replace y := y.up u7)
       clear u7)))
 all_goals
  go_wp2
  go_ret
  refine ⟨?_, UP⟩
  rw [← hp.out.1, ← ho.out.1, Wd.cmpQ_mk _ _ hp.out.2 ho.out.2]
  rfl
set_option maxRecDepth 100000 in
set_option maxHeartbeats 6400000 in
theorem frac_add {v u : Value} {q r : Rat} {j k : Nat} {w : World} (h : Fr w v q j) (h' : Fr w u r k) (hj : j ≤ 20000000) (hk : k ≤ 20000000) : Calls Tryz.prog 109 #[v, u] w (RetQ (q + r) w) := by
 have H := h
 have K := h'
 obtain ⟨s, v1, v2, l, m, rfl, hl, hm, _⟩ := h
 obtain ⟨t, v3, v4, l', m', rfl, hl', hm', _⟩ := h'
 obtain ⟨A, c, rfl⟩ := hl.form
 obtain ⟨D, d, rfl⟩ := hm.form
 obtain ⟨A', c', rfl⟩ := hl'.form
 obtain ⟨D', d', rfl⟩ := hm'.form
 clear hl hm hl' hm'
 have UP : Up w (((w.alloc (.cells #[.bool s, .slice A l.length c, .slice D m.length d] 34)).alloc (.cells #[.bool t, .slice A' l'.length c', .slice D' m'.length d'] 34)).alloc (.cells #[.bool false, .slice none 0 0, .slice none 0 0] 34)) := (((Up.refl w).alloc _).alloc _).alloc _
 obtain ⟨b0, b1, r0⟩ := bx_three 34 34 34 w [.bool s, .slice A l.length c, .slice D m.length d] [.bool t, .slice A' l'.length c', .slice D' m'.length d'] [.bool false, .slice none 0 0, .slice none 0 0]
 go_enter Tryz.func109, Tryz.ntmps109
 go_wp2_with fail
 generalize (((w.alloc (.cells #[.bool s, .slice A l.length c, .slice D m.length d] 34)).alloc (.cells #[.bool t, .slice A' l'.length c', .slice D' m'.length d'] 34)).alloc (.cells #[.bool false, .slice none 0 0, .slice none 0 0] 34)) = W at *
 revert H K
 refine lg2 UP ?_
 intro H K
 obtain ⟨b0_0, b0_1, b0_2⟩ := b0.c3
 obtain ⟨b1_0, b1_1, b1_2⟩ := b1.c3
 obtain ⟨r0_0, r0_1, r0_2⟩ := r0.c3
 have r0_f0 := r0.free
 go_wp2_with fail
 ((with_reducible refine (frac_parts H (by omega)).mono ?_))
 rintro e W1 ⟨sp, Lp, Dp, lp_, mp_, rfl, p, pd, hp, hlp, hmp, u1⟩
 obtain ⟨Ap, np, cp, rfl⟩ := p.shape
 obtain ⟨Apd, npd, cpd, rfl⟩ := pd.shape
 revert UP b0 b1 r0 H K b0_0 b0_1 b0_2 b1_0 b1_1 b1_2
 refine lg12 u1 ?_
 intro UP b0 b1 r0 H K b0_0 b0_1 b0_2 b1_0 b1_1 b1_2
 revert r0_0 r0_1 r0_2
 refine lg3 u1 ?_
 intro r0_0 r0_1 r0_2
 replace r0_f0 := r0.free
 clear u1
 have b0_0a := cA b0_0
 have b0_1a := cA b0_1
 have b0_2a := cA b0_2
 have b1_0a := cA b1_0
 have b1_1a := cA b1_1
 have b1_2a := cA b1_2
 have r0_0a := cA r0_0
 have r0_f0a := r0.fa
 have r0_1a := cA r0_1
 have r0_2a := cA r0_2
 go_wp2_with fail
 clear b0_0a b0_1a b0_2a b1_0a b1_1a b1_2a r0_0a r0_f0a r0_1a r0_2a
 have x1 := Bx.new 32 W1 [.bool sp, .slice Ap np cp]
 have b0_lt_x1 := b0.lt
 have b1_lt_x1 := b1.lt
 have r0_lt_x1 := r0.lt
 have nu := ((Up.refl W1).alloc (.cells #[.bool sp, .slice Ap np cp] 32))
 revert p pd UP b0 b1 r0 H K
 revert nu
 refine lh8 ?_
 intro p pd UP b0 b1 r0 H K
 generalize (W1.alloc (.cells #[.bool sp, .slice Ap np cp] 32)) = W2 at *
 clear b0_0 b0_1 b0_2 b1_0 b1_1 b1_2 r0_0 r0_1 r0_2
 obtain ⟨b0_0, b0_1, b0_2⟩ := b0.c3
 obtain ⟨b1_0, b1_1, b1_2⟩ := b1.c3
 obtain ⟨r0_0, r0_1, r0_2⟩ := r0.c3
 replace r0_f0 := r0.free
 obtain ⟨x1_0, x1_1⟩ := x1.c2
 ((with_reducible refine (frac_parts K (by omega)).mono ?_))
 rintro e W3 ⟨so, Lo, Do, lo_, mo_, rfl, o, od, ho, hlo, hmo, u3⟩
 obtain ⟨Ao, no, co, rfl⟩ := o.shape
 obtain ⟨Aod, nod, cod, rfl⟩ := od.shape
 clear x1_0 x1_1
 revert x1 p pd UP b0 b1 r0 H K b0_0 b0_1 b0_2
 refine lg12 u3 ?_
 intro x1 p pd UP b0 b1 r0 H K b0_0 b0_1 b0_2
 revert b1_0 b1_1 b1_2 r0_0 r0_1 r0_2
 refine lg6 u3 ?_
 intro b1_0 b1_1 b1_2 r0_0 r0_1 r0_2
 replace r0_f0 := r0.free
 obtain ⟨x1_0, x1_1⟩ := x1.c2
 clear u3
 have b0_0a := cA b0_0
 have b0_1a := cA b0_1
 have b0_2a := cA b0_2
 have b1_0a := cA b1_0
 have b1_1a := cA b1_1
 have b1_2a := cA b1_2
 have r0_0a := cA r0_0
 have r0_f0a := r0.fa
 have r0_1a := cA r0_1
 have r0_2a := cA r0_2
 have x1_0a := cA x1_0
 have x1_1a := cA x1_1
 go_wp2_with fail
 clear b0_0a b0_1a b0_2a b1_0a b1_1a b1_2a r0_0a r0_f0a r0_1a r0_2a x1_0a x1_1a
 have x2 := Bx.new 32 W3 [.bool so, .slice Ao no co]
 have b0_lt_x2 := b0.lt
 have b1_lt_x2 := b1.lt
 have r0_lt_x2 := r0.lt
 have x1_lt_x2 := x1.lt
 have nu := ((Up.refl W3).alloc (.cells #[.bool so, .slice Ao no co] 32))
 revert o od x1 p pd UP b0 b1 r0 H K
 revert nu
 refine lh11 ?_
 intro o od x1 p pd UP b0 b1 r0 H K
 generalize (W3.alloc (.cells #[.bool so, .slice Ao no co] 32)) = W4 at *
 clear b0_0 b0_1 b0_2 b1_0 b1_1 b1_2 r0_0 r0_1 r0_2 x1_0 x1_1
 obtain ⟨b0_0, b0_1, b0_2⟩ := b0.c3
 obtain ⟨b1_0, b1_1, b1_2⟩ := b1.c3
 obtain ⟨r0_0, r0_1, r0_2⟩ := r0.c3
 replace r0_f0 := r0.free
 obtain ⟨x1_0, x1_1⟩ := x1.c2
 obtain ⟨x2_0, x2_1⟩ := x2.c2
 have lp := Wd.words_val_length p.ok
 have lpd := Wd.words_val_length pd.ok
 have lo := Wd.words_val_length o.ok
 have lod := Wd.words_val_length od.ok
 have LP := (Wd.Lz.iv (s := sp) lp).mul (y := (Wd.val mo_ : Int)) lod
 have LO := (Wd.Lz.iv (s := so) lo).mul (y := (Wd.val mp_ : Int)) lpd
 have LM := Wd.words_mul_le lpd lod
 have WP : Wh W4 (.agg #[.bool sp, .slice Ap np cp]) (Wd.iv sp (Wd.val lp_)) 100000000 := Wh.mk sp p (by omega)
 have WO : Wh W4 (.agg #[.bool so, .slice Ao no co]) (Wd.iv so (Wd.val lo_)) 100000000 := Wh.mk so o (by omega)
 have HM : Hid (Wd.val (Wd.words (Wd.val mp_ * Wd.val mo_)) ≠ 0) := Lib.hid (by rw [Wd.val_words]; exact Nat.mul_ne_zero hp.out.2 ho.out.2)
 have HQ : Hid (mkRat (Wd.iv sp (Wd.val lp_) * (Wd.val mo_ : Int) + Wd.iv so (Wd.val lo_) * (Wd.val mp_ : Int)) (Wd.val (Wd.words (Wd.val mp_ * Wd.val mo_))) = q + r) := Lib.hid (by
  rw [Wd.val_words, ← hp.out.1, ← ho.out.1, Rat.mkRat_add_mkRat _ _ hp.out.2 ho.out.2])
 have LS := LP.add LO
 clear x1_0 x1_1 x2_0 x2_1
 revert o od x1 p pd b0 b1 r0 H K WP WO
 refine lg12 (Up.refl W4).drew ?_
 intro o od x1 p pd b0 b1 r0 H K WP WO
 revert x2 UP b0_0 b0_1 b0_2 b1_0 b1_1 b1_2
 refine lg8 (Up.refl W4).drew ?_
 intro x2 UP b0_0 b0_1 b0_2 b1_0 b1_1 b1_2
 obtain ⟨r0_0, r0_1, r0_2⟩ := r0.c3
 have r0_f0 := r0.free
 obtain ⟨x1_0, x1_1⟩ := x1.c2
 obtain ⟨x2_0, x2_1⟩ := x2.c2
 go_region_held3 (fun w' => Up w w' ∧ w'.cell? ⟨w.heap.size, 0, none⟩ = some (.bool s) ∧ w'.cell? ⟨w.heap.size, 1, none⟩ = some (.slice A l.length c) ∧ w'.cell? ⟨w.heap.size, 2, none⟩ = some (.slice D m.length d) ∧ w'.cell? ⟨w.heap.size + 1, 0, none⟩ = some (.bool t) ∧ w'.cell? ⟨w.heap.size + 1, 1, none⟩ = some (.slice A' l'.length c') ∧ w'.cell? ⟨w.heap.size + 1, 2, none⟩ = some (.slice D' m'.length d') ∧ w'.cell? ⟨W1.heap.size, 0, none⟩ = some (.bool sp) ∧ w'.cell? ⟨W1.heap.size, 1, none⟩ = some (.slice Ap np cp) ∧ w'.cell? ⟨W3.heap.size, 0, none⟩ = some (.bool so) ∧ w'.cell? ⟨W3.heap.size, 1, none⟩ = some (.slice Ao no co))
  (first | with_reducible exact ⟨UP, b0_0, b0_1, b0_2, b1_0, b1_1, b1_2, x1_0, x1_1, x2_0, x2_1⟩ | with_reducible exact ⟨(UP.alloc_drew _), (cAd b0_0), (cAd b0_1), (cAd b0_2), (cAd b1_0), (cAd b1_1), (cAd b1_2), (cAd x1_0), (cAd x1_1), (cAd x2_0), (cAd x2_1)⟩ | with_reducible exact ⟨(UP.alloc2_drew _ _), (cAe b0_0), (cAe b0_1), (cAe b0_2), (cAe b1_0), (cAe b1_1), (cAe b1_2), (cAe x1_0), (cAe x1_1), (cAe x2_0), (cAe x2_1)⟩ | ((try simp only [← World.setCell_drew]); first | with_reducible exact ⟨(us (us (us UP))), (cf (cf (cf b0_0))), (cf (cf (cf b0_1))), (cf (cf (cf b0_2))), (cf (cf (cf b1_0))), (cf (cf (cf b1_1))), (cf (cf (cf b1_2))), (cf (cf (cf x1_0))), (cf (cf (cf x1_1))), (cf (cf (cf x2_0))), (cf (cf (cf x2_1)))⟩) | go_keep)
  ((first
    | (go_at_call 142
       ((with_reducible refine (frac_cross WP od (by omega) (by omega)).mono ?_))
       rintro e W5 ⟨V5, rfl, x, u5⟩
       clear x1_0 x1_1 x2_0 x2_1; revert o od x1 p pd b0 b1 r0 H K WP WO; refine lg12 u5 ?_; intro o od x1 p pd b0 b1 r0 H K WP WO; revert x2 UP b0_0 b0_1 b0_2 b1_0 b1_1 b1_2 r0_0 r0_1 r0_2; refine lg11 u5 ?_; intro x2 UP b0_0 b0_1 b0_2 b1_0 b1_1 b1_2 r0_0 r0_1 r0_2
       try (replace x := x.up u5)
       try (replace y := y.up u5)
       try (replace n := n.up u5)
       try (replace z := z.up u5)
       try (replace q1 := q1.up u5)
       replace r0_f0 := r0.free
       obtain ⟨x1_0, x1_1⟩ := x1.c2
       obtain ⟨x2_0, x2_1⟩ := x2.c2
       clear u5)
    | (go_at_call 142
       ((with_reducible refine (frac_cross WO pd (by omega) (by omega)).mono ?_))
       rintro e W6 ⟨V6, rfl, y, u6⟩
       clear x1_0 x1_1 x2_0 x2_1; revert o od x1 p pd b0 b1 r0 H K WP WO; refine lg12 u6 ?_; intro o od x1 p pd b0 b1 r0 H K WP WO; revert x2 UP b0_0 b0_1 b0_2 b1_0 b1_1 b1_2 r0_0 r0_1 r0_2; refine lg11 u6 ?_; intro x2 UP b0_0 b0_1 b0_2 b1_0 b1_1 b1_2 r0_0 r0_1 r0_2
       try (replace x := x.up u6)
       try (replace y := y.up u6)
       try (replace n := n.up u6)
       try (replace z := z.up u6)
       try (replace q1 := q1.up u6)
       replace r0_f0 := r0.free
       obtain ⟨x1_0, x1_1⟩ := x1.c2
       obtain ⟨x2_0, x2_1⟩ := x2.c2
       clear u6)
    | (go_at_call 151
       ((with_reducible refine (prod_mul pd od (by omega) (by omega)).mono ?_))
       rintro e W7 ⟨V7, rfl, n, u7⟩
       clear x1_0 x1_1 x2_0 x2_1; revert o od x1 p pd b0 b1 r0 H K WP WO; refine lg12 u7 ?_; intro o od x1 p pd b0 b1 r0 H K WP WO; revert x2 UP b0_0 b0_1 b0_2 b1_0 b1_1 b1_2 r0_0 r0_1 r0_2; refine lg11 u7 ?_; intro x2 UP b0_0 b0_1 b0_2 b1_0 b1_1 b1_2 r0_0 r0_1 r0_2
       try (replace x := x.up u7)
       try (replace y := y.up u7)
       try (replace n := n.up u7)
       try (replace z := z.up u7)
       try (replace q1 := q1.up u7)
       replace r0_f0 := r0.free
       obtain ⟨x1_0, x1_1⟩ := x1.c2
       obtain ⟨x2_0, x2_1⟩ := x2.c2
       clear u7)
    | (go_at_call 150
       ((with_reducible refine (whole_add (x.wh LP) (y.wh LO) (by omega) (by omega)).mono ?_))
       rintro e W8 ⟨V8, rfl, z, u8⟩
       clear x1_0 x1_1 x2_0 x2_1; revert o od x1 p pd b0 b1 r0 H K WP WO; refine lg12 u8 ?_; intro o od x1 p pd b0 b1 r0 H K WP WO; revert x2 UP b0_0 b0_1 b0_2 b1_0 b1_1 b1_2 r0_0 r0_1 r0_2; refine lg11 u8 ?_; intro x2 UP b0_0 b0_1 b0_2 b1_0 b1_1 b1_2 r0_0 r0_1 r0_2
       try (replace x := x.up u8)
       try (replace y := y.up u8)
       try (replace n := n.up u8)
       try (replace z := z.up u8)
       try (replace q1 := q1.up u8)
       replace r0_f0 := r0.free
       obtain ⟨x1_0, x1_1⟩ := x1.c2
       obtain ⟨x2_0, x2_1⟩ := x2.c2
       clear u8)
    | (go_at_call 149
       ((with_reducible refine (frac_cancel (z.wh LS) n (by omega) (by omega) HM.out).mono ?_))
       rintro e W9 ⟨V9, rfl, q1, u9⟩
       clear x1_0 x1_1 x2_0 x2_1; revert o od x1 p pd b0 b1 r0 H K WP WO; refine lg12 u9 ?_; intro o od x1 p pd b0 b1 r0 H K WP WO; revert x2 UP b0_0 b0_1 b0_2 b1_0 b1_1 b1_2 r0_0 r0_1 r0_2; refine lg11 u9 ?_; intro x2 UP b0_0 b0_1 b0_2 b1_0 b1_1 b1_2 r0_0 r0_1 r0_2
       try (replace x := x.up u9)
       try (replace y := y.up u9)
       try (replace n := n.up u9)
       try (replace z := z.up u9)
       try (replace q1 := q1.up u9)
       replace r0_f0 := r0.free
       obtain ⟨x1_0, x1_1⟩ := x1.c2
       obtain ⟨x2_0, x2_1⟩ := x2.c2
       clear u9
       rw [HQ.out] at q1
       obtain ⟨Xq1, Yq1, rfl, q1, q1d⟩ := q1
       obtain ⟨Aq1, nq1, cq1, rfl⟩ := q1.shape
       obtain ⟨Aq1d, nq1d, cq1d, rfl⟩ := q1d.shape)))
 all_goals
  go_wp2
  exact end_q rfl rfl rfl ⟨_, _, rfl, q1, q1d⟩ r0 trivial trivial trivial UP (by omega)
set_option maxRecDepth 100000 in
set_option maxHeartbeats 6400000 in
theorem frac_sub {v u : Value} {q r : Rat} {j k : Nat} {w : World} (h : Fr w v q j) (h' : Fr w u r k) (hj : j ≤ 20000000) (hk : k ≤ 20000000) : Calls Tryz.prog 117 #[v, u] w (RetQ (q - r) w) := by
 have H := h
 have K := h'
 obtain ⟨s, v1, v2, l, m, rfl, hl, hm, _⟩ := h
 obtain ⟨t, v3, v4, l', m', rfl, hl', hm', _⟩ := h'
 obtain ⟨A, c, rfl⟩ := hl.form
 obtain ⟨D, d, rfl⟩ := hm.form
 obtain ⟨A', c', rfl⟩ := hl'.form
 obtain ⟨D', d', rfl⟩ := hm'.form
 clear hl hm hl' hm'
 have UP : Up w (((w.alloc (.cells #[.bool s, .slice A l.length c, .slice D m.length d] 34)).alloc (.cells #[.bool t, .slice A' l'.length c', .slice D' m'.length d'] 34)).alloc (.cells #[.bool false, .slice none 0 0, .slice none 0 0] 34)) := (((Up.refl w).alloc _).alloc _).alloc _
 obtain ⟨b0, b1, r0⟩ := bx_three 34 34 34 w [.bool s, .slice A l.length c, .slice D m.length d] [.bool t, .slice A' l'.length c', .slice D' m'.length d'] [.bool false, .slice none 0 0, .slice none 0 0]
 go_enter Tryz.func117, Tryz.ntmps117
 go_wp2_with fail
 generalize (((w.alloc (.cells #[.bool s, .slice A l.length c, .slice D m.length d] 34)).alloc (.cells #[.bool t, .slice A' l'.length c', .slice D' m'.length d'] 34)).alloc (.cells #[.bool false, .slice none 0 0, .slice none 0 0] 34)) = W at *
 revert H K
 refine lg2 UP ?_
 intro H K
 obtain ⟨b0_0, b0_1, b0_2⟩ := b0.c3
 obtain ⟨b1_0, b1_1, b1_2⟩ := b1.c3
 obtain ⟨r0_0, r0_1, r0_2⟩ := r0.c3
 have r0_f0 := r0.free
 go_wp2_with fail
 ((with_reducible refine (frac_parts H (by omega)).mono ?_))
 rintro e W1 ⟨sp, Lp, Dp, lp_, mp_, rfl, p, pd, hp, hlp, hmp, u1⟩
 obtain ⟨Ap, np, cp, rfl⟩ := p.shape
 obtain ⟨Apd, npd, cpd, rfl⟩ := pd.shape
 revert UP b0 b1 r0 H K b0_0 b0_1 b0_2 b1_0 b1_1 b1_2
 refine lg12 u1 ?_
 intro UP b0 b1 r0 H K b0_0 b0_1 b0_2 b1_0 b1_1 b1_2
 revert r0_0 r0_1 r0_2
 refine lg3 u1 ?_
 intro r0_0 r0_1 r0_2
 replace r0_f0 := r0.free
 clear u1
 have b0_0a := cA b0_0
 have b0_1a := cA b0_1
 have b0_2a := cA b0_2
 have b1_0a := cA b1_0
 have b1_1a := cA b1_1
 have b1_2a := cA b1_2
 have r0_0a := cA r0_0
 have r0_f0a := r0.fa
 have r0_1a := cA r0_1
 have r0_2a := cA r0_2
 go_wp2_with fail
 clear b0_0a b0_1a b0_2a b1_0a b1_1a b1_2a r0_0a r0_f0a r0_1a r0_2a
 have x1 := Bx.new 32 W1 [.bool sp, .slice Ap np cp]
 have b0_lt_x1 := b0.lt
 have b1_lt_x1 := b1.lt
 have r0_lt_x1 := r0.lt
 have nu := ((Up.refl W1).alloc (.cells #[.bool sp, .slice Ap np cp] 32))
 revert p pd UP b0 b1 r0 H K
 revert nu
 refine lh8 ?_
 intro p pd UP b0 b1 r0 H K
 generalize (W1.alloc (.cells #[.bool sp, .slice Ap np cp] 32)) = W2 at *
 clear b0_0 b0_1 b0_2 b1_0 b1_1 b1_2 r0_0 r0_1 r0_2
 obtain ⟨b0_0, b0_1, b0_2⟩ := b0.c3
 obtain ⟨b1_0, b1_1, b1_2⟩ := b1.c3
 obtain ⟨r0_0, r0_1, r0_2⟩ := r0.c3
 replace r0_f0 := r0.free
 obtain ⟨x1_0, x1_1⟩ := x1.c2
 ((with_reducible refine (frac_parts K (by omega)).mono ?_))
 rintro e W3 ⟨so, Lo, Do, lo_, mo_, rfl, o, od, ho, hlo, hmo, u3⟩
 obtain ⟨Ao, no, co, rfl⟩ := o.shape
 obtain ⟨Aod, nod, cod, rfl⟩ := od.shape
 clear x1_0 x1_1
 revert x1 p pd UP b0 b1 r0 H K b0_0 b0_1 b0_2
 refine lg12 u3 ?_
 intro x1 p pd UP b0 b1 r0 H K b0_0 b0_1 b0_2
 revert b1_0 b1_1 b1_2 r0_0 r0_1 r0_2
 refine lg6 u3 ?_
 intro b1_0 b1_1 b1_2 r0_0 r0_1 r0_2
 replace r0_f0 := r0.free
 obtain ⟨x1_0, x1_1⟩ := x1.c2
 clear u3
 have b0_0a := cA b0_0
 have b0_1a := cA b0_1
 have b0_2a := cA b0_2
 have b1_0a := cA b1_0
 have b1_1a := cA b1_1
 have b1_2a := cA b1_2
 have r0_0a := cA r0_0
 have r0_f0a := r0.fa
 have r0_1a := cA r0_1
 have r0_2a := cA r0_2
 have x1_0a := cA x1_0
 have x1_1a := cA x1_1
 go_wp2_with fail
 clear b0_0a b0_1a b0_2a b1_0a b1_1a b1_2a r0_0a r0_f0a r0_1a r0_2a x1_0a x1_1a
 have x2 := Bx.new 32 W3 [.bool so, .slice Ao no co]
 have b0_lt_x2 := b0.lt
 have b1_lt_x2 := b1.lt
 have r0_lt_x2 := r0.lt
 have x1_lt_x2 := x1.lt
 have nu := ((Up.refl W3).alloc (.cells #[.bool so, .slice Ao no co] 32))
 revert o od x1 p pd UP b0 b1 r0 H K
 revert nu
 refine lh11 ?_
 intro o od x1 p pd UP b0 b1 r0 H K
 generalize (W3.alloc (.cells #[.bool so, .slice Ao no co] 32)) = W4 at *
 clear b0_0 b0_1 b0_2 b1_0 b1_1 b1_2 r0_0 r0_1 r0_2 x1_0 x1_1
 obtain ⟨b0_0, b0_1, b0_2⟩ := b0.c3
 obtain ⟨b1_0, b1_1, b1_2⟩ := b1.c3
 obtain ⟨r0_0, r0_1, r0_2⟩ := r0.c3
 replace r0_f0 := r0.free
 obtain ⟨x1_0, x1_1⟩ := x1.c2
 obtain ⟨x2_0, x2_1⟩ := x2.c2
 have lp := Wd.words_val_length p.ok
 have lpd := Wd.words_val_length pd.ok
 have lo := Wd.words_val_length o.ok
 have lod := Wd.words_val_length od.ok
 have LP := (Wd.Lz.iv (s := sp) lp).mul (y := (Wd.val mo_ : Int)) lod
 have LO := (Wd.Lz.iv (s := so) lo).mul (y := (Wd.val mp_ : Int)) lpd
 have LM := Wd.words_mul_le lpd lod
 have WP : Wh W4 (.agg #[.bool sp, .slice Ap np cp]) (Wd.iv sp (Wd.val lp_)) 100000000 := Wh.mk sp p (by omega)
 have WO : Wh W4 (.agg #[.bool so, .slice Ao no co]) (Wd.iv so (Wd.val lo_)) 100000000 := Wh.mk so o (by omega)
 have HM : Hid (Wd.val (Wd.words (Wd.val mp_ * Wd.val mo_)) ≠ 0) := Lib.hid (by rw [Wd.val_words]; exact Nat.mul_ne_zero hp.out.2 ho.out.2)
 have HQ : Hid (mkRat (Wd.iv sp (Wd.val lp_) * (Wd.val mo_ : Int) - Wd.iv so (Wd.val lo_) * (Wd.val mp_ : Int)) (Wd.val (Wd.words (Wd.val mp_ * Wd.val mo_))) = q - r) := Lib.hid (by
  rw [Wd.val_words, ← hp.out.1, ← ho.out.1, Wd.mkRat_sub _ _ hp.out.2 ho.out.2])
 have LS := (by have := LP.add LO.neg; rwa [← Int.sub_eq_add_neg] at this : Wd.Lz (Wd.iv sp (Wd.val lp_) * (Wd.val mo_ : Int) - Wd.iv so (Wd.val lo_) * (Wd.val mp_ : Int)) _)
 clear x1_0 x1_1 x2_0 x2_1
 revert o od x1 p pd b0 b1 r0 H K WP WO
 refine lg12 (Up.refl W4).drew ?_
 intro o od x1 p pd b0 b1 r0 H K WP WO
 revert x2 UP b0_0 b0_1 b0_2 b1_0 b1_1 b1_2
 refine lg8 (Up.refl W4).drew ?_
 intro x2 UP b0_0 b0_1 b0_2 b1_0 b1_1 b1_2
 obtain ⟨r0_0, r0_1, r0_2⟩ := r0.c3
 have r0_f0 := r0.free
 obtain ⟨x1_0, x1_1⟩ := x1.c2
 obtain ⟨x2_0, x2_1⟩ := x2.c2
 go_region_held3 (fun w' => Up w w' ∧ w'.cell? ⟨w.heap.size, 0, none⟩ = some (.bool s) ∧ w'.cell? ⟨w.heap.size, 1, none⟩ = some (.slice A l.length c) ∧ w'.cell? ⟨w.heap.size, 2, none⟩ = some (.slice D m.length d) ∧ w'.cell? ⟨w.heap.size + 1, 0, none⟩ = some (.bool t) ∧ w'.cell? ⟨w.heap.size + 1, 1, none⟩ = some (.slice A' l'.length c') ∧ w'.cell? ⟨w.heap.size + 1, 2, none⟩ = some (.slice D' m'.length d') ∧ w'.cell? ⟨W1.heap.size, 0, none⟩ = some (.bool sp) ∧ w'.cell? ⟨W1.heap.size, 1, none⟩ = some (.slice Ap np cp) ∧ w'.cell? ⟨W3.heap.size, 0, none⟩ = some (.bool so) ∧ w'.cell? ⟨W3.heap.size, 1, none⟩ = some (.slice Ao no co))
  (first | with_reducible exact ⟨UP, b0_0, b0_1, b0_2, b1_0, b1_1, b1_2, x1_0, x1_1, x2_0, x2_1⟩ | with_reducible exact ⟨(UP.alloc_drew _), (cAd b0_0), (cAd b0_1), (cAd b0_2), (cAd b1_0), (cAd b1_1), (cAd b1_2), (cAd x1_0), (cAd x1_1), (cAd x2_0), (cAd x2_1)⟩ | with_reducible exact ⟨(UP.alloc2_drew _ _), (cAe b0_0), (cAe b0_1), (cAe b0_2), (cAe b1_0), (cAe b1_1), (cAe b1_2), (cAe x1_0), (cAe x1_1), (cAe x2_0), (cAe x2_1)⟩ | ((try simp only [← World.setCell_drew]); first | with_reducible exact ⟨(us (us (us UP))), (cf (cf (cf b0_0))), (cf (cf (cf b0_1))), (cf (cf (cf b0_2))), (cf (cf (cf b1_0))), (cf (cf (cf b1_1))), (cf (cf (cf b1_2))), (cf (cf (cf x1_0))), (cf (cf (cf x1_1))), (cf (cf (cf x2_0))), (cf (cf (cf x2_1)))⟩) | go_keep)
  ((first
    | (go_at_call 142
       ((with_reducible refine (frac_cross WP od (by omega) (by omega)).mono ?_))
       rintro e W5 ⟨V5, rfl, x, u5⟩
       clear x1_0 x1_1 x2_0 x2_1; revert o od x1 p pd b0 b1 r0 H K WP WO; refine lg12 u5 ?_; intro o od x1 p pd b0 b1 r0 H K WP WO; revert x2 UP b0_0 b0_1 b0_2 b1_0 b1_1 b1_2 r0_0 r0_1 r0_2; refine lg11 u5 ?_; intro x2 UP b0_0 b0_1 b0_2 b1_0 b1_1 b1_2 r0_0 r0_1 r0_2
       try (replace x := x.up u5)
       try (replace y := y.up u5)
       try (replace n := n.up u5)
       try (replace z := z.up u5)
       try (replace q1 := q1.up u5)
       replace r0_f0 := r0.free
       obtain ⟨x1_0, x1_1⟩ := x1.c2
       obtain ⟨x2_0, x2_1⟩ := x2.c2
       clear u5)
    | (go_at_call 142
       ((with_reducible refine (frac_cross WO pd (by omega) (by omega)).mono ?_))
       rintro e W6 ⟨V6, rfl, y, u6⟩
       clear x1_0 x1_1 x2_0 x2_1; revert o od x1 p pd b0 b1 r0 H K WP WO; refine lg12 u6 ?_; intro o od x1 p pd b0 b1 r0 H K WP WO; revert x2 UP b0_0 b0_1 b0_2 b1_0 b1_1 b1_2 r0_0 r0_1 r0_2; refine lg11 u6 ?_; intro x2 UP b0_0 b0_1 b0_2 b1_0 b1_1 b1_2 r0_0 r0_1 r0_2
       try (replace x := x.up u6)
       try (replace y := y.up u6)
       try (replace n := n.up u6)
       try (replace z := z.up u6)
       try (replace q1 := q1.up u6)
       replace r0_f0 := r0.free
       obtain ⟨x1_0, x1_1⟩ := x1.c2
       obtain ⟨x2_0, x2_1⟩ := x2.c2
       clear u6)
    | (go_at_call 151
       ((with_reducible refine (prod_mul pd od (by omega) (by omega)).mono ?_))
       rintro e W7 ⟨V7, rfl, n, u7⟩
       clear x1_0 x1_1 x2_0 x2_1; revert o od x1 p pd b0 b1 r0 H K WP WO; refine lg12 u7 ?_; intro o od x1 p pd b0 b1 r0 H K WP WO; revert x2 UP b0_0 b0_1 b0_2 b1_0 b1_1 b1_2 r0_0 r0_1 r0_2; refine lg11 u7 ?_; intro x2 UP b0_0 b0_1 b0_2 b1_0 b1_1 b1_2 r0_0 r0_1 r0_2
       try (replace x := x.up u7)
       try (replace y := y.up u7)
       try (replace n := n.up u7)
       try (replace z := z.up u7)
       try (replace q1 := q1.up u7)
       replace r0_f0 := r0.free
       obtain ⟨x1_0, x1_1⟩ := x1.c2
       obtain ⟨x2_0, x2_1⟩ := x2.c2
       clear u7)
    | (go_at_call 155
       ((with_reducible refine (whole_sub (x.wh LP) (y.wh LO) (by omega) (by omega)).mono ?_))
       rintro e W8 ⟨V8, rfl, z, u8⟩
       clear x1_0 x1_1 x2_0 x2_1; revert o od x1 p pd b0 b1 r0 H K WP WO; refine lg12 u8 ?_; intro o od x1 p pd b0 b1 r0 H K WP WO; revert x2 UP b0_0 b0_1 b0_2 b1_0 b1_1 b1_2 r0_0 r0_1 r0_2; refine lg11 u8 ?_; intro x2 UP b0_0 b0_1 b0_2 b1_0 b1_1 b1_2 r0_0 r0_1 r0_2
       try (replace x := x.up u8)
       try (replace y := y.up u8)
       try (replace n := n.up u8)
       try (replace z := z.up u8)
       try (replace q1 := q1.up u8)
       replace r0_f0 := r0.free
       obtain ⟨x1_0, x1_1⟩ := x1.c2
       obtain ⟨x2_0, x2_1⟩ := x2.c2
       clear u8)
    | (go_at_call 149
       ((with_reducible refine (frac_cancel (z.wh LS) n (by omega) (by omega) HM.out).mono ?_))
       rintro e W9 ⟨V9, rfl, q1, u9⟩
       clear x1_0 x1_1 x2_0 x2_1; revert o od x1 p pd b0 b1 r0 H K WP WO; refine lg12 u9 ?_; intro o od x1 p pd b0 b1 r0 H K WP WO; revert x2 UP b0_0 b0_1 b0_2 b1_0 b1_1 b1_2 r0_0 r0_1 r0_2; refine lg11 u9 ?_; intro x2 UP b0_0 b0_1 b0_2 b1_0 b1_1 b1_2 r0_0 r0_1 r0_2
       try (replace x := x.up u9)
       try (replace y := y.up u9)
       try (replace n := n.up u9)
       try (replace z := z.up u9)
       try (replace q1 := q1.up u9)
       replace r0_f0 := r0.free
       obtain ⟨x1_0, x1_1⟩ := x1.c2
       obtain ⟨x2_0, x2_1⟩ := x2.c2
       clear u9
       rw [HQ.out] at q1
       obtain ⟨Xq1, Yq1, rfl, q1, q1d⟩ := q1
       obtain ⟨Aq1, nq1, cq1, rfl⟩ := q1.shape
       obtain ⟨Aq1d, nq1d, cq1d, rfl⟩ := q1d.shape)))
 all_goals
  go_wp2
  exact end_q rfl rfl rfl ⟨_, _, rfl, q1, q1d⟩ r0 trivial trivial trivial UP (by omega)
end Go.Proofs.YtmmcffceeahemaaGreat
namespace Go.Proofs.YtmmcffceeahemaaGreat
open Go.RowKit
theorem end_qb_as {fn : Func} {a : Act} {w0 w : World} {t t' : Tmp} {g : Nat} {q q' : Rat} {b b' s : Bool} {u d p1 p2 p3 : Value} (eq : q' = q) (eb : b' = b) (hres : fn.results = #[.cell t 34, .tmp t']) (ht : a.tmps.getD t undef = .pointer (some ⟨g, 0, none⟩)) (hb : a.tmps.getD t' undef = .bool b) (hd : a.defers = [])
 (h : Qw w (.agg #[.bool s, u, d]) q) (r : Bx 34 w g [p1, p2, p3]) (n1 : NoWord p1) (n2 : NoWord p2) (n3 : NoWord p3) (hu : Up w0 w) (hg : w0.heap.size ≤ g) :
 bodyPost Tryz.prog fn (RetQB q' b' w0) .ret a (((w.setCell ⟨g, 0, none⟩ (.bool s)).setCell ⟨g, 1, none⟩ u).setCell ⟨g, 2, none⟩ d) := by
 subst eq eb
 exact end_qb hres ht hb hd h r n1 n2 n3 hu hg
set_option maxRecDepth 100000 in
set_option maxHeartbeats 3200000 in
theorem frac_mul {v u : Value} {q r : Rat} {j k : Nat} {w : World} (h : Fr w v q j) (h' : Fr w u r k) (hj : j ≤ 20000000) (hk : k ≤ 20000000) : Calls Tryz.prog 110 #[v, u] w (RetQ (q * r) w) := by
 have H := h
 have K := h'
 obtain ⟨s, v1, v2, l, m, rfl, hl, hm, _⟩ := h
 obtain ⟨t, v3, v4, l', m', rfl, hl', hm', _⟩ := h'
 obtain ⟨A, c, rfl⟩ := hl.form
 obtain ⟨D, d, rfl⟩ := hm.form
 obtain ⟨A', c', rfl⟩ := hl'.form
 obtain ⟨D', d', rfl⟩ := hm'.form
 clear hl hm hl' hm'
 have UP : Up w (((w.alloc (.cells #[.bool s, .slice A l.length c, .slice D m.length d] 34)).alloc (.cells #[.bool t, .slice A' l'.length c', .slice D' m'.length d'] 34)).alloc (.cells #[.bool false, .slice none 0 0, .slice none 0 0] 34)) := (((Up.refl w).alloc _).alloc _).alloc _
 obtain ⟨b0, b1, r0⟩ := bx_three 34 34 34 w [.bool s, .slice A l.length c, .slice D m.length d] [.bool t, .slice A' l'.length c', .slice D' m'.length d'] [.bool false, .slice none 0 0, .slice none 0 0]
 go_enter Tryz.func110, Tryz.ntmps110
 go_wp2_with fail
 generalize (((w.alloc (.cells #[.bool s, .slice A l.length c, .slice D m.length d] 34)).alloc (.cells #[.bool t, .slice A' l'.length c', .slice D' m'.length d'] 34)).alloc (.cells #[.bool false, .slice none 0 0, .slice none 0 0] 34)) = W at *
 revert H K
 refine lg2 UP ?_
 intro H K
 obtain ⟨b0_0, b0_1, b0_2⟩ := b0.c3
 obtain ⟨b1_0, b1_1, b1_2⟩ := b1.c3
 obtain ⟨r0_0, r0_1, r0_2⟩ := r0.c3
 have r0_f0 := r0.free
 go_wp2_with fail
 ((with_reducible refine (frac_parts H (by omega)).mono ?_))
 rintro e W1 ⟨sp, Lp, Dp, lp_, mp_, rfl, p, pd, hp, hlp, hmp, u1⟩
 obtain ⟨Ap, np, cp, rfl⟩ := p.shape
 obtain ⟨Apd, npd, cpd, rfl⟩ := pd.shape
 revert UP b0 b1 r0 H K b0_0 b0_1 b0_2 b1_0 b1_1 b1_2
 refine lg12 u1 ?_
 intro UP b0 b1 r0 H K b0_0 b0_1 b0_2 b1_0 b1_1 b1_2
 revert r0_0 r0_1 r0_2
 refine lg3 u1 ?_
 intro r0_0 r0_1 r0_2
 replace r0_f0 := r0.free
 clear u1
 have b0_0a := cA b0_0
 have b0_1a := cA b0_1
 have b0_2a := cA b0_2
 have b1_0a := cA b1_0
 have b1_1a := cA b1_1
 have b1_2a := cA b1_2
 have r0_0a := cA r0_0
 have r0_f0a := r0.fa
 have r0_1a := cA r0_1
 have r0_2a := cA r0_2
 go_wp2_with fail
 clear b0_0a b0_1a b0_2a b1_0a b1_1a b1_2a r0_0a r0_f0a r0_1a r0_2a
 have x1 := Bx.new 32 W1 [.bool sp, .slice Ap np cp]
 have b0_lt_x1 := b0.lt
 have b1_lt_x1 := b1.lt
 have r0_lt_x1 := r0.lt
 have nu := ((Up.refl W1).alloc (.cells #[.bool sp, .slice Ap np cp] 32))
 revert p pd UP b0 b1 r0 H K
 revert nu
 refine lh8 ?_
 intro p pd UP b0 b1 r0 H K
 generalize (W1.alloc (.cells #[.bool sp, .slice Ap np cp] 32)) = W2 at *
 clear b0_0 b0_1 b0_2 b1_0 b1_1 b1_2 r0_0 r0_1 r0_2
 obtain ⟨b0_0, b0_1, b0_2⟩ := b0.c3
 obtain ⟨b1_0, b1_1, b1_2⟩ := b1.c3
 obtain ⟨r0_0, r0_1, r0_2⟩ := r0.c3
 replace r0_f0 := r0.free
 obtain ⟨x1_0, x1_1⟩ := x1.c2
 ((with_reducible refine (frac_parts K (by omega)).mono ?_))
 rintro e W3 ⟨so, Lo, Do, lo_, mo_, rfl, o, od, ho, hlo, hmo, u3⟩
 obtain ⟨Ao, no, co, rfl⟩ := o.shape
 obtain ⟨Aod, nod, cod, rfl⟩ := od.shape
 clear x1_0 x1_1
 revert x1 p pd UP b0 b1 r0 H K b0_0 b0_1 b0_2
 refine lg12 u3 ?_
 intro x1 p pd UP b0 b1 r0 H K b0_0 b0_1 b0_2
 revert b1_0 b1_1 b1_2 r0_0 r0_1 r0_2
 refine lg6 u3 ?_
 intro b1_0 b1_1 b1_2 r0_0 r0_1 r0_2
 replace r0_f0 := r0.free
 obtain ⟨x1_0, x1_1⟩ := x1.c2
 clear u3
 have HM : Hid (Wd.val (Wd.words (Wd.val mp_ * Wd.val mo_)) ≠ 0) := Lib.hid (by rw [Wd.val_words]; exact Nat.mul_ne_zero hp.out.2 ho.out.2)
 have HQ : Hid (mkRat (Wd.iv sp (Wd.val lp_) * Wd.iv so (Wd.val lo_)) (Wd.val (Wd.words (Wd.val mp_ * Wd.val mo_))) = q * r) := Lib.hid (by
  rw [Wd.val_words, ← hp.out.1, ← ho.out.1, Rat.mkRat_mul_mkRat])
 have LS := (Wd.Lz.iv (s := sp) (Wd.words_val_length p.ok)).mul (Wd.Lz.iv (s := so) (Wd.words_val_length o.ok))
 have LM := Wd.words_mul_le (Wd.words_val_length pd.ok) (Wd.words_val_length od.ok)
 have b0_0a := cA b0_0
 have b0_1a := cA b0_1
 have b0_2a := cA b0_2
 have b1_0a := cA b1_0
 have b1_1a := cA b1_1
 have b1_2a := cA b1_2
 have r0_0a := cA r0_0
 have r0_f0a := r0.fa
 have r0_1a := cA r0_1
 have r0_2a := cA r0_2
 have x1_0a := cA x1_0
 have x1_1a := cA x1_1
 go_wp2_with fail
 clear b0_0a b0_1a b0_2a b1_0a b1_1a b1_2a r0_0a r0_f0a r0_1a r0_2a x1_0a x1_1a
 have x2 := Bx.new 32 W3 [.bool so, .slice Ao no co]
 have b0_lt_x2 := b0.lt
 have b1_lt_x2 := b1.lt
 have r0_lt_x2 := r0.lt
 have x1_lt_x2 := x1.lt
 have nu := ((Up.refl W3).alloc (.cells #[.bool so, .slice Ao no co] 32))
 revert o od x1 p pd UP b0 b1 r0 H K
 revert nu
 refine lh11 ?_
 intro o od x1 p pd UP b0 b1 r0 H K
 generalize (W3.alloc (.cells #[.bool so, .slice Ao no co] 32)) = W4 at *
 clear b0_0 b0_1 b0_2 b1_0 b1_1 b1_2 r0_0 r0_1 r0_2 x1_0 x1_1
 obtain ⟨b0_0, b0_1, b0_2⟩ := b0.c3
 obtain ⟨b1_0, b1_1, b1_2⟩ := b1.c3
 obtain ⟨r0_0, r0_1, r0_2⟩ := r0.c3
 replace r0_f0 := r0.free
 obtain ⟨x1_0, x1_1⟩ := x1.c2
 obtain ⟨x2_0, x2_1⟩ := x2.c2
 ((with_reducible refine (whole_mul (Wh.mk sp p (k := 100000000) (by omega)) (Wh.mk so o (k := 100000000) (by omega)) (by omega) (by omega)).mono ?_))
 rintro e W5 ⟨V5, rfl, z, u5⟩
 clear x1_0 x1_1 x2_0 x2_1
 revert x2 o od x1 p pd UP b0 b1 r0 H K
 refine lg12 u5 ?_
 intro x2 o od x1 p pd UP b0 b1 r0 H K
 revert b0_0 b0_1 b0_2 b1_0 b1_1 b1_2 r0_0 r0_1 r0_2
 refine lg9 u5 ?_
 intro b0_0 b0_1 b0_2 b1_0 b1_1 b1_2 r0_0 r0_1 r0_2
 replace r0_f0 := r0.free
 obtain ⟨x1_0, x1_1⟩ := x1.c2
 obtain ⟨x2_0, x2_1⟩ := x2.c2
 clear u5
 go_wp2_with fail
 ((with_reducible refine (prod_mul pd od (by omega) (by omega)).mono ?_))
 rintro e W6 ⟨V6, rfl, n, u6⟩
 clear x1_0 x1_1 x2_0 x2_1
 revert z x2 o od x1 p pd b0 b1 r0 H K
 refine lg12 u6 ?_
 intro z x2 o od x1 p pd b0 b1 r0 H K
 revert UP b0_0 b0_1 b0_2 b1_0 b1_1 b1_2 r0_0 r0_1 r0_2
 refine lg10 u6 ?_
 intro UP b0_0 b0_1 b0_2 b1_0 b1_1 b1_2 r0_0 r0_1 r0_2
 replace r0_f0 := r0.free
 obtain ⟨x1_0, x1_1⟩ := x1.c2
 obtain ⟨x2_0, x2_1⟩ := x2.c2
 clear u6
 go_wp2_with fail
 ((with_reducible refine (frac_cancel (z.wh LS) n (by omega) (by omega) HM.out).mono ?_))
 rintro e W7 ⟨V7, rfl, q1, u7⟩
 clear x1_0 x1_1 x2_0 x2_1
 revert n z o od x1 p pd b0 b1 r0 H K
 refine lg12 u7 ?_
 intro n z o od x1 p pd b0 b1 r0 H K
 revert x2 UP b0_0 b0_1 b0_2 b1_0 b1_1 b1_2 r0_0 r0_1 r0_2
 refine lg11 u7 ?_
 intro x2 UP b0_0 b0_1 b0_2 b1_0 b1_1 b1_2 r0_0 r0_1 r0_2
 replace r0_f0 := r0.free
 obtain ⟨x1_0, x1_1⟩ := x1.c2
 obtain ⟨x2_0, x2_1⟩ := x2.c2
 clear u7
 rw [HQ.out] at q1
 obtain ⟨Xq1, Yq1, rfl, q1, q1d⟩ := q1
 obtain ⟨Aq1, nq1, cq1, rfl⟩ := q1.shape
 obtain ⟨Aq1d, nq1d, cq1d, rfl⟩ := q1d.shape
 go_wp2_with fail
 exact end_q rfl rfl rfl ⟨_, _, rfl, q1, q1d⟩ r0 trivial trivial trivial UP (by omega)
set_option maxHeartbeats 1600000 in
theorem frac_of {n : Int} (hn : -9223372036854775808 ≤ n ∧ n ≤ 9223372036854775807) (w : World) : Calls Tryz.prog 90 #[.int .i64 n] w (RetQ (n : Rat) w) := by
 have UP : Up w (w.alloc (.cells #[.bool false, .slice none 0 0, .slice none 0 0] 34)) := (Up.refl w).alloc _
 have r0 := Bx.new 34 w [.bool false, .slice none 0 0, .slice none 0 0]
 go_enter Tryz.func90, Tryz.ntmps90
 go_wp2_with fail
 generalize (w.alloc (.cells #[.bool false, .slice none 0 0, .slice none 0 0] 34)) = W at *
 obtain ⟨r0_0, r0_1, r0_2⟩ := r0.c3
 have r0_f0 := r0.free
 go_wp2_with fail
 ((with_reducible refine (whole_of hn _).mono ?_))
 rintro e W1 ⟨V1, rfl, z1, u1⟩
 revert UP r0 r0_0 r0_1 r0_2
 refine lg5 u1 ?_
 intro UP r0 r0_0 r0_1 r0_2
 replace r0_f0 := r0.free
 clear u1
 obtain ⟨Xz1, rfl, z1⟩ := z1
 obtain ⟨Az1, nz1, cz1, rfl⟩ := z1.shape
 go_wp2_with fail
 ((with_reducible refine (nat_of (n := 1) 1 rfl (by omega) _).mono ?_))
 rintro e W2 ⟨V2, rfl, n1, u2⟩
 revert UP r0 r0_0 r0_1 r0_2 z1
 refine lg6 u2 ?_
 intro UP r0 r0_0 r0_1 r0_2 z1
 replace r0_f0 := r0.free
 clear u2
 obtain ⟨A1, k1, c1, rfl⟩ := n1.shape
 go_wp2_with fail
 exact end_q rfl rfl rfl (Qw.mk (q := (n : Rat)) z1 n1 rfl rfl rfl) r0 trivial trivial trivial UP (by omega)
theorem frac_of0 (w : World) : Calls Tryz.prog 90 #[.int .i64 0] w (RetQ 0 w) := frac_of (n := 0) (by omega) w
set_option maxRecDepth 100000 in
set_option maxHeartbeats 6400000 in
theorem frac_quo {v u : Value} {q r : Rat} {j k : Nat} {w : World} (h : Fr w v q j) (h' : Fr w u r k) (hj : j ≤ 20000000) (hk : k ≤ 20000000) : Calls Tryz.prog 116 #[v, u] w (RetQB (q / r) (!decide (r = 0)) w) := by
 have H := h
 have K := h'
 obtain ⟨s, v1, v2, l, m, rfl, hl, hm, _⟩ := h
 obtain ⟨t, v3, v4, l', m', rfl, hl', hm', _⟩ := h'
 obtain ⟨A, c, rfl⟩ := hl.form
 obtain ⟨D, d, rfl⟩ := hm.form
 obtain ⟨A', c', rfl⟩ := hl'.form
 obtain ⟨D', d', rfl⟩ := hm'.form
 clear hl hm hl' hm'
 have UP : Up w (((w.alloc (.cells #[.bool s, .slice A l.length c, .slice D m.length d] 34)).alloc (.cells #[.bool t, .slice A' l'.length c', .slice D' m'.length d'] 34)).alloc (.cells #[.bool false, .slice none 0 0, .slice none 0 0] 34)) := (((Up.refl w).alloc _).alloc _).alloc _
 obtain ⟨b0, b1, r0⟩ := bx_three 34 34 34 w [.bool s, .slice A l.length c, .slice D m.length d] [.bool t, .slice A' l'.length c', .slice D' m'.length d'] [.bool false, .slice none 0 0, .slice none 0 0]
 go_enter Tryz.func116, Tryz.ntmps116
 go_wp2_with fail
 generalize (((w.alloc (.cells #[.bool s, .slice A l.length c, .slice D m.length d] 34)).alloc (.cells #[.bool t, .slice A' l'.length c', .slice D' m'.length d'] 34)).alloc (.cells #[.bool false, .slice none 0 0, .slice none 0 0] 34)) = W at *
 revert H K
 refine lg2 UP ?_
 intro H K
 obtain ⟨b0_0, b0_1, b0_2⟩ := b0.c3
 obtain ⟨b1_0, b1_1, b1_2⟩ := b1.c3
 obtain ⟨r0_0, r0_1, r0_2⟩ := r0.c3
 have r0_f0 := r0.free
 go_wp2_with fail
 ((with_reducible refine (frac_parts H (by omega)).mono ?_))
 rintro e W1 ⟨sp, Lp, Dp, lp_, mp_, rfl, p, pd, hp, hlp, hmp, u1⟩
 obtain ⟨Ap, np, cp, rfl⟩ := p.shape
 obtain ⟨Apd, npd, cpd, rfl⟩ := pd.shape
 revert UP b0 b1 r0 H K b0_0 b0_1 b0_2 b1_0 b1_1 b1_2
 refine lg12 u1 ?_
 intro UP b0 b1 r0 H K b0_0 b0_1 b0_2 b1_0 b1_1 b1_2
 revert r0_0 r0_1 r0_2
 refine lg3 u1 ?_
 intro r0_0 r0_1 r0_2
 replace r0_f0 := r0.free
 clear u1
 have b0_0a := cA b0_0
 have b0_1a := cA b0_1
 have b0_2a := cA b0_2
 have b1_0a := cA b1_0
 have b1_1a := cA b1_1
 have b1_2a := cA b1_2
 have r0_0a := cA r0_0
 have r0_f0a := r0.fa
 have r0_1a := cA r0_1
 have r0_2a := cA r0_2
 go_wp2_with fail
 clear b0_0a b0_1a b0_2a b1_0a b1_1a b1_2a r0_0a r0_f0a r0_1a r0_2a
 have x1 := Bx.new 32 W1 [.bool sp, .slice Ap np cp]
 have b0_lt_x1 := b0.lt
 have b1_lt_x1 := b1.lt
 have r0_lt_x1 := r0.lt
 have nu := ((Up.refl W1).alloc (.cells #[.bool sp, .slice Ap np cp] 32))
 revert p pd UP b0 b1 r0 H K
 revert nu
 refine lh8 ?_
 intro p pd UP b0 b1 r0 H K
 generalize (W1.alloc (.cells #[.bool sp, .slice Ap np cp] 32)) = W2 at *
 clear b0_0 b0_1 b0_2 b1_0 b1_1 b1_2 r0_0 r0_1 r0_2
 obtain ⟨b0_0, b0_1, b0_2⟩ := b0.c3
 obtain ⟨b1_0, b1_1, b1_2⟩ := b1.c3
 obtain ⟨r0_0, r0_1, r0_2⟩ := r0.c3
 replace r0_f0 := r0.free
 obtain ⟨x1_0, x1_1⟩ := x1.c2
 ((with_reducible refine (frac_parts K (by omega)).mono ?_))
 rintro e W3 ⟨so, Lo, Do, lo_, mo_, rfl, o, od, ho, hlo, hmo, u3⟩
 obtain ⟨Ao, no, co, rfl⟩ := o.shape
 obtain ⟨Aod, nod, cod, rfl⟩ := od.shape
 clear x1_0 x1_1
 revert x1 p pd UP b0 b1 r0 H K b0_0 b0_1 b0_2
 refine lg12 u3 ?_
 intro x1 p pd UP b0 b1 r0 H K b0_0 b0_1 b0_2
 revert b1_0 b1_1 b1_2 r0_0 r0_1 r0_2
 refine lg6 u3 ?_
 intro b1_0 b1_1 b1_2 r0_0 r0_1 r0_2
 replace r0_f0 := r0.free
 obtain ⟨x1_0, x1_1⟩ := x1.c2
 clear u3
 by_cases hz : Wd.val lo_ = 0
 · have HR : Hid (q / r = 0 ∧ (!decide (r = 0)) = false) := Lib.hid (by
    have e : r = 0 := by rw [← ho.out.1, hz, Wd.iv_zero, Rat.zero_mkRat]
    subst e
    exact ⟨by rw [Rat.div_def, Rat.inv_zero, Rat.mul_zero], by simp⟩)
   have HS : Hid (Wd.sgn (Wd.iv so (Wd.val lo_)) = 0) := Lib.hid (by rw [hz, Wd.iv_zero]; rfl)
   clear hz
   have b0_0a := cA b0_0
   have b0_1a := cA b0_1
   have b0_2a := cA b0_2
   have b1_0a := cA b1_0
   have b1_1a := cA b1_1
   have b1_2a := cA b1_2
   have r0_0a := cA r0_0
   have r0_f0a := r0.fa
   have r0_1a := cA r0_1
   have r0_2a := cA r0_2
   have x1_0a := cA x1_0
   have x1_1a := cA x1_1
   go_wp2_with fail
   clear b0_0a b0_1a b0_2a b1_0a b1_1a b1_2a r0_0a r0_f0a r0_1a r0_2a x1_0a x1_1a
   have x2 := Bx.new 32 W3 [.bool so, .slice Ao no co]
   have b0_lt_x2 := b0.lt
   have b1_lt_x2 := b1.lt
   have r0_lt_x2 := r0.lt
   have x1_lt_x2 := x1.lt
   have nu := ((Up.refl W3).alloc (.cells #[.bool so, .slice Ao no co] 32))
   revert o od x1 p pd UP b0 b1 r0 H K; revert nu; refine lh11 ?_; intro o od x1 p pd UP b0 b1 r0 H K
   generalize (W3.alloc (.cells #[.bool so, .slice Ao no co] 32)) = W4 at *
   clear b0_0 b0_1 b0_2 b1_0 b1_1 b1_2 r0_0 r0_1 r0_2 x1_0 x1_1
   obtain ⟨b0_0, b0_1, b0_2⟩ := b0.c3
   obtain ⟨b1_0, b1_1, b1_2⟩ := b1.c3
   obtain ⟨r0_0, r0_1, r0_2⟩ := r0.c3
   replace r0_f0 := r0.free
   obtain ⟨x1_0, x1_1⟩ := x1.c2
   obtain ⟨x2_0, x2_1⟩ := x2.c2
   ((with_reducible refine (whole_sign (Wh.mk so o (k := 100000000) (by omega)) (by omega)).mono ?_))
   rintro e W5 ⟨rfl, u5⟩
   clear x1_0 x1_1 x2_0 x2_1; revert x2 o od x1 p pd UP b0 b1 r0 H K; refine lg12 u5 ?_; intro x2 o od x1 p pd UP b0 b1 r0 H K; revert b0_0 b0_1 b0_2 b1_0 b1_1 b1_2 r0_0 r0_1 r0_2; refine lg9 u5 ?_; intro b0_0 b0_1 b0_2 b1_0 b1_1 b1_2 r0_0 r0_1 r0_2
   replace r0_f0 := r0.free
   obtain ⟨x1_0, x1_1⟩ := x1.c2
   obtain ⟨x2_0, x2_1⟩ := x2.c2
   clear u5
   rw [HS.out]
   go_wp2_with fail
   ((with_reducible refine (frac_of0 _).mono ?_))
   rintro e W6 ⟨V6, rfl, q1, u6⟩
   clear x1_0 x1_1 x2_0 x2_1; revert x2 o od x1 p pd UP b0 b1 r0 H K; refine lg12 u6 ?_; intro x2 o od x1 p pd UP b0 b1 r0 H K; revert b0_0 b0_1 b0_2 b1_0 b1_1 b1_2 r0_0 r0_1 r0_2; refine lg9 u6 ?_; intro b0_0 b0_1 b0_2 b1_0 b1_1 b1_2 r0_0 r0_1 r0_2
   replace r0_f0 := r0.free
   obtain ⟨x1_0, x1_1⟩ := x1.c2
   obtain ⟨x2_0, x2_1⟩ := x2.c2
   clear u6
   obtain ⟨Xq1, Yq1, rfl, q1, q1d⟩ := q1
   obtain ⟨Aq1, nq1, cq1, rfl⟩ := q1.shape
   obtain ⟨Aq1d, nq1d, cq1d, rfl⟩ := q1d.shape
   go_wp2_with fail
   exact end_qb_as HR.out.1 HR.out.2 rfl rfl rfl rfl ⟨_, _, rfl, q1, q1d⟩ r0 trivial trivial trivial UP (by omega)
 · have HR : Hid ((!decide (r = 0)) = true) := Lib.hid (by
    have e : r ≠ 0 := by rw [← ho.out.1]; exact (Rat.mkRat_ne_zero ho.out.2).2 (fun e => hz (Wd.iv_eq_zero.1 e))
    simp [e])
   have hs : ((Wd.sgn (Wd.iv so (Wd.val lo_)) : Int) == 0) = false := by
    rcases Wd.sgn_cases (Wd.iv so (Wd.val lo_)) with ⟨_, e⟩ | ⟨e, _⟩ | ⟨_, e⟩
    · rw [e]; rfl
    · exact absurd (Wd.iv_eq_zero.1 e) hz
    · rw [e]; rfl
   have HM : Hid (Wd.val (Wd.words (Wd.val mp_ * Wd.val lo_)) ≠ 0) := Lib.hid (by rw [Wd.val_words]; exact Nat.mul_ne_zero hp.out.2 hz)
   have hQ := Wd.quo_mk (Wd.iv sp (Wd.val lp_)) (t := so) hz hp.out.2 ho.out.2
   rw [hp.out.1, ho.out.1] at hQ
   have LX := (Wd.Lz.iv (s := sp) (Wd.words_val_length p.ok)).mul (y := (Wd.val mo_ : Int)) (Wd.words_val_length od.ok)
   have LM := Wd.words_mul_le (Wd.words_val_length pd.ok) (Wd.words_val_length o.ok)
   have HQ := Lib.hid hQ
   clear hz hQ
   have b0_0a := cA b0_0
   have b0_1a := cA b0_1
   have b0_2a := cA b0_2
   have b1_0a := cA b1_0
   have b1_1a := cA b1_1
   have b1_2a := cA b1_2
   have r0_0a := cA r0_0
   have r0_f0a := r0.fa
   have r0_1a := cA r0_1
   have r0_2a := cA r0_2
   have x1_0a := cA x1_0
   have x1_1a := cA x1_1
   go_wp2_with fail
   clear b0_0a b0_1a b0_2a b1_0a b1_1a b1_2a r0_0a r0_f0a r0_1a r0_2a x1_0a x1_1a
   have x2 := Bx.new 32 W3 [.bool so, .slice Ao no co]
   have b0_lt_x2 := b0.lt
   have b1_lt_x2 := b1.lt
   have r0_lt_x2 := r0.lt
   have x1_lt_x2 := x1.lt
   have nu := ((Up.refl W3).alloc (.cells #[.bool so, .slice Ao no co] 32))
   revert o od x1 p pd UP b0 b1 r0 H K; revert nu; refine lh11 ?_; intro o od x1 p pd UP b0 b1 r0 H K
   generalize (W3.alloc (.cells #[.bool so, .slice Ao no co] 32)) = W4 at *
   clear b0_0 b0_1 b0_2 b1_0 b1_1 b1_2 r0_0 r0_1 r0_2 x1_0 x1_1
   obtain ⟨b0_0, b0_1, b0_2⟩ := b0.c3
   obtain ⟨b1_0, b1_1, b1_2⟩ := b1.c3
   obtain ⟨r0_0, r0_1, r0_2⟩ := r0.c3
   replace r0_f0 := r0.free
   obtain ⟨x1_0, x1_1⟩ := x1.c2
   obtain ⟨x2_0, x2_1⟩ := x2.c2
   ((with_reducible refine (whole_sign (Wh.mk so o (k := 100000000) (by omega)) (by omega)).mono ?_))
   rintro e W5 ⟨rfl, u5⟩
   clear x1_0 x1_1 x2_0 x2_1; revert x2 o od x1 p pd UP b0 b1 r0 H K; refine lg12 u5 ?_; intro x2 o od x1 p pd UP b0 b1 r0 H K; revert b0_0 b0_1 b0_2 b1_0 b1_1 b1_2 r0_0 r0_1 r0_2; refine lg9 u5 ?_; intro b0_0 b0_1 b0_2 b1_0 b1_1 b1_2 r0_0 r0_1 r0_2
   replace r0_f0 := r0.free
   obtain ⟨x1_0, x1_1⟩ := x1.c2
   obtain ⟨x2_0, x2_1⟩ := x2.c2
   clear u5
   go_wp2_with fail
   ((with_reducible refine (frac_cross (Wh.mk sp p (k := 100000000) (by omega)) od (by omega) (by omega)).mono ?_))
   rintro e W6 ⟨V6, rfl, up, u6⟩
   clear x1_0 x1_1 x2_0 x2_1; revert x2 o od x1 p pd UP b0 b1 r0 H K; refine lg12 u6 ?_; intro x2 o od x1 p pd UP b0 b1 r0 H K; revert b0_0 b0_1 b0_2 b1_0 b1_1 b1_2 r0_0 r0_1 r0_2; refine lg9 u6 ?_; intro b0_0 b0_1 b0_2 b1_0 b1_1 b1_2 r0_0 r0_1 r0_2
   replace r0_f0 := r0.free
   obtain ⟨x1_0, x1_1⟩ := x1.c2
   obtain ⟨x2_0, x2_1⟩ := x2.c2
   clear u6
   generalize hX : Wd.iv sp (Wd.val lp_) * (Wd.val mo_ : Int) = X at *
   clear hX
   obtain ⟨Xup, rfl, up⟩ := up
   obtain ⟨Aup, nup, cup, rfl⟩ := up.shape
   have b0_0a := cA b0_0
   have b0_1a := cA b0_1
   have b0_2a := cA b0_2
   have b1_0a := cA b1_0
   have b1_1a := cA b1_1
   have b1_2a := cA b1_2
   have r0_0a := cA r0_0
   have r0_f0a := r0.fa
   have r0_1a := cA r0_1
   have r0_2a := cA r0_2
   have x1_0a := cA x1_0
   have x1_1a := cA x1_1
   have x2_0a := cA x2_0
   have x2_1a := cA x2_1
   go_wp2_with fail
   clear b0_0a b0_1a b0_2a b1_0a b1_1a b1_2a r0_0a r0_f0a r0_1a r0_2a x1_0a x1_1a x2_0a x2_1a
   have x3 := Bx.new 32 W6 [.bool (!(Wd.ngb X == so)), .slice Aup nup cup]
   have b0_lt_x3 := b0.lt
   have b0_ne_x3 : ¬ (w.heap.size = W6.heap.size) := by omega
   have b0_en_x3 : ¬ (W6.heap.size = w.heap.size) := by omega
   have b1_lt_x3 := b1.lt
   have b1_ne_x3 : ¬ (w.heap.size + 1 = W6.heap.size) := by omega
   have b1_en_x3 : ¬ (W6.heap.size = w.heap.size + 1) := by omega
   have r0_lt_x3 := r0.lt
   have r0_ne_x3 : ¬ (w.heap.size + 1 + 1 = W6.heap.size) := by omega
   have r0_en_x3 : ¬ (W6.heap.size = w.heap.size + 1 + 1) := by omega
   have x1_lt_x3 := x1.lt
   have x1_ne_x3 : ¬ (W1.heap.size = W6.heap.size) := by omega
   have x1_en_x3 : ¬ (W6.heap.size = W1.heap.size) := by omega
   have x2_lt_x3 := x2.lt
   have x2_ne_x3 : ¬ (W3.heap.size = W6.heap.size) := by omega
   have x2_en_x3 : ¬ (W6.heap.size = W3.heap.size) := by omega
   have nu := ((Up.refl W6).alloc (.cells #[.bool (!(Wd.ngb X == so)), .slice Aup nup cup] 32))
   refine li12 nu H K p pd o od up b0 b1 r0 x1 x2 ?_; clear H K p pd o od up b0 b1 r0 x1 x2; intro H K p pd o od up b0 b1 r0 x1 x2; refine li1 nu UP ?_; clear UP nu; intro UP
   generalize (W6.alloc (.cells #[.bool (!(Wd.ngb X == so)), .slice Aup nup cup] 32)) = W7 at *
   clear b0_0 b0_1 b0_2 b1_0 b1_1 b1_2 r0_0 r0_1 r0_2 x1_0 x1_1 x2_0 x2_1
   obtain ⟨b0_0, b0_1, b0_2⟩ := b0.c3
   obtain ⟨b1_0, b1_1, b1_2⟩ := b1.c3
   obtain ⟨r0_0, r0_1, r0_2⟩ := r0.c3
   replace r0_f0 := r0.free
   obtain ⟨x1_0, x1_1⟩ := x1.c2
   obtain ⟨x2_0, x2_1⟩ := x2.c2
   obtain ⟨x3_0, x3_1⟩ := x3.c2
   have x3_f0 := x3.free
   have HQ2 : Hid (mkRat (Wd.iv (!(Wd.ngb X == so)) (Wd.val (Wd.words X.natAbs))) (Wd.val (Wd.words (Wd.val mp_ * Wd.val lo_))) = q / r) := Lib.hid (by rw [Wd.val_words, Wd.val_words]; exact HQ.out)
   have WU : Wh W7 (.agg #[.bool (!(Wd.ngb X == so)), .slice Aup nup cup]) (Wd.iv (!(Wd.ngb X == so)) (Wd.val (Wd.words X.natAbs))) 100000000 := Wh.mk _ up (Nat.le_trans LX (by omega))
   clear x1_0 x1_1 x2_0 x2_1 x3_0 x3_1; revert H K p pd o od up b0 b1 r0 x1 WU; refine lg12 (Up.refl W7).drew ?_; intro H K p pd o od up b0 b1 r0 x1 WU; revert x3 x2 UP b0_0 b0_1 b0_2 b1_0 b1_1 b1_2; refine lg9 (Up.refl W7).drew ?_; intro x3 x2 UP b0_0 b0_1 b0_2 b1_0 b1_1 b1_2
   obtain ⟨r0_0, r0_1, r0_2⟩ := r0.c3
   have r0_f0 := r0.free
   obtain ⟨x1_0, x1_1⟩ := x1.c2
   obtain ⟨x2_0, x2_1⟩ := x2.c2
   obtain ⟨x3_0, x3_1⟩ := x3.c2
   replace x3_f0 := x3.free
   go_region_held3 (fun w' => Up w w' ∧ w'.cell? ⟨w.heap.size, 0, none⟩ = some (.bool s) ∧ w'.cell? ⟨w.heap.size, 1, none⟩ = some (.slice A l.length c) ∧ w'.cell? ⟨w.heap.size, 2, none⟩ = some (.slice D m.length d) ∧ w'.cell? ⟨w.heap.size + 1, 0, none⟩ = some (.bool t) ∧ w'.cell? ⟨w.heap.size + 1, 1, none⟩ = some (.slice A' l'.length c') ∧ w'.cell? ⟨w.heap.size + 1, 2, none⟩ = some (.slice D' m'.length d') ∧ w'.cell? ⟨W1.heap.size, 0, none⟩ = some (.bool sp) ∧ w'.cell? ⟨W1.heap.size, 1, none⟩ = some (.slice Ap np cp) ∧ w'.cell? ⟨W3.heap.size, 0, none⟩ = some (.bool so) ∧ w'.cell? ⟨W3.heap.size, 1, none⟩ = some (.slice Ao no co) ∧ w'.cell? ⟨W6.heap.size, 0, none⟩ = some (.bool (!(Wd.ngb X == so))) ∧ w'.cell? ⟨W6.heap.size, 1, none⟩ = some (.slice Aup nup cup))
    (first | with_reducible exact ⟨UP, b0_0, b0_1, b0_2, b1_0, b1_1, b1_2, x1_0, x1_1, x2_0, x2_1, x3_0, x3_1⟩ | with_reducible exact ⟨(UP.alloc_drew _), (cAd b0_0), (cAd b0_1), (cAd b0_2), (cAd b1_0), (cAd b1_1), (cAd b1_2), (cAd x1_0), (cAd x1_1), (cAd x2_0), (cAd x2_1), (cAd x3_0), (cAd x3_1)⟩ | with_reducible exact ⟨(UP.alloc2_drew _ _), (cAe b0_0), (cAe b0_1), (cAe b0_2), (cAe b1_0), (cAe b1_1), (cAe b1_2), (cAe x1_0), (cAe x1_1), (cAe x2_0), (cAe x2_1), (cAe x3_0), (cAe x3_1)⟩ | ((try simp only [← World.setCell_drew]); first | with_reducible exact ⟨(us (us (us UP))), (cf (cf (cf b0_0))), (cf (cf (cf b0_1))), (cf (cf (cf b0_2))), (cf (cf (cf b1_0))), (cf (cf (cf b1_1))), (cf (cf (cf b1_2))), (cf (cf (cf x1_0))), (cf (cf (cf x1_1))), (cf (cf (cf x2_0))), (cf (cf (cf x2_1))), (cf (cf (cf x3_0))), (cf (cf (cf x3_1)))⟩) | go_keep)
    ((first
      | (go_at_call 151
         ((with_reducible refine (prod_mul pd o (by omega) (by omega)).mono ?_))
         rintro e W8 ⟨V8, rfl, n, u8⟩
         clear x1_0 x1_1 x2_0 x2_1 x3_0 x3_1; revert H K p pd o od up b0 b1 r0 x1 WU; refine lg12 u8 ?_; intro H K p pd o od up b0 b1 r0 x1 WU; revert x3 x2 UP b0_0 b0_1 b0_2 b1_0 b1_1 b1_2 r0_0 r0_1 r0_2; refine lg12 u8 ?_; intro x3 x2 UP b0_0 b0_1 b0_2 b1_0 b1_1 b1_2 r0_0 r0_1 r0_2
         try (replace n := n.up u8)
         try (replace q1 := q1.up u8)
         replace r0_f0 := r0.free
         obtain ⟨x1_0, x1_1⟩ := x1.c2
         obtain ⟨x2_0, x2_1⟩ := x2.c2
         obtain ⟨x3_0, x3_1⟩ := x3.c2
         replace x3_f0 := x3.free
         clear u8)
      | (go_at_call 149
         ((with_reducible refine (frac_cancel WU n (by omega) (by omega) HM.out).mono ?_))
         rintro e W9 ⟨V9, rfl, q1, u9⟩
         clear x1_0 x1_1 x2_0 x2_1 x3_0 x3_1; revert H K p pd o od up b0 b1 r0 x1 WU; refine lg12 u9 ?_; intro H K p pd o od up b0 b1 r0 x1 WU; revert x3 x2 UP b0_0 b0_1 b0_2 b1_0 b1_1 b1_2 r0_0 r0_1 r0_2; refine lg12 u9 ?_; intro x3 x2 UP b0_0 b0_1 b0_2 b1_0 b1_1 b1_2 r0_0 r0_1 r0_2
         try (replace n := n.up u9)
         try (replace q1 := q1.up u9)
         replace r0_f0 := r0.free
         obtain ⟨x1_0, x1_1⟩ := x1.c2
         obtain ⟨x2_0, x2_1⟩ := x2.c2
         obtain ⟨x3_0, x3_1⟩ := x3.c2
         replace x3_f0 := x3.free
         clear u9
         rw [HQ2.out] at q1
         obtain ⟨Xq1, Yq1, rfl, q1, q1d⟩ := q1
         obtain ⟨Aq1, nq1, cq1, rfl⟩ := q1.shape
         obtain ⟨Aq1d, nq1d, cq1d, rfl⟩ := q1d.shape)))
   all_goals
    go_wp2
    exact end_qb_as rfl HR.out rfl rfl rfl rfl ⟨_, _, rfl, q1, q1d⟩ r0 trivial trivial trivial UP (by omega)
end Go.Proofs.YtmmcffceeahemaaGreat
