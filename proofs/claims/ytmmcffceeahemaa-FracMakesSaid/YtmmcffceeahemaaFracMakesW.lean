/-
  The walk of FracMakes.
-/
import Derived.Test.YtmmcffceeahemaaFracMax
import Derived.Test.YtmmcffceeahemaaSeqOpen
import Derived.Test.YtmmcffceeahemaaFracWorks
import Derived.Test.YtmmcffceeahemaaRefFrac6
import Derived.Deep.DeepCutAuto
set_option linter.unusedVariables false
set_option linter.unusedSimpArgs false
namespace Go.Proofs.Ytmmcffceeahemaa
open Go.RowKit

theorem OwnQ.not_bx {α : Type} {P : World → Value → α → Prop} {T S : TypeId} {base g : Nat} {w : World} {v : Value} {qs : List α} {vs : List Value} (h : OwnQ P T base w v qs) (hb : Bx S w g vs) (hne : T ≠ S) : v.ownBlock ≠ some g := by
  obtain ⟨xs, ha, hr⟩ := h
  rcases hr.2 with ⟨rfl, rfl⟩ | ⟨g', ys, rfl, hb2, hx, hy, hm⟩
  · simp [Value.ownBlock]
  · intro e
    simp [Value.ownBlock] at e
    subst e
    unfold Bx at hb hx
    rw [hb] at hx
    simp at hx
    exact hne hx.2.symm
theorem bx_kept {T : TypeId} {g : Nat} {w w' : World} {vs : List Value} {row : Option Nat} (hb : Bx T w g vs) (hg : w.grownBy w' row) (hne : row ≠ some g) : Bx T w' g vs := (hg.block g hb.lt (fun e => hne e.symm)).trans hb
theorem field_frac (w : World) (s : Bool) (A D : Option Addr) (n c m d : Nat) : (Instr.field 69 (.agg #[.bool s, .slice A n c, .slice D m d]) 0).run Try.prog w = .ok (.agg #[.bool s, .slice A n c]) w := by kernel_rfl
theorem ref9_int0m (w : World) : Calls Try.prog 37 #[.int .i64 0] w (RetQ 0 w) := ref9_int (n := 0) (by omega) w
theorem bl_zero_ : Wd.bl (Wd.val []) = 0 := by
  have := (Wd.bl_le_iff 0 0).2 (by omega)
  show Wd.bl 0 = 0
  omega

/-- The row that the call makes. -/
def MRow (w0 w : World) (v : Value) (qs : List Rat) : Prop := OwnQ (Frk 30) 69 w0.heap.size w v qs
theorem MRow.up {w0 w w' : World} {v : Value} {qs : List Rat} (h : MRow w0 w v qs) (hu : Up w w') : MRow w0 w' v qs := OwnQ.up (kp_fr 30) h hu
theorem MRow.sq {w0 w : World} {v : Value} {qs : List Rat} (h : MRow w0 w v qs) : Sq (Frk 30) w v qs := OwnQ.sq h
theorem MRow.ne {w0 w : World} {v : Value} {qs : List Rat} (h : MRow w0 w v qs) : v.ownBlock ≠ some w.heap.size := fun e => by have := (OwnQ.lt h _ e).2; omega
theorem MRow.stored2 {w0 w : World} {v x : Value} {qs : List Rat} {g i : Nat} (h : MRow w0 w v qs) (hne : v.ownBlock ≠ some g) (hk : Kw w (w.setCell ⟨g, i, none⟩ x)) : MRow w0 (w.setCell ⟨g, i, none⟩ x) v qs :=
  OwnQ.kept (kp_fr 30) h hk (row := some g) ⟨rfl, rfl, rfl, by simp [World.setCell], fun j hj hj2 => Below.heap_setCell _ _ _ _ (by simp; exact fun e => hj2 (by rw [e]))⟩ (.inr hne)
theorem MRow.stored {w0 w : World} {v x : Value} {qs : List Rat} {S : TypeId} {g i : Nat} {vs : List Value} (h : MRow w0 w v qs) (hb : Bx S w g vs) (hne : 69 ≠ S) (hk : Kw w (w.setCell ⟨g, i, none⟩ x)) : MRow w0 (w.setCell ⟨g, i, none⟩ x) v qs :=
  OwnQ.kept (kp_fr 30) h hk (row := some g) ⟨rfl, rfl, rfl, by simp [World.setCell], fun j hj hj2 => Below.heap_setCell _ _ _ _ (by simp; exact fun e => hj2 (by rw [e]))⟩ (.inr (OwnQ.not_bx h hb hne))
set_option maxRecDepth 100000 in
set_option maxHeartbeats 25600000 in
theorem fracMakes_walk {s : Bool} {u v V : Value} {l m : List Nat} {rs : List Raw} {x y : Int} {w : World} (hl : Ws w u l) (hm : Ws w v m) (hx : -9223372036854775808 ≤ x ∧ x ≤ 9223372036854775807) (hy : -9223372036854775808 ≤ y ∧ y ≤ 9223372036854775807) (h : Sq Rw w V rs) :
    Calls Try.prog 6 #[.agg #[.bool s, u, v], .agg #[.int .i64 x, .int .i64 y], V] w fun e w' => e = .returned (.bool true) ∧ Up w w' := by
  obtain ⟨A, c, rfl⟩ := hl.form
  obtain ⟨D, d, rfl⟩ := hm.form
  obtain ⟨A0, c0, rfl⟩ := h.form
  have hmax : rs.length ≤ maxLen := by obtain ⟨_, _, _, e, h1, h2, _⟩ := h; cases e; omega
  unfold maxLen at hmax
  have H := Lib.hid h
  have HLM := Lib.hid (And.intro hl hm)
  clear h hl hm
  by_cases h1 : (30 : Int) < (l.length : Int) ∨ (30 : Int) < (m.length : Int)
  · have H1 := Lib.hid h1
    clear h1
    have UP : Up w ((w.alloc (.cells #[.bool s, .slice A l.length c, .slice D m.length d] 61)).alloc (.cells #[.int .i64 x, .int .i64 y] 63)) := ((Up.refl w).alloc _).alloc _
    obtain ⟨b0, b1⟩ := bx_two 61 63 w [.bool s, .slice A l.length c, .slice D m.length d] [.int .i64 x, .int .i64 y]
    go_enter Try.func6, Try.ntmps6
    go_wp2_with fail
    generalize ((w.alloc (.cells #[.bool s, .slice A l.length c, .slice D m.length d] 61)).alloc (.cells #[.int .i64 x, .int .i64 y] 63)) = W at *
    obtain ⟨b0_0, b0_1, b0_2⟩ := b0.c3
    obtain ⟨b1_0, b1_1⟩ := b1.c2
    go_wp2_with fail
    ((with_reducible refine (ref_long9_yes H1.out (by omega)).mono ?_))
    rintro e W1 ⟨rfl, u1⟩
    replace b0 := b0.up u1
    replace b1 := b1.up u1
    replace UP := UP.trans u1
    clear b0_0 b0_1 b0_2 b1_0 b1_1
    obtain ⟨b0_0, b0_1, b0_2⟩ := b0.c3
    obtain ⟨b1_0, b1_1⟩ := b1.c2
    clear u1
    go_wp2_with fail
    ((with_reducible refine (works9 _).mono ?_))
    rintro e W2 ⟨rfl, u2⟩
    replace b0 := b0.up u2
    replace b1 := b1.up u2
    replace UP := UP.trans u2
    clear b0_0 b0_1 b0_2 b1_0 b1_1
    obtain ⟨b0_0, b0_1, b0_2⟩ := b0.c3
    obtain ⟨b1_0, b1_1⟩ := b1.c2
    clear u2
    go_wp2
    go_ret
    exact ⟨rfl, UP⟩
  have l1 : (l.length : Int) ≤ 30 := by omega
  have l2 : (m.length : Int) ≤ 30 := by omega
  clear h1
  by_cases h20 : 20 < rs.length
  · have k1 : (20 : Int) < (rs.length : Int) := by omega
    have UP : Up w ((w.alloc (.cells #[.bool s, .slice A l.length c, .slice D m.length d] 61)).alloc (.cells #[.int .i64 x, .int .i64 y] 63)) := ((Up.refl w).alloc _).alloc _
    obtain ⟨b0, b1⟩ := bx_two 61 63 w [.bool s, .slice A l.length c, .slice D m.length d] [.int .i64 x, .int .i64 y]
    go_enter Try.func6, Try.ntmps6
    go_wp2_with fail
    generalize ((w.alloc (.cells #[.bool s, .slice A l.length c, .slice D m.length d] 61)).alloc (.cells #[.int .i64 x, .int .i64 y] 63)) = W at *
    obtain ⟨b0_0, b0_1, b0_2⟩ := b0.c3
    obtain ⟨b1_0, b1_1⟩ := b1.c2
    go_wp2_with fail
    ((with_reducible refine (ref_long9_no l1 l2 (by omega)).mono ?_))
    rintro e W1 ⟨rfl, u1⟩
    replace b0 := b0.up u1
    replace b1 := b1.up u1
    replace UP := UP.trans u1
    clear b0_0 b0_1 b0_2 b1_0 b1_1
    obtain ⟨b0_0, b0_1, b0_2⟩ := b0.c3
    obtain ⟨b1_0, b1_1⟩ := b1.c2
    clear u1
    go_wp2_with fail
    ((with_reducible refine (works9 _).mono ?_))
    rintro e W2 ⟨rfl, u2⟩
    replace b0 := b0.up u2
    replace b1 := b1.up u2
    replace UP := UP.trans u2
    clear b0_0 b0_1 b0_2 b1_0 b1_1
    obtain ⟨b0_0, b0_1, b0_2⟩ := b0.c3
    obtain ⟨b1_0, b1_1⟩ := b1.c2
    clear u2
    go_wp2
    go_ret
    exact ⟨rfl, UP⟩
  have h20' : rs.length ≤ 20 := by omega
  have k1 : decide ((20 : Int) < (rs.length : Int)) = false := decide_eq_false (by omega)
  clear h20
  obtain ⟨qs, HQS⟩ : ∃ qs, Hid (rs.map Raw.val = qs) := ⟨_, Lib.hid rfl⟩
  have HLEN : Hid (qs.length = rs.length) := Lib.hid (by rw [← HQS.out, List.length_map])
  have UP : Up w ((w.alloc (.cells #[.bool s, .slice A l.length c, .slice D m.length d] 61)).alloc (.cells #[.int .i64 x, .int .i64 y] 63)) := ((Up.refl w).alloc _).alloc _
  obtain ⟨b0, b1⟩ := bx_two 61 63 w [.bool s, .slice A l.length c, .slice D m.length d] [.int .i64 x, .int .i64 y]
  go_enter Try.func6, Try.ntmps6
  go_wp2_with fail
  generalize ((w.alloc (.cells #[.bool s, .slice A l.length c, .slice D m.length d] 61)).alloc (.cells #[.int .i64 x, .int .i64 y] 63)) = W at *
  obtain ⟨b0_0, b0_1, b0_2⟩ := b0.c3
  obtain ⟨b1_0, b1_1⟩ := b1.c2
  go_wp2_with fail
  ((with_reducible refine (ref_long9_no l1 l2 (by omega)).mono ?_))
  rintro e W1 ⟨rfl, u1⟩
  replace b0 := b0.up u1
  replace b1 := b1.up u1
  replace UP := UP.trans u1
  clear b0_0 b0_1 b0_2 b1_0 b1_1
  obtain ⟨b0_0, b0_1, b0_2⟩ := b0.c3
  obtain ⟨b1_0, b1_1⟩ := b1.c2
  clear u1
  go_wp2_with fail
  ((with_reducible refine (ref9_int0m _).mono ?_))
  rintro e W2 ⟨V2, rfl, o, u2⟩
  replace b0 := b0.up u2
  replace b1 := b1.up u2
  replace UP := UP.trans u2
  clear b0_0 b0_1 b0_2 b1_0 b1_1
  obtain ⟨b0_0, b0_1, b0_2⟩ := b0.c3
  obtain ⟨b1_0, b1_1⟩ := b1.c2
  clear u2
  obtain ⟨P0, HP0⟩ : ∃ P, Hid ((0 : Rat) = P) := ⟨_, Lib.hid rfl⟩
  rw [HP0.out] at o
  obtain ⟨Xo, Yo, rfl, o, od⟩ := o
  obtain ⟨Ao, no, co, rfl⟩ := o.shape
  obtain ⟨Aod, nod, cod, rfl⟩ := od.shape
  have b0_0a := fun O0 => (cell_alloc (o := O0) b0_0)
  have b0_1a := fun O0 => (cell_alloc (o := O0) b0_1)
  have b0_2a := fun O0 => (cell_alloc (o := O0) b0_2)
  have b1_0a := fun O0 => (cell_alloc (o := O0) b1_0)
  have b1_1a := fun O0 => (cell_alloc (o := O0) b1_1)
  go_wp2_with fail
  clear b0_0a b0_1a b0_2a b1_0a b1_1a
  have x1 := Bx.new 61 W2 [.bool (Wd.ngb P0.num), .slice Ao no co, .slice Aod nod cod]
  have b0_lt_x1 := b0.lt
  have b0_ne_x1 : ¬ (w.heap.size = W2.heap.size) := by omega
  have b0_en_x1 : ¬ (W2.heap.size = w.heap.size) := by omega
  have b1_lt_x1 := b1.lt
  have b1_ne_x1 : ¬ (w.heap.size + 1 = W2.heap.size) := by omega
  have b1_en_x1 : ¬ (W2.heap.size = w.heap.size + 1) := by omega
  replace o := o.up ((Up.refl W2).alloc (.cells #[.bool (Wd.ngb P0.num), .slice Ao no co, .slice Aod nod cod] 61))
  replace od := od.up ((Up.refl W2).alloc (.cells #[.bool (Wd.ngb P0.num), .slice Ao no co, .slice Aod nod cod] 61))
  replace b0 := b0.up ((Up.refl W2).alloc (.cells #[.bool (Wd.ngb P0.num), .slice Ao no co, .slice Aod nod cod] 61))
  replace b1 := b1.up ((Up.refl W2).alloc (.cells #[.bool (Wd.ngb P0.num), .slice Ao no co, .slice Aod nod cod] 61))
  replace UP := UP.trans ((Up.refl W2).alloc (.cells #[.bool (Wd.ngb P0.num), .slice Ao no co, .slice Aod nod cod] 61))
  generalize (W2.alloc (.cells #[.bool (Wd.ngb P0.num), .slice Ao no co, .slice Aod nod cod] 61)) = W3 at *
  clear b0_0 b0_1 b0_2 b1_0 b1_1
  obtain ⟨b0_0, b0_1, b0_2⟩ := b0.c3
  obtain ⟨b1_0, b1_1⟩ := b1.c2
  obtain ⟨x1_0, x1_1, x1_2⟩ := x1.c3
  have x1_f0 := x1.free 0
  have x1_f1 := x1.free 1
  have x1_f2 := x1.free 2
  clear k1
  go_loopw [7, 9] (fun s7 s9 wr => ∃ (j : Nat) (s' : Bool) (A' D' : Option Addr) (n1 c1 n2 c2 : Nat), s9 = .int .i64 j ∧ j ≤ rs.length ∧ MRow w wr s7 (qs.take j) ∧ Bx 61 wr W2.heap.size [.bool s', .slice A' n1 c1, .slice D' n2 c2] ∧ Qw wr (.agg #[.bool s', .slice A' n1 c1, .slice D' n2 c2]) (Wd.maxQ (qs.take j)) ∧ Hid (∀ q ∈ qs.take j, Wd.Lq q 30) ∧ Bx 61 wr w.heap.size [.bool s, .slice A l.length c, .slice D m.length d] ∧ Bx 63 wr (w.heap.size + 1) [.int .i64 x, .int .i64 y] ∧ Up w wr) (fun _ s9 _ => rs.length - (intOf s9).toNat)
  case atStart => exact ⟨0, _, _, _, _, _, _, _, rfl, Nat.zero_le _, OwnQ.nil _ _ _ _, x1, by rw [List.take_zero, show Wd.maxQ [] = P0 from HP0.out]; exact ⟨_, _, rfl, o, od⟩, Lib.hid (by simp), b0, b1, UP⟩
  case round =>
    clear b0 b1 x1 UP
    obtain ⟨j, s', A', D', n1, c1, n2, c2, rfl, hj, MR, x1, X, HF, b0, b1, UP⟩ := hrel
    obtain ⟨b0_0, b0_1, b0_2⟩ := b0.c3
    obtain ⟨b1_0, b1_1⟩ := b1.c2
    obtain ⟨x1_0, x1_1, x1_2⟩ := x1.c3
    have x1_f0 := x1.free 0
    have x1_f1 := x1.free 1
    have x1_f2 := x1.free 2
    have LM : Wd.Lq (Wd.maxQ (qs.take j)) 30 := Wd.maxQ_lq HF.out (by omega)
    by_cases hlt : j < rs.length
    · obtain ⟨b, o', t, B, m0, f, D0, n', f', e0, hb, g1, g2, g3, hp⟩ := H.out.at_ kp_rw hlt
      subst e0
      have hqj : j < qs.length := by rw [HLEN.out]; exact hlt
      have HQJ : Hid (qs[j] = rs[j].val) := Lib.hid (by simp only [← HQS.out, List.getElem_map])
      have HTK : Hid (Wd.maxQ (qs.take (j + 1)) = if j = 0 ∨ 0 < Wd.cmpQ qs[j] (Wd.maxQ (qs.take j)) then qs[j] else Wd.maxQ (qs.take j)) := Lib.hid (by
        rw [List.take_succ_eq_append_getElem hqj, Wd.maxQ_snoc, List.length_take, Nat.min_eq_left (by omega)])
      have HTS : Hid (qs.take (j + 1) = qs.take j ++ [qs[j]]) := Lib.hid (List.take_succ_eq_append_getElem hqj)
      have HTL : Hid ((qs.take j).length = j) := Lib.hid (by rw [List.length_take]; omega)
      generalize rs[j] = r at *
      generalize qs[j] = q at *
      obtain ⟨C7, c7, rfl⟩ := OwnQ.form MR
      rw [HTL.out] at MR ⊢
      obtain ⟨uu, dd, e, w1, w2⟩ := hp
      obtain ⟨B1, f1, rfl⟩ := w1.form
      obtain ⟨B2, f2, rfl⟩ := w2.form
      simp at e
      obtain ⟨rfl, ⟨rfl, rfl, rfl⟩, rfl, rfl, rfl⟩ := e
      have HR : Hid (Rw w (.agg #[.bool r.1, .slice B r.2.1.length f, .slice D0 r.2.2.length f']) r) := Lib.hid ⟨_, _, rfl, w1, w2⟩
      have HOLD : Hid (∀ w', Up w w' → w'.cell? ⟨b, o' + j * 3, none⟩ = some (.bool r.1) ∧ w'.cell? ⟨b, o' + j * 3 + 1, none⟩ = some (.slice B r.2.1.length f) ∧ w'.cell? ⟨b, o' + j * 3 + 2, none⟩ = some (.slice D0 r.2.2.length f')) := Lib.hid (fun w' up => ⟨(up.cell (p := ⟨b, o' + j * 3, none⟩) hb).trans g1, (up.cell (p := ⟨b, o' + j * 3 + 1, none⟩) hb).trans g2, (up.cell (p := ⟨b, o' + j * 3 + 2, none⟩) hb).trans g3⟩)
      clear w1 w2 g1 g2 g3
      have k1 : (j : Int) < (rs.length : Int) := by omega
      have k0 : (0 : Int) ≤ (j : Int) := by omega
      have kk : ((j : Int)).toNat = j := by omega
      obtain ⟨d1, d2, d3⟩ := HOLD.out wr UP
      by_cases hbad : (30 : Int) < (r.2.1.length : Int) ∨ (30 : Int) < (r.2.2.length : Int)
      · have HB := Lib.hid hbad
        clear hbad
        go_wp2_with fail
        ((with_reducible refine (ref_long9_yes HB.out (by omega)).mono ?_))
        rintro e W51 ⟨rfl, u51⟩
        replace X := X.up u51
        replace MR := MR.up u51
        replace b0 := b0.up u51
        replace b1 := b1.up u51
        replace x1 := x1.up u51
        replace UP := UP.trans u51
        clear b0_0 b0_1 b0_2 b1_0 b1_1 x1_0 x1_1 x1_2
        obtain ⟨b0_0, b0_1, b0_2⟩ := b0.c3
        obtain ⟨b1_0, b1_1⟩ := b1.c2
        obtain ⟨x1_0, x1_1, x1_2⟩ := x1.c3
        replace x1_f0 := x1.free 0
        replace x1_f1 := x1.free 1
        replace x1_f2 := x1.free 2
        clear u51
        go_wp2_with fail
        ((with_reducible refine (works9 _).mono ?_))
        rintro e W52 ⟨rfl, u52⟩
        replace X := X.up u52
        replace MR := MR.up u52
        replace b0 := b0.up u52
        replace b1 := b1.up u52
        replace x1 := x1.up u52
        replace UP := UP.trans u52
        clear b0_0 b0_1 b0_2 b1_0 b1_1 x1_0 x1_1 x1_2
        obtain ⟨b0_0, b0_1, b0_2⟩ := b0.c3
        obtain ⟨b1_0, b1_1⟩ := b1.c2
        obtain ⟨x1_0, x1_1, x1_2⟩ := x1.c3
        replace x1_f0 := x1.free 0
        replace x1_f1 := x1.free 1
        replace x1_f2 := x1.free 2
        clear u52
        go_wp2
        go_ret
        exact ⟨rfl, UP⟩
      have hb1 : (r.2.1.length : Int) ≤ 30 := by omega
      have hb2 : (r.2.2.length : Int) ≤ 30 := by omega
      have HFEW : Hid (r.few 30) := Lib.hid ⟨by omega, by omega⟩
      clear hbad
      go_wp2_with fail
      ((with_reducible refine (ref_long9_no hb1 hb2 (by omega)).mono ?_))
      rintro e W51 ⟨rfl, u51⟩
      replace X := X.up u51
      replace MR := MR.up u51
      replace b0 := b0.up u51
      replace b1 := b1.up u51
      replace x1 := x1.up u51
      replace UP := UP.trans u51
      clear b0_0 b0_1 b0_2 b1_0 b1_1 x1_0 x1_1 x1_2
      obtain ⟨b0_0, b0_1, b0_2⟩ := b0.c3
      obtain ⟨b1_0, b1_1⟩ := b1.c2
      obtain ⟨x1_0, x1_1, x1_2⟩ := x1.c3
      replace x1_f0 := x1.free 0
      replace x1_f1 := x1.free 1
      replace x1_f2 := x1.free 2
      clear u51
      clear d1 d2 d3
      obtain ⟨d1, d2, d3⟩ := HOLD.out _ UP
      go_wp2_with fail
      ((with_reducible refine (law_to9 _ _ _ _ _ _ _ _).mono ?_))
      rintro e W52 ⟨rfl, u52⟩
      replace X := X.up u52
      replace MR := MR.up u52
      replace b0 := b0.up u52
      replace b1 := b1.up u52
      replace x1 := x1.up u52
      replace UP := UP.trans u52
      clear b0_0 b0_1 b0_2 b1_0 b1_1 x1_0 x1_1 x1_2
      obtain ⟨b0_0, b0_1, b0_2⟩ := b0.c3
      obtain ⟨b1_0, b1_1⟩ := b1.c2
      obtain ⟨x1_0, x1_1, x1_2⟩ := x1.c3
      replace x1_f0 := x1.free 0
      replace x1_f1 := x1.free 1
      replace x1_f2 := x1.free 2
      clear u52
      clear d1 d2 d3
      have HA : Hid (MRow w (W52.alloc (.cells #[.bool r.1, .slice B r.2.1.length f, .slice D0 r.2.2.length f'] 69)) (.slice C7 j c7) (qs.take j)) := Lib.hid (MR.up ((Up.refl W52).alloc _))
      have HQ : Hid (Frk 30 (W52.alloc (.cells #[.bool r.1, .slice B r.2.1.length f, .slice D0 r.2.2.length f'] 69)) (.agg #[.bool r.1, .slice B r.2.1.length f, .slice D0 r.2.2.length f']) q) := Lib.hid (by
        rw [HQJ.out]
        exact (kp_fr 30).kw (HR.out.fr HFEW.out (by omega)) (UP.alloc _).kw)
      have HU := Lib.hid (UP.alloc (.cells #[.bool r.1, .slice B r.2.1.length f, .slice D0 r.2.2.length f'] 69))
      go_wp2_with (at_builtin; refine wl_append_q1 (kp_fr 30) Try.underlying47 info_frac (w0 := w) rfl _ _ rfl rfl HA.out HU.out rfl (heap_alloc_new W52 _) HQ.out (by rw [HTL.out]; omega) ?_; intro V8 W8 MR8 K8 G8 UP8)
      have a0 := (Up.refl W52).alloc (.cells #[.bool r.1, .slice B r.2.1.length f, .slice D0 r.2.2.length f'] 69)
      replace b0 := bx_kept (b0.up a0) G8 (OwnQ.not_bx HA.out (b0.up a0) (by decide))
      replace b1 := bx_kept (b1.up a0) G8 (OwnQ.not_bx HA.out (b1.up a0) (by decide))
      replace x1 := bx_kept (x1.up a0) G8 (OwnQ.not_bx HA.out (x1.up a0) (by decide))
      replace X := (X.up a0).kw K8
      have MR2 : MRow w W8 V8 (qs.take (j + 1)) := by rw [HTS.out]; exact MR8
      have FX : Fr W8 (.agg #[.bool r.1, .slice B r.2.1.length f, .slice D0 r.2.2.length f']) q 30 := by
        rw [HQJ.out]
        exact (kp_fr 30).kw (HR.out.fr HFEW.out (by omega)) UP8.kw
      clear HA HQ HU a0 MR MR8 K8 G8 UP b0_0 b0_1 b0_2 b1_0 b1_1 x1_0 x1_1 x1_2 x1_f0 x1_f1 x1_f2
      have UP := UP8
      clear UP8
      have LQ := FX.lq
      have HFQ : Hid (∀ q' ∈ qs.take (j + 1), Wd.Lq q' 30) := Lib.hid (fun q' hq' => by
        rw [HTS.out] at hq'
        rcases List.mem_append.1 hq' with h | h
        · exact HF.out q' h
        · simp at h; subst h; exact LQ)
      obtain ⟨b0_0, b0_1, b0_2⟩ := b0.c3
      obtain ⟨b1_0, b1_1⟩ := b1.c2
      obtain ⟨x1_0, x1_1, x1_2⟩ := x1.c3
      have x1_f0 := x1.free 0
      have x1_f1 := x1.free 1
      have x1_f2 := x1.free 2
      by_cases h0 : j = 0
      · have hj0 : ((j : Int) == 0) = true := by simp [h0]
        have HV : Hid (Wd.maxQ (qs.take (j + 1)) = q) := Lib.hid (by rw [HTK.out, if_pos (.inl h0)])
        clear h0 HTK
        replace X := X.up (Up.refl W8).drew
        replace MR2 := MR2.up (Up.refl W8).drew
        replace FX := FX.up (Up.refl W8).drew
        replace b0 := b0.up (Up.refl W8).drew
        replace b1 := b1.up (Up.refl W8).drew
        replace x1 := x1.up (Up.refl W8).drew
        replace UP := UP.trans (Up.refl W8).drew
        clear b0_0 b0_1 b0_2 b1_0 b1_1 x1_0 x1_1 x1_2
        obtain ⟨b0_0, b0_1, b0_2⟩ := b0.c3
        obtain ⟨b1_0, b1_1⟩ := b1.c2
        obtain ⟨x1_0, x1_1, x1_2⟩ := x1.c3
        replace x1_f0 := x1.free 0
        replace x1_f1 := x1.free 1
        replace x1_f2 := x1.free 2
        refine wp_region_noPanic ?_
        refine wp_region_held_drew (S := fun w' => Up w w' ∧ w'.cell? ⟨W2.heap.size, 0, none⟩ = some (.bool s') ∧ w'.cell? ⟨W2.heap.size, 1, none⟩ = some (.slice A' n1 c1) ∧ w'.cell? ⟨W2.heap.size, 2, none⟩ = some (.slice D' n2 c2)) (by kernel_rfl) ?_ (fun hHeld => ?_)
        · (first | with_reducible exact ⟨UP, x1_0, x1_1, x1_2⟩ | with_reducible exact ⟨UP, x1_0, x1_1, x1_2⟩ | with_reducible exact ⟨(UP.alloc_drew _), (cell_alloc_drew x1_0), (cell_alloc_drew x1_1), (cell_alloc_drew x1_2)⟩ | with_reducible exact ⟨(UP.alloc2_drew _ _), (cell_alloc2_drew x1_0), (cell_alloc2_drew x1_1), (cell_alloc2_drew x1_2)⟩ | (simp only [← World.setCell_drew]; first | with_reducible exact ⟨UP, x1_0, x1_1, x1_2⟩) | go_keep)
        refine wpAnyH_take (i := 0) (v := ?_) rfl (by kernel_rfl) (by kernel_rfl) (by kernel_rfl) (fun _ _ _ h => h) (Or.inl ⟨by rfl, ?_⟩) (by assumption) ?_
        rotate_left
        · (intro w hSw; (try dsimp only at hSw); go_simp; first | done | with_reducible rfl)
        try simp only [List.getElem_toArray, List.getElem_cons_zero, List.getElem_cons_succ, Act.put, List.setIfInBounds_toArray, List.set_cons_zero, List.set_cons_succ]
        refine wpAnyH_take (i := 1) (v := ?_) rfl (by kernel_rfl) (by kernel_rfl) (by kernel_rfl) (fun _ _ _ h => h) (Or.inl ⟨by rfl, ?_⟩) (by assumption) ?_
        rotate_left
        · (intro w hSw; (try dsimp only at hSw); go_simp; first | done | with_reducible rfl)
        try simp only [List.getElem_toArray, List.getElem_cons_zero, List.getElem_cons_succ, Act.put, List.setIfInBounds_toArray, List.set_cons_zero, List.set_cons_succ]
        refine wpAnyH_take (i := 2) (v := ?_) rfl (by kernel_rfl) (by kernel_rfl) (by kernel_rfl) (fun _ _ _ h => h) (Or.inl ⟨by rfl, ?_⟩) (by assumption) ?_
        rotate_left
        · (intro w hSw; (try dsimp only at hSw); go_simp; first | done | with_reducible rfl)
        try simp only [List.getElem_toArray, List.getElem_cons_zero, List.getElem_cons_succ, Act.put, List.setIfInBounds_toArray, List.set_cons_zero, List.set_cons_succ]
        refine wpAnyH_take (i := 3) (v := undef) rfl (by kernel_rfl) (by kernel_rfl) (by kernel_rfl) (fun _ _ _ h => h) (Or.inr ⟨by rfl, rfl⟩) (by assumption) ?_
        try simp only [List.getElem_toArray, List.getElem_cons_zero, List.getElem_cons_succ, Act.put, List.setIfInBounds_toArray, List.set_cons_zero, List.set_cons_succ]
        refine wpAnyH_take (i := 4) (v := undef) rfl (by kernel_rfl) (by kernel_rfl) (by kernel_rfl) (fun _ _ _ h => h) (Or.inr ⟨by rfl, rfl⟩) (by assumption) ?_
        try simp only [List.getElem_toArray, List.getElem_cons_zero, List.getElem_cons_succ, Act.put, List.setIfInBounds_toArray, List.set_cons_zero, List.set_cons_succ]
        refine wpAnyH_take (i := 5) (v := undef) rfl (by kernel_rfl) (by kernel_rfl) (by kernel_rfl) (fun _ _ _ h => h) (Or.inr ⟨by rfl, rfl⟩) (by assumption) ?_
        try simp only [List.getElem_toArray, List.getElem_cons_zero, List.getElem_cons_succ, Act.put, List.setIfInBounds_toArray, List.set_cons_zero, List.set_cons_succ]
        refine wpAnyH_take (i := 6) (v := undef) rfl (by kernel_rfl) (by kernel_rfl) (by kernel_rfl) (fun _ _ _ h => h) (Or.inr ⟨by rfl, rfl⟩) (by assumption) ?_
        try simp only [List.getElem_toArray, List.getElem_cons_zero, List.getElem_cons_succ, Act.put, List.setIfInBounds_toArray, List.set_cons_zero, List.set_cons_succ]
        refine wpAnyH_take (i := 7) (v := undef) rfl (by kernel_rfl) (by kernel_rfl) (by kernel_rfl) (fun _ _ _ h => h) (Or.inr ⟨by rfl, rfl⟩) (by assumption) ?_
        try simp only [List.getElem_toArray, List.getElem_cons_zero, List.getElem_cons_succ, Act.put, List.setIfInBounds_toArray, List.set_cons_zero, List.set_cons_succ]
        refine wpAnyH_take (i := 8) (v := undef) rfl (by kernel_rfl) (by kernel_rfl) (by kernel_rfl) (fun _ _ _ h => h) (Or.inr ⟨by rfl, rfl⟩) (by assumption) ?_
        try simp only [List.getElem_toArray, List.getElem_cons_zero, List.getElem_cons_succ, Act.put, List.setIfInBounds_toArray, List.set_cons_zero, List.set_cons_succ]
        refine wpAnyH_take (i := 9) (v := undef) rfl (by kernel_rfl) (by kernel_rfl) (by kernel_rfl) (fun _ _ _ h => h) (Or.inr ⟨by rfl, rfl⟩) (by assumption) ?_
        try simp only [List.getElem_toArray, List.getElem_cons_zero, List.getElem_cons_succ, Act.put, List.setIfInBounds_toArray, List.set_cons_zero, List.set_cons_succ]
        refine wpAnyH_take (i := 10) (v := undef) rfl (by kernel_rfl) (by kernel_rfl) (by kernel_rfl) (fun _ _ _ h => h) (Or.inr ⟨by rfl, rfl⟩) (by assumption) ?_
        try simp only [List.getElem_toArray, List.getElem_cons_zero, List.getElem_cons_succ, Act.put, List.setIfInBounds_toArray, List.set_cons_zero, List.set_cons_succ]
        refine wpAnyH_take (i := 11) (v := ?_) rfl (by kernel_rfl) (by kernel_rfl) (by kernel_rfl) (fun _ _ _ h => h) (Or.inl ⟨by rfl, ?_⟩) (by assumption) ?_
        rotate_left
        · (intro w hSw; (try dsimp only at hSw); go_simp; first | done | with_reducible rfl)
        try simp only [List.getElem_toArray, List.getElem_cons_zero, List.getElem_cons_succ, Act.put, List.setIfInBounds_toArray, List.set_cons_zero, List.set_cons_succ]
        refine wpAnyH_done (by kernel_rfl) ?_ _
        refine NoPanic.normal ?_
        generalize W8.drew = W9 at *
        clear b0_0 b0_1 b0_2 b1_0 b1_1 x1_0 x1_1 x1_2 x1_f0 x1_f1 x1_f2
        obtain ⟨b0_0, b0_1, b0_2⟩ := b0.c3
        obtain ⟨b1_0, b1_1⟩ := b1.c2
        obtain ⟨x1_0, x1_1, x1_2⟩ := x1.c3
        have x1_f0 := x1.free 0
        have x1_f1 := x1.free 1
        have x1_f2 := x1.free 2
        obtain ⟨d1, d2, d3⟩ := HOLD.out _ UP
        go_wp2_with fail
        ((with_reducible refine (ref9_norm FX (by omega)).mono ?_))
        rintro e W51 ⟨V51, rfl, yy, u51⟩
        replace X := X.up u51
        replace MR2 := MR2.up u51
        replace FX := FX.up u51
        replace b0 := b0.up u51
        replace b1 := b1.up u51
        replace x1 := x1.up u51
        replace UP := UP.trans u51
        clear b0_0 b0_1 b0_2 b1_0 b1_1 x1_0 x1_1 x1_2
        obtain ⟨b0_0, b0_1, b0_2⟩ := b0.c3
        obtain ⟨b1_0, b1_1⟩ := b1.c2
        obtain ⟨x1_0, x1_1, x1_2⟩ := x1.c3
        replace x1_f0 := x1.free 0
        replace x1_f1 := x1.free 1
        replace x1_f2 := x1.free 2
        clear u51
        clear d1 d2 d3
        obtain ⟨Xyy, Yyy, rfl, yy, yyd⟩ := yy
        obtain ⟨Ayy, nyy, cyy, rfl⟩ := yy.shape
        obtain ⟨Ayyd, nyyd, cyyd, rfl⟩ := yyd.shape
        go_wp2_with fail
        have KW : Kw (W51) ((W51).setCell ⟨W2.heap.size, 0, none⟩ (.bool (Wd.ngb q.num))) := Kw.store (c := (.bool s')) x1 rfl trivial _
        replace X := X.kw KW
        replace MR2 := MR2.stored x1 (by decide) KW
        replace FX := FX.kw KW
        replace yy := yy.kw KW
        replace yyd := yyd.kw KW
        replace b0 := b0.far (p := ⟨W2.heap.size, 0, none⟩) (by dsimp only; omega) (.bool (Wd.ngb q.num))
        replace b1 := b1.far (p := ⟨W2.heap.size, 0, none⟩) (by dsimp only; omega) (.bool (Wd.ngb q.num))
        replace x1 : Bx 61 ((W51).setCell ⟨W2.heap.size, 0, none⟩ (.bool (Wd.ngb q.num))) (W2.heap.size) [.bool (Wd.ngb q.num), .slice A' n1 c1, .slice D' n2 c2] := x1.set 0 (.bool (Wd.ngb q.num))
        replace UP := UP.setCell (p := ⟨W2.heap.size, 0, none⟩) (by dsimp only; omega) (.bool (Wd.ngb q.num))
        have KW : Kw (((W51).setCell ⟨W2.heap.size, 0, none⟩ (.bool (Wd.ngb q.num)))) ((((W51).setCell ⟨W2.heap.size, 0, none⟩ (.bool (Wd.ngb q.num)))).setCell ⟨W2.heap.size, 1, none⟩ (.slice Ayy nyy cyy)) := Kw.store (c := (.slice A' n1 c1)) x1 rfl trivial _
        replace X := X.kw KW
        replace MR2 := MR2.stored x1 (by decide) KW
        replace FX := FX.kw KW
        replace yy := yy.kw KW
        replace yyd := yyd.kw KW
        replace b0 := b0.far (p := ⟨W2.heap.size, 1, none⟩) (by dsimp only; omega) (.slice Ayy nyy cyy)
        replace b1 := b1.far (p := ⟨W2.heap.size, 1, none⟩) (by dsimp only; omega) (.slice Ayy nyy cyy)
        replace x1 : Bx 61 ((((W51).setCell ⟨W2.heap.size, 0, none⟩ (.bool (Wd.ngb q.num)))).setCell ⟨W2.heap.size, 1, none⟩ (.slice Ayy nyy cyy)) (W2.heap.size) [.bool (Wd.ngb q.num), .slice Ayy nyy cyy, .slice D' n2 c2] := x1.set 1 (.slice Ayy nyy cyy)
        replace UP := UP.setCell (p := ⟨W2.heap.size, 1, none⟩) (by dsimp only; omega) (.slice Ayy nyy cyy)
        have KW : Kw (((((W51).setCell ⟨W2.heap.size, 0, none⟩ (.bool (Wd.ngb q.num)))).setCell ⟨W2.heap.size, 1, none⟩ (.slice Ayy nyy cyy))) ((((((W51).setCell ⟨W2.heap.size, 0, none⟩ (.bool (Wd.ngb q.num)))).setCell ⟨W2.heap.size, 1, none⟩ (.slice Ayy nyy cyy))).setCell ⟨W2.heap.size, 2, none⟩ (.slice Ayyd nyyd cyyd)) := Kw.store (c := (.slice D' n2 c2)) x1 rfl trivial _
        replace X := X.kw KW
        replace MR2 := MR2.stored x1 (by decide) KW
        replace FX := FX.kw KW
        replace yy := yy.kw KW
        replace yyd := yyd.kw KW
        replace b0 := b0.far (p := ⟨W2.heap.size, 2, none⟩) (by dsimp only; omega) (.slice Ayyd nyyd cyyd)
        replace b1 := b1.far (p := ⟨W2.heap.size, 2, none⟩) (by dsimp only; omega) (.slice Ayyd nyyd cyyd)
        replace x1 : Bx 61 ((((((W51).setCell ⟨W2.heap.size, 0, none⟩ (.bool (Wd.ngb q.num)))).setCell ⟨W2.heap.size, 1, none⟩ (.slice Ayy nyy cyy))).setCell ⟨W2.heap.size, 2, none⟩ (.slice Ayyd nyyd cyyd)) (W2.heap.size) [.bool (Wd.ngb q.num), .slice Ayy nyy cyy, .slice Ayyd nyyd cyyd] := x1.set 2 (.slice Ayyd nyyd cyyd)
        replace UP := UP.setCell (p := ⟨W2.heap.size, 2, none⟩) (by dsimp only; omega) (.slice Ayyd nyyd cyyd)
        clear KW
        generalize ((((((W51).setCell ⟨W2.heap.size, 0, none⟩ (.bool (Wd.ngb q.num)))).setCell ⟨W2.heap.size, 1, none⟩ (.slice Ayy nyy cyy))).setCell ⟨W2.heap.size, 2, none⟩ (.slice Ayyd nyyd cyyd)) = W52 at *
        clear b0_0 b0_1 b0_2 b1_0 b1_1 x1_0 x1_1 x1_2
        obtain ⟨b0_0, b0_1, b0_2⟩ := b0.c3
        obtain ⟨b1_0, b1_1⟩ := b1.c2
        obtain ⟨x1_0, x1_1, x1_2⟩ := x1.c3
        go_roundw
        case rel => exact ⟨j + 1, _, _, _, _, _, _, _, by go_num, by omega, MR2, x1, by rw [HV.out]; exact ⟨_, _, rfl, yy, yyd⟩, HFQ, b0, b1, UP⟩
        case measure => simp [intOf]; omega
      · have hj0 : ((j : Int) == 0) = false := by simp [h0]
        have HN0 := Lib.hid h0
        clear h0
        replace X := X.up (Up.refl W8).drew
        replace MR2 := MR2.up (Up.refl W8).drew
        replace FX := FX.up (Up.refl W8).drew
        replace b0 := b0.up (Up.refl W8).drew
        replace b1 := b1.up (Up.refl W8).drew
        replace x1 := x1.up (Up.refl W8).drew
        replace UP := UP.trans (Up.refl W8).drew
        clear b0_0 b0_1 b0_2 b1_0 b1_1 x1_0 x1_1 x1_2
        obtain ⟨b0_0, b0_1, b0_2⟩ := b0.c3
        obtain ⟨b1_0, b1_1⟩ := b1.c2
        obtain ⟨x1_0, x1_1, x1_2⟩ := x1.c3
        replace x1_f0 := x1.free 0
        replace x1_f1 := x1.free 1
        replace x1_f2 := x1.free 2
        go_region_held3 (fun w' => Up w w' ∧ w'.cell? ⟨W2.heap.size, 0, none⟩ = some (.bool s') ∧ w'.cell? ⟨W2.heap.size, 1, none⟩ = some (.slice A' n1 c1) ∧ w'.cell? ⟨W2.heap.size, 2, none⟩ = some (.slice D' n2 c2) ∧ w'.cell? ⟨b, o' + j * 3, none⟩ = some (.bool r.1) ∧ w'.cell? ⟨b, o' + j * 3 + 1, none⟩ = some (.slice B r.2.1.length f) ∧ w'.cell? ⟨b, o' + j * 3 + 2, none⟩ = some (.slice D0 r.2.2.length f'))
            (first | exact ⟨UP, x1_0, x1_1, x1_2, HOLD.out _ UP⟩ | exact ⟨UP, x1_0, x1_1, x1_2, HOLD.out _ UP⟩ | exact ⟨(UP.alloc_drew _), (cell_alloc_drew x1_0), (cell_alloc_drew x1_1), (cell_alloc_drew x1_2), HOLD.out _ (UP.alloc_drew _)⟩ | exact ⟨(UP.alloc2_drew _ _), (cell_alloc2_drew x1_0), (cell_alloc2_drew x1_1), (cell_alloc2_drew x1_2), HOLD.out _ (UP.alloc2_drew _ _)⟩ | (simp only [← World.setCell_drew]; first | exact ⟨UP, x1_0, x1_1, x1_2, HOLD.out _ UP⟩) | go_keep)
            ((first
              | (go_at_call 40
                 ((with_reducible refine (ref9_norm FX (by omega)).mono ?_))
                 rintro e W51 ⟨V51, rfl, y1, u51⟩
                 replace X := X.up u51
                 replace MR2 := MR2.up u51
                 replace FX := FX.up u51
                 try (replace y1 := y1.up u51)
                 replace b0 := b0.up u51
                 replace b1 := b1.up u51
                 replace x1 := x1.up u51
                 replace UP := UP.trans u51
                 clear b0_0 b0_1 b0_2 b1_0 b1_1 x1_0 x1_1 x1_2
                 obtain ⟨b0_0, b0_1, b0_2⟩ := b0.c3
                 obtain ⟨b1_0, b1_1⟩ := b1.c2
                 obtain ⟨x1_0, x1_1, x1_2⟩ := x1.c3
                 replace x1_f0 := x1.free 0
                 replace x1_f1 := x1.free 1
                 replace x1_f2 := x1.free 2
                 clear u51)
              | (go_at_call 39
                 ((with_reducible refine (ref9_cmp y1 X LQ LM (by omega) (by omega)).mono ?_))
                 rintro e W52 ⟨rfl, u52⟩
                 replace X := X.up u52
                 replace MR2 := MR2.up u52
                 replace FX := FX.up u52
                 try (replace y1 := y1.up u52)
                 replace b0 := b0.up u52
                 replace b1 := b1.up u52
                 replace x1 := x1.up u52
                 replace UP := UP.trans u52
                 clear b0_0 b0_1 b0_2 b1_0 b1_1 x1_0 x1_1 x1_2
                 obtain ⟨b0_0, b0_1, b0_2⟩ := b0.c3
                 obtain ⟨b1_0, b1_1⟩ := b1.c2
                 obtain ⟨x1_0, x1_1, x1_2⟩ := x1.c3
                 replace x1_f0 := x1.free 0
                 replace x1_f1 := x1.free 1
                 replace x1_f2 := x1.free 2
                 clear u52)))
        all_goals
          obtain ⟨C, HC⟩ : ∃ C, Hid (Wd.cmpQ q (Wd.maxQ (qs.take j)) = C) := ⟨_, Lib.hid rfl⟩
          rw [HC.out]
          clear y1
          by_cases hc : 0 < C
          · have HV : Hid (Wd.maxQ (qs.take (j + 1)) = q) := Lib.hid (by rw [HTK.out, if_pos (.inr (by rw [HC.out]; exact hc))])
            rw [show decide (0 < C) = true from decide_eq_true hc]
            clear HTK
            obtain ⟨d1, d2, d3⟩ := HOLD.out _ UP
            go_wp2_with fail
            ((with_reducible refine (ref9_norm FX (by omega)).mono ?_))
            rintro e W53 ⟨V53, rfl, yy, u53⟩
            replace X := X.up u53
            replace MR2 := MR2.up u53
            replace FX := FX.up u53
            replace b0 := b0.up u53
            replace b1 := b1.up u53
            replace x1 := x1.up u53
            replace UP := UP.trans u53
            clear b0_0 b0_1 b0_2 b1_0 b1_1 x1_0 x1_1 x1_2
            obtain ⟨b0_0, b0_1, b0_2⟩ := b0.c3
            obtain ⟨b1_0, b1_1⟩ := b1.c2
            obtain ⟨x1_0, x1_1, x1_2⟩ := x1.c3
            replace x1_f0 := x1.free 0
            replace x1_f1 := x1.free 1
            replace x1_f2 := x1.free 2
            clear u53
            clear d1 d2 d3
            obtain ⟨Xyy, Yyy, rfl, yy, yyd⟩ := yy
            obtain ⟨Ayy, nyy, cyy, rfl⟩ := yy.shape
            obtain ⟨Ayyd, nyyd, cyyd, rfl⟩ := yyd.shape
            go_wp2_with fail
            have KW : Kw (W53) ((W53).setCell ⟨W2.heap.size, 0, none⟩ (.bool (Wd.ngb q.num))) := Kw.store (c := (.bool s')) x1 rfl trivial _
            replace X := X.kw KW
            replace MR2 := MR2.stored x1 (by decide) KW
            replace FX := FX.kw KW
            replace yy := yy.kw KW
            replace yyd := yyd.kw KW
            replace b0 := b0.far (p := ⟨W2.heap.size, 0, none⟩) (by dsimp only; omega) (.bool (Wd.ngb q.num))
            replace b1 := b1.far (p := ⟨W2.heap.size, 0, none⟩) (by dsimp only; omega) (.bool (Wd.ngb q.num))
            replace x1 : Bx 61 ((W53).setCell ⟨W2.heap.size, 0, none⟩ (.bool (Wd.ngb q.num))) (W2.heap.size) [.bool (Wd.ngb q.num), .slice A' n1 c1, .slice D' n2 c2] := x1.set 0 (.bool (Wd.ngb q.num))
            replace UP := UP.setCell (p := ⟨W2.heap.size, 0, none⟩) (by dsimp only; omega) (.bool (Wd.ngb q.num))
            have KW : Kw (((W53).setCell ⟨W2.heap.size, 0, none⟩ (.bool (Wd.ngb q.num)))) ((((W53).setCell ⟨W2.heap.size, 0, none⟩ (.bool (Wd.ngb q.num)))).setCell ⟨W2.heap.size, 1, none⟩ (.slice Ayy nyy cyy)) := Kw.store (c := (.slice A' n1 c1)) x1 rfl trivial _
            replace X := X.kw KW
            replace MR2 := MR2.stored x1 (by decide) KW
            replace FX := FX.kw KW
            replace yy := yy.kw KW
            replace yyd := yyd.kw KW
            replace b0 := b0.far (p := ⟨W2.heap.size, 1, none⟩) (by dsimp only; omega) (.slice Ayy nyy cyy)
            replace b1 := b1.far (p := ⟨W2.heap.size, 1, none⟩) (by dsimp only; omega) (.slice Ayy nyy cyy)
            replace x1 : Bx 61 ((((W53).setCell ⟨W2.heap.size, 0, none⟩ (.bool (Wd.ngb q.num)))).setCell ⟨W2.heap.size, 1, none⟩ (.slice Ayy nyy cyy)) (W2.heap.size) [.bool (Wd.ngb q.num), .slice Ayy nyy cyy, .slice D' n2 c2] := x1.set 1 (.slice Ayy nyy cyy)
            replace UP := UP.setCell (p := ⟨W2.heap.size, 1, none⟩) (by dsimp only; omega) (.slice Ayy nyy cyy)
            have KW : Kw (((((W53).setCell ⟨W2.heap.size, 0, none⟩ (.bool (Wd.ngb q.num)))).setCell ⟨W2.heap.size, 1, none⟩ (.slice Ayy nyy cyy))) ((((((W53).setCell ⟨W2.heap.size, 0, none⟩ (.bool (Wd.ngb q.num)))).setCell ⟨W2.heap.size, 1, none⟩ (.slice Ayy nyy cyy))).setCell ⟨W2.heap.size, 2, none⟩ (.slice Ayyd nyyd cyyd)) := Kw.store (c := (.slice D' n2 c2)) x1 rfl trivial _
            replace X := X.kw KW
            replace MR2 := MR2.stored x1 (by decide) KW
            replace FX := FX.kw KW
            replace yy := yy.kw KW
            replace yyd := yyd.kw KW
            replace b0 := b0.far (p := ⟨W2.heap.size, 2, none⟩) (by dsimp only; omega) (.slice Ayyd nyyd cyyd)
            replace b1 := b1.far (p := ⟨W2.heap.size, 2, none⟩) (by dsimp only; omega) (.slice Ayyd nyyd cyyd)
            replace x1 : Bx 61 ((((((W53).setCell ⟨W2.heap.size, 0, none⟩ (.bool (Wd.ngb q.num)))).setCell ⟨W2.heap.size, 1, none⟩ (.slice Ayy nyy cyy))).setCell ⟨W2.heap.size, 2, none⟩ (.slice Ayyd nyyd cyyd)) (W2.heap.size) [.bool (Wd.ngb q.num), .slice Ayy nyy cyy, .slice Ayyd nyyd cyyd] := x1.set 2 (.slice Ayyd nyyd cyyd)
            replace UP := UP.setCell (p := ⟨W2.heap.size, 2, none⟩) (by dsimp only; omega) (.slice Ayyd nyyd cyyd)
            clear KW
            generalize ((((((W53).setCell ⟨W2.heap.size, 0, none⟩ (.bool (Wd.ngb q.num)))).setCell ⟨W2.heap.size, 1, none⟩ (.slice Ayy nyy cyy))).setCell ⟨W2.heap.size, 2, none⟩ (.slice Ayyd nyyd cyyd)) = W54 at *
            clear b0_0 b0_1 b0_2 b1_0 b1_1 x1_0 x1_1 x1_2
            obtain ⟨b0_0, b0_1, b0_2⟩ := b0.c3
            obtain ⟨b1_0, b1_1⟩ := b1.c2
            obtain ⟨x1_0, x1_1, x1_2⟩ := x1.c3
            go_roundw
            case rel => exact ⟨j + 1, _, _, _, _, _, _, _, by go_num, by omega, MR2, x1, by rw [HV.out]; exact ⟨_, _, rfl, yy, yyd⟩, HFQ, b0, b1, UP⟩
            case measure => simp [intOf]; omega
          · have HV : Hid (Wd.maxQ (qs.take (j + 1)) = Wd.maxQ (qs.take j)) := Lib.hid (by rw [HTK.out, if_neg (by rintro (h | h); exact HN0.out h; rw [HC.out] at h; exact hc h)])
            rw [show decide (0 < C) = false from decide_eq_false hc]
            clear HTK hc
            go_wp2_with fail
            go_roundw
            case rel => exact ⟨j + 1, _, _, _, _, _, _, _, by go_num, by omega, MR2, x1, by rw [HV.out]; exact X, HFQ, b0, b1, UP⟩
            case measure => simp [intOf]; omega
    · obtain rfl : j = rs.length := by omega
      have e1 : qs.take rs.length = qs := by rw [← HLEN.out, List.take_length]
      rw [e1] at MR X HF LM
      clear e1 hj hlt b0_0 b0_1 b0_2 b1_0 b1_1 x1_0 x1_1 x1_2 x1_f0 x1_f1 x1_f2
      obtain ⟨C7, c7, rfl⟩ := OwnQ.form MR
      obtain ⟨BQ, HBQ⟩ : ∃ BQ, Hid (Wd.maxQ qs = BQ) := ⟨_, Lib.hid rfl⟩
      rw [HBQ.out] at X LM
      obtain ⟨qa, hqa⟩ : ∃ q, mkRat (Wd.iv s (Wd.val l)) (Wd.val m) = q := ⟨_, rfl⟩
      have FA0 : Fr w (.agg #[.bool s, .slice A l.length c, .slice D m.length d]) qa 30 := ⟨s, _, _, l, m, rfl, HLM.out.1, HLM.out.2, hqa, by omega, by omega, by omega⟩
      have HQA := Lib.hid hqa
      have LA := FA0.lq
      have FA := FA0.up UP
      have hl2 := HLM.out.1.up UP
      have hm2 := HLM.out.2.up UP
      clear hqa FA0
      obtain ⟨K, HK⟩ : ∃ K, Hid ((!decide (Wd.val m = 0)) = K) := ⟨_, Lib.hid rfl⟩
      obtain ⟨Z, HZ⟩ : ∃ Z, Hid (((Wd.bl (Wd.val []) + Wd.bl (Wd.val m) : Nat) : Int) = Z) := ⟨_, Lib.hid rfl⟩
      have HZK : Hid (decide (0 < Z) = K) := Lib.hid (by
        rw [← HK.out, ← HZ.out, bl_zero_]
        have h1 := Wd.bl_le_iff 0 (Wd.val m)
        by_cases h0 : Wd.val m = 0
        · have : Wd.bl (Wd.val m) = 0 := by have := h1.2 (by rw [h0]; omega); omega
          rw [this, decide_eq_true h0]; rfl
        · have : Wd.bl (Wd.val m) ≠ 0 := fun e => by have := h1.1 (by omega); omega
          rw [decide_eq_false h0, decide_eq_true (by omega)]; rfl)
      obtain ⟨T, HT⟩ : ∃ T, Hid ((x : Rat) / (y : Rat) = T) := ⟨_, Lib.hid rfl⟩
      have LT : Wd.Lq T 4 := by rw [← HT.out]; exact (lq_int hx).div (lq_int hy)
      have HY0 : Hid (y = 0 → (0 : Rat) = T) := Lib.hid (fun h => by rw [← HT.out, h, Rat.div_def]; simp)
      go_upto_region 13 with fail
      go_cut [10, 11] (fun s10 s11 wx => ∃ (g : Nat) (A1 A2 : Option Addr) (m1 d1 m2 d2 : Nat), s10 = .pointer (some ⟨g, 0, none⟩) ∧ s11 = .bool K ∧ Bx 69 wx g [.bool (Wd.ngb qa.num), .slice A1 m1 d1, .slice A2 m2 d2] ∧ Qw wx (.agg #[.bool (Wd.ngb qa.num), .slice A1 m1 d1, .slice A2 m2 d2]) qa ∧ Bx 61 wx w.heap.size [.bool s, .slice A l.length c, .slice D m.length d] ∧ Bx 63 wx (w.heap.size + 1) [.int .i64 x, .int .i64 y] ∧ Bx 61 wx W2.heap.size [.bool s', .slice A' n1 c1, .slice D' n2 c2] ∧ Qw wx (.agg #[.bool s', .slice A' n1 c1, .slice D' n2 c2]) BQ ∧ MRow w wx (.slice C7 qs.length c7) qs ∧ Fr wx (.agg #[.bool s, .slice A l.length c, .slice D m.length d]) qa 30 ∧ Ws wx (.slice D m.length d) m ∧ Up w wx)
      case first =>
        obtain ⟨b0_0, b0_1, b0_2⟩ := b0.c3
        obtain ⟨b1_0, b1_1⟩ := b1.c2
        obtain ⟨x1_0, x1_1, x1_2⟩ := x1.c3
        have hfield := field_frac
        replace X := X.up (Up.refl wr).drew
        replace MR := MR.up (Up.refl wr).drew
        replace FA := FA.up (Up.refl wr).drew
        replace hl2 := hl2.up (Up.refl wr).drew
        replace hm2 := hm2.up (Up.refl wr).drew
        replace b0 := b0.up (Up.refl wr).drew
        replace b1 := b1.up (Up.refl wr).drew
        replace x1 := x1.up (Up.refl wr).drew
        replace UP := UP.trans (Up.refl wr).drew
        clear b0_0 b0_1 b0_2 b1_0 b1_1 x1_0 x1_1 x1_2
        obtain ⟨b0_0, b0_1, b0_2⟩ := b0.c3
        obtain ⟨b1_0, b1_1⟩ := b1.c2
        obtain ⟨x1_0, x1_1, x1_2⟩ := x1.c3
        refine wp_region_noPanic ?_
        refine wp_region_held_drew (S := fun w' => Up w w' ∧ w'.cell? ⟨w.heap.size, 0, none⟩ = some (.bool s) ∧ w'.cell? ⟨w.heap.size, 1, none⟩ = some (.slice A l.length c) ∧ w'.cell? ⟨w.heap.size, 2, none⟩ = some (.slice D m.length d)) (by kernel_rfl) (by exact ⟨UP, b0_0, b0_1, b0_2⟩) (fun hHeld => ?_)
        clear hHeld
        generalize wr.drew = WC at *
        have hHeld : Up w WC ∧ WC.cell? ⟨w.heap.size, 0, none⟩ = some (.bool s) ∧ WC.cell? ⟨w.heap.size, 1, none⟩ = some (.slice A l.length c) ∧ WC.cell? ⟨w.heap.size, 2, none⟩ = some (.slice D m.length d) := by exact ⟨UP, b0_0, b0_1, b0_2⟩
        refine wpAnyH_take (i := 0) (v := ?_) rfl (by kernel_rfl) (by decide +kernel) (by decide +kernel) (fun _ _ _ h => h) (Or.inl ⟨by rfl, ?_⟩) (by assumption) ?_
        rotate_left
        · (intro w hSw; (try dsimp only at hSw); go_simp; first | done | with_reducible rfl)
        try simp only [List.getElem_toArray, List.getElem_cons_zero, List.getElem_cons_succ, Act.put, List.setIfInBounds_toArray, List.set_cons_zero, List.set_cons_succ]
        refine wpAnyH_take (i := 3) (v := ?_) rfl (by kernel_rfl) (by decide +kernel) (by decide +kernel) (fun _ _ _ h => h) (Or.inl ⟨by rfl, ?_⟩) (by assumption) ?_
        rotate_left
        · (intro w hSw; (try dsimp only at hSw); go_simp; first | done | with_reducible rfl)
        try simp only [List.getElem_toArray, List.getElem_cons_zero, List.getElem_cons_succ, Act.put, List.setIfInBounds_toArray, List.set_cons_zero, List.set_cons_succ]
        refine wpAnyH_take (i := 4) (v := ?_) rfl (by kernel_rfl) (by decide +kernel) (by decide +kernel) (fun _ _ _ h => h) (Or.inl ⟨by rfl, ?_⟩) (by assumption) ?_
        rotate_left
        · (intro w hSw; (try dsimp only at hSw); go_simp; first | done | with_reducible rfl)
        try simp only [List.getElem_toArray, List.getElem_cons_zero, List.getElem_cons_succ, Act.put, List.setIfInBounds_toArray, List.set_cons_zero, List.set_cons_succ]
        repeat' first
          | (refine wpAnyH_take (i := 2) (v := ?_) rfl (by kernel_rfl) (by decide +kernel) (by decide +kernel) (fun _ _ _ h => h) (Or.inl ⟨by rfl, ?_⟩) (by assumption) ?_
             rotate_left
             · (intro w hSw; (try dsimp only at hSw); go_simp; first | done | with_reducible rfl)
             try simp only [List.getElem_toArray, List.getElem_cons_zero, List.getElem_cons_succ, Act.put, List.setIfInBounds_toArray, List.set_cons_zero, List.set_cons_succ])
          | (refine wpAnyH_take (i := 6) (v := ?_) rfl (by kernel_rfl) (by decide +kernel) (by decide +kernel) (fun _ _ _ h => h) (Or.inl ⟨by rfl, ?_⟩) (by assumption) ?_
             rotate_left
             · (intro w hSw; (try dsimp only at hSw); go_simp; first | done | with_reducible rfl)
             try simp only [List.getElem_toArray, List.getElem_cons_zero, List.getElem_cons_succ, Act.put, List.setIfInBounds_toArray, List.set_cons_zero, List.set_cons_succ])
          | (refine wpAnyH_take (i := 7) (v := ?_) rfl (by kernel_rfl) (by decide +kernel) (by decide +kernel) (fun _ _ _ h => h) (Or.inl ⟨by rfl, ?_⟩) (by assumption) ?_
             rotate_left
             · (intro w hSw; (try dsimp only at hSw); go_simp; first | done | with_reducible rfl)
             try simp only [List.getElem_toArray, List.getElem_cons_zero, List.getElem_cons_succ, Act.put, List.setIfInBounds_toArray, List.set_cons_zero, List.set_cons_succ])
          | (refine wpAnyH_take (i := 8) (v := ?_) rfl (by kernel_rfl) (by decide +kernel) (by decide +kernel) (fun _ _ _ h => h) (Or.inl ⟨by rfl, ?_⟩) (by assumption) ?_
             rotate_left
             · (intro w hSw; (try dsimp only at hSw); go_simp; first | done | with_reducible rfl)
             try simp only [List.getElem_toArray, List.getElem_cons_zero, List.getElem_cons_succ, Act.put, List.setIfInBounds_toArray, List.set_cons_zero, List.set_cons_succ])
          | (refine wpAnyH_ready (rs := [1, 9]) (by decide +kernel) (by simp) ?_
             refine AllReadyH.cons rfl (fun K hK => ?_) ?_
             (try clear hHeld)
             go_simp
             go_at_call 38
             ((with_reducible refine (law_to9 _ _ _ _ _ _ _ _).mono ?_))
             rintro e WD ⟨rfl, uu⟩
             replace X := X.up uu
             replace MR := MR.up uu
             replace FA := FA.up uu
             replace hl2 := hl2.up uu
             replace hm2 := hm2.up uu
             try (replace p := p.up uu)
             try (replace pd := pd.up uu)
             replace b0 := b0.up uu
             replace b1 := b1.up uu
             replace x1 := x1.up uu
             try (replace x4 := x4.up uu)
             replace UP := UP.trans uu
             clear uu
             obtain ⟨WC, hWC⟩ : ∃ W, W = WD := ⟨_, rfl⟩
             subst hWC
             clear b0_0 b0_1 b0_2
             obtain ⟨b0_0, b0_1, b0_2⟩ := b0.c3
             clear b1_0 b1_1
             obtain ⟨b1_0, b1_1⟩ := b1.c2
             clear x1_0 x1_1 x1_2
             obtain ⟨x1_0, x1_1, x1_2⟩ := x1.c3
             try go_wp2_with fail
             refine hK.out _ _ (by exact ⟨UP, b0_0, b0_1, b0_2⟩) (fun hHeld => ?_)
             clear hK K
             try simp only [List.getElem_toArray, List.getElem_cons_zero, List.getElem_cons_succ, Act.put, List.setIfInBounds_toArray, List.set_cons_zero, List.set_cons_succ]
             rotate_left
             refine AllReadyH.cons rfl (fun K hK => ?_) ?_
             (try clear hHeld)
             go_simp
             have x4 := Bx.new 69 WC [.bool false, .slice none 0 0, .slice none 0 0]
             have b0_lt_x4 := b0.lt
             have b1_lt_x4 := b1.lt
             have x1_lt_x4 := x1.lt
             have x4_base := UP.size
             have MR_ne_x4 := MR.ne
             replace X := X.up ((Up.refl WC).alloc (.cells #[.bool false, .slice none 0 0, .slice none 0 0] 69))
             replace MR := MR.up ((Up.refl WC).alloc (.cells #[.bool false, .slice none 0 0, .slice none 0 0] 69))
             replace FA := FA.up ((Up.refl WC).alloc (.cells #[.bool false, .slice none 0 0, .slice none 0 0] 69))
             replace hl2 := hl2.up ((Up.refl WC).alloc (.cells #[.bool false, .slice none 0 0, .slice none 0 0] 69))
             replace hm2 := hm2.up ((Up.refl WC).alloc (.cells #[.bool false, .slice none 0 0, .slice none 0 0] 69))
             try (replace p := p.up ((Up.refl WC).alloc (.cells #[.bool false, .slice none 0 0, .slice none 0 0] 69)))
             try (replace pd := pd.up ((Up.refl WC).alloc (.cells #[.bool false, .slice none 0 0, .slice none 0 0] 69)))
             replace b0 := b0.up ((Up.refl WC).alloc (.cells #[.bool false, .slice none 0 0, .slice none 0 0] 69))
             replace b1 := b1.up ((Up.refl WC).alloc (.cells #[.bool false, .slice none 0 0, .slice none 0 0] 69))
             replace x1 := x1.up ((Up.refl WC).alloc (.cells #[.bool false, .slice none 0 0, .slice none 0 0] 69))
             replace UP := UP.trans ((Up.refl WC).alloc (.cells #[.bool false, .slice none 0 0, .slice none 0 0] 69))
             generalize WC.alloc (.cells #[.bool false, .slice none 0 0, .slice none 0 0] 69) = WD at *
             generalize WC.heap.size = gx4 at *
             obtain ⟨WC, hWC⟩ : ∃ W, W = WD := ⟨_, rfl⟩
             subst hWC
             clear b0_0 b0_1 b0_2
             obtain ⟨b0_0, b0_1, b0_2⟩ := b0.c3
             clear b1_0 b1_1
             obtain ⟨b1_0, b1_1⟩ := b1.c2
             clear x1_0 x1_1 x1_2
             obtain ⟨x1_0, x1_1, x1_2⟩ := x1.c3
             refine hK.out _ _ (by exact ⟨UP, b0_0, b0_1, b0_2⟩) (fun hHeld => ?_)
             clear hK K
             try simp only [List.getElem_toArray, List.getElem_cons_zero, List.getElem_cons_succ, Act.put, List.setIfInBounds_toArray, List.set_cons_zero, List.set_cons_succ]
             rotate_left
             exact AllReadyH.nil)
          | (refine wpAnyH_ready (rs := [1]) (by decide +kernel) (by simp) ?_
             refine AllReadyH.cons rfl (fun K hK => ?_) ?_
             (try clear hHeld)
             go_simp
             go_at_call 38
             ((with_reducible refine (law_to9 _ _ _ _ _ _ _ _).mono ?_))
             rintro e WD ⟨rfl, uu⟩
             replace X := X.up uu
             replace MR := MR.up uu
             replace FA := FA.up uu
             replace hl2 := hl2.up uu
             replace hm2 := hm2.up uu
             try (replace p := p.up uu)
             try (replace pd := pd.up uu)
             replace b0 := b0.up uu
             replace b1 := b1.up uu
             replace x1 := x1.up uu
             try (replace x4 := x4.up uu)
             replace UP := UP.trans uu
             clear uu
             obtain ⟨WC, hWC⟩ : ∃ W, W = WD := ⟨_, rfl⟩
             subst hWC
             clear b0_0 b0_1 b0_2
             obtain ⟨b0_0, b0_1, b0_2⟩ := b0.c3
             clear b1_0 b1_1
             obtain ⟨b1_0, b1_1⟩ := b1.c2
             clear x1_0 x1_1 x1_2
             obtain ⟨x1_0, x1_1, x1_2⟩ := x1.c3
             try go_wp2_with fail
             refine hK.out _ _ (by exact ⟨UP, b0_0, b0_1, b0_2⟩) (fun hHeld => ?_)
             clear hK K
             try simp only [List.getElem_toArray, List.getElem_cons_zero, List.getElem_cons_succ, Act.put, List.setIfInBounds_toArray, List.set_cons_zero, List.set_cons_succ]
             rotate_left
             exact AllReadyH.nil)
          | (refine wpAnyH_ready (rs := [5, 9]) (by decide +kernel) (by simp) ?_
             refine AllReadyH.cons rfl (fun K hK => ?_) ?_
             (try clear hHeld)
             go_simp
             go_at_call 41
             ((with_reducible refine (frac_new (Wh.mk s hl2 (k := 30) (by omega)) hm2 (by omega) (by omega)).mono ?_))
             rintro e WD ⟨V5, rfl, p, uu⟩
             replace X := X.up uu
             replace MR := MR.up uu
             replace FA := FA.up uu
             replace hl2 := hl2.up uu
             replace hm2 := hm2.up uu
             try (replace pd := pd.up uu)
             replace b0 := b0.up uu
             replace b1 := b1.up uu
             replace x1 := x1.up uu
             try (replace x4 := x4.up uu)
             replace UP := UP.trans uu
             clear uu
             obtain ⟨WC, hWC⟩ : ∃ W, W = WD := ⟨_, rfl⟩
             subst hWC
             clear b0_0 b0_1 b0_2
             obtain ⟨b0_0, b0_1, b0_2⟩ := b0.c3
             clear b1_0 b1_1
             obtain ⟨b1_0, b1_1⟩ := b1.c2
             clear x1_0 x1_1 x1_2
             obtain ⟨x1_0, x1_1, x1_2⟩ := x1.c3
             rw [HQA.out] at p
             rw [HK.out]
             obtain ⟨Xp, Yp, rfl, p, pd⟩ := p
             obtain ⟨Ap, np, cp, rfl⟩ := p.shape
             obtain ⟨Apd, npd, cpd, rfl⟩ := pd.shape
             try go_wp2_with fail
             refine hK.out _ _ (by exact ⟨UP, b0_0, b0_1, b0_2⟩) (fun hHeld => ?_)
             clear hK K
             try simp only [List.getElem_toArray, List.getElem_cons_zero, List.getElem_cons_succ, Act.put, List.setIfInBounds_toArray, List.set_cons_zero, List.set_cons_succ]
             rotate_left
             refine AllReadyH.cons rfl (fun K hK => ?_) ?_
             (try clear hHeld)
             go_simp
             have x4 := Bx.new 69 WC [.bool false, .slice none 0 0, .slice none 0 0]
             have b0_lt_x4 := b0.lt
             have b1_lt_x4 := b1.lt
             have x1_lt_x4 := x1.lt
             have x4_base := UP.size
             have MR_ne_x4 := MR.ne
             replace X := X.up ((Up.refl WC).alloc (.cells #[.bool false, .slice none 0 0, .slice none 0 0] 69))
             replace MR := MR.up ((Up.refl WC).alloc (.cells #[.bool false, .slice none 0 0, .slice none 0 0] 69))
             replace FA := FA.up ((Up.refl WC).alloc (.cells #[.bool false, .slice none 0 0, .slice none 0 0] 69))
             replace hl2 := hl2.up ((Up.refl WC).alloc (.cells #[.bool false, .slice none 0 0, .slice none 0 0] 69))
             replace hm2 := hm2.up ((Up.refl WC).alloc (.cells #[.bool false, .slice none 0 0, .slice none 0 0] 69))
             try (replace p := p.up ((Up.refl WC).alloc (.cells #[.bool false, .slice none 0 0, .slice none 0 0] 69)))
             try (replace pd := pd.up ((Up.refl WC).alloc (.cells #[.bool false, .slice none 0 0, .slice none 0 0] 69)))
             replace b0 := b0.up ((Up.refl WC).alloc (.cells #[.bool false, .slice none 0 0, .slice none 0 0] 69))
             replace b1 := b1.up ((Up.refl WC).alloc (.cells #[.bool false, .slice none 0 0, .slice none 0 0] 69))
             replace x1 := x1.up ((Up.refl WC).alloc (.cells #[.bool false, .slice none 0 0, .slice none 0 0] 69))
             replace UP := UP.trans ((Up.refl WC).alloc (.cells #[.bool false, .slice none 0 0, .slice none 0 0] 69))
             generalize WC.alloc (.cells #[.bool false, .slice none 0 0, .slice none 0 0] 69) = WD at *
             generalize WC.heap.size = gx4 at *
             obtain ⟨WC, hWC⟩ : ∃ W, W = WD := ⟨_, rfl⟩
             subst hWC
             clear b0_0 b0_1 b0_2
             obtain ⟨b0_0, b0_1, b0_2⟩ := b0.c3
             clear b1_0 b1_1
             obtain ⟨b1_0, b1_1⟩ := b1.c2
             clear x1_0 x1_1 x1_2
             obtain ⟨x1_0, x1_1, x1_2⟩ := x1.c3
             refine hK.out _ _ (by exact ⟨UP, b0_0, b0_1, b0_2⟩) (fun hHeld => ?_)
             clear hK K
             try simp only [List.getElem_toArray, List.getElem_cons_zero, List.getElem_cons_succ, Act.put, List.setIfInBounds_toArray, List.set_cons_zero, List.set_cons_succ]
             rotate_left
             exact AllReadyH.nil)
          | (refine wpAnyH_ready (rs := [5]) (by decide +kernel) (by simp) ?_
             refine AllReadyH.cons rfl (fun K hK => ?_) ?_
             (try clear hHeld)
             go_simp
             go_at_call 41
             ((with_reducible refine (frac_new (Wh.mk s hl2 (k := 30) (by omega)) hm2 (by omega) (by omega)).mono ?_))
             rintro e WD ⟨V5, rfl, p, uu⟩
             replace X := X.up uu
             replace MR := MR.up uu
             replace FA := FA.up uu
             replace hl2 := hl2.up uu
             replace hm2 := hm2.up uu
             try (replace pd := pd.up uu)
             replace b0 := b0.up uu
             replace b1 := b1.up uu
             replace x1 := x1.up uu
             try (replace x4 := x4.up uu)
             replace UP := UP.trans uu
             clear uu
             obtain ⟨WC, hWC⟩ : ∃ W, W = WD := ⟨_, rfl⟩
             subst hWC
             clear b0_0 b0_1 b0_2
             obtain ⟨b0_0, b0_1, b0_2⟩ := b0.c3
             clear b1_0 b1_1
             obtain ⟨b1_0, b1_1⟩ := b1.c2
             clear x1_0 x1_1 x1_2
             obtain ⟨x1_0, x1_1, x1_2⟩ := x1.c3
             rw [HQA.out] at p
             rw [HK.out]
             obtain ⟨Xp, Yp, rfl, p, pd⟩ := p
             obtain ⟨Ap, np, cp, rfl⟩ := p.shape
             obtain ⟨Apd, npd, cpd, rfl⟩ := pd.shape
             try go_wp2_with fail
             refine hK.out _ _ (by exact ⟨UP, b0_0, b0_1, b0_2⟩) (fun hHeld => ?_)
             clear hK K
             try simp only [List.getElem_toArray, List.getElem_cons_zero, List.getElem_cons_succ, Act.put, List.setIfInBounds_toArray, List.set_cons_zero, List.set_cons_succ]
             rotate_left
             exact AllReadyH.nil)
          | (refine wpAnyH_ready (rs := [9]) (by decide +kernel) (by simp) ?_
             refine AllReadyH.cons rfl (fun K hK => ?_) ?_
             (try clear hHeld)
             go_simp
             have x4 := Bx.new 69 WC [.bool false, .slice none 0 0, .slice none 0 0]
             have b0_lt_x4 := b0.lt
             have b1_lt_x4 := b1.lt
             have x1_lt_x4 := x1.lt
             have x4_base := UP.size
             have MR_ne_x4 := MR.ne
             replace X := X.up ((Up.refl WC).alloc (.cells #[.bool false, .slice none 0 0, .slice none 0 0] 69))
             replace MR := MR.up ((Up.refl WC).alloc (.cells #[.bool false, .slice none 0 0, .slice none 0 0] 69))
             replace FA := FA.up ((Up.refl WC).alloc (.cells #[.bool false, .slice none 0 0, .slice none 0 0] 69))
             replace hl2 := hl2.up ((Up.refl WC).alloc (.cells #[.bool false, .slice none 0 0, .slice none 0 0] 69))
             replace hm2 := hm2.up ((Up.refl WC).alloc (.cells #[.bool false, .slice none 0 0, .slice none 0 0] 69))
             try (replace p := p.up ((Up.refl WC).alloc (.cells #[.bool false, .slice none 0 0, .slice none 0 0] 69)))
             try (replace pd := pd.up ((Up.refl WC).alloc (.cells #[.bool false, .slice none 0 0, .slice none 0 0] 69)))
             replace b0 := b0.up ((Up.refl WC).alloc (.cells #[.bool false, .slice none 0 0, .slice none 0 0] 69))
             replace b1 := b1.up ((Up.refl WC).alloc (.cells #[.bool false, .slice none 0 0, .slice none 0 0] 69))
             replace x1 := x1.up ((Up.refl WC).alloc (.cells #[.bool false, .slice none 0 0, .slice none 0 0] 69))
             replace UP := UP.trans ((Up.refl WC).alloc (.cells #[.bool false, .slice none 0 0, .slice none 0 0] 69))
             generalize WC.alloc (.cells #[.bool false, .slice none 0 0, .slice none 0 0] 69) = WD at *
             generalize WC.heap.size = gx4 at *
             obtain ⟨WC, hWC⟩ : ∃ W, W = WD := ⟨_, rfl⟩
             subst hWC
             clear b0_0 b0_1 b0_2
             obtain ⟨b0_0, b0_1, b0_2⟩ := b0.c3
             clear b1_0 b1_1
             obtain ⟨b1_0, b1_1⟩ := b1.c2
             clear x1_0 x1_1 x1_2
             obtain ⟨x1_0, x1_1, x1_2⟩ := x1.c3
             refine hK.out _ _ (by exact ⟨UP, b0_0, b0_1, b0_2⟩) (fun hHeld => ?_)
             clear hK K
             try simp only [List.getElem_toArray, List.getElem_cons_zero, List.getElem_cons_succ, Act.put, List.setIfInBounds_toArray, List.set_cons_zero, List.set_cons_succ]
             rotate_left
             exact AllReadyH.nil)
          | (refine wpAnyH_ready (rs := [10]) (by decide +kernel) (by simp) ?_
             refine AllReadyH.cons rfl (fun K hK => ?_) ?_
             (try clear hHeld)
             obtain ⟨ce0, ce1, ce2⟩ := x4.c3
             have fr0 := x4.free 0
             have fr1 := x4.free 1
             have fr2 := x4.free 2
             go_simp
             clear ce0 ce1 ce2 fr0 fr1 fr2
             have KW : Kw (WC) ((WC).setCell ⟨gx4, 0, none⟩ (.bool (Wd.ngb qa.num))) := Kw.store (c := (.bool false)) x4 rfl trivial _
             replace X := X.kw KW
             replace MR := MR.stored2 MR_ne_x4 KW
             replace FA := FA.kw KW
             replace hl2 := hl2.kw KW
             replace hm2 := hm2.kw KW
             replace p := p.kw KW
             replace pd := pd.kw KW
             replace b0 := b0.far (p := ⟨gx4, 0, none⟩) (by dsimp only; omega) (.bool (Wd.ngb qa.num))
             replace b1 := b1.far (p := ⟨gx4, 0, none⟩) (by dsimp only; omega) (.bool (Wd.ngb qa.num))
             replace x1 := x1.far (p := ⟨gx4, 0, none⟩) (by dsimp only; omega) (.bool (Wd.ngb qa.num))
             replace x4 : Bx 69 ((WC).setCell ⟨gx4, 0, none⟩ (.bool (Wd.ngb qa.num))) (gx4) [.bool (Wd.ngb qa.num), .slice none 0 0, .slice none 0 0] := x4.set 0 (.bool (Wd.ngb qa.num))
             replace UP := UP.setCell (p := ⟨gx4, 0, none⟩) (by dsimp only; omega) (.bool (Wd.ngb qa.num))
             have KW : Kw (((WC).setCell ⟨gx4, 0, none⟩ (.bool (Wd.ngb qa.num)))) ((((WC).setCell ⟨gx4, 0, none⟩ (.bool (Wd.ngb qa.num)))).setCell ⟨gx4, 1, none⟩ (.slice Ap np cp)) := Kw.store (c := (.slice none 0 0)) x4 rfl trivial _
             replace X := X.kw KW
             replace MR := MR.stored2 MR_ne_x4 KW
             replace FA := FA.kw KW
             replace hl2 := hl2.kw KW
             replace hm2 := hm2.kw KW
             replace p := p.kw KW
             replace pd := pd.kw KW
             replace b0 := b0.far (p := ⟨gx4, 1, none⟩) (by dsimp only; omega) (.slice Ap np cp)
             replace b1 := b1.far (p := ⟨gx4, 1, none⟩) (by dsimp only; omega) (.slice Ap np cp)
             replace x1 := x1.far (p := ⟨gx4, 1, none⟩) (by dsimp only; omega) (.slice Ap np cp)
             replace x4 : Bx 69 ((((WC).setCell ⟨gx4, 0, none⟩ (.bool (Wd.ngb qa.num)))).setCell ⟨gx4, 1, none⟩ (.slice Ap np cp)) (gx4) [.bool (Wd.ngb qa.num), .slice Ap np cp, .slice none 0 0] := x4.set 1 (.slice Ap np cp)
             replace UP := UP.setCell (p := ⟨gx4, 1, none⟩) (by dsimp only; omega) (.slice Ap np cp)
             have KW : Kw (((((WC).setCell ⟨gx4, 0, none⟩ (.bool (Wd.ngb qa.num)))).setCell ⟨gx4, 1, none⟩ (.slice Ap np cp))) ((((((WC).setCell ⟨gx4, 0, none⟩ (.bool (Wd.ngb qa.num)))).setCell ⟨gx4, 1, none⟩ (.slice Ap np cp))).setCell ⟨gx4, 2, none⟩ (.slice Apd npd cpd)) := Kw.store (c := (.slice none 0 0)) x4 rfl trivial _
             replace X := X.kw KW
             replace MR := MR.stored2 MR_ne_x4 KW
             replace FA := FA.kw KW
             replace hl2 := hl2.kw KW
             replace hm2 := hm2.kw KW
             replace p := p.kw KW
             replace pd := pd.kw KW
             replace b0 := b0.far (p := ⟨gx4, 2, none⟩) (by dsimp only; omega) (.slice Apd npd cpd)
             replace b1 := b1.far (p := ⟨gx4, 2, none⟩) (by dsimp only; omega) (.slice Apd npd cpd)
             replace x1 := x1.far (p := ⟨gx4, 2, none⟩) (by dsimp only; omega) (.slice Apd npd cpd)
             replace x4 : Bx 69 ((((((WC).setCell ⟨gx4, 0, none⟩ (.bool (Wd.ngb qa.num)))).setCell ⟨gx4, 1, none⟩ (.slice Ap np cp))).setCell ⟨gx4, 2, none⟩ (.slice Apd npd cpd)) (gx4) [.bool (Wd.ngb qa.num), .slice Ap np cp, .slice Apd npd cpd] := x4.set 2 (.slice Apd npd cpd)
             replace UP := UP.setCell (p := ⟨gx4, 2, none⟩) (by dsimp only; omega) (.slice Apd npd cpd)
             clear KW
             generalize ((((((WC).setCell ⟨gx4, 0, none⟩ (.bool (Wd.ngb qa.num)))).setCell ⟨gx4, 1, none⟩ (.slice Ap np cp))).setCell ⟨gx4, 2, none⟩ (.slice Apd npd cpd)) = WD at *
             obtain ⟨WC, hWC⟩ : ∃ W, W = WD := ⟨_, rfl⟩
             subst hWC
             clear b0_0 b0_1 b0_2
             obtain ⟨b0_0, b0_1, b0_2⟩ := b0.c3
             clear b1_0 b1_1
             obtain ⟨b1_0, b1_1⟩ := b1.c2
             clear x1_0 x1_1 x1_2
             obtain ⟨x1_0, x1_1, x1_2⟩ := x1.c3
             refine hK.out _ _ (by exact ⟨UP, b0_0, b0_1, b0_2⟩) (fun hHeld => ?_)
             clear hK K
             try simp only [List.getElem_toArray, List.getElem_cons_zero, List.getElem_cons_succ, Act.put, List.setIfInBounds_toArray, List.set_cons_zero, List.set_cons_succ]
             rotate_left
             exact AllReadyH.nil)
          | (refine wpAnyH_ready (rs := [11]) (by decide +kernel) (by simp) ?_
             refine AllReadyH.cons rfl (fun K hK => ?_) ?_
             (try clear hHeld)
             go_simp
             refine hK.out _ _ (by exact ⟨UP, b0_0, b0_1, b0_2⟩) (fun hHeld => ?_)
             clear hK K
             try simp only [List.getElem_toArray, List.getElem_cons_zero, List.getElem_cons_succ, Act.put, List.setIfInBounds_toArray, List.set_cons_zero, List.set_cons_succ]
             rotate_left
             exact AllReadyH.nil)
          | refine wpAnyH_done (by decide +kernel) (NoPanic.normal ?_) _
          | fail
        all_goals try clear hHeld
        all_goals obtain ⟨x4_0, x4_1, x4_2⟩ := x4.c3
        all_goals
          go_wp2_with fail
          go_meet
          exact ⟨gx4, _, _, _, _, _, _, rfl, rfl, x4, ⟨_, _, rfl, p, pd⟩, b0, b1, x1, X, MR, FA, hm2, UP⟩
      case rest =>
        obtain ⟨g, A1, A2, m1, d1, m2, d2, rfl, rfl, x4, XQ, b0, b1, x1, X, MR, FA, hm2, UP⟩ := hcut
        clear hl2
        by_cases hy0 : y = 0
        · have HOK : Hid ((!decide (y = 0)) = false) := Lib.hid (by simp [hy0])
          have HPP := Lib.hid (HY0.out hy0)
          have kY : (y != 0) = false := by simp [hy0]
          clear hy0
          obtain ⟨b0_0, b0_1, b0_2⟩ := b0.c3
          obtain ⟨b1_0, b1_1⟩ := b1.c2
          obtain ⟨x1_0, x1_1, x1_2⟩ := x1.c3
          obtain ⟨x4_0, x4_1, x4_2⟩ := x4.c3
          have hql : qs.length ≤ 1000000 := by rw [HLEN.out]; omega
          go_wp2_with fail
          ((with_reducible refine (frac_ratio hx hy _).mono ?_))
          rintro e W51 ⟨V51, rfl, p, u51⟩
          replace X := X.up u51
          replace MR := MR.up u51
          replace FA := FA.up u51
          replace hm2 := hm2.up u51
          replace XQ := XQ.up u51
          replace b0 := b0.up u51
          replace b1 := b1.up u51
          replace x1 := x1.up u51
          replace x4 := x4.up u51
          replace UP := UP.trans u51
          clear b0_0 b0_1 b0_2 b1_0 b1_1 x1_0 x1_1 x1_2 x4_0 x4_1 x4_2
          obtain ⟨b0_0, b0_1, b0_2⟩ := b0.c3
          obtain ⟨b1_0, b1_1⟩ := b1.c2
          obtain ⟨x1_0, x1_1, x1_2⟩ := x1.c3
          obtain ⟨x4_0, x4_1, x4_2⟩ := x4.c3
          clear u51
          rw [HT.out] at p
          rw [HOK.out]
          obtain ⟨Xp, Yp, rfl, p, pd⟩ := p
          obtain ⟨Ap, np, cp, rfl⟩ := p.shape
          obtain ⟨Apd, npd, cpd, rfl⟩ := pd.shape
          have b0_0a := fun O0 => (cell_alloc (o := O0) b0_0)
          have b0_1a := fun O0 => (cell_alloc (o := O0) b0_1)
          have b0_2a := fun O0 => (cell_alloc (o := O0) b0_2)
          have b1_0a := fun O0 => (cell_alloc (o := O0) b1_0)
          have b1_1a := fun O0 => (cell_alloc (o := O0) b1_1)
          have x1_0a := fun O0 => (cell_alloc (o := O0) x1_0)
          have x1_1a := fun O0 => (cell_alloc (o := O0) x1_1)
          have x1_2a := fun O0 => (cell_alloc (o := O0) x1_2)
          have x4_0a := fun O0 => (cell_alloc (o := O0) x4_0)
          have x4_1a := fun O0 => (cell_alloc (o := O0) x4_1)
          have x4_2a := fun O0 => (cell_alloc (o := O0) x4_2)
          go_wp2_with fail
          clear b0_0a b0_1a b0_2a b1_0a b1_1a x1_0a x1_1a x1_2a x4_0a x4_1a x4_2a
          have x5 := Bx.new 69 W51 [.bool (Wd.ngb T.num), .slice Ap np cp, .slice Apd npd cpd]
          have b0_lt_x5 := b0.lt
          have b1_lt_x5 := b1.lt
          have x1_lt_x5 := x1.lt
          have x4_lt_x5 := x4.lt
          replace X := X.up ((Up.refl W51).alloc (.cells #[.bool (Wd.ngb T.num), .slice Ap np cp, .slice Apd npd cpd] 69))
          replace MR := MR.up ((Up.refl W51).alloc (.cells #[.bool (Wd.ngb T.num), .slice Ap np cp, .slice Apd npd cpd] 69))
          replace FA := FA.up ((Up.refl W51).alloc (.cells #[.bool (Wd.ngb T.num), .slice Ap np cp, .slice Apd npd cpd] 69))
          replace hm2 := hm2.up ((Up.refl W51).alloc (.cells #[.bool (Wd.ngb T.num), .slice Ap np cp, .slice Apd npd cpd] 69))
          replace XQ := XQ.up ((Up.refl W51).alloc (.cells #[.bool (Wd.ngb T.num), .slice Ap np cp, .slice Apd npd cpd] 69))
          replace p := p.up ((Up.refl W51).alloc (.cells #[.bool (Wd.ngb T.num), .slice Ap np cp, .slice Apd npd cpd] 69))
          replace pd := pd.up ((Up.refl W51).alloc (.cells #[.bool (Wd.ngb T.num), .slice Ap np cp, .slice Apd npd cpd] 69))
          replace b0 := b0.up ((Up.refl W51).alloc (.cells #[.bool (Wd.ngb T.num), .slice Ap np cp, .slice Apd npd cpd] 69))
          replace b1 := b1.up ((Up.refl W51).alloc (.cells #[.bool (Wd.ngb T.num), .slice Ap np cp, .slice Apd npd cpd] 69))
          replace x1 := x1.up ((Up.refl W51).alloc (.cells #[.bool (Wd.ngb T.num), .slice Ap np cp, .slice Apd npd cpd] 69))
          replace x4 := x4.up ((Up.refl W51).alloc (.cells #[.bool (Wd.ngb T.num), .slice Ap np cp, .slice Apd npd cpd] 69))
          replace UP := UP.trans ((Up.refl W51).alloc (.cells #[.bool (Wd.ngb T.num), .slice Ap np cp, .slice Apd npd cpd] 69))
          generalize (W51.alloc (.cells #[.bool (Wd.ngb T.num), .slice Ap np cp, .slice Apd npd cpd] 69)) = W52 at *
          clear b0_0 b0_1 b0_2 b1_0 b1_1 x1_0 x1_1 x1_2 x4_0 x4_1 x4_2
          obtain ⟨b0_0, b0_1, b0_2⟩ := b0.c3
          obtain ⟨b1_0, b1_1⟩ := b1.c2
          obtain ⟨x1_0, x1_1, x1_2⟩ := x1.c3
          obtain ⟨x4_0, x4_1, x4_2⟩ := x4.c3
          obtain ⟨x5_0, x5_1, x5_2⟩ := x5.c3
          ((with_reducible refine (ref9_int0m _).mono ?_))
          rintro e W53 ⟨V53, rfl, oo, u53⟩
          replace X := X.up u53
          replace MR := MR.up u53
          replace FA := FA.up u53
          replace hm2 := hm2.up u53
          replace XQ := XQ.up u53
          replace p := p.up u53
          replace pd := pd.up u53
          replace b0 := b0.up u53
          replace b1 := b1.up u53
          replace x1 := x1.up u53
          replace x4 := x4.up u53
          replace x5 := x5.up u53
          replace UP := UP.trans u53
          clear b0_0 b0_1 b0_2 b1_0 b1_1 x1_0 x1_1 x1_2 x4_0 x4_1 x4_2 x5_0 x5_1 x5_2
          obtain ⟨b0_0, b0_1, b0_2⟩ := b0.c3
          obtain ⟨b1_0, b1_1⟩ := b1.c2
          obtain ⟨x1_0, x1_1, x1_2⟩ := x1.c3
          obtain ⟨x4_0, x4_1, x4_2⟩ := x4.c3
          obtain ⟨x5_0, x5_1, x5_2⟩ := x5.c3
          clear u53
          rw [HPP.out] at oo
          obtain ⟨Xoo, Yoo, rfl, oo, ood⟩ := oo
          obtain ⟨Aoo, noo, coo, rfl⟩ := oo.shape
          obtain ⟨Aood, nood, cood, rfl⟩ := ood.shape
          have b0_0a := fun O0 => (cell_alloc (o := O0) b0_0)
          have b0_1a := fun O0 => (cell_alloc (o := O0) b0_1)
          have b0_2a := fun O0 => (cell_alloc (o := O0) b0_2)
          have b1_0a := fun O0 => (cell_alloc (o := O0) b1_0)
          have b1_1a := fun O0 => (cell_alloc (o := O0) b1_1)
          have x1_0a := fun O0 => (cell_alloc (o := O0) x1_0)
          have x1_1a := fun O0 => (cell_alloc (o := O0) x1_1)
          have x1_2a := fun O0 => (cell_alloc (o := O0) x1_2)
          have x4_0a := fun O0 => (cell_alloc (o := O0) x4_0)
          have x4_1a := fun O0 => (cell_alloc (o := O0) x4_1)
          have x4_2a := fun O0 => (cell_alloc (o := O0) x4_2)
          have x5_0a := fun O0 => (cell_alloc (o := O0) x5_0)
          have x5_1a := fun O0 => (cell_alloc (o := O0) x5_1)
          have x5_2a := fun O0 => (cell_alloc (o := O0) x5_2)
          go_wp2_with fail
          clear b0_0a b0_1a b0_2a b1_0a b1_1a x1_0a x1_1a x1_2a x4_0a x4_1a x4_2a x5_0a x5_1a x5_2a
          have x6 := Bx.new 61 W53 [.bool (Wd.ngb T.num), .slice Aoo noo coo, .slice Aood nood cood]
          have b0_lt_x6 := b0.lt
          have b0_ne_x6 : ¬ (w.heap.size = W53.heap.size) := by omega
          have b0_en_x6 : ¬ (W53.heap.size = w.heap.size) := by omega
          have b1_lt_x6 := b1.lt
          have b1_ne_x6 : ¬ (w.heap.size + 1 = W53.heap.size) := by omega
          have b1_en_x6 : ¬ (W53.heap.size = w.heap.size + 1) := by omega
          have x1_lt_x6 := x1.lt
          have x1_ne_x6 : ¬ (W2.heap.size = W53.heap.size) := by omega
          have x1_en_x6 : ¬ (W53.heap.size = W2.heap.size) := by omega
          have x4_lt_x6 := x4.lt
          have x4_ne_x6 : ¬ (g = W53.heap.size) := by omega
          have x4_en_x6 : ¬ (W53.heap.size = g) := by omega
          have x5_lt_x6 := x5.lt
          have x5_ne_x6 : ¬ (W51.heap.size = W53.heap.size) := by omega
          have x5_en_x6 : ¬ (W53.heap.size = W51.heap.size) := by omega
          replace X := X.up ((Up.refl W53).alloc (.cells #[.bool (Wd.ngb T.num), .slice Aoo noo coo, .slice Aood nood cood] 61))
          replace MR := MR.up ((Up.refl W53).alloc (.cells #[.bool (Wd.ngb T.num), .slice Aoo noo coo, .slice Aood nood cood] 61))
          replace FA := FA.up ((Up.refl W53).alloc (.cells #[.bool (Wd.ngb T.num), .slice Aoo noo coo, .slice Aood nood cood] 61))
          replace hm2 := hm2.up ((Up.refl W53).alloc (.cells #[.bool (Wd.ngb T.num), .slice Aoo noo coo, .slice Aood nood cood] 61))
          replace XQ := XQ.up ((Up.refl W53).alloc (.cells #[.bool (Wd.ngb T.num), .slice Aoo noo coo, .slice Aood nood cood] 61))
          replace p := p.up ((Up.refl W53).alloc (.cells #[.bool (Wd.ngb T.num), .slice Aoo noo coo, .slice Aood nood cood] 61))
          replace pd := pd.up ((Up.refl W53).alloc (.cells #[.bool (Wd.ngb T.num), .slice Aoo noo coo, .slice Aood nood cood] 61))
          replace oo := oo.up ((Up.refl W53).alloc (.cells #[.bool (Wd.ngb T.num), .slice Aoo noo coo, .slice Aood nood cood] 61))
          replace ood := ood.up ((Up.refl W53).alloc (.cells #[.bool (Wd.ngb T.num), .slice Aoo noo coo, .slice Aood nood cood] 61))
          replace b0 := b0.up ((Up.refl W53).alloc (.cells #[.bool (Wd.ngb T.num), .slice Aoo noo coo, .slice Aood nood cood] 61))
          replace b1 := b1.up ((Up.refl W53).alloc (.cells #[.bool (Wd.ngb T.num), .slice Aoo noo coo, .slice Aood nood cood] 61))
          replace x1 := x1.up ((Up.refl W53).alloc (.cells #[.bool (Wd.ngb T.num), .slice Aoo noo coo, .slice Aood nood cood] 61))
          replace x4 := x4.up ((Up.refl W53).alloc (.cells #[.bool (Wd.ngb T.num), .slice Aoo noo coo, .slice Aood nood cood] 61))
          replace x5 := x5.up ((Up.refl W53).alloc (.cells #[.bool (Wd.ngb T.num), .slice Aoo noo coo, .slice Aood nood cood] 61))
          replace UP := UP.trans ((Up.refl W53).alloc (.cells #[.bool (Wd.ngb T.num), .slice Aoo noo coo, .slice Aood nood cood] 61))
          generalize (W53.alloc (.cells #[.bool (Wd.ngb T.num), .slice Aoo noo coo, .slice Aood nood cood] 61)) = W54 at *
          clear b0_0 b0_1 b0_2 b1_0 b1_1 x1_0 x1_1 x1_2 x4_0 x4_1 x4_2 x5_0 x5_1 x5_2
          obtain ⟨b0_0, b0_1, b0_2⟩ := b0.c3
          obtain ⟨b1_0, b1_1⟩ := b1.c2
          obtain ⟨x1_0, x1_1, x1_2⟩ := x1.c3
          obtain ⟨x4_0, x4_1, x4_2⟩ := x4.c3
          obtain ⟨x5_0, x5_1, x5_2⟩ := x5.c3
          obtain ⟨x6_0, x6_1, x6_2⟩ := x6.c3
          have x6_f0 := x6.free 0
          have x6_f1 := x6.free 1
          have x6_f2 := x6.free 2
          have kZ := HZK.out
          have kKK : (K == K) = true := by simp
          replace X := X.up (Up.refl W54).drew
          replace MR := MR.up (Up.refl W54).drew
          replace FA := FA.up (Up.refl W54).drew
          replace hm2 := hm2.up (Up.refl W54).drew
          replace XQ := XQ.up (Up.refl W54).drew
          replace p := p.up (Up.refl W54).drew
          replace pd := pd.up (Up.refl W54).drew
          replace oo := oo.up (Up.refl W54).drew
          replace ood := ood.up (Up.refl W54).drew
          replace b0 := b0.up (Up.refl W54).drew
          replace b1 := b1.up (Up.refl W54).drew
          replace x1 := x1.up (Up.refl W54).drew
          replace x4 := x4.up (Up.refl W54).drew
          replace x5 := x5.up (Up.refl W54).drew
          replace x6 := x6.up (Up.refl W54).drew
          replace UP := UP.trans (Up.refl W54).drew
          clear b0_0 b0_1 b0_2 b1_0 b1_1 x1_0 x1_1 x1_2 x4_0 x4_1 x4_2 x5_0 x5_1 x5_2 x6_0 x6_1 x6_2
          obtain ⟨b0_0, b0_1, b0_2⟩ := b0.c3
          obtain ⟨b1_0, b1_1⟩ := b1.c2
          obtain ⟨x1_0, x1_1, x1_2⟩ := x1.c3
          obtain ⟨x4_0, x4_1, x4_2⟩ := x4.c3
          obtain ⟨x5_0, x5_1, x5_2⟩ := x5.c3
          obtain ⟨x6_0, x6_1, x6_2⟩ := x6.c3
          replace x6_f0 := x6.free 0
          replace x6_f1 := x6.free 1
          replace x6_f2 := x6.free 2
          go_region_held3 (fun w' => Up w w' ∧ w'.cell? ⟨w.heap.size, 0, none⟩ = some (.bool s) ∧ w'.cell? ⟨w.heap.size, 1, none⟩ = some (.slice A l.length c) ∧ w'.cell? ⟨w.heap.size, 2, none⟩ = some (.slice D m.length d) ∧ w'.cell? ⟨w.heap.size + 1, 0, none⟩ = some (.int .i64 x) ∧ w'.cell? ⟨w.heap.size + 1, 1, none⟩ = some (.int .i64 y) ∧ w'.cell? ⟨W2.heap.size, 0, none⟩ = some (.bool s') ∧ w'.cell? ⟨W2.heap.size, 1, none⟩ = some (.slice A' n1 c1) ∧ w'.cell? ⟨W2.heap.size, 2, none⟩ = some (.slice D' n2 c2) ∧ w'.cell? ⟨g, 0, none⟩ = some (.bool (Wd.ngb qa.num)) ∧ w'.cell? ⟨g, 1, none⟩ = some (.slice A1 m1 d1) ∧ w'.cell? ⟨g, 2, none⟩ = some (.slice A2 m2 d2) ∧ w'.cell? ⟨W51.heap.size, 0, none⟩ = some (.bool (Wd.ngb T.num)) ∧ w'.cell? ⟨W51.heap.size, 1, none⟩ = some (.slice Ap np cp) ∧ w'.cell? ⟨W51.heap.size, 2, none⟩ = some (.slice Apd npd cpd) ∧ w'.cell? ⟨W53.heap.size, 0, none⟩ = some (.bool (Wd.ngb T.num)) ∧ w'.cell? ⟨W53.heap.size, 1, none⟩ = some (.slice Aoo noo coo) ∧ w'.cell? ⟨W53.heap.size, 2, none⟩ = some (.slice Aood nood cood))
              (first | with_reducible exact ⟨UP, b0_0, b0_1, b0_2, b1_0, b1_1, x1_0, x1_1, x1_2, x4_0, x4_1, x4_2, x5_0, x5_1, x5_2, x6_0, x6_1, x6_2⟩ | with_reducible exact ⟨UP, b0_0, b0_1, b0_2, b1_0, b1_1, x1_0, x1_1, x1_2, x4_0, x4_1, x4_2, x5_0, x5_1, x5_2, x6_0, x6_1, x6_2⟩ | with_reducible exact ⟨(UP.alloc_drew _), (cell_alloc_drew b0_0), (cell_alloc_drew b0_1), (cell_alloc_drew b0_2), (cell_alloc_drew b1_0), (cell_alloc_drew b1_1), (cell_alloc_drew x1_0), (cell_alloc_drew x1_1), (cell_alloc_drew x1_2), (cell_alloc_drew x4_0), (cell_alloc_drew x4_1), (cell_alloc_drew x4_2), (cell_alloc_drew x5_0), (cell_alloc_drew x5_1), (cell_alloc_drew x5_2), (cell_alloc_drew x6_0), (cell_alloc_drew x6_1), (cell_alloc_drew x6_2)⟩ | with_reducible exact ⟨(UP.alloc2_drew _ _), (cell_alloc2_drew b0_0), (cell_alloc2_drew b0_1), (cell_alloc2_drew b0_2), (cell_alloc2_drew b1_0), (cell_alloc2_drew b1_1), (cell_alloc2_drew x1_0), (cell_alloc2_drew x1_1), (cell_alloc2_drew x1_2), (cell_alloc2_drew x4_0), (cell_alloc2_drew x4_1), (cell_alloc2_drew x4_2), (cell_alloc2_drew x5_0), (cell_alloc2_drew x5_1), (cell_alloc2_drew x5_2), (cell_alloc2_drew x6_0), (cell_alloc2_drew x6_1), (cell_alloc2_drew x6_2)⟩ | (simp only [← World.setCell_drew]; first | with_reducible exact ⟨UP, b0_0, b0_1, b0_2, b1_0, b1_1, x1_0, x1_1, x1_2, x4_0, x4_1, x4_2, x5_0, x5_1, x5_2, x6_0, x6_1, x6_2⟩) | go_keep)
              ((first
                | (go_at_call 40
                   ((with_reducible refine (ref9_norm FA (by omega)).mono ?_))
                   rintro e W55 ⟨V55, rfl, nn, u55⟩
                   replace X := X.up u55
                   replace MR := MR.up u55
                   replace FA := FA.up u55
                   replace hm2 := hm2.up u55
                   replace XQ := XQ.up u55
                   replace p := p.up u55
                   replace pd := pd.up u55
                   replace oo := oo.up u55
                   replace ood := ood.up u55
                   try (replace nn := nn.up u55)
                   try (replace of1 := of1.up u55)
                   try (replace in1 := in1.up u55)
                   try (replace mx1 := mx1.up u55)
                   replace b0 := b0.up u55
                   replace b1 := b1.up u55
                   replace x1 := x1.up u55
                   replace x4 := x4.up u55
                   replace x5 := x5.up u55
                   replace x6 := x6.up u55
                   replace UP := UP.trans u55
                   clear b0_0 b0_1 b0_2 b1_0 b1_1 x1_0 x1_1 x1_2 x4_0 x4_1 x4_2 x5_0 x5_1 x5_2 x6_0 x6_1 x6_2
                   obtain ⟨b0_0, b0_1, b0_2⟩ := b0.c3
                   obtain ⟨b1_0, b1_1⟩ := b1.c2
                   obtain ⟨x1_0, x1_1, x1_2⟩ := x1.c3
                   obtain ⟨x4_0, x4_1, x4_2⟩ := x4.c3
                   obtain ⟨x5_0, x5_1, x5_2⟩ := x5.c3
                   obtain ⟨x6_0, x6_1, x6_2⟩ := x6.c3
                   replace x6_f0 := x6.free 0
                   replace x6_f1 := x6.free 1
                   replace x6_f2 := x6.free 2
                   clear u55)
                | (go_at_call 44
                   ((with_reducible refine (law_is9 XQ nn LA (by omega)).mono ?_))
                   rintro e W56 ⟨rfl, u56⟩
                   replace X := X.up u56
                   replace MR := MR.up u56
                   replace FA := FA.up u56
                   replace hm2 := hm2.up u56
                   replace XQ := XQ.up u56
                   replace p := p.up u56
                   replace pd := pd.up u56
                   replace oo := oo.up u56
                   replace ood := ood.up u56
                   try (replace nn := nn.up u56)
                   try (replace of1 := of1.up u56)
                   try (replace in1 := in1.up u56)
                   try (replace mx1 := mx1.up u56)
                   replace b0 := b0.up u56
                   replace b1 := b1.up u56
                   replace x1 := x1.up u56
                   replace x4 := x4.up u56
                   replace x5 := x5.up u56
                   replace x6 := x6.up u56
                   replace UP := UP.trans u56
                   clear b0_0 b0_1 b0_2 b1_0 b1_1 x1_0 x1_1 x1_2 x4_0 x4_1 x4_2 x5_0 x5_1 x5_2 x6_0 x6_1 x6_2
                   obtain ⟨b0_0, b0_1, b0_2⟩ := b0.c3
                   obtain ⟨b1_0, b1_1⟩ := b1.c2
                   obtain ⟨x1_0, x1_1, x1_2⟩ := x1.c3
                   obtain ⟨x4_0, x4_1, x4_2⟩ := x4.c3
                   obtain ⟨x5_0, x5_1, x5_2⟩ := x5.c3
                   obtain ⟨x6_0, x6_1, x6_2⟩ := x6.c3
                   replace x6_f0 := x6.free 0
                   replace x6_f1 := x6.free 1
                   replace x6_f2 := x6.free 2
                   clear u56)
                | (go_at_call 34
                   ((with_reducible refine (ref9_size (Ws.nil _) hm2 (by simp) (by omega)).mono ?_))
                   rintro e W57 ⟨rfl, u57⟩
                   replace X := X.up u57
                   replace MR := MR.up u57
                   replace FA := FA.up u57
                   replace hm2 := hm2.up u57
                   replace XQ := XQ.up u57
                   replace p := p.up u57
                   replace pd := pd.up u57
                   replace oo := oo.up u57
                   replace ood := ood.up u57
                   try (replace nn := nn.up u57)
                   try (replace of1 := of1.up u57)
                   try (replace in1 := in1.up u57)
                   try (replace mx1 := mx1.up u57)
                   replace b0 := b0.up u57
                   replace b1 := b1.up u57
                   replace x1 := x1.up u57
                   replace x4 := x4.up u57
                   replace x5 := x5.up u57
                   replace x6 := x6.up u57
                   replace UP := UP.trans u57
                   clear b0_0 b0_1 b0_2 b1_0 b1_1 x1_0 x1_1 x1_2 x4_0 x4_1 x4_2 x5_0 x5_1 x5_2 x6_0 x6_1 x6_2
                   obtain ⟨b0_0, b0_1, b0_2⟩ := b0.c3
                   obtain ⟨b1_0, b1_1⟩ := b1.c2
                   obtain ⟨x1_0, x1_1, x1_2⟩ := x1.c3
                   obtain ⟨x4_0, x4_1, x4_2⟩ := x4.c3
                   obtain ⟨x5_0, x5_1, x5_2⟩ := x5.c3
                   obtain ⟨x6_0, x6_1, x6_2⟩ := x6.c3
                   replace x6_f0 := x6.free 0
                   replace x6_f1 := x6.free 1
                   replace x6_f2 := x6.free 2
                   clear u57
                   rw [HZ.out])
                | (go_at_call 44
                   ((with_reducible refine (law_is9 (Qw.of p pd) (Qw.of oo ood) LT (by omega)).mono ?_))
                   rintro e W58 ⟨rfl, u58⟩
                   replace X := X.up u58
                   replace MR := MR.up u58
                   replace FA := FA.up u58
                   replace hm2 := hm2.up u58
                   replace XQ := XQ.up u58
                   replace p := p.up u58
                   replace pd := pd.up u58
                   replace oo := oo.up u58
                   replace ood := ood.up u58
                   try (replace nn := nn.up u58)
                   try (replace of1 := of1.up u58)
                   try (replace in1 := in1.up u58)
                   try (replace mx1 := mx1.up u58)
                   replace b0 := b0.up u58
                   replace b1 := b1.up u58
                   replace x1 := x1.up u58
                   replace x4 := x4.up u58
                   replace x5 := x5.up u58
                   replace x6 := x6.up u58
                   replace UP := UP.trans u58
                   clear b0_0 b0_1 b0_2 b1_0 b1_1 x1_0 x1_1 x1_2 x4_0 x4_1 x4_2 x5_0 x5_1 x5_2 x6_0 x6_1 x6_2
                   obtain ⟨b0_0, b0_1, b0_2⟩ := b0.c3
                   obtain ⟨b1_0, b1_1⟩ := b1.c2
                   obtain ⟨x1_0, x1_1, x1_2⟩ := x1.c3
                   obtain ⟨x4_0, x4_1, x4_2⟩ := x4.c3
                   obtain ⟨x5_0, x5_1, x5_2⟩ := x5.c3
                   obtain ⟨x6_0, x6_1, x6_2⟩ := x6.c3
                   replace x6_f0 := x6.free 0
                   replace x6_f1 := x6.free 1
                   replace x6_f2 := x6.free 2
                   clear u58)
                | (go_at_call 45
                   ((with_reducible refine (frac_of hx _).mono ?_))
                   rintro e W59 ⟨V59, rfl, of1, u59⟩
                   replace X := X.up u59
                   replace MR := MR.up u59
                   replace FA := FA.up u59
                   replace hm2 := hm2.up u59
                   replace XQ := XQ.up u59
                   replace p := p.up u59
                   replace pd := pd.up u59
                   replace oo := oo.up u59
                   replace ood := ood.up u59
                   try (replace nn := nn.up u59)
                   try (replace of1 := of1.up u59)
                   try (replace in1 := in1.up u59)
                   try (replace mx1 := mx1.up u59)
                   replace b0 := b0.up u59
                   replace b1 := b1.up u59
                   replace x1 := x1.up u59
                   replace x4 := x4.up u59
                   replace x5 := x5.up u59
                   replace x6 := x6.up u59
                   replace UP := UP.trans u59
                   clear b0_0 b0_1 b0_2 b1_0 b1_1 x1_0 x1_1 x1_2 x4_0 x4_1 x4_2 x5_0 x5_1 x5_2 x6_0 x6_1 x6_2
                   obtain ⟨b0_0, b0_1, b0_2⟩ := b0.c3
                   obtain ⟨b1_0, b1_1⟩ := b1.c2
                   obtain ⟨x1_0, x1_1, x1_2⟩ := x1.c3
                   obtain ⟨x4_0, x4_1, x4_2⟩ := x4.c3
                   obtain ⟨x5_0, x5_1, x5_2⟩ := x5.c3
                   obtain ⟨x6_0, x6_1, x6_2⟩ := x6.c3
                   replace x6_f0 := x6.free 0
                   replace x6_f1 := x6.free 1
                   replace x6_f2 := x6.free 2
                   clear u59)
                | (go_at_call 37
                   ((with_reducible refine (ref9_int hx _).mono ?_))
                   rintro e W60 ⟨V60, rfl, in1, u60⟩
                   replace X := X.up u60
                   replace MR := MR.up u60
                   replace FA := FA.up u60
                   replace hm2 := hm2.up u60
                   replace XQ := XQ.up u60
                   replace p := p.up u60
                   replace pd := pd.up u60
                   replace oo := oo.up u60
                   replace ood := ood.up u60
                   try (replace nn := nn.up u60)
                   try (replace of1 := of1.up u60)
                   try (replace in1 := in1.up u60)
                   try (replace mx1 := mx1.up u60)
                   replace b0 := b0.up u60
                   replace b1 := b1.up u60
                   replace x1 := x1.up u60
                   replace x4 := x4.up u60
                   replace x5 := x5.up u60
                   replace x6 := x6.up u60
                   replace UP := UP.trans u60
                   clear b0_0 b0_1 b0_2 b1_0 b1_1 x1_0 x1_1 x1_2 x4_0 x4_1 x4_2 x5_0 x5_1 x5_2 x6_0 x6_1 x6_2
                   obtain ⟨b0_0, b0_1, b0_2⟩ := b0.c3
                   obtain ⟨b1_0, b1_1⟩ := b1.c2
                   obtain ⟨x1_0, x1_1, x1_2⟩ := x1.c3
                   obtain ⟨x4_0, x4_1, x4_2⟩ := x4.c3
                   obtain ⟨x5_0, x5_1, x5_2⟩ := x5.c3
                   obtain ⟨x6_0, x6_1, x6_2⟩ := x6.c3
                   replace x6_f0 := x6.free 0
                   replace x6_f1 := x6.free 1
                   replace x6_f2 := x6.free 2
                   clear u60)
                | (go_at_call 44
                   ((with_reducible refine (law_is9 of1 in1 (lq_int hx) (by omega)).mono ?_))
                   rintro e W61 ⟨rfl, u61⟩
                   replace X := X.up u61
                   replace MR := MR.up u61
                   replace FA := FA.up u61
                   replace hm2 := hm2.up u61
                   replace XQ := XQ.up u61
                   replace p := p.up u61
                   replace pd := pd.up u61
                   replace oo := oo.up u61
                   replace ood := ood.up u61
                   try (replace nn := nn.up u61)
                   try (replace of1 := of1.up u61)
                   try (replace in1 := in1.up u61)
                   try (replace mx1 := mx1.up u61)
                   replace b0 := b0.up u61
                   replace b1 := b1.up u61
                   replace x1 := x1.up u61
                   replace x4 := x4.up u61
                   replace x5 := x5.up u61
                   replace x6 := x6.up u61
                   replace UP := UP.trans u61
                   clear b0_0 b0_1 b0_2 b1_0 b1_1 x1_0 x1_1 x1_2 x4_0 x4_1 x4_2 x5_0 x5_1 x5_2 x6_0 x6_1 x6_2
                   obtain ⟨b0_0, b0_1, b0_2⟩ := b0.c3
                   obtain ⟨b1_0, b1_1⟩ := b1.c2
                   obtain ⟨x1_0, x1_1, x1_2⟩ := x1.c3
                   obtain ⟨x4_0, x4_1, x4_2⟩ := x4.c3
                   obtain ⟨x5_0, x5_1, x5_2⟩ := x5.c3
                   obtain ⟨x6_0, x6_1, x6_2⟩ := x6.c3
                   replace x6_f0 := x6.free 0
                   replace x6_f1 := x6.free 1
                   replace x6_f2 := x6.free 2
                   clear u61)
                | (go_at_call 46
                   ((with_reducible refine (frac_max (MRow.sq MR) (by omega) (by omega) (by omega)).mono ?_))
                   rintro e W62 ⟨V62, rfl, mx1, u62⟩
                   replace X := X.up u62
                   replace MR := MR.up u62
                   replace FA := FA.up u62
                   replace hm2 := hm2.up u62
                   replace XQ := XQ.up u62
                   replace p := p.up u62
                   replace pd := pd.up u62
                   replace oo := oo.up u62
                   replace ood := ood.up u62
                   try (replace nn := nn.up u62)
                   try (replace of1 := of1.up u62)
                   try (replace in1 := in1.up u62)
                   try (replace mx1 := mx1.up u62)
                   replace b0 := b0.up u62
                   replace b1 := b1.up u62
                   replace x1 := x1.up u62
                   replace x4 := x4.up u62
                   replace x5 := x5.up u62
                   replace x6 := x6.up u62
                   replace UP := UP.trans u62
                   clear b0_0 b0_1 b0_2 b1_0 b1_1 x1_0 x1_1 x1_2 x4_0 x4_1 x4_2 x5_0 x5_1 x5_2 x6_0 x6_1 x6_2
                   obtain ⟨b0_0, b0_1, b0_2⟩ := b0.c3
                   obtain ⟨b1_0, b1_1⟩ := b1.c2
                   obtain ⟨x1_0, x1_1, x1_2⟩ := x1.c3
                   obtain ⟨x4_0, x4_1, x4_2⟩ := x4.c3
                   obtain ⟨x5_0, x5_1, x5_2⟩ := x5.c3
                   obtain ⟨x6_0, x6_1, x6_2⟩ := x6.c3
                   replace x6_f0 := x6.free 0
                   replace x6_f1 := x6.free 1
                   replace x6_f2 := x6.free 2
                   clear u62
                   rw [HBQ.out] at mx1)
                | (go_at_call 44
                   ((with_reducible refine (law_is9 mx1 X LM (by omega)).mono ?_))
                   rintro e W63 ⟨rfl, u63⟩
                   replace X := X.up u63
                   replace MR := MR.up u63
                   replace FA := FA.up u63
                   replace hm2 := hm2.up u63
                   replace XQ := XQ.up u63
                   replace p := p.up u63
                   replace pd := pd.up u63
                   replace oo := oo.up u63
                   replace ood := ood.up u63
                   try (replace nn := nn.up u63)
                   try (replace of1 := of1.up u63)
                   try (replace in1 := in1.up u63)
                   try (replace mx1 := mx1.up u63)
                   replace b0 := b0.up u63
                   replace b1 := b1.up u63
                   replace x1 := x1.up u63
                   replace x4 := x4.up u63
                   replace x5 := x5.up u63
                   replace x6 := x6.up u63
                   replace UP := UP.trans u63
                   clear b0_0 b0_1 b0_2 b1_0 b1_1 x1_0 x1_1 x1_2 x4_0 x4_1 x4_2 x5_0 x5_1 x5_2 x6_0 x6_1 x6_2
                   obtain ⟨b0_0, b0_1, b0_2⟩ := b0.c3
                   obtain ⟨b1_0, b1_1⟩ := b1.c2
                   obtain ⟨x1_0, x1_1, x1_2⟩ := x1.c3
                   obtain ⟨x4_0, x4_1, x4_2⟩ := x4.c3
                   obtain ⟨x5_0, x5_1, x5_2⟩ := x5.c3
                   obtain ⟨x6_0, x6_1, x6_2⟩ := x6.c3
                   replace x6_f0 := x6.free 0
                   replace x6_f1 := x6.free 1
                   replace x6_f2 := x6.free 2
                   clear u63)
                | (go_at_call 36
                   ((with_reducible refine (works9 _).mono ?_))
                   rintro e W64 ⟨rfl, u64⟩
                   replace X := X.up u64
                   replace MR := MR.up u64
                   replace FA := FA.up u64
                   replace hm2 := hm2.up u64
                   replace XQ := XQ.up u64
                   replace p := p.up u64
                   replace pd := pd.up u64
                   replace oo := oo.up u64
                   replace ood := ood.up u64
                   try (replace nn := nn.up u64)
                   try (replace of1 := of1.up u64)
                   try (replace in1 := in1.up u64)
                   try (replace mx1 := mx1.up u64)
                   replace b0 := b0.up u64
                   replace b1 := b1.up u64
                   replace x1 := x1.up u64
                   replace x4 := x4.up u64
                   replace x5 := x5.up u64
                   replace x6 := x6.up u64
                   replace UP := UP.trans u64
                   clear b0_0 b0_1 b0_2 b1_0 b1_1 x1_0 x1_1 x1_2 x4_0 x4_1 x4_2 x5_0 x5_1 x5_2 x6_0 x6_1 x6_2
                   obtain ⟨b0_0, b0_1, b0_2⟩ := b0.c3
                   obtain ⟨b1_0, b1_1⟩ := b1.c2
                   obtain ⟨x1_0, x1_1, x1_2⟩ := x1.c3
                   obtain ⟨x4_0, x4_1, x4_2⟩ := x4.c3
                   obtain ⟨x5_0, x5_1, x5_2⟩ := x5.c3
                   obtain ⟨x6_0, x6_1, x6_2⟩ := x6.c3
                   replace x6_f0 := x6.free 0
                   replace x6_f1 := x6.free 1
                   replace x6_f2 := x6.free 2
                   clear u64)))
          all_goals
            go_wp2
            go_ret
            exact ⟨rfl, UP⟩
        · have HOK : Hid ((!decide (y = 0)) = true) := Lib.hid (by simp [hy0])
          obtain ⟨PP, HPP⟩ : ∃ P, Hid ((0 : Rat) = P) := ⟨_, Lib.hid rfl⟩
          have kY : (y != 0) = true := by simp [hy0]
          clear hy0
          obtain ⟨b0_0, b0_1, b0_2⟩ := b0.c3
          obtain ⟨b1_0, b1_1⟩ := b1.c2
          obtain ⟨x1_0, x1_1, x1_2⟩ := x1.c3
          obtain ⟨x4_0, x4_1, x4_2⟩ := x4.c3
          have hql : qs.length ≤ 1000000 := by rw [HLEN.out]; omega
          go_wp2_with fail
          ((with_reducible refine (frac_ratio hx hy _).mono ?_))
          rintro e W51 ⟨V51, rfl, p, u51⟩
          replace X := X.up u51
          replace MR := MR.up u51
          replace FA := FA.up u51
          replace hm2 := hm2.up u51
          replace XQ := XQ.up u51
          replace b0 := b0.up u51
          replace b1 := b1.up u51
          replace x1 := x1.up u51
          replace x4 := x4.up u51
          replace UP := UP.trans u51
          clear b0_0 b0_1 b0_2 b1_0 b1_1 x1_0 x1_1 x1_2 x4_0 x4_1 x4_2
          obtain ⟨b0_0, b0_1, b0_2⟩ := b0.c3
          obtain ⟨b1_0, b1_1⟩ := b1.c2
          obtain ⟨x1_0, x1_1, x1_2⟩ := x1.c3
          obtain ⟨x4_0, x4_1, x4_2⟩ := x4.c3
          clear u51
          rw [HT.out] at p
          rw [HOK.out]
          obtain ⟨Xp, Yp, rfl, p, pd⟩ := p
          obtain ⟨Ap, np, cp, rfl⟩ := p.shape
          obtain ⟨Apd, npd, cpd, rfl⟩ := pd.shape
          have b0_0a := fun O0 => (cell_alloc (o := O0) b0_0)
          have b0_1a := fun O0 => (cell_alloc (o := O0) b0_1)
          have b0_2a := fun O0 => (cell_alloc (o := O0) b0_2)
          have b1_0a := fun O0 => (cell_alloc (o := O0) b1_0)
          have b1_1a := fun O0 => (cell_alloc (o := O0) b1_1)
          have x1_0a := fun O0 => (cell_alloc (o := O0) x1_0)
          have x1_1a := fun O0 => (cell_alloc (o := O0) x1_1)
          have x1_2a := fun O0 => (cell_alloc (o := O0) x1_2)
          have x4_0a := fun O0 => (cell_alloc (o := O0) x4_0)
          have x4_1a := fun O0 => (cell_alloc (o := O0) x4_1)
          have x4_2a := fun O0 => (cell_alloc (o := O0) x4_2)
          go_wp2_with fail
          clear b0_0a b0_1a b0_2a b1_0a b1_1a x1_0a x1_1a x1_2a x4_0a x4_1a x4_2a
          have x5 := Bx.new 69 W51 [.bool (Wd.ngb T.num), .slice Ap np cp, .slice Apd npd cpd]
          have b0_lt_x5 := b0.lt
          have b1_lt_x5 := b1.lt
          have x1_lt_x5 := x1.lt
          have x4_lt_x5 := x4.lt
          replace X := X.up ((Up.refl W51).alloc (.cells #[.bool (Wd.ngb T.num), .slice Ap np cp, .slice Apd npd cpd] 69))
          replace MR := MR.up ((Up.refl W51).alloc (.cells #[.bool (Wd.ngb T.num), .slice Ap np cp, .slice Apd npd cpd] 69))
          replace FA := FA.up ((Up.refl W51).alloc (.cells #[.bool (Wd.ngb T.num), .slice Ap np cp, .slice Apd npd cpd] 69))
          replace hm2 := hm2.up ((Up.refl W51).alloc (.cells #[.bool (Wd.ngb T.num), .slice Ap np cp, .slice Apd npd cpd] 69))
          replace XQ := XQ.up ((Up.refl W51).alloc (.cells #[.bool (Wd.ngb T.num), .slice Ap np cp, .slice Apd npd cpd] 69))
          replace p := p.up ((Up.refl W51).alloc (.cells #[.bool (Wd.ngb T.num), .slice Ap np cp, .slice Apd npd cpd] 69))
          replace pd := pd.up ((Up.refl W51).alloc (.cells #[.bool (Wd.ngb T.num), .slice Ap np cp, .slice Apd npd cpd] 69))
          replace b0 := b0.up ((Up.refl W51).alloc (.cells #[.bool (Wd.ngb T.num), .slice Ap np cp, .slice Apd npd cpd] 69))
          replace b1 := b1.up ((Up.refl W51).alloc (.cells #[.bool (Wd.ngb T.num), .slice Ap np cp, .slice Apd npd cpd] 69))
          replace x1 := x1.up ((Up.refl W51).alloc (.cells #[.bool (Wd.ngb T.num), .slice Ap np cp, .slice Apd npd cpd] 69))
          replace x4 := x4.up ((Up.refl W51).alloc (.cells #[.bool (Wd.ngb T.num), .slice Ap np cp, .slice Apd npd cpd] 69))
          replace UP := UP.trans ((Up.refl W51).alloc (.cells #[.bool (Wd.ngb T.num), .slice Ap np cp, .slice Apd npd cpd] 69))
          generalize (W51.alloc (.cells #[.bool (Wd.ngb T.num), .slice Ap np cp, .slice Apd npd cpd] 69)) = W52 at *
          clear b0_0 b0_1 b0_2 b1_0 b1_1 x1_0 x1_1 x1_2 x4_0 x4_1 x4_2
          obtain ⟨b0_0, b0_1, b0_2⟩ := b0.c3
          obtain ⟨b1_0, b1_1⟩ := b1.c2
          obtain ⟨x1_0, x1_1, x1_2⟩ := x1.c3
          obtain ⟨x4_0, x4_1, x4_2⟩ := x4.c3
          obtain ⟨x5_0, x5_1, x5_2⟩ := x5.c3
          ((with_reducible refine (ref9_int0m _).mono ?_))
          rintro e W53 ⟨V53, rfl, oo, u53⟩
          replace X := X.up u53
          replace MR := MR.up u53
          replace FA := FA.up u53
          replace hm2 := hm2.up u53
          replace XQ := XQ.up u53
          replace p := p.up u53
          replace pd := pd.up u53
          replace b0 := b0.up u53
          replace b1 := b1.up u53
          replace x1 := x1.up u53
          replace x4 := x4.up u53
          replace x5 := x5.up u53
          replace UP := UP.trans u53
          clear b0_0 b0_1 b0_2 b1_0 b1_1 x1_0 x1_1 x1_2 x4_0 x4_1 x4_2 x5_0 x5_1 x5_2
          obtain ⟨b0_0, b0_1, b0_2⟩ := b0.c3
          obtain ⟨b1_0, b1_1⟩ := b1.c2
          obtain ⟨x1_0, x1_1, x1_2⟩ := x1.c3
          obtain ⟨x4_0, x4_1, x4_2⟩ := x4.c3
          obtain ⟨x5_0, x5_1, x5_2⟩ := x5.c3
          clear u53
          rw [HPP.out] at oo
          obtain ⟨Xoo, Yoo, rfl, oo, ood⟩ := oo
          obtain ⟨Aoo, noo, coo, rfl⟩ := oo.shape
          obtain ⟨Aood, nood, cood, rfl⟩ := ood.shape
          have b0_0a := fun O0 => (cell_alloc (o := O0) b0_0)
          have b0_1a := fun O0 => (cell_alloc (o := O0) b0_1)
          have b0_2a := fun O0 => (cell_alloc (o := O0) b0_2)
          have b1_0a := fun O0 => (cell_alloc (o := O0) b1_0)
          have b1_1a := fun O0 => (cell_alloc (o := O0) b1_1)
          have x1_0a := fun O0 => (cell_alloc (o := O0) x1_0)
          have x1_1a := fun O0 => (cell_alloc (o := O0) x1_1)
          have x1_2a := fun O0 => (cell_alloc (o := O0) x1_2)
          have x4_0a := fun O0 => (cell_alloc (o := O0) x4_0)
          have x4_1a := fun O0 => (cell_alloc (o := O0) x4_1)
          have x4_2a := fun O0 => (cell_alloc (o := O0) x4_2)
          have x5_0a := fun O0 => (cell_alloc (o := O0) x5_0)
          have x5_1a := fun O0 => (cell_alloc (o := O0) x5_1)
          have x5_2a := fun O0 => (cell_alloc (o := O0) x5_2)
          go_wp2_with fail
          clear b0_0a b0_1a b0_2a b1_0a b1_1a x1_0a x1_1a x1_2a x4_0a x4_1a x4_2a x5_0a x5_1a x5_2a
          have x6 := Bx.new 61 W53 [.bool (Wd.ngb PP.num), .slice Aoo noo coo, .slice Aood nood cood]
          have b0_lt_x6 := b0.lt
          have b0_ne_x6 : ¬ (w.heap.size = W53.heap.size) := by omega
          have b0_en_x6 : ¬ (W53.heap.size = w.heap.size) := by omega
          have b1_lt_x6 := b1.lt
          have b1_ne_x6 : ¬ (w.heap.size + 1 = W53.heap.size) := by omega
          have b1_en_x6 : ¬ (W53.heap.size = w.heap.size + 1) := by omega
          have x1_lt_x6 := x1.lt
          have x1_ne_x6 : ¬ (W2.heap.size = W53.heap.size) := by omega
          have x1_en_x6 : ¬ (W53.heap.size = W2.heap.size) := by omega
          have x4_lt_x6 := x4.lt
          have x4_ne_x6 : ¬ (g = W53.heap.size) := by omega
          have x4_en_x6 : ¬ (W53.heap.size = g) := by omega
          have x5_lt_x6 := x5.lt
          have x5_ne_x6 : ¬ (W51.heap.size = W53.heap.size) := by omega
          have x5_en_x6 : ¬ (W53.heap.size = W51.heap.size) := by omega
          replace X := X.up ((Up.refl W53).alloc (.cells #[.bool (Wd.ngb PP.num), .slice Aoo noo coo, .slice Aood nood cood] 61))
          replace MR := MR.up ((Up.refl W53).alloc (.cells #[.bool (Wd.ngb PP.num), .slice Aoo noo coo, .slice Aood nood cood] 61))
          replace FA := FA.up ((Up.refl W53).alloc (.cells #[.bool (Wd.ngb PP.num), .slice Aoo noo coo, .slice Aood nood cood] 61))
          replace hm2 := hm2.up ((Up.refl W53).alloc (.cells #[.bool (Wd.ngb PP.num), .slice Aoo noo coo, .slice Aood nood cood] 61))
          replace XQ := XQ.up ((Up.refl W53).alloc (.cells #[.bool (Wd.ngb PP.num), .slice Aoo noo coo, .slice Aood nood cood] 61))
          replace p := p.up ((Up.refl W53).alloc (.cells #[.bool (Wd.ngb PP.num), .slice Aoo noo coo, .slice Aood nood cood] 61))
          replace pd := pd.up ((Up.refl W53).alloc (.cells #[.bool (Wd.ngb PP.num), .slice Aoo noo coo, .slice Aood nood cood] 61))
          replace oo := oo.up ((Up.refl W53).alloc (.cells #[.bool (Wd.ngb PP.num), .slice Aoo noo coo, .slice Aood nood cood] 61))
          replace ood := ood.up ((Up.refl W53).alloc (.cells #[.bool (Wd.ngb PP.num), .slice Aoo noo coo, .slice Aood nood cood] 61))
          replace b0 := b0.up ((Up.refl W53).alloc (.cells #[.bool (Wd.ngb PP.num), .slice Aoo noo coo, .slice Aood nood cood] 61))
          replace b1 := b1.up ((Up.refl W53).alloc (.cells #[.bool (Wd.ngb PP.num), .slice Aoo noo coo, .slice Aood nood cood] 61))
          replace x1 := x1.up ((Up.refl W53).alloc (.cells #[.bool (Wd.ngb PP.num), .slice Aoo noo coo, .slice Aood nood cood] 61))
          replace x4 := x4.up ((Up.refl W53).alloc (.cells #[.bool (Wd.ngb PP.num), .slice Aoo noo coo, .slice Aood nood cood] 61))
          replace x5 := x5.up ((Up.refl W53).alloc (.cells #[.bool (Wd.ngb PP.num), .slice Aoo noo coo, .slice Aood nood cood] 61))
          replace UP := UP.trans ((Up.refl W53).alloc (.cells #[.bool (Wd.ngb PP.num), .slice Aoo noo coo, .slice Aood nood cood] 61))
          generalize (W53.alloc (.cells #[.bool (Wd.ngb PP.num), .slice Aoo noo coo, .slice Aood nood cood] 61)) = W54 at *
          clear b0_0 b0_1 b0_2 b1_0 b1_1 x1_0 x1_1 x1_2 x4_0 x4_1 x4_2 x5_0 x5_1 x5_2
          obtain ⟨b0_0, b0_1, b0_2⟩ := b0.c3
          obtain ⟨b1_0, b1_1⟩ := b1.c2
          obtain ⟨x1_0, x1_1, x1_2⟩ := x1.c3
          obtain ⟨x4_0, x4_1, x4_2⟩ := x4.c3
          obtain ⟨x5_0, x5_1, x5_2⟩ := x5.c3
          obtain ⟨x6_0, x6_1, x6_2⟩ := x6.c3
          have x6_f0 := x6.free 0
          have x6_f1 := x6.free 1
          have x6_f2 := x6.free 2
          replace X := X.up (Up.refl W54).drew
          replace MR := MR.up (Up.refl W54).drew
          replace FA := FA.up (Up.refl W54).drew
          replace hm2 := hm2.up (Up.refl W54).drew
          replace XQ := XQ.up (Up.refl W54).drew
          replace p := p.up (Up.refl W54).drew
          replace pd := pd.up (Up.refl W54).drew
          replace oo := oo.up (Up.refl W54).drew
          replace ood := ood.up (Up.refl W54).drew
          replace b0 := b0.up (Up.refl W54).drew
          replace b1 := b1.up (Up.refl W54).drew
          replace x1 := x1.up (Up.refl W54).drew
          replace x4 := x4.up (Up.refl W54).drew
          replace x5 := x5.up (Up.refl W54).drew
          replace x6 := x6.up (Up.refl W54).drew
          replace UP := UP.trans (Up.refl W54).drew
          clear b0_0 b0_1 b0_2 b1_0 b1_1 x1_0 x1_1 x1_2 x4_0 x4_1 x4_2 x5_0 x5_1 x5_2
          obtain ⟨b0_0, b0_1, b0_2⟩ := b0.c3
          obtain ⟨b1_0, b1_1⟩ := b1.c2
          obtain ⟨x1_0, x1_1, x1_2⟩ := x1.c3
          obtain ⟨x4_0, x4_1, x4_2⟩ := x4.c3
          obtain ⟨x5_0, x5_1, x5_2⟩ := x5.c3
          obtain ⟨x6_0, x6_1, x6_2⟩ := x6.c3
          have x6_f0 := x6.free 0
          have x6_f1 := x6.free 1
          have x6_f2 := x6.free 2
          go_region_held3 (fun w' => Up w w' ∧ w'.cell? ⟨w.heap.size + 1, 0, none⟩ = some (.int .i64 x) ∧ w'.cell? ⟨w.heap.size + 1, 1, none⟩ = some (.int .i64 y))
              (first | with_reducible exact ⟨UP, b1_0, b1_1⟩ | with_reducible exact ⟨(((UP.setCell (p := ⟨W53.heap.size, 0, none⟩) (by dsimp only; omega) _).setCell (p := ⟨W53.heap.size, 1, none⟩) (by dsimp only; omega) _).setCell (p := ⟨W53.heap.size, 2, none⟩) (by dsimp only; omega) _), (cell_far_block (cell_far_block (cell_far_block b1_0 (by dsimp only; omega)) (by dsimp only; omega)) (by dsimp only; omega)), (cell_far_block (cell_far_block (cell_far_block b1_1 (by dsimp only; omega)) (by dsimp only; omega)) (by dsimp only; omega))⟩ | with_reducible exact ⟨(UP.alloc_drew _), (cell_alloc_drew b1_0), (cell_alloc_drew b1_1)⟩ | with_reducible exact ⟨(UP.alloc2_drew _ _), (cell_alloc2_drew b1_0), (cell_alloc2_drew b1_1)⟩ | (simp only [← World.setCell_drew]; first | with_reducible exact ⟨(((UP.setCell (p := ⟨W53.heap.size, 0, none⟩) (by dsimp only; omega) _).setCell (p := ⟨W53.heap.size, 1, none⟩) (by dsimp only; omega) _).setCell (p := ⟨W53.heap.size, 2, none⟩) (by dsimp only; omega) _), (cell_far_block (cell_far_block (cell_far_block b1_0 (by dsimp only; omega)) (by dsimp only; omega)) (by dsimp only; omega)), (cell_far_block (cell_far_block (cell_far_block b1_1 (by dsimp only; omega)) (by dsimp only; omega)) (by dsimp only; omega))⟩) | go_keep)
              ((first
                | (go_at_call 37
                   ((with_reducible refine (ref9_int hx _).mono ?_))
                   rintro e W55 ⟨V55, rfl, i1, u55⟩
                   replace X := X.up u55
                   replace MR := MR.up u55
                   replace FA := FA.up u55
                   replace hm2 := hm2.up u55
                   replace XQ := XQ.up u55
                   replace p := p.up u55
                   replace pd := pd.up u55
                   replace oo := oo.up u55
                   replace ood := ood.up u55
                   try (replace i1 := i1.up u55)
                   try (replace i2 := i2.up u55)
                   try (replace t := t.up u55)
                   replace b0 := b0.up u55
                   replace b1 := b1.up u55
                   replace x1 := x1.up u55
                   replace x4 := x4.up u55
                   replace x5 := x5.up u55
                   replace x6 := x6.up u55
                   replace UP := UP.trans u55
                   clear b0_0 b0_1 b0_2 b1_0 b1_1 x1_0 x1_1 x1_2 x4_0 x4_1 x4_2 x5_0 x5_1 x5_2 x6_0 x6_1 x6_2
                   obtain ⟨b0_0, b0_1, b0_2⟩ := b0.c3
                   obtain ⟨b1_0, b1_1⟩ := b1.c2
                   obtain ⟨x1_0, x1_1, x1_2⟩ := x1.c3
                   obtain ⟨x4_0, x4_1, x4_2⟩ := x4.c3
                   obtain ⟨x5_0, x5_1, x5_2⟩ := x5.c3
                   obtain ⟨x6_0, x6_1, x6_2⟩ := x6.c3
                   replace x6_f0 := x6.free 0
                   replace x6_f1 := x6.free 1
                   replace x6_f2 := x6.free 2
                   clear u55)
                | (go_at_call 37
                   ((with_reducible refine (ref9_int hy _).mono ?_))
                   rintro e W56 ⟨V56, rfl, i2, u56⟩
                   replace X := X.up u56
                   replace MR := MR.up u56
                   replace FA := FA.up u56
                   replace hm2 := hm2.up u56
                   replace XQ := XQ.up u56
                   replace p := p.up u56
                   replace pd := pd.up u56
                   replace oo := oo.up u56
                   replace ood := ood.up u56
                   try (replace i1 := i1.up u56)
                   try (replace i2 := i2.up u56)
                   try (replace t := t.up u56)
                   replace b0 := b0.up u56
                   replace b1 := b1.up u56
                   replace x1 := x1.up u56
                   replace x4 := x4.up u56
                   replace x5 := x5.up u56
                   replace x6 := x6.up u56
                   replace UP := UP.trans u56
                   clear b0_0 b0_1 b0_2 b1_0 b1_1 x1_0 x1_1 x1_2 x4_0 x4_1 x4_2 x5_0 x5_1 x5_2 x6_0 x6_1 x6_2
                   obtain ⟨b0_0, b0_1, b0_2⟩ := b0.c3
                   obtain ⟨b1_0, b1_1⟩ := b1.c2
                   obtain ⟨x1_0, x1_1, x1_2⟩ := x1.c3
                   obtain ⟨x4_0, x4_1, x4_2⟩ := x4.c3
                   obtain ⟨x5_0, x5_1, x5_2⟩ := x5.c3
                   obtain ⟨x6_0, x6_1, x6_2⟩ := x6.c3
                   replace x6_f0 := x6.free 0
                   replace x6_f1 := x6.free 1
                   replace x6_f2 := x6.free 2
                   clear u56)
                | (go_at_call 43
                   ((with_reducible refine (ref9_quo i1 i2 (lq_int hx) (lq_int hy) (by omega) (by omega)).mono ?_))
                   rintro e W57 ⟨V57, rfl, t, u57⟩
                   replace X := X.up u57
                   replace MR := MR.up u57
                   replace FA := FA.up u57
                   replace hm2 := hm2.up u57
                   replace XQ := XQ.up u57
                   replace p := p.up u57
                   replace pd := pd.up u57
                   replace oo := oo.up u57
                   replace ood := ood.up u57
                   try (replace i1 := i1.up u57)
                   try (replace i2 := i2.up u57)
                   try (replace t := t.up u57)
                   replace b0 := b0.up u57
                   replace b1 := b1.up u57
                   replace x1 := x1.up u57
                   replace x4 := x4.up u57
                   replace x5 := x5.up u57
                   replace x6 := x6.up u57
                   replace UP := UP.trans u57
                   clear b0_0 b0_1 b0_2 b1_0 b1_1 x1_0 x1_1 x1_2 x4_0 x4_1 x4_2 x5_0 x5_1 x5_2 x6_0 x6_1 x6_2
                   obtain ⟨b0_0, b0_1, b0_2⟩ := b0.c3
                   obtain ⟨b1_0, b1_1⟩ := b1.c2
                   obtain ⟨x1_0, x1_1, x1_2⟩ := x1.c3
                   obtain ⟨x4_0, x4_1, x4_2⟩ := x4.c3
                   obtain ⟨x5_0, x5_1, x5_2⟩ := x5.c3
                   obtain ⟨x6_0, x6_1, x6_2⟩ := x6.c3
                   replace x6_f0 := x6.free 0
                   replace x6_f1 := x6.free 1
                   replace x6_f2 := x6.free 2
                   clear u57
                   rw [HT.out] at t
                   obtain ⟨Xt, Yt, rfl, t, td⟩ := t
                   obtain ⟨At, nt, ct, rfl⟩ := t.shape
                   obtain ⟨Atd, ntd, ctd, rfl⟩ := td.shape)))
          go_wp2_with fail
          clear x6_f0 x6_f1 x6_f2
          have KW : Kw (W57) ((W57).setCell ⟨W53.heap.size, 0, none⟩ (.bool (Wd.ngb T.num))) := Kw.store (c := (.bool (Wd.ngb PP.num))) x6 rfl trivial _
          replace X := X.kw KW
          replace MR := MR.stored x6 (by decide) KW
          replace FA := FA.kw KW
          replace hm2 := hm2.kw KW
          replace XQ := XQ.kw KW
          replace p := p.kw KW
          replace pd := pd.kw KW
          replace oo := oo.kw KW
          replace ood := ood.kw KW
          replace i1 := i1.kw KW
          replace i2 := i2.kw KW
          replace t := t.kw KW
          replace td := td.kw KW
          replace b0 := b0.far (p := ⟨W53.heap.size, 0, none⟩) (by dsimp only; omega) (.bool (Wd.ngb T.num))
          replace b1 := b1.far (p := ⟨W53.heap.size, 0, none⟩) (by dsimp only; omega) (.bool (Wd.ngb T.num))
          replace x1 := x1.far (p := ⟨W53.heap.size, 0, none⟩) (by dsimp only; omega) (.bool (Wd.ngb T.num))
          replace x4 := x4.far (p := ⟨W53.heap.size, 0, none⟩) (by dsimp only; omega) (.bool (Wd.ngb T.num))
          replace x5 := x5.far (p := ⟨W53.heap.size, 0, none⟩) (by dsimp only; omega) (.bool (Wd.ngb T.num))
          replace x6 : Bx 61 ((W57).setCell ⟨W53.heap.size, 0, none⟩ (.bool (Wd.ngb T.num))) (W53.heap.size) [.bool (Wd.ngb T.num), .slice Aoo noo coo, .slice Aood nood cood] := x6.set 0 (.bool (Wd.ngb T.num))
          replace UP := UP.setCell (p := ⟨W53.heap.size, 0, none⟩) (by dsimp only; omega) (.bool (Wd.ngb T.num))
          have KW : Kw (((W57).setCell ⟨W53.heap.size, 0, none⟩ (.bool (Wd.ngb T.num)))) ((((W57).setCell ⟨W53.heap.size, 0, none⟩ (.bool (Wd.ngb T.num)))).setCell ⟨W53.heap.size, 1, none⟩ (.slice At nt ct)) := Kw.store (c := (.slice Aoo noo coo)) x6 rfl trivial _
          replace X := X.kw KW
          replace MR := MR.stored x6 (by decide) KW
          replace FA := FA.kw KW
          replace hm2 := hm2.kw KW
          replace XQ := XQ.kw KW
          replace p := p.kw KW
          replace pd := pd.kw KW
          replace oo := oo.kw KW
          replace ood := ood.kw KW
          replace i1 := i1.kw KW
          replace i2 := i2.kw KW
          replace t := t.kw KW
          replace td := td.kw KW
          replace b0 := b0.far (p := ⟨W53.heap.size, 1, none⟩) (by dsimp only; omega) (.slice At nt ct)
          replace b1 := b1.far (p := ⟨W53.heap.size, 1, none⟩) (by dsimp only; omega) (.slice At nt ct)
          replace x1 := x1.far (p := ⟨W53.heap.size, 1, none⟩) (by dsimp only; omega) (.slice At nt ct)
          replace x4 := x4.far (p := ⟨W53.heap.size, 1, none⟩) (by dsimp only; omega) (.slice At nt ct)
          replace x5 := x5.far (p := ⟨W53.heap.size, 1, none⟩) (by dsimp only; omega) (.slice At nt ct)
          replace x6 : Bx 61 ((((W57).setCell ⟨W53.heap.size, 0, none⟩ (.bool (Wd.ngb T.num)))).setCell ⟨W53.heap.size, 1, none⟩ (.slice At nt ct)) (W53.heap.size) [.bool (Wd.ngb T.num), .slice At nt ct, .slice Aood nood cood] := x6.set 1 (.slice At nt ct)
          replace UP := UP.setCell (p := ⟨W53.heap.size, 1, none⟩) (by dsimp only; omega) (.slice At nt ct)
          have KW : Kw (((((W57).setCell ⟨W53.heap.size, 0, none⟩ (.bool (Wd.ngb T.num)))).setCell ⟨W53.heap.size, 1, none⟩ (.slice At nt ct))) ((((((W57).setCell ⟨W53.heap.size, 0, none⟩ (.bool (Wd.ngb T.num)))).setCell ⟨W53.heap.size, 1, none⟩ (.slice At nt ct))).setCell ⟨W53.heap.size, 2, none⟩ (.slice Atd ntd ctd)) := Kw.store (c := (.slice Aood nood cood)) x6 rfl trivial _
          replace X := X.kw KW
          replace MR := MR.stored x6 (by decide) KW
          replace FA := FA.kw KW
          replace hm2 := hm2.kw KW
          replace XQ := XQ.kw KW
          replace p := p.kw KW
          replace pd := pd.kw KW
          replace oo := oo.kw KW
          replace ood := ood.kw KW
          replace i1 := i1.kw KW
          replace i2 := i2.kw KW
          replace t := t.kw KW
          replace td := td.kw KW
          replace b0 := b0.far (p := ⟨W53.heap.size, 2, none⟩) (by dsimp only; omega) (.slice Atd ntd ctd)
          replace b1 := b1.far (p := ⟨W53.heap.size, 2, none⟩) (by dsimp only; omega) (.slice Atd ntd ctd)
          replace x1 := x1.far (p := ⟨W53.heap.size, 2, none⟩) (by dsimp only; omega) (.slice Atd ntd ctd)
          replace x4 := x4.far (p := ⟨W53.heap.size, 2, none⟩) (by dsimp only; omega) (.slice Atd ntd ctd)
          replace x5 := x5.far (p := ⟨W53.heap.size, 2, none⟩) (by dsimp only; omega) (.slice Atd ntd ctd)
          replace x6 : Bx 61 ((((((W57).setCell ⟨W53.heap.size, 0, none⟩ (.bool (Wd.ngb T.num)))).setCell ⟨W53.heap.size, 1, none⟩ (.slice At nt ct))).setCell ⟨W53.heap.size, 2, none⟩ (.slice Atd ntd ctd)) (W53.heap.size) [.bool (Wd.ngb T.num), .slice At nt ct, .slice Atd ntd ctd] := x6.set 2 (.slice Atd ntd ctd)
          replace UP := UP.setCell (p := ⟨W53.heap.size, 2, none⟩) (by dsimp only; omega) (.slice Atd ntd ctd)
          clear KW
          generalize ((((((W57).setCell ⟨W53.heap.size, 0, none⟩ (.bool (Wd.ngb T.num)))).setCell ⟨W53.heap.size, 1, none⟩ (.slice At nt ct))).setCell ⟨W53.heap.size, 2, none⟩ (.slice Atd ntd ctd)) = W58 at *
          clear b0_0 b0_1 b0_2 b1_0 b1_1 x1_0 x1_1 x1_2 x4_0 x4_1 x4_2 x5_0 x5_1 x5_2 x6_0 x6_1 x6_2
          obtain ⟨b0_0, b0_1, b0_2⟩ := b0.c3
          obtain ⟨b1_0, b1_1⟩ := b1.c2
          obtain ⟨x1_0, x1_1, x1_2⟩ := x1.c3
          obtain ⟨x4_0, x4_1, x4_2⟩ := x4.c3
          obtain ⟨x5_0, x5_1, x5_2⟩ := x5.c3
          obtain ⟨x6_0, x6_1, x6_2⟩ := x6.c3
          have kZ := HZK.out
          have kKK : (K == K) = true := by simp
          replace X := X.up (Up.refl W58).drew
          replace MR := MR.up (Up.refl W58).drew
          replace FA := FA.up (Up.refl W58).drew
          replace hm2 := hm2.up (Up.refl W58).drew
          replace XQ := XQ.up (Up.refl W58).drew
          replace p := p.up (Up.refl W58).drew
          replace pd := pd.up (Up.refl W58).drew
          replace oo := oo.up (Up.refl W58).drew
          replace ood := ood.up (Up.refl W58).drew
          replace i1 := i1.up (Up.refl W58).drew
          replace i2 := i2.up (Up.refl W58).drew
          replace t := t.up (Up.refl W58).drew
          replace td := td.up (Up.refl W58).drew
          replace b0 := b0.up (Up.refl W58).drew
          replace b1 := b1.up (Up.refl W58).drew
          replace x1 := x1.up (Up.refl W58).drew
          replace x4 := x4.up (Up.refl W58).drew
          replace x5 := x5.up (Up.refl W58).drew
          replace x6 := x6.up (Up.refl W58).drew
          replace UP := UP.trans (Up.refl W58).drew
          clear b0_0 b0_1 b0_2 b1_0 b1_1 x1_0 x1_1 x1_2 x4_0 x4_1 x4_2 x5_0 x5_1 x5_2 x6_0 x6_1 x6_2
          obtain ⟨b0_0, b0_1, b0_2⟩ := b0.c3
          obtain ⟨b1_0, b1_1⟩ := b1.c2
          obtain ⟨x1_0, x1_1, x1_2⟩ := x1.c3
          obtain ⟨x4_0, x4_1, x4_2⟩ := x4.c3
          obtain ⟨x5_0, x5_1, x5_2⟩ := x5.c3
          obtain ⟨x6_0, x6_1, x6_2⟩ := x6.c3
          go_region_held3 (fun w' => Up w w' ∧ w'.cell? ⟨w.heap.size, 0, none⟩ = some (.bool s) ∧ w'.cell? ⟨w.heap.size, 1, none⟩ = some (.slice A l.length c) ∧ w'.cell? ⟨w.heap.size, 2, none⟩ = some (.slice D m.length d) ∧ w'.cell? ⟨w.heap.size + 1, 0, none⟩ = some (.int .i64 x) ∧ w'.cell? ⟨w.heap.size + 1, 1, none⟩ = some (.int .i64 y) ∧ w'.cell? ⟨W2.heap.size, 0, none⟩ = some (.bool s') ∧ w'.cell? ⟨W2.heap.size, 1, none⟩ = some (.slice A' n1 c1) ∧ w'.cell? ⟨W2.heap.size, 2, none⟩ = some (.slice D' n2 c2) ∧ w'.cell? ⟨g, 0, none⟩ = some (.bool (Wd.ngb qa.num)) ∧ w'.cell? ⟨g, 1, none⟩ = some (.slice A1 m1 d1) ∧ w'.cell? ⟨g, 2, none⟩ = some (.slice A2 m2 d2) ∧ w'.cell? ⟨W51.heap.size, 0, none⟩ = some (.bool (Wd.ngb T.num)) ∧ w'.cell? ⟨W51.heap.size, 1, none⟩ = some (.slice Ap np cp) ∧ w'.cell? ⟨W51.heap.size, 2, none⟩ = some (.slice Apd npd cpd) ∧ w'.cell? ⟨W53.heap.size, 0, none⟩ = some (.bool (Wd.ngb T.num)) ∧ w'.cell? ⟨W53.heap.size, 1, none⟩ = some (.slice At nt ct) ∧ w'.cell? ⟨W53.heap.size, 2, none⟩ = some (.slice Atd ntd ctd))
              (first | with_reducible exact ⟨UP, b0_0, b0_1, b0_2, b1_0, b1_1, x1_0, x1_1, x1_2, x4_0, x4_1, x4_2, x5_0, x5_1, x5_2, x6_0, x6_1, x6_2⟩ | with_reducible exact ⟨UP, b0_0, b0_1, b0_2, b1_0, b1_1, x1_0, x1_1, x1_2, x4_0, x4_1, x4_2, x5_0, x5_1, x5_2, x6_0, x6_1, x6_2⟩ | with_reducible exact ⟨(UP.alloc_drew _), (cell_alloc_drew b0_0), (cell_alloc_drew b0_1), (cell_alloc_drew b0_2), (cell_alloc_drew b1_0), (cell_alloc_drew b1_1), (cell_alloc_drew x1_0), (cell_alloc_drew x1_1), (cell_alloc_drew x1_2), (cell_alloc_drew x4_0), (cell_alloc_drew x4_1), (cell_alloc_drew x4_2), (cell_alloc_drew x5_0), (cell_alloc_drew x5_1), (cell_alloc_drew x5_2), (cell_alloc_drew x6_0), (cell_alloc_drew x6_1), (cell_alloc_drew x6_2)⟩ | with_reducible exact ⟨(UP.alloc2_drew _ _), (cell_alloc2_drew b0_0), (cell_alloc2_drew b0_1), (cell_alloc2_drew b0_2), (cell_alloc2_drew b1_0), (cell_alloc2_drew b1_1), (cell_alloc2_drew x1_0), (cell_alloc2_drew x1_1), (cell_alloc2_drew x1_2), (cell_alloc2_drew x4_0), (cell_alloc2_drew x4_1), (cell_alloc2_drew x4_2), (cell_alloc2_drew x5_0), (cell_alloc2_drew x5_1), (cell_alloc2_drew x5_2), (cell_alloc2_drew x6_0), (cell_alloc2_drew x6_1), (cell_alloc2_drew x6_2)⟩ | (simp only [← World.setCell_drew]; first | with_reducible exact ⟨UP, b0_0, b0_1, b0_2, b1_0, b1_1, x1_0, x1_1, x1_2, x4_0, x4_1, x4_2, x5_0, x5_1, x5_2, x6_0, x6_1, x6_2⟩) | go_keep)
              ((first
                | (go_at_call 40
                   ((with_reducible refine (ref9_norm FA (by omega)).mono ?_))
                   rintro e W59 ⟨V59, rfl, nn, u59⟩
                   replace X := X.up u59
                   replace MR := MR.up u59
                   replace FA := FA.up u59
                   replace hm2 := hm2.up u59
                   replace XQ := XQ.up u59
                   replace p := p.up u59
                   replace pd := pd.up u59
                   replace oo := oo.up u59
                   replace ood := ood.up u59
                   replace i1 := i1.up u59
                   replace i2 := i2.up u59
                   replace t := t.up u59
                   replace td := td.up u59
                   try (replace nn := nn.up u59)
                   try (replace of1 := of1.up u59)
                   try (replace in1 := in1.up u59)
                   try (replace mx1 := mx1.up u59)
                   replace b0 := b0.up u59
                   replace b1 := b1.up u59
                   replace x1 := x1.up u59
                   replace x4 := x4.up u59
                   replace x5 := x5.up u59
                   replace x6 := x6.up u59
                   replace UP := UP.trans u59
                   clear b0_0 b0_1 b0_2 b1_0 b1_1 x1_0 x1_1 x1_2 x4_0 x4_1 x4_2 x5_0 x5_1 x5_2 x6_0 x6_1 x6_2
                   obtain ⟨b0_0, b0_1, b0_2⟩ := b0.c3
                   obtain ⟨b1_0, b1_1⟩ := b1.c2
                   obtain ⟨x1_0, x1_1, x1_2⟩ := x1.c3
                   obtain ⟨x4_0, x4_1, x4_2⟩ := x4.c3
                   obtain ⟨x5_0, x5_1, x5_2⟩ := x5.c3
                   obtain ⟨x6_0, x6_1, x6_2⟩ := x6.c3
                   clear u59)
                | (go_at_call 44
                   ((with_reducible refine (law_is9 XQ nn LA (by omega)).mono ?_))
                   rintro e W60 ⟨rfl, u60⟩
                   replace X := X.up u60
                   replace MR := MR.up u60
                   replace FA := FA.up u60
                   replace hm2 := hm2.up u60
                   replace XQ := XQ.up u60
                   replace p := p.up u60
                   replace pd := pd.up u60
                   replace oo := oo.up u60
                   replace ood := ood.up u60
                   replace i1 := i1.up u60
                   replace i2 := i2.up u60
                   replace t := t.up u60
                   replace td := td.up u60
                   try (replace nn := nn.up u60)
                   try (replace of1 := of1.up u60)
                   try (replace in1 := in1.up u60)
                   try (replace mx1 := mx1.up u60)
                   replace b0 := b0.up u60
                   replace b1 := b1.up u60
                   replace x1 := x1.up u60
                   replace x4 := x4.up u60
                   replace x5 := x5.up u60
                   replace x6 := x6.up u60
                   replace UP := UP.trans u60
                   clear b0_0 b0_1 b0_2 b1_0 b1_1 x1_0 x1_1 x1_2 x4_0 x4_1 x4_2 x5_0 x5_1 x5_2 x6_0 x6_1 x6_2
                   obtain ⟨b0_0, b0_1, b0_2⟩ := b0.c3
                   obtain ⟨b1_0, b1_1⟩ := b1.c2
                   obtain ⟨x1_0, x1_1, x1_2⟩ := x1.c3
                   obtain ⟨x4_0, x4_1, x4_2⟩ := x4.c3
                   obtain ⟨x5_0, x5_1, x5_2⟩ := x5.c3
                   obtain ⟨x6_0, x6_1, x6_2⟩ := x6.c3
                   clear u60)
                | (go_at_call 34
                   ((with_reducible refine (ref9_size (Ws.nil _) hm2 (by simp) (by omega)).mono ?_))
                   rintro e W61 ⟨rfl, u61⟩
                   replace X := X.up u61
                   replace MR := MR.up u61
                   replace FA := FA.up u61
                   replace hm2 := hm2.up u61
                   replace XQ := XQ.up u61
                   replace p := p.up u61
                   replace pd := pd.up u61
                   replace oo := oo.up u61
                   replace ood := ood.up u61
                   replace i1 := i1.up u61
                   replace i2 := i2.up u61
                   replace t := t.up u61
                   replace td := td.up u61
                   try (replace nn := nn.up u61)
                   try (replace of1 := of1.up u61)
                   try (replace in1 := in1.up u61)
                   try (replace mx1 := mx1.up u61)
                   replace b0 := b0.up u61
                   replace b1 := b1.up u61
                   replace x1 := x1.up u61
                   replace x4 := x4.up u61
                   replace x5 := x5.up u61
                   replace x6 := x6.up u61
                   replace UP := UP.trans u61
                   clear b0_0 b0_1 b0_2 b1_0 b1_1 x1_0 x1_1 x1_2 x4_0 x4_1 x4_2 x5_0 x5_1 x5_2 x6_0 x6_1 x6_2
                   obtain ⟨b0_0, b0_1, b0_2⟩ := b0.c3
                   obtain ⟨b1_0, b1_1⟩ := b1.c2
                   obtain ⟨x1_0, x1_1, x1_2⟩ := x1.c3
                   obtain ⟨x4_0, x4_1, x4_2⟩ := x4.c3
                   obtain ⟨x5_0, x5_1, x5_2⟩ := x5.c3
                   obtain ⟨x6_0, x6_1, x6_2⟩ := x6.c3
                   clear u61
                   rw [HZ.out])
                | (go_at_call 44
                   ((with_reducible refine (law_is9 (Qw.of p pd) (Qw.of t td) LT (by omega)).mono ?_))
                   rintro e W62 ⟨rfl, u62⟩
                   replace X := X.up u62
                   replace MR := MR.up u62
                   replace FA := FA.up u62
                   replace hm2 := hm2.up u62
                   replace XQ := XQ.up u62
                   replace p := p.up u62
                   replace pd := pd.up u62
                   replace oo := oo.up u62
                   replace ood := ood.up u62
                   replace i1 := i1.up u62
                   replace i2 := i2.up u62
                   replace t := t.up u62
                   replace td := td.up u62
                   try (replace nn := nn.up u62)
                   try (replace of1 := of1.up u62)
                   try (replace in1 := in1.up u62)
                   try (replace mx1 := mx1.up u62)
                   replace b0 := b0.up u62
                   replace b1 := b1.up u62
                   replace x1 := x1.up u62
                   replace x4 := x4.up u62
                   replace x5 := x5.up u62
                   replace x6 := x6.up u62
                   replace UP := UP.trans u62
                   clear b0_0 b0_1 b0_2 b1_0 b1_1 x1_0 x1_1 x1_2 x4_0 x4_1 x4_2 x5_0 x5_1 x5_2 x6_0 x6_1 x6_2
                   obtain ⟨b0_0, b0_1, b0_2⟩ := b0.c3
                   obtain ⟨b1_0, b1_1⟩ := b1.c2
                   obtain ⟨x1_0, x1_1, x1_2⟩ := x1.c3
                   obtain ⟨x4_0, x4_1, x4_2⟩ := x4.c3
                   obtain ⟨x5_0, x5_1, x5_2⟩ := x5.c3
                   obtain ⟨x6_0, x6_1, x6_2⟩ := x6.c3
                   clear u62)
                | (go_at_call 45
                   ((with_reducible refine (frac_of hx _).mono ?_))
                   rintro e W63 ⟨V63, rfl, of1, u63⟩
                   replace X := X.up u63
                   replace MR := MR.up u63
                   replace FA := FA.up u63
                   replace hm2 := hm2.up u63
                   replace XQ := XQ.up u63
                   replace p := p.up u63
                   replace pd := pd.up u63
                   replace oo := oo.up u63
                   replace ood := ood.up u63
                   replace i1 := i1.up u63
                   replace i2 := i2.up u63
                   replace t := t.up u63
                   replace td := td.up u63
                   try (replace nn := nn.up u63)
                   try (replace of1 := of1.up u63)
                   try (replace in1 := in1.up u63)
                   try (replace mx1 := mx1.up u63)
                   replace b0 := b0.up u63
                   replace b1 := b1.up u63
                   replace x1 := x1.up u63
                   replace x4 := x4.up u63
                   replace x5 := x5.up u63
                   replace x6 := x6.up u63
                   replace UP := UP.trans u63
                   clear b0_0 b0_1 b0_2 b1_0 b1_1 x1_0 x1_1 x1_2 x4_0 x4_1 x4_2 x5_0 x5_1 x5_2 x6_0 x6_1 x6_2
                   obtain ⟨b0_0, b0_1, b0_2⟩ := b0.c3
                   obtain ⟨b1_0, b1_1⟩ := b1.c2
                   obtain ⟨x1_0, x1_1, x1_2⟩ := x1.c3
                   obtain ⟨x4_0, x4_1, x4_2⟩ := x4.c3
                   obtain ⟨x5_0, x5_1, x5_2⟩ := x5.c3
                   obtain ⟨x6_0, x6_1, x6_2⟩ := x6.c3
                   clear u63)
                | (go_at_call 37
                   ((with_reducible refine (ref9_int hx _).mono ?_))
                   rintro e W64 ⟨V64, rfl, in1, u64⟩
                   replace X := X.up u64
                   replace MR := MR.up u64
                   replace FA := FA.up u64
                   replace hm2 := hm2.up u64
                   replace XQ := XQ.up u64
                   replace p := p.up u64
                   replace pd := pd.up u64
                   replace oo := oo.up u64
                   replace ood := ood.up u64
                   replace i1 := i1.up u64
                   replace i2 := i2.up u64
                   replace t := t.up u64
                   replace td := td.up u64
                   try (replace nn := nn.up u64)
                   try (replace of1 := of1.up u64)
                   try (replace in1 := in1.up u64)
                   try (replace mx1 := mx1.up u64)
                   replace b0 := b0.up u64
                   replace b1 := b1.up u64
                   replace x1 := x1.up u64
                   replace x4 := x4.up u64
                   replace x5 := x5.up u64
                   replace x6 := x6.up u64
                   replace UP := UP.trans u64
                   clear b0_0 b0_1 b0_2 b1_0 b1_1 x1_0 x1_1 x1_2 x4_0 x4_1 x4_2 x5_0 x5_1 x5_2 x6_0 x6_1 x6_2
                   obtain ⟨b0_0, b0_1, b0_2⟩ := b0.c3
                   obtain ⟨b1_0, b1_1⟩ := b1.c2
                   obtain ⟨x1_0, x1_1, x1_2⟩ := x1.c3
                   obtain ⟨x4_0, x4_1, x4_2⟩ := x4.c3
                   obtain ⟨x5_0, x5_1, x5_2⟩ := x5.c3
                   obtain ⟨x6_0, x6_1, x6_2⟩ := x6.c3
                   clear u64)
                | (go_at_call 44
                   ((with_reducible refine (law_is9 of1 in1 (lq_int hx) (by omega)).mono ?_))
                   rintro e W65 ⟨rfl, u65⟩
                   replace X := X.up u65
                   replace MR := MR.up u65
                   replace FA := FA.up u65
                   replace hm2 := hm2.up u65
                   replace XQ := XQ.up u65
                   replace p := p.up u65
                   replace pd := pd.up u65
                   replace oo := oo.up u65
                   replace ood := ood.up u65
                   replace i1 := i1.up u65
                   replace i2 := i2.up u65
                   replace t := t.up u65
                   replace td := td.up u65
                   try (replace nn := nn.up u65)
                   try (replace of1 := of1.up u65)
                   try (replace in1 := in1.up u65)
                   try (replace mx1 := mx1.up u65)
                   replace b0 := b0.up u65
                   replace b1 := b1.up u65
                   replace x1 := x1.up u65
                   replace x4 := x4.up u65
                   replace x5 := x5.up u65
                   replace x6 := x6.up u65
                   replace UP := UP.trans u65
                   clear b0_0 b0_1 b0_2 b1_0 b1_1 x1_0 x1_1 x1_2 x4_0 x4_1 x4_2 x5_0 x5_1 x5_2 x6_0 x6_1 x6_2
                   obtain ⟨b0_0, b0_1, b0_2⟩ := b0.c3
                   obtain ⟨b1_0, b1_1⟩ := b1.c2
                   obtain ⟨x1_0, x1_1, x1_2⟩ := x1.c3
                   obtain ⟨x4_0, x4_1, x4_2⟩ := x4.c3
                   obtain ⟨x5_0, x5_1, x5_2⟩ := x5.c3
                   obtain ⟨x6_0, x6_1, x6_2⟩ := x6.c3
                   clear u65)
                | (go_at_call 46
                   ((with_reducible refine (frac_max (MRow.sq MR) (by omega) (by omega) (by omega)).mono ?_))
                   rintro e W66 ⟨V66, rfl, mx1, u66⟩
                   replace X := X.up u66
                   replace MR := MR.up u66
                   replace FA := FA.up u66
                   replace hm2 := hm2.up u66
                   replace XQ := XQ.up u66
                   replace p := p.up u66
                   replace pd := pd.up u66
                   replace oo := oo.up u66
                   replace ood := ood.up u66
                   replace i1 := i1.up u66
                   replace i2 := i2.up u66
                   replace t := t.up u66
                   replace td := td.up u66
                   try (replace nn := nn.up u66)
                   try (replace of1 := of1.up u66)
                   try (replace in1 := in1.up u66)
                   try (replace mx1 := mx1.up u66)
                   replace b0 := b0.up u66
                   replace b1 := b1.up u66
                   replace x1 := x1.up u66
                   replace x4 := x4.up u66
                   replace x5 := x5.up u66
                   replace x6 := x6.up u66
                   replace UP := UP.trans u66
                   clear b0_0 b0_1 b0_2 b1_0 b1_1 x1_0 x1_1 x1_2 x4_0 x4_1 x4_2 x5_0 x5_1 x5_2 x6_0 x6_1 x6_2
                   obtain ⟨b0_0, b0_1, b0_2⟩ := b0.c3
                   obtain ⟨b1_0, b1_1⟩ := b1.c2
                   obtain ⟨x1_0, x1_1, x1_2⟩ := x1.c3
                   obtain ⟨x4_0, x4_1, x4_2⟩ := x4.c3
                   obtain ⟨x5_0, x5_1, x5_2⟩ := x5.c3
                   obtain ⟨x6_0, x6_1, x6_2⟩ := x6.c3
                   clear u66
                   rw [HBQ.out] at mx1)
                | (go_at_call 44
                   ((with_reducible refine (law_is9 mx1 X LM (by omega)).mono ?_))
                   rintro e W67 ⟨rfl, u67⟩
                   replace X := X.up u67
                   replace MR := MR.up u67
                   replace FA := FA.up u67
                   replace hm2 := hm2.up u67
                   replace XQ := XQ.up u67
                   replace p := p.up u67
                   replace pd := pd.up u67
                   replace oo := oo.up u67
                   replace ood := ood.up u67
                   replace i1 := i1.up u67
                   replace i2 := i2.up u67
                   replace t := t.up u67
                   replace td := td.up u67
                   try (replace nn := nn.up u67)
                   try (replace of1 := of1.up u67)
                   try (replace in1 := in1.up u67)
                   try (replace mx1 := mx1.up u67)
                   replace b0 := b0.up u67
                   replace b1 := b1.up u67
                   replace x1 := x1.up u67
                   replace x4 := x4.up u67
                   replace x5 := x5.up u67
                   replace x6 := x6.up u67
                   replace UP := UP.trans u67
                   clear b0_0 b0_1 b0_2 b1_0 b1_1 x1_0 x1_1 x1_2 x4_0 x4_1 x4_2 x5_0 x5_1 x5_2 x6_0 x6_1 x6_2
                   obtain ⟨b0_0, b0_1, b0_2⟩ := b0.c3
                   obtain ⟨b1_0, b1_1⟩ := b1.c2
                   obtain ⟨x1_0, x1_1, x1_2⟩ := x1.c3
                   obtain ⟨x4_0, x4_1, x4_2⟩ := x4.c3
                   obtain ⟨x5_0, x5_1, x5_2⟩ := x5.c3
                   obtain ⟨x6_0, x6_1, x6_2⟩ := x6.c3
                   clear u67)
                | (go_at_call 36
                   ((with_reducible refine (works9 _).mono ?_))
                   rintro e W68 ⟨rfl, u68⟩
                   replace X := X.up u68
                   replace MR := MR.up u68
                   replace FA := FA.up u68
                   replace hm2 := hm2.up u68
                   replace XQ := XQ.up u68
                   replace p := p.up u68
                   replace pd := pd.up u68
                   replace oo := oo.up u68
                   replace ood := ood.up u68
                   replace i1 := i1.up u68
                   replace i2 := i2.up u68
                   replace t := t.up u68
                   replace td := td.up u68
                   try (replace nn := nn.up u68)
                   try (replace of1 := of1.up u68)
                   try (replace in1 := in1.up u68)
                   try (replace mx1 := mx1.up u68)
                   replace b0 := b0.up u68
                   replace b1 := b1.up u68
                   replace x1 := x1.up u68
                   replace x4 := x4.up u68
                   replace x5 := x5.up u68
                   replace x6 := x6.up u68
                   replace UP := UP.trans u68
                   clear b0_0 b0_1 b0_2 b1_0 b1_1 x1_0 x1_1 x1_2 x4_0 x4_1 x4_2 x5_0 x5_1 x5_2 x6_0 x6_1 x6_2
                   obtain ⟨b0_0, b0_1, b0_2⟩ := b0.c3
                   obtain ⟨b1_0, b1_1⟩ := b1.c2
                   obtain ⟨x1_0, x1_1, x1_2⟩ := x1.c3
                   obtain ⟨x4_0, x4_1, x4_2⟩ := x4.c3
                   obtain ⟨x5_0, x5_1, x5_2⟩ := x5.c3
                   obtain ⟨x6_0, x6_1, x6_2⟩ := x6.c3
                   clear u68)))
          all_goals
            go_wp2
            go_ret
            exact ⟨rfl, UP⟩
end Go.Proofs.Ytmmcffceeahemaa
