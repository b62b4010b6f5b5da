/-
  Layer 9: what the statements are made of: turned over, too long?
  Rows of fractions: what comes in, read; turned over; too long?
-/
import Derived.Test.YtmmcffceeahemaaGreatZtFracHigh
import Derived.Test.YtmmcffceeahemaaGreatZtShort
import Derived.Test.YtmmcffceeahemaaGreatZtSeq
import Derived.Deep.Fields
set_option linter.unusedVariables false
set_option linter.unusedSimpArgs false
namespace Go.Proofs.YtmmcffceeahemaaGreat
open Go.RowKit
theorem agg_rfrac (w : World) : (isAgg 24).run Tryz.prog w = .ok true w := by kernel_rfl
theorem size_rfrac (w : World) : (sizeOf 24).run Tryz.prog w = .ok 3 w := by kernel_rfl
theorem law_to9 (s : Bool) (A D : Option Addr) (n c m d : Nat) (w : World) :
 Calls Tryz.prog 26 #[.agg #[.bool s, .slice A n c, .slice D m d]] w fun e w' => e = .returned (.agg #[.bool s, .slice A n c, .slice D m d]) ∧ Up w w' := by
 have UP : Up w ((w.alloc (.cells #[.bool s, .slice A n c, .slice D m d] 24)).alloc (.cells #[.bool s, .slice A n c, .slice D m d] 34)) := ((Up.refl w).alloc _).alloc _
 obtain ⟨b0, r0⟩ := bx_two 24 34 w [.bool s, .slice A n c, .slice D m d] [.bool s, .slice A n c, .slice D m d]
 go_enter Tryz.func26, Tryz.ntmps26
 go_wp2
 exact bodyPost_ret (run_res_cell rfl rfl agg_frac size_frac r0 rfl) rfl ⟨rfl, UP⟩
theorem law_of9 (s : Bool) (A D : Option Addr) (n c m d : Nat) (w : World) :
 Calls Tryz.prog 98 #[.agg #[.bool s, .slice A n c, .slice D m d]] w fun e w' => e = .returned (.agg #[.bool s, .slice A n c, .slice D m d]) ∧ Up w w' := by
 have UP : Up w ((w.alloc (.cells #[.bool s, .slice A n c, .slice D m d] 34)).alloc (.cells #[.bool s, .slice A n c, .slice D m d] 24)) := ((Up.refl w).alloc _).alloc _
 obtain ⟨b0, r0⟩ := bx_two 34 24 w [.bool s, .slice A n c, .slice D m d] [.bool s, .slice A n c, .slice D m d]
 go_enter Tryz.func98, Tryz.ntmps98
 go_wp2
 exact bodyPost_ret (run_res_cell rfl rfl agg_rfrac size_rfrac r0 rfl) rfl ⟨rfl, UP⟩
/-- Is a fraction too long? -/
theorem ref_long9_no {s : Bool} {A D : Option Addr} {n c m d : Nat} {k : Int} {w : World} (h1 : (n : Int) ≤ k) (h2 : (m : Int) ≤ k) (h3 : k ≤ 100000000) :
 Calls Tryz.prog 20 #[.agg #[.bool s, .slice A n c, .slice D m d], .int .i64 k] w fun e w' => e = .returned (.bool false) ∧ Up w w' := by
 have UP : Up w (w.alloc (.cells #[.bool s, .slice A n c, .slice D m d] 24)) := (Up.refl w).alloc _
 go_enter Tryz.func20, Tryz.ntmps20
 go_wp2
 go_ret
 refine ⟨?_, UP⟩
 simp
 omega
theorem ref_long9_yes {s : Bool} {A D : Option Addr} {n c m d : Nat} {k : Int} {w : World} (h1 : k < (n : Int) ∨ k < (m : Int)) (h3 : k ≤ 100000000) :
 Calls Tryz.prog 20 #[.agg #[.bool s, .slice A n c, .slice D m d], .int .i64 k] w fun e w' => e = .returned (.bool true) ∧ Up w w' := by
 have UP : Up w (w.alloc (.cells #[.bool s, .slice A n c, .slice D m d] 24)) := (Up.refl w).alloc _
 by_cases h : k < (n : Int)
 · clear h1
   go_enter Tryz.func20, Tryz.ntmps20
   go_wp2
   go_ret
   exact ⟨by simp [h], UP⟩
 · have h2 : k < (m : Int) := by omega
   clear h1
   go_enter Tryz.func20, Tryz.ntmps20
   go_wp2
   go_ret
   exact ⟨by simp [h2], UP⟩
/-- Are two just the same, as they stand? -/
def rawB (s t : Bool) (l l' m m' : List Nat) : Bool := (s == t) && (decide (l = l') && decide (m = m'))
theorem rawB_self (s : Bool) (l m : List Nat) : rawB s s l l m m = true := by simp [rawB]
theorem lq_zero : Wd.Lq 0 2 := lq_int (n := 0) (by omega)
end Go.Proofs.YtmmcffceeahemaaGreat
namespace Go.Proofs.YtmmcffceeahemaaGreat
open Go.RowKit
/-- A fraction as it is spelled: its sign, both lists of words. -/
abbrev Raw := Bool × List Nat × List Nat
def Rw (w : World) (v : Value) (r : Raw) : Prop := ∃ u d, v = .agg #[.bool r.1, u, d] ∧ Ws w u r.2.1 ∧ Ws w d r.2.2
theorem kp_rw : Kp Rw where
 kw := fun ⟨u, d, h1, h2, h3⟩ hk => ⟨u, d, h1, h2.kw hk, h3.kw hk⟩
 form := fun ⟨u, d, h1, h2, h3⟩ => ⟨⟨_, u, d⟩, h1, h2.shape, h3.shape⟩
/-- Its value; its size. -/
def Raw.val (r : Raw) : Rat := mkRat (Wd.iv r.1 (Wd.val r.2.1)) (Wd.val r.2.2)
def Raw.size (r : Raw) : Nat := Wd.bl (Wd.val r.2.1) + Wd.bl (Wd.val r.2.2)
def Raw.few (r : Raw) (k : Nat) : Prop := r.2.1.length ≤ k ∧ r.2.2.length ≤ k
theorem Rw.fr {w : World} {v : Value} {r : Raw} (h : Rw w v r) {k : Nat} (hk : r.few k) (h1 : 1 ≤ k) : Frk k w v r.val := by
 obtain ⟨u, d, rfl, h2, h3⟩ := h
 exact ⟨_, u, d, _, _, rfl, h2, h3, rfl, hk.1, hk.2, h1⟩
theorem Al.map {β γ : Type} {R : F3 → β → Prop} {S : F3 → γ → Prop} {xs : List F3} {qs : List β} (h : Al R xs qs) (f : β → γ) (hf : ∀ x q, q ∈ qs → R x q → S x (f q)) : Al S xs (qs.map f) := by
 refine ⟨by simp [h.1], fun j x q h1 h2 => ?_⟩
 rw [List.getElem?_map, Option.map_eq_some_iff] at h2
 obtain ⟨p, h2, rfl⟩ := h2
 exact hf x p (List.mem_of_getElem? h2) (h.2 j x p h1 h2)
theorem Sq.map {β γ : Type} {P : World → Value → β → Prop} {Q : World → Value → γ → Prop} {w : World} {v : Value} {qs : List β} (h : Sq P w v qs) (f : β → γ) (hf : ∀ v q, q ∈ qs → P w v q → Q w v (f q)) : Sq Q w v (qs.map f) := by
 obtain ⟨A, c, xs, h1, h2, h3, h4, h5⟩ := h
 exact ⟨A, c, xs, by rw [List.length_map]; exact h1, by rw [List.length_map]; exact h2, h3, h4.map f fun x q hq hx => hf _ q hq hx, h5⟩
theorem Sq.frs {w : World} {v : Value} {rs : List Raw} (h : Sq Rw w v rs) {k : Nat} (hk : ∀ r ∈ rs, r.few k) (h1 : 1 ≤ k) : Sq (Frk k) w v (rs.map Raw.val) := h.map _ fun v r hr hx => hx.fr (hk r hr) h1
/-- What comes back: is it too long? If not, it is short. -/
def RetLong11 (rs : List Raw) (m k : Nat) (w : World) (e : Ending) (w' : World) : Prop := ∃ t, e = .returned (.bool t) ∧ Hid (t = false → rs.length ≤ m ∧ ∀ r ∈ rs, r.few k) ∧ Up w w'
theorem few_snoc {rs : List Raw} {j k : Nat} (hj : j < rs.length) (h : ∀ r ∈ rs.take j, r.few k) (h1 : rs[j].few k) : ∀ r ∈ rs.take (j + 1), r.few k := by
 intro r hr
 rw [List.take_succ_eq_append_getElem hj] at hr
 rcases List.mem_append.1 hr with hr | hr
 · exact h r hr
 · simp at hr; subst hr; exact h1
set_option maxRecDepth 100000 in
set_option maxHeartbeats 1600000 in
theorem ref_long11 {v : Value} {rs : List Raw} {w : World} (m k : Nat) (h : Sq Rw w v rs) (hm : m ≤ 100000000) (hk : k ≤ 100000000) :
 Calls Tryz.prog 19 #[v, .int .i64 (m : Int), .int .i64 (k : Int)] w (RetLong11 rs m k w) := by
 obtain ⟨A, c, rfl⟩ := h.form
 have hlen : rs.length ≤ maxLen := by obtain ⟨_, _, _, e, h1, h2, _⟩ := h; cases e; omega
 unfold maxLen at hlen
 have H := Lib.hid h
 clear h
 go_enter Tryz.func19, Tryz.ntmps19
 go_wp2
 go_loopw [7] (fun s7 wr => ∃ j : Nat, s7 = .int .i64 j ∧ j ≤ rs.length ∧ j ≤ m ∧ Hid (∀ r ∈ rs.take j, r.few k) ∧ Up w wr) (fun s7 _ => rs.length - (intOf s7).toNat)
 case atStart => exact ⟨0, rfl, Nat.zero_le _, Nat.zero_le _, Lib.hid (by simp), Up.refl w⟩
 case round =>
  obtain ⟨j, rfl, hj, hjm, HF, hup⟩ := hrel
  by_cases hlt : j < rs.length
  · by_cases hltm : j < m
    · obtain ⟨b, o, s, B, x, f, D, n', f', rfl, hb, g1, g2, g3, hp⟩ := (H.out.up kp_rw hup).at_ kp_rw hlt
      have HS := Lib.hid fun h1 => few_snoc hlt HF.out (k := k) h1
      have HM := Lib.hid (List.getElem_mem hlt)
      generalize rs[j] = r at *
      obtain ⟨u, d, e, h1, h2⟩ := hp
      obtain ⟨A1, c1, rfl⟩ := h1.form
      obtain ⟨A2, c2, rfl⟩ := h2.form
      simp at e
      obtain ⟨rfl, ⟨rfl, rfl, rfl⟩, rfl, rfl, rfl⟩ := e
      clear h1 h2
      have k1 : (j : Int) < (rs.length : Int) := by omega
      have k2 : (j : Int) < (m : Int) := by omega
      have k0 : (0 : Int) ≤ (j : Int) := by omega
      have kk : ((j : Int)).toNat = j := by omega
      by_cases hbad : (k : Int) < (r.2.1.length : Int) ∨ (k : Int) < (r.2.2.length : Int)
      · have HB := Lib.hid hbad
        clear hbad
        go_wp2_with fail
        ((with_reducible refine (ref_long9_yes HB.out (by omega)).mono ?_))
        rintro e w2 ⟨rfl, u2⟩
        go_wp2
        go_ret
        exact ⟨true, rfl, Lib.hid (fun h => by cases h), hup.trans u2⟩
      · have HN := Lib.hid (HS.out ⟨by omega, by omega⟩)
        have hb1 : (r.2.1.length : Int) ≤ (k : Int) := by omega
        have hb2 : (r.2.2.length : Int) ≤ (k : Int) := by omega
        clear hbad HS
        go_wp2_with fail
        ((with_reducible refine (ref_long9_no hb1 hb2 (by omega)).mono ?_))
        rintro e w2 ⟨rfl, u2⟩
        have up2 := hup.trans u2
        clear u2 g1 g2 g3
        go_wp2
        go_roundw
        case rel => exact ⟨j + 1, by go_num, by omega, by omega, HN, up2⟩
        case measure => simp [intOf]; omega
    · obtain rfl : j = m := by omega
      have k1 : (j : Int) < (rs.length : Int) := by omega
      have k2 : decide ((j : Int) < (j : Int)) = false := by simp
      go_wp2
      go_ret
      exact ⟨true, by first | rfl | simp, Lib.hid (fun h => by cases h), hup⟩
  · obtain rfl : j = rs.length := by omega
    have k2 : decide ((m : Int) < (rs.length : Int)) = false := decide_eq_false (by omega)
    have HF2 : Hid (∀ r ∈ rs, r.few k) := Lib.hid (by have := HF.out; rw [List.take_length] at this; exact this)
    go_wp2
    go_ret
    exact ⟨false, by first | rfl | (simp; done) | (simp; omega), Lib.hid (fun _ => ⟨hjm, HF2.out⟩), hup⟩
/-- What comes back: a row of the call's own. -/
def RetO3 {α : Type} (P : World → Value → α → Prop) (T : TypeId) (qs : List α) (w : World) (e : Ending) (w' : World) : Prop := ∃ v, e = .returned v ∧ OwnQ P T w.heap.size w' v qs ∧ Up w w'
theorem info_frac : F3Info 34 := by unfold F3Info; kernel_rfl
theorem info_rfrac : F3Info 24 := by unfold F3Info; kernel_rfl
set_option maxRecDepth 100000 in
set_option maxHeartbeats 1600000 in
theorem law_to11 {α : Type} {P : World → Value → α → Prop} (kp : Kp P) {v : Value} {qs : List α} {w : World} (h : Sq P w v qs) (hl : qs.length ≤ 100000000) :
 Calls Tryz.prog 25 #[v] w (RetO3 P 34 qs w) := by
 obtain ⟨A, c, rfl⟩ := h.form
 have H := Lib.hid h
 have KP := Lib.hid kp
 clear h kp
 go_enter Tryz.func25, Tryz.ntmps25
 go_wp2
 go_loopw [3, 4] (fun s3 s4 wr => ∃ j : Nat, s4 = .int .i64 j ∧ j ≤ qs.length ∧ OwnQ P 34 w.heap.size wr s3 (qs.take j) ∧ Up w wr) (fun _ s4 _ => qs.length - (intOf s4).toNat)
 case atStart => exact ⟨0, rfl, Nat.zero_le _, OwnQ.nil _ _ _ _, Up.refl w⟩
 case round =>
  obtain ⟨j, rfl, hj, hrow, hup⟩ := hrel
  by_cases hlt : j < qs.length
  · obtain ⟨b, o, s, B, x, f, D, n', f', rfl, hb, g1, g2, g3, hp⟩ := (H.out.up KP.out hup).at_ KP.out hlt
    have HTK : Hid (qs.take (j + 1) = qs.take j ++ [qs[j]]) := Lib.hid (List.take_succ_eq_append_getElem hlt)
    have HLEN : Hid ((qs.take j).length = j) := Lib.hid (by rw [List.length_take]; omega)
    generalize qs[j] = q at *
    obtain ⟨C, cc, rfl⟩ := hrow.form
    rw [HLEN.out] at hrow ⊢
    have HROW := Lib.hid hrow
    have HP := Lib.hid hp
    clear hrow hp
    have k1 : (j : Int) < (qs.length : Int) := by omega
    have k0 : (0 : Int) ≤ (j : Int) := by omega
    have kk : ((j : Int)).toNat = j := by omega
    go_wp2_with fail
    ((with_reducible refine (law_to9 _ _ _ _ _ _ _ _).mono ?_))
    rintro e w2 ⟨rfl, u2⟩
    have up2 := hup.trans u2
    have hrow2 := HROW.out.up KP.out u2
    have hp2 := KP.out.kw HP.out u2.kw
    clear g1 g2 g3 HROW HP u2
    have HR := Lib.hid (hrow2.up KP.out ((Up.refl w2).alloc (.cells #[.bool s, .slice B x f, .slice D n' f'] 34)))
    have HQ := Lib.hid (KP.out.kw hp2 ((Up.refl w2).alloc (.cells #[.bool s, .slice B x f, .slice D n' f'] 34)).kw)
    have HU := Lib.hid (up2.alloc (.cells #[.bool s, .slice B x f, .slice D n' f'] 34))
    clear hrow2 hp2
    go_wp2_with (at_builtin; refine wl_append_q1 KP.out Tryz.underlying49 info_frac (w0 := w) rfl _ _ rfl rfl HR.out HU.out rfl (heap_alloc_new w2 _) HQ.out (by rw [HLEN.out]; omega) ?_; intro v' w3 h1 h2 h3 h4)
    rw [← HTK.out] at h1
    clear h2 h3 HR HQ HU up2
    go_wp2
    go_roundw
    case rel => exact ⟨j + 1, by go_num, by omega, h1, h4⟩
    case measure => simp [intOf]; omega
  · obtain rfl : j = qs.length := by omega
    rw [List.take_length] at hrow
    go_wp2
    go_ret
    exact ⟨_, rfl, hrow, hup⟩
end Go.Proofs.YtmmcffceeahemaaGreat
