/-
  The walks of layer 2.
-/
import Derived.Test.YtmmcffceeahemaaGreatZtMem
import Derived.Test.YtmmcffceeahemaaGreatZtPlain
import Derived.Test.YtmmcffceeahemaaGreatZtShort
set_option linter.unusedVariables false
set_option linter.unusedSimpArgs false
namespace Go.Proofs.YtmmcffceeahemaaGreat
open Go.RowKit
/-- What trim hands back: the same slice, cut. -/
def RetTrim (v : Value) (l : List Nat) (w : World) (e : Ending) (w' : World) : Prop :=
 ∃ A c, e = .returned (.slice A (Wd.trim l).length c) ∧ v = .slice A l.length c ∧ l.length ≤ c ∧ c ≤ maxLen ∧ Wd.trim l = l.take (Wd.trim l).length ∧ w = w'
theorem trim_take_length {l : List Nat} {n : Nat} (h : Wd.trim l = l.take n) (hn : n ≤ l.length) : (Wd.trim l).length = n := by rw [h, List.length_take]; omega
set_option maxHeartbeats 400000 in
theorem nat_trim {v : Value} {l : List Nat} {w : World} (h : Ws w v l) (hl : l.length ≤ 100000000000) :
 Calls Tryz.prog 163 #[v] w (RetTrim v l w) := by
 obtain ⟨A, c, rfl, h2, h3, h4, h5⟩ := h
 have H3 := Lib.hid h3
 clear h3
 go_enter Tryz.func163, Tryz.ntmps163
 go_wp2
 go_loop [3] (fun s => ∃ n : Nat, s = .int .i64 n ∧ n ≤ l.length ∧ Hid (Wd.trim (l.take n) = Wd.trim l)) (fun s => (intOf s).toNat)
 case atStart => exact ⟨l.length, rfl, Nat.le_refl _, Lib.hid (by rw [List.take_length])⟩
 case round =>
  obtain ⟨n, rfl, hn, ht⟩ := hrel
  match n, hn, ht with
  | 0, hn, ht =>
    have e0 : Wd.trim l = l.take 0 := ht.out.symm
    have e1 := trim_take_length e0 (by omega)
    have E0 := Lib.hid e0
    have E1 := Lib.hid e1
    clear e0 e1
    go_wp2
    go_ret
    refine ⟨_, c, ?_, rfl, h2, H3.out, by rw [E1.out]; exact E0.out, rfl⟩
    rw [E1.out]
    rfl
  | n + 1, hn, ht =>
    have hk : n < l.length := by exact hn
    obtain ⟨b, o, rfl, hb, hcell⟩ := rd_word h5 hk
    by_cases h0 : l[n] = 0
    · have hnext := Wd.trim_take_of_zero hk h0
      rw [ht.out] at hnext
      have Hnext := Lib.hid hnext.symm
      clear hnext
      go_wp2
      go_round
      case rel => exact ⟨n, rfl, by omega, Hnext⟩
      case measure => simp [intOf]
    · have hend := Wd.trim_take_of_ne hk h0
      rw [ht.out] at hend
      have e1 := trim_take_length hend (by omega)
      have E0 := Lib.hid hend
      have E1 := Lib.hid e1
      clear hend e1
      go_wp2
      go_ret
      refine ⟨_, c, ?_, rfl, h2, H3.out, by rw [E1.out]; exact E0.out, rfl⟩
      rw [E1.out]
      rfl
/-- What trim hands back reads as the right list. -/
theorem RetTrim.ws {v : Value} {l : List Nat} {w w' : World} {e : Ending} (h : RetTrim v l w e w') (hw : Ws w v l) : ∃ v', e = .returned v' ∧ Ws w' v' (Wd.words (Wd.val l)) ∧ w = w' := by
 obtain ⟨A, c, rfl, rfl, h1, h2, h3, rfl⟩ := h
 obtain ⟨A', c', hv, _, _, ho, hr⟩ := hw
 simp at hv
 obtain ⟨rfl, rfl⟩ := hv
 refine ⟨_, rfl, ?_, rfl⟩
 rw [Wd.words_val ho]
 refine Ws.mk rfl (Nat.le_trans (Wd.length_trim_le l) h1) h2 (Wd.ok_trim ho) ?_
 rw [h3, List.map_take]
 exact hr.take _
theorem nat_trim_ws {v : Value} {l : List Nat} {w : World} (h : Ws w v l) (hl : l.length ≤ 100000000000) :
 Calls Tryz.prog 163 #[v] w fun e w' => ∃ v', e = .returned v' ∧ Ws w' v' (Wd.words (Wd.val l)) ∧ w = w' :=
 (nat_trim h hl).mono fun _ _ k => k.ws h
set_option maxHeartbeats 400000 in
theorem nat_fresh {v : Value} {l : List Nat} {m : Int} {w : World} (M : Nat) (hm : m = M) (h : Ws w v l) (hl : l.length ≤ 100000000000) (hM : M ≤ 100000000000) :
 Calls Tryz.prog 190 #[v, .int .i64 m] w (RetB (l ++ List.replicate M 0) w) := by
 subst hm
 obtain ⟨A, c, rfl, h2, h3, h4, h5⟩ := h
 have H3 := Lib.hid h3
 clear h3
 go_enter Tryz.func190, Tryz.ntmps190
 go_wp2_with (at_make; go_loud (refine wl_make rfl _ _ rfl (l.length + M) rfl rfl ?_ ?_ ?_))
 · omega
 · omega
 intro w1 hb1 hu1
 go_wp2_with (with_reducible show wpList _ _ _ _ _ _; refine wl_copy (o := ⟨some 13, _, _, _, _, _⟩) rfl _ _ rfl rfl rfl hb1 (by simp) (by simp) (h5.up hu1) hu1 (Nat.le_refl _) ?_; intro w2 hb2 hu2)
 go_wp2
 go_ret
 have e : l ++ List.drop l.length (List.replicate (l.length + M) 0) = l ++ List.replicate M 0 := by simp
 rw [e] at hb2
 have e2 : (l ++ List.replicate M 0).length = l.length + M := by simp
 refine ⟨w.heap.size, ?_, hb2, Wd.ok_append.2 ⟨h4, Wd.ok_replicate _⟩, Nat.le_refl _, by rw [e2]; unfold maxLen; omega, hu2⟩
 rw [e2]
 rfl
theorem len_words_val {l : List Nat} {n : Nat} (ho : Wd.Ok l) (h : l.length ≤ n) : (Wd.words (Wd.val l)).length ≤ n := Nat.le_trans (Wd.words_val_length ho) h
set_option maxHeartbeats 400000 in
theorem nat_norm {v : Value} {l : List Nat} {w : World} (h : Ws w v l) (hl : l.length ≤ 100000000000) : Calls Tryz.prog 176 #[v] w (RetO (Wd.words (Wd.val l)) w) := by
 go_enter Tryz.func176, Tryz.ntmps176
 go_wp2_with fail
 refine (nat_trim_ws h hl).mono ?_
 rintro e w' ⟨v', rfl, h', rfl⟩
 go_wp2_with fail
 refine (nat_fresh 0 rfl h' (len_words_val h.ok hl) (by omega)).mono ?_
 intro e w1 hret
 obtain ⟨v1, rfl, h1, h2, h3⟩ := hret.own
 rw [List.replicate_zero, List.append_nil] at h1 h2
 go_wp2
 go_ret
 exact ⟨v1, rfl, h1, h2, h3⟩
set_option maxHeartbeats 400000 in
theorem nat_zero {v : Value} {l : List Nat} {w : World} (h : Ws w v l) (hl : l.length ≤ 100000000000) : Calls Tryz.prog 167 #[v] w fun e w' => e = .returned (.bool (decide (Wd.val l = 0))) ∧ w = w' := by
 go_enter Tryz.func167, Tryz.ntmps167
 go_wp2_with fail
 refine (nat_trim_ws h hl).mono ?_
 rintro e w' ⟨v', rfl, h', rfl⟩
 obtain ⟨A, c, rfl, h2, h3, h4, h5⟩ := h'
 have e0 : (((Wd.words (Wd.val l)).length : Int) == 0) = decide (Wd.val l = 0) := by rw [Bool.eq_iff_iff]; simp [Wd.words_eq_nil]
 have E := Lib.hid e0
 clear e0 h3
 go_wp2
 go_ret
 rw [← E.out]
 exact ⟨rfl, rfl⟩
set_option maxHeartbeats 400000 in
theorem nat_of {n : Int} (X : Nat) (hn : n = X) (hX : X < 18446744073709551616) (w : World) : Calls Tryz.prog 135 #[.int .u64 n] w (RetW (Wd.words X) w) := by
 subst hn
 have hW : Ws (w.alloc (.cells #[.int .u32 ((X : Int) % 4294967296), .int .u32 ((X : Int) / 4294967296)] 122)) (.slice (some ⟨w.heap.size, 0, none⟩) 2 2) [X % 4294967296, X / 4294967296] := by
  refine Blk.ws (l := [X % 4294967296, X / 4294967296]) (blk_new w [X % 4294967296, X / 4294967296]) ?_ (by simp [maxLen])
  intro x hx
  rw [Wd.B_eq]
  simp at hx
  omega
 have hv : Wd.val [X % 4294967296, X / 4294967296] = X := by
  simp only [Wd.val, Wd.B_eq]; omega
 have HV := Lib.hid hv
 clear hv
 go_enter Tryz.func135, Tryz.ntmps135
 go_wp2_with fail
 refine (nat_trim_ws hW (by simp)).mono ?_
 rintro e w' ⟨v', rfl, h', rfl⟩
 rw [HV.out] at h'
 go_wp2
 go_ret
 exact ⟨v', rfl, h', (Up.refl w).alloc _⟩
set_option maxHeartbeats 400000 in
theorem nat_cmp {v u : Value} {a b : List Nat} {w : World} (ha : Ws w v a) (hb : Ws w u b) (hla : a.length ≤ 100000000000) (hlb : b.length ≤ 100000000000) :
 Calls Tryz.prog 165 #[v, u] w fun e w' => ∃ n, e = .returned (.int .i64 (Wd.cmpI (Wd.val a) (Wd.val b))) ∧ w' = w.drewN n := by
 go_enter Tryz.func165, Tryz.ntmps165
 go_wp2_with fail
 refine (nat_trim_ws ha hla).mono ?_
 rintro e w' ⟨v', rfl, ha', rfl⟩
 go_wp2_with fail
 refine (nat_trim_ws hb hlb).mono ?_
 rintro e w' ⟨u', rfl, hb', rfl⟩
 have el := len_words_val ha.ok hla
 have em := len_words_val hb.ok hlb
 have HA := Lib.hid (Wd.val_words (Wd.val a))
 have HB := Lib.hid (Wd.val_words (Wd.val b))
 have hlt := @Wd.words_shorter (Wd.val a) (Wd.val b)
 have hgt := @Wd.words_shorter (Wd.val b) (Wd.val a)
 generalize Wd.words (Wd.val a) = la at *
 generalize Wd.words (Wd.val b) = lb at *
 have HLT := Lib.hid hlt
 have HGT := Lib.hid hgt
 clear hlt hgt ha hb hla hlb
 obtain ⟨A, c, rfl, p2, p3, p4, p5⟩ := ha'
 obtain ⟨D, d, rfl, q2, q3, q4, q5⟩ := hb'
 have P4 := Lib.hid p4
 have Q4 := Lib.hid q4
 clear p3 q3 p4 q4
 rcases Nat.lt_trichotomy la.length lb.length with hlt | heq | hgt
 · have E1 := Lib.hid (Wd.cmpI_lt (HLT.out hlt))
   go_wp2
   go_ret
   exact ⟨0, by rw [E1.out]; rfl, rfl⟩
 · obtain ⟨L, hL⟩ : ∃ L, L = la.length := ⟨_, rfl⟩
   have HEQ := Lib.hid heq
   have HL := Lib.hid hL
   rw [← heq, ← hL] at q2 em ⊢
   rw [← hL] at p2 el
   clear heq hL
   go_wp2
   go_loopw [5] (fun i wr => ∃ k n : Nat, i = .int .i64 ((k : Int) - 1) ∧ k ≤ L ∧ wr = w.drewN n ∧ Hid (la.drop k = lb.drop k)) (fun i _ => (intOf i + 1).toNat)
   case atStart => exact ⟨L, 0, rfl, Nat.le_refl _, rfl, Lib.hid (by rw [List.drop_eq_nil_of_le (by have := HL.out; omega), List.drop_eq_nil_of_le (by have := HL.out; have := HEQ.out; omega)])⟩
   case round =>
    obtain ⟨k, n, rfl, hk, rfl, hd⟩ := hrel
    match k, hk, hd with
    | 0, hk, hd =>
      have hv : la = lb := hd.out
      have HV := Lib.hid (Wd.cmpI_eq (a := Wd.val a) (b := Wd.val b) (by rw [← HA.out, ← HB.out, hv]))
      clear hv
      go_wp2
      go_ret
      exact ⟨n, by rw [HV.out]; rfl, rfl⟩
    | k + 1, hk, hd =>
      have hka : k < la.length := by rw [← HL.out]; exact hk
      have hkb : k < lb.length := by rw [← HEQ.out, ← HL.out]; exact hk
      obtain ⟨b1, o1, rfl, hb1, hc1⟩ := rd_word p5 hka
      obtain ⟨b2, o2, rfl, hb2, hc2⟩ := rd_word q5 hkb
      clear p5 q5
      have ei : ((k + 1 : Nat) : Int) - 1 = k := by omega
      rw [ei]
      clear ei
      rcases Nat.lt_trichotomy la[k] lb[k] with h | h | h
      · have HV := Lib.hid (Wd.cmpI_lt (a := Wd.val a) (b := Wd.val b) (by rw [← HA.out, ← HB.out]; exact Wd.val_lt_of_place P4.out hka hkb hd.out h))
        generalize la[k] = x at *
        generalize lb[k] = y at *
        go_wp2
        go_quiet (fail)
        go_wp2
        go_ret
        exact ⟨n + nq, by rw [HV.out]; rfl, drewN_add _ _ _⟩
      · have HN := Lib.hid (Wd.drop_eq_step hka hkb hd.out h)
        generalize la[k] = x at *
        generalize lb[k] = y at *
        subst h
        go_wp2
        go_quiet (fail)
        go_wp2
        go_quiet (fail)
        go_wp2
        go_roundw
        case rel => exact ⟨k, _, rfl, by omega, rfl, HN⟩
        case measure => simp [intOf]
      · have HV := Lib.hid (Wd.cmpI_gt (a := Wd.val a) (b := Wd.val b) (by rw [← HA.out, ← HB.out]; exact Wd.val_lt_of_place Q4.out hkb hka hd.out.symm h))
        generalize la[k] = x at *
        generalize lb[k] = y at *
        go_wp2
        go_quiet (fail)
        go_wp2
        go_quiet (fail)
        go_wp2
        go_ret
        exact ⟨_, by rw [HV.out]; rfl, by rw [drewN_add, drewN_add]⟩
 · have E1 := Lib.hid (Wd.cmpI_gt (HGT.out hgt))
   go_wp2
   go_ret
   exact ⟨0, by rw [E1.out]; rfl, rfl⟩
set_option maxHeartbeats 800000 in
theorem nat_plus_ge {v u : Value} {a b : List Nat} {w : World} (ha : Ws w v a) (hb : Ws w u b) (hla : a.length ≤ 99999999999) (hlb : b.length ≤ a.length) :
 Calls Tryz.prog 187 #[v, u] w (RetW (Wd.words (Wd.val a + Wd.val b)) w) := by
 have ha0 := ha
 obtain ⟨A, c, rfl, p2, p3, p4, p5⟩ := ha
 obtain ⟨D, d, rfl, q2, q3, q4, q5⟩ := hb
 have P4 := Lib.hid p4
 have Q4 := Lib.hid q4
 clear p3 q3 p4 q4
 go_enter Tryz.func187, Tryz.ntmps187
 go_wp2_with fail
 refine (nat_fresh 1 rfl ha0 (by omega) (by omega)).mono ?_
 rintro e w1 ⟨g, rfl, h1, h2, h3, h4, h5⟩
 have e1 : (a ++ List.replicate 1 0).length = a.length + 1 := by simp
 rw [e1]
 generalize a ++ List.replicate 1 0 = o1 at h1 h2 e1
 have E1 := Lib.hid e1
 clear e1 h4
 go_wp2_with fail
 go_loopw [6, 20] (fun s6 s20 wr => ∃ (i cy : Nat) (o : List Nat), s6 = .int .u32 cy ∧ s20 = .int .i64 i ∧ i ≤ a.length ∧ Hid (o.length = a.length + 1) ∧ Wd.Ok o ∧ Blk wr g o ∧ Up w wr ∧ Wd.AddAt a b o i cy) (fun _ s20 _ => a.length - (intOf s20).toNat)
 case atStart => exact ⟨0, 0, o1, rfl, rfl, Nat.zero_le _, E1, h2, h1, h5, Wd.addAt_zero _ _ _⟩
 case round =>
  obtain ⟨i, cy, o, rfl, rfl, hi, ho, hok, hbl, hup, hat⟩ := hrel
  have HO := Lib.hid hok
  have HAT := Lib.hid hat
  clear hok hat
  by_cases hlt : i < a.length
  · have hcy : cy < Wd.B := Nat.lt_of_le_of_lt HAT.out.1 Wd.B_one
    have hx := Wd.ok_getD P4.out i
    have hy := Wd.ok_getD Q4.out i
    have hil : i < o.length := by rw [ho.out]; omega
    have HN := Lib.hid (Wd.addAt_step hil hx hy HAT.out)
    have hs := Wd.addS_lt (a.getD i 0) (b.getD i 0) cy
    have HO2 := Lib.hid (Wd.ok_set HO.out i hs)
    obtain ⟨b1, o1, rfl, hb1, hc1⟩ := rd_word_D (p5.up hup) hlt
    have hcg := hbl.cellD hil
    have hfg := hbl.free i
    by_cases hlt2 : i < b.length
    · obtain ⟨b2, o2, rfl, hb2, hc2⟩ := rd_word_D (q5.up hup) hlt2
      generalize a.getD i 0 = x at *
      generalize b.getD i 0 = y at *
      generalize o.getD i 0 = z at *
      go_wp2_with fail
      refine (limb_add x y cy rfl rfl rfl hx hy hcy _).mono ?_
      rintro e w2 ⟨rfl, rfl⟩
      go_wp2
      go_roundw
      case rel => exact ⟨i + 1, _, _, rfl, by go_num, by omega, by rw [List.length_set]; exact ho, HO2.out, hbl.set i _, hup.setCell h3 _, HN.out⟩
      case measure => simp [intOf]; omega
    · have hy0 := getD_ge b (i := i) (by omega)
      rw [hy0] at HN HO2
      clear hy0 hy
      generalize a.getD i 0 = x at *
      generalize o.getD i 0 = z at *
      go_wp2_with fail
      refine (limb_add x 0 cy rfl rfl rfl hx Wd.B_pos hcy _).mono ?_
      rintro e w2 ⟨rfl, rfl⟩
      go_wp2
      go_roundw
      case rel => exact ⟨i + 1, _, _, rfl, by go_num, by omega, by rw [List.length_set]; exact ho, HO2.out, hbl.set i _, hup.setCell h3 _, HN.out⟩
      case measure => simp [intOf]; omega
  · obtain rfl : i = a.length := by omega
    have hin : a.length < o.length := by rw [ho.out]; omega
    have hcy : cy < Wd.B := Nat.lt_of_le_of_lt HAT.out.1 Wd.B_one
    have hcg := hbl.cellD hin
    have hfg := hbl.free a.length
    have hend := Wd.addAt_end (Nat.le_refl _) hlb ho.out HAT.out
    have hwn : Ws (wr.setCell ⟨g, a.length, none⟩ (.int .u32 (cy : Int))) (.slice (some ⟨g, 0, none⟩) (a.length + 1) (a.length + 1)) (o.set a.length cy) := by
     have := (hbl.set a.length cy).ws (Wd.ok_set HO.out _ hcy) (by rw [List.length_set, ho.out]; unfold maxLen; omega)
     rw [List.length_set, ho.out] at this
     exact this
    have hln : (o.set a.length cy).length ≤ 100000000000 := by rw [List.length_set, ho.out]; omega
    have HEND := Lib.hid hend
    have HLN := Lib.hid hln
    clear hend hln
    generalize o.getD a.length 0 = z at *
    go_wp2_with fail
    refine (nat_trim_ws hwn HLN.out).mono ?_
    rintro e w2 ⟨v', rfl, h', rfl⟩
    rw [HEND.out] at h'
    go_wp2
    go_ret
    exact ⟨v', rfl, h', hup.setCell h3 _⟩
set_option maxHeartbeats 800000 in
theorem nat_plus_lt {v u : Value} {a b : List Nat} {w : World} (ha : Ws w v a) (hb : Ws w u b) (hla : a.length ≤ 99999999999) (hlb' : b.length < a.length) :
 Calls Tryz.prog 187 #[u, v] w (RetW (Wd.words (Wd.val a + Wd.val b)) w) := by
 have hlb : b.length ≤ a.length := Nat.le_of_lt hlb'
 have ha0 := ha
 obtain ⟨A, c, rfl, p2, p3, p4, p5⟩ := ha
 obtain ⟨D, d, rfl, q2, q3, q4, q5⟩ := hb
 have P4 := Lib.hid p4
 have Q4 := Lib.hid q4
 clear p3 q3 p4 q4
 go_enter Tryz.func187, Tryz.ntmps187
 go_wp2_with fail
 refine (nat_fresh 1 rfl ha0 (by omega) (by omega)).mono ?_
 rintro e w1 ⟨g, rfl, h1, h2, h3, h4, h5⟩
 have e1 : (a ++ List.replicate 1 0).length = a.length + 1 := by simp
 rw [e1]
 generalize a ++ List.replicate 1 0 = o1 at h1 h2 e1
 have E1 := Lib.hid e1
 clear e1 h4
 go_wp2_with fail
 go_loopw [6, 20] (fun s6 s20 wr => ∃ (i cy : Nat) (o : List Nat), s6 = .int .u32 cy ∧ s20 = .int .i64 i ∧ i ≤ a.length ∧ Hid (o.length = a.length + 1) ∧ Wd.Ok o ∧ Blk wr g o ∧ Up w wr ∧ Wd.AddAt a b o i cy) (fun _ s20 _ => a.length - (intOf s20).toNat)
 case atStart => exact ⟨0, 0, o1, rfl, rfl, Nat.zero_le _, E1, h2, h1, h5, Wd.addAt_zero _ _ _⟩
 case round =>
  obtain ⟨i, cy, o, rfl, rfl, hi, ho, hok, hbl, hup, hat⟩ := hrel
  have HO := Lib.hid hok
  have HAT := Lib.hid hat
  clear hok hat
  by_cases hlt : i < a.length
  · have hcy : cy < Wd.B := Nat.lt_of_le_of_lt HAT.out.1 Wd.B_one
    have hx := Wd.ok_getD P4.out i
    have hy := Wd.ok_getD Q4.out i
    have hil : i < o.length := by rw [ho.out]; omega
    have HN := Lib.hid (Wd.addAt_step hil hx hy HAT.out)
    have hs := Wd.addS_lt (a.getD i 0) (b.getD i 0) cy
    have HO2 := Lib.hid (Wd.ok_set HO.out i hs)
    obtain ⟨b1, o1, rfl, hb1, hc1⟩ := rd_word_D (p5.up hup) hlt
    have hcg := hbl.cellD hil
    have hfg := hbl.free i
    by_cases hlt2 : i < b.length
    · obtain ⟨b2, o2, rfl, hb2, hc2⟩ := rd_word_D (q5.up hup) hlt2
      generalize a.getD i 0 = x at *
      generalize b.getD i 0 = y at *
      generalize o.getD i 0 = z at *
      go_wp2_with fail
      refine (limb_add x y cy rfl rfl rfl hx hy hcy _).mono ?_
      rintro e w2 ⟨rfl, rfl⟩
      go_wp2
      go_roundw
      case rel => exact ⟨i + 1, _, _, rfl, by go_num, by omega, by rw [List.length_set]; exact ho, HO2.out, hbl.set i _, hup.setCell h3 _, HN.out⟩
      case measure => simp [intOf]; omega
    · have hy0 := getD_ge b (i := i) (by omega)
      rw [hy0] at HN HO2
      clear hy0 hy
      generalize a.getD i 0 = x at *
      generalize o.getD i 0 = z at *
      go_wp2_with fail
      refine (limb_add x 0 cy rfl rfl rfl hx Wd.B_pos hcy _).mono ?_
      rintro e w2 ⟨rfl, rfl⟩
      go_wp2
      go_roundw
      case rel => exact ⟨i + 1, _, _, rfl, by go_num, by omega, by rw [List.length_set]; exact ho, HO2.out, hbl.set i _, hup.setCell h3 _, HN.out⟩
      case measure => simp [intOf]; omega
  · obtain rfl : i = a.length := by omega
    have hin : a.length < o.length := by rw [ho.out]; omega
    have hcy : cy < Wd.B := Nat.lt_of_le_of_lt HAT.out.1 Wd.B_one
    have hcg := hbl.cellD hin
    have hfg := hbl.free a.length
    have hend := Wd.addAt_end (Nat.le_refl _) hlb ho.out HAT.out
    have hwn : Ws (wr.setCell ⟨g, a.length, none⟩ (.int .u32 (cy : Int))) (.slice (some ⟨g, 0, none⟩) (a.length + 1) (a.length + 1)) (o.set a.length cy) := by
     have := (hbl.set a.length cy).ws (Wd.ok_set HO.out _ hcy) (by rw [List.length_set, ho.out]; unfold maxLen; omega)
     rw [List.length_set, ho.out] at this
     exact this
    have hln : (o.set a.length cy).length ≤ 100000000000 := by rw [List.length_set, ho.out]; omega
    have HEND := Lib.hid hend
    have HLN := Lib.hid hln
    clear hend hln
    generalize o.getD a.length 0 = z at *
    go_wp2_with fail
    refine (nat_trim_ws hwn HLN.out).mono ?_
    rintro e w2 ⟨v', rfl, h', rfl⟩
    rw [HEND.out] at h'
    go_wp2
    go_ret
    exact ⟨v', rfl, h', hup.setCell h3 _⟩
set_option maxHeartbeats 800000 in
theorem nat_plus {v u : Value} {a b : List Nat} {w : World} (ha : Ws w v a) (hb : Ws w u b) (hla : a.length ≤ 99999999999) (hlb : b.length ≤ 99999999999) :
 Calls Tryz.prog 187 #[v, u] w (RetW (Wd.words (Wd.val a + Wd.val b)) w) := by
 by_cases h : b.length ≤ a.length
 · exact nat_plus_ge ha hb hla h
 · rw [Nat.add_comm]
   exact nat_plus_lt hb ha hlb (by omega)
set_option maxHeartbeats 1600000 in
theorem nat_sub {v u : Value} {a b : List Nat} {w : World} (ha : Ws w v a) (hb : Ws w u b) (hla : a.length ≤ 100000000000) (hlb : b.length ≤ 100000000000) (hle : Wd.val b ≤ Wd.val a) :
 Calls Tryz.prog 188 #[v, u] w (RetWB (Wd.words (Wd.val a - Wd.val b)) true w) := by
 go_enter Tryz.func188, Tryz.ntmps188
 go_wp2_with fail
 refine (nat_trim_ws ha hla).mono ?_
 rintro e w' ⟨v', rfl, ha', rfl⟩
 go_wp2_with fail
 refine (nat_trim_ws hb hlb).mono ?_
 rintro e w' ⟨u', rfl, hb', rfl⟩
 go_wp2_with fail
 have el := len_words_val ha.ok hla
 have em := len_words_val hb.ok hlb
 refine (nat_cmp ha' hb' el em).mono ?_
 rintro e w' ⟨n, rfl, rfl⟩
 have hge : 0 ≤ Wd.cmpI (Wd.val (Wd.words (Wd.val a))) (Wd.val (Wd.words (Wd.val b))) := by
  rw [Wd.val_words, Wd.val_words]
  have := @Wd.cmpI_neg (Wd.val a) (Wd.val b)
  omega
 have hblen := Wd.words_mono hle
 have HA := Lib.hid (Wd.val_words (Wd.val a))
 have HB := Lib.hid (Wd.val_words (Wd.val b))
 have hle2 : Wd.val (Wd.words (Wd.val b)) ≤ Wd.val (Wd.words (Wd.val a)) := by rw [Wd.val_words, Wd.val_words]; exact hle
 generalize Wd.words (Wd.val a) = la at *
 generalize Wd.words (Wd.val b) = lb at *
 generalize Wd.cmpI (Wd.val la) (Wd.val lb) = ci at *
 have HLE := Lib.hid hle2
 clear ha hb hla hlb hle hle2
 have hu0 : Up w (w.drewN n) := (Up.refl w).drewN n
 have ha1 := ha'.up hu0
 have hb1 := hb'.up hu0
 obtain ⟨A, c, rfl, p2, p3, p4, p5⟩ := ha'
 obtain ⟨D, d, rfl, q2, q3, q4, q5⟩ := hb'
 have P4 := Lib.hid p4
 have Q4 := Lib.hid q4
 clear p3 q3 p4 q4
 go_wp2_with fail
 refine (nat_fresh 0 rfl ha1 el (by omega)).mono ?_
 rintro e w1 ⟨g, rfl, h1, h2, h3, h4, h5⟩
 rw [List.replicate_zero, List.append_nil] at h1 h2 ⊢
 clear ha1 hb1 h4
 have h6 : Up w w1 := hu0.trans h5
 have h7 : w.heap.size ≤ g := h3
 clear h3 h5 hu0
 go_wp2_with fail
 go_loopw [7, 22] (fun s6 s20 wr => ∃ (i cy : Nat) (o : List Nat), s6 = .int .u32 cy ∧ s20 = .int .i64 i ∧ i ≤ la.length ∧ Hid (o.length = la.length) ∧ Hid (Wd.Ok o) ∧ Blk wr g o ∧ Up w wr ∧ Hid (Wd.SubAt la lb o i cy)) (fun _ s20 _ => la.length - (intOf s20).toNat)
 case atStart => exact ⟨0, 0, la, rfl, rfl, Nat.zero_le _, Lib.hid rfl, Lib.hid h2, h1, h6, Lib.hid (Wd.subAt_zero _ _ _)⟩
 case round =>
  obtain ⟨i, cy, o, rfl, rfl, hi, ho, HO, hbl, hup, HAT⟩ := hrel
  by_cases hlt : i < la.length
  · have hcy : cy < Wd.B := Nat.lt_of_le_of_lt HAT.out.1 Wd.B_one
    have hx := Wd.ok_getD P4.out i
    have hy := Wd.ok_getD Q4.out i
    have hil : i < o.length := by rw [ho.out]; omega
    have HN := Lib.hid (Wd.subAt_step hil hy HAT.out)
    have HO2 := Lib.hid (Wd.ok_set HO.out i (Wd.subD_lt hx hy hcy))
    obtain ⟨b1, o1, rfl, hb1, hc1⟩ := rd_word_D (p5.up hup) hlt
    have hcg := hbl.cellD hil
    have hfg := hbl.free i
    by_cases hlt2 : i < lb.length
    · obtain ⟨b2, o2, rfl, hb2, hc2⟩ := rd_word_D (q5.up hup) hlt2
      generalize la.getD i 0 = x at *
      generalize lb.getD i 0 = y at *
      generalize o.getD i 0 = z at *
      go_wp2_with fail
      refine (limb_sub x y cy rfl rfl rfl hx hy hcy _).mono ?_
      rintro e w2 ⟨rfl, rfl⟩
      go_wp2
      go_roundw
      case rel => exact ⟨i + 1, _, _, rfl, by go_num, by omega, Lib.hid (by rw [List.length_set]; exact ho.out), HO2, hbl.set i _, hup.setCell h7 _, HN⟩
      case measure => simp [intOf]; omega
    · have hy0 := getD_ge lb (i := i) (by omega)
      rw [hy0] at HN HO2
      clear hy0 hy
      generalize la.getD i 0 = x at *
      generalize o.getD i 0 = z at *
      go_wp2_with fail
      refine (limb_sub x 0 cy rfl rfl rfl hx Wd.B_pos hcy _).mono ?_
      rintro e w2 ⟨rfl, rfl⟩
      go_wp2
      go_roundw
      case rel => exact ⟨i + 1, _, _, rfl, by go_num, by omega, Lib.hid (by rw [List.length_set]; exact ho.out), HO2, hbl.set i _, hup.setCell h7 _, HN⟩
      case measure => simp [intOf]; omega
  · obtain rfl : i = la.length := by omega
    have hend := (Wd.subAt_end HO.out ho.out hblen HLE.out HAT.out).1
    rw [HA.out, HB.out] at hend
    have hwn : Ws wr (.slice (some ⟨g, 0, none⟩) la.length la.length) o := by
     have := hbl.ws HO.out (by rw [ho.out]; unfold maxLen; omega)
     rw [ho.out] at this
     exact this
    have HEND := Lib.hid hend
    clear hend
    go_wp2_with fail
    refine (nat_trim_ws hwn (by rw [ho.out]; omega)).mono ?_
    rintro e w2 ⟨v', rfl, h', rfl⟩
    rw [HEND.out] at h'
    go_wp2
    go_ret2
    exact ⟨v', rfl, h', hup⟩
set_option maxHeartbeats 800000 in
theorem nat_gap {v u : Value} {a b : List Nat} {w : World} (ha : Ws w v a) (hb : Ws w u b) (hla : a.length ≤ 100000000000) (hlb : b.length ≤ 100000000000) :
 Calls Tryz.prog 174 #[v, u] w (RetWI (Wd.words (Wd.gapN (Wd.val a) (Wd.val b))) (Wd.cmpI (Wd.val a) (Wd.val b)) w) := by
 go_enter Tryz.func174, Tryz.ntmps174
 go_wp2_with fail
 refine (nat_cmp ha hb hla hlb).mono ?_
 rintro e w1 ⟨n, rfl, rfl⟩
 have hu0 : Up w (w.drewN n) := (Up.refl w).drewN n
 have ha1 := ha.up hu0
 have hb1 := hb.up hu0
 rcases Wd.cmpI_cases (Wd.val a) (Wd.val b) with ⟨h, hc⟩ | ⟨h, hc⟩ | ⟨h, hc⟩
 · have HC := Lib.hid hc
   rw [hc]
   clear hc
   have HIF := Lib.hid (Wd.gapN_lt h)
   go_wp2_with fail
   refine (nat_sub hb1 ha1 hlb hla (Nat.le_of_lt h)).mono ?_
   rintro e w2 ⟨v', rfl, h1, h2⟩
   go_wp2
   go_ret2
   exact ⟨v', by rw [HC.out]; rfl, by rw [HIF.out]; exact h1, hu0.trans h2⟩
 all_goals
  have HC := Lib.hid hc
  rw [hc]
  clear hc
  have hle : Wd.val b ≤ Wd.val a := by omega
  have HIF := Lib.hid (Wd.gapN_ge hle)
  clear h
  go_wp2_with fail
  refine (nat_sub ha1 hb1 hla hlb hle).mono ?_
  rintro e w2 ⟨v', rfl, h1, h2⟩
  go_wp2
  go_ret2
  exact ⟨v', by rw [HC.out]; rfl, by rw [HIF.out]; exact h1, hu0.trans h2⟩
set_option maxHeartbeats 800000 in
theorem nat_add {v : Value} {ls : List (List Nat)} {w : World} (h : Wss w v ls) (hn : ls.length ≤ 100000000000) (hl : ∀ l ∈ ls, l.length ≤ 100000000) (hs : (Wd.words (Wd.vsum ls)).length ≤ 100000000) :
 Calls Tryz.prog 173 #[v] w (RetW (Wd.words (Wd.vsum ls)) w) := by
 obtain ⟨A, c, vs, rfl, p2, p3, p4, p5, p6⟩ := h
 have P4 := Lib.hid p4
 have P6 := Lib.hid p6
 have HL := Lib.hid hl
 have HS := Lib.hid hs
 clear p3 p4 p6 hl hs
 go_enter Tryz.func173, Tryz.ntmps173
 go_wp2
 go_loopw [3, 8] (fun s3 s8 wr => ∃ (k : Nat), s8 = .int .i64 k ∧ k ≤ ls.length ∧ Ws wr s3 (Wd.words (Wd.vsum (ls.take k))) ∧ Up w wr) (fun _ s8 _ => ls.length - (intOf s8).toNat)
 case atStart => exact ⟨0, rfl, Nat.zero_le _, by rw [List.take_zero, Wd.vsum_nil, Wd.words_zero]; exact Ws.nil _, Up.refl _⟩
 case round =>
  obtain ⟨k, rfl, hk, hsum, hup⟩ := hrel
  by_cases hlt : k < ls.length
  · obtain ⟨b1, o1, u, rfl, hb1, hc1, hu⟩ := rd_words p5 P4.out P6.out hlt
    have hc2 := (hup.cell (p := ⟨b1, o1 + k, none⟩) hb1).trans hc1
    have hle : ls[k].length ≤ 100000000 := HL.out _ (List.getElem_mem hlt)
    have hls : (Wd.words (Wd.vsum (ls.take k))).length ≤ 100000000 := Nat.le_trans (Wd.words_len_take ls k) HS.out
    have hnext := Wd.vsum_take_succ hlt
    have HNEXT := Lib.hid hnext
    clear hnext hc1
    go_wp2_with fail
    refine (nat_trim_ws (hu.up hup) (by omega)).mono ?_
    rintro e w2 ⟨u', rfl, hu', rfl⟩
    go_wp2_with fail
    refine (nat_plus hsum hu' (by omega) (by have := len_words_val hu.ok hle; omega)).mono ?_
    rintro e w2 ⟨s', rfl, hs', hup'⟩
    rw [Wd.val_words, Wd.val_words, ← HNEXT.out] at hs'
    go_wp2
    go_roundw
    case rel => exact ⟨k + 1, by go_num, by omega, hs', hup.trans hup'⟩
    case measure => simp [intOf]; omega
  · obtain rfl : k = ls.length := by omega
    rw [List.take_length] at hsum
    go_wp2
    go_ret
    exact ⟨_, rfl, hsum, hup⟩
end Go.Proofs.YtmmcffceeahemaaGreat
