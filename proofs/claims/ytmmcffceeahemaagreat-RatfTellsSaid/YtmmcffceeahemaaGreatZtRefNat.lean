/-
  The walks of the document's layer 2.
-/
import Derived.Test.YtmmcffceeahemaaGreatZtMem
import Derived.Test.YtmmcffceeahemaaGreatZtPlain
import Derived.Test.YtmmcffceeahemaaGreatZtShort
set_option linter.unusedVariables false
set_option linter.unusedSimpArgs false
namespace Go.Proofs.YtmmcffceeahemaaGreat
open Go.RowKit
theorem own_empty (w : World) (T : TypeId) : (w.alloc (.cells #[] T)).ownsRow w.heap.size T 1 (.slice (some ⟨w.heap.size, 0, none⟩) 0 0) 0 [] :=
 World.ownsRow_made w #[] 0 (Nat.le_refl _) (by simp) (by simp)
theorem trim_len {l : List Nat} {n : Nat} (h : Wd.trim l = l.take n) (hn : n ≤ l.length) : (Wd.trim l).length = n := by rw [h, List.length_take]; omega
set_option maxHeartbeats 400000 in
theorem ref_norm {v : Value} {l : List Nat} {w : World} (h : Ws w v l) (hl : l.length ≤ 100000000000) : Calls Tryz.prog 102 #[v] w (RetO (Wd.words (Wd.val l)) w) := by
 obtain ⟨A, c, rfl, h2, h3, h4, h5⟩ := h
 have H3 := Lib.hid h3
 clear h3
 have HW := Lib.hid (Wd.words_val h4)
 go_enter Tryz.func102, Tryz.ntmps102
 go_wp2
 go_loop [3] (fun s => ∃ n : Nat, s = .int .i64 n ∧ n ≤ l.length ∧ Hid (Wd.trim (l.take n) = Wd.trim l)) (fun s => (intOf s).toNat)
 case atStart => exact ⟨l.length, rfl, Nat.le_refl _, Lib.hid (by rw [List.take_length])⟩
 case round =>
  obtain ⟨n, rfl, hn, ht⟩ := hrel
  match n, hn, ht with
  | 0, hn, ht =>
    have e0 : Wd.trim l = l.take 0 := ht.out.symm
    have e1 := trim_len e0 (by omega)
    have E0 := Lib.hid e0
    have E1 := Lib.hid e1
    clear e0 e1
    have HR : Hid (RdV (w.alloc (.cells #[] 122)) _ ((l.take 0).map wv)) := Lib.hid (by rw [List.map_take]; exact (h5.up ((Up.refl w).alloc _)).take _)
    have HM : Hid ((l.take 0).length = 0) := Lib.hid (by rw [List.length_take]; omega)
    go_wp2_with (at_builtin; refine wl_append (w0 := w) rfl (.tmp 18) (.tmp 21) rfl (n := 0) (xs := []) rfl (own_empty _ _) (l := l.take 0) rfl HR.out HM.out (by omega) ((Up.refl w).alloc _) ?_; intro v' w1 h1 h2)
    go_wp2
    go_ret
    refine ⟨v', rfl, ?_, Wd.ok_words _, h2⟩
    rw [HW.out, E0.out, HM.out]
    simpa using h1
  | n + 1, hn, ht =>
    have hk : n < l.length := by exact hn
    obtain ⟨b, o, rfl, hb, hcell⟩ := rd_word h5 hk
    by_cases h0 : l[n] = 0
    · have hnext := Wd.trim_take_of_zero hk h0
      rw [ht.out] at hnext
      have Hnext := Lib.hid hnext.symm
      clear hnext
      go_wp2
      go_round
      case rel => exact ⟨n, rfl, by omega, Hnext⟩
      case measure => simp [intOf]
    · have e0 := Wd.trim_take_of_ne hk h0
      rw [ht.out] at e0
      have e1 := trim_len e0 (by omega)
      have E0 := Lib.hid e0
      have E1 := Lib.hid e1
      clear e0 e1
      have HR : Hid (RdV (w.alloc (.cells #[] 122)) _ ((l.take (n + 1)).map wv)) := Lib.hid (by rw [List.map_take]; exact (h5.up ((Up.refl w).alloc _)).take _)
      have HM : Hid ((l.take (n + 1)).length = (n + 1)) := Lib.hid (by rw [List.length_take]; omega)
      go_wp2_with (at_builtin; refine wl_append (w0 := w) rfl (.tmp 18) (.tmp 21) rfl (n := 0) (xs := []) rfl (own_empty _ _) (l := l.take (n + 1)) rfl HR.out HM.out (by omega) ((Up.refl w).alloc _) ?_; intro v' w1 h1 h2)
      go_wp2
      go_ret
      refine ⟨v', rfl, ?_, Wd.ok_words _, h2⟩
      rw [HW.out, E0.out, HM.out]
      simpa using h1
set_option maxHeartbeats 400000 in
theorem ref_of {n : Int} (X : Nat) (hn : n = X) (hX : X < 18446744073709551616) (w : World) : Calls Tryz.prog 132 #[.int .u64 n] w (RetO (Wd.words X) w) := by
 subst hn
 have hW : Ws (w.alloc (.cells #[.int .u32 ((X : Int) % 4294967296), .int .u32 ((X : Int) / 4294967296)] 122)) (.slice (some ⟨w.heap.size, 0, none⟩) 2 2) [X % 4294967296, X / 4294967296] := by
  refine Blk.ws (l := [X % 4294967296, X / 4294967296]) (blk_new w [X % 4294967296, X / 4294967296]) ?_ (by simp [maxLen])
  intro x hx
  rw [Wd.B_eq]
  simp at hx
  omega
 have hv : Wd.val [X % 4294967296, X / 4294967296] = X := by
  simp only [Wd.val, Wd.B_eq]; omega
 have HV := Lib.hid hv
 clear hv
 go_enter Tryz.func132, Tryz.ntmps132
 go_wp2_with fail
 refine (ref_norm hW (by simp)).mono ?_
 rintro e w' ⟨v', rfl, h', h2, h3⟩
 rw [HV.out] at h' h2
 have hu : Up w w' := ((Up.refl w).alloc _).trans h3
 go_wp2
 go_ret
 refine ⟨v', rfl, own_weaken h' (by simp), h2, hu⟩
set_option maxHeartbeats 400000 in
theorem ref_at {v : Value} {l : List Nat} {i : Int} {w : World} (I : Nat) (hi : i = I) (h : Ws w v l) (hl : l.length ≤ 100000000000) (hI : I ≤ 100000000000) : Calls Tryz.prog 161 #[v, .int .i64 i] w fun e w' => e = .returned (.int .u32 ((l.getD I 0 : Nat) : Int)) ∧ w = w' := by
 subst hi
 obtain ⟨A, c, rfl, h2, h3, h4, h5⟩ := h
 clear h3
 by_cases hlt : I < l.length
 · obtain ⟨b, o, rfl, hb, hcell⟩ := rd_word_D h5 hlt
   generalize l.getD I 0 = x at *
   go_enter Tryz.func161, Tryz.ntmps161
   go_wp2
   go_ret
   exact ⟨rfl, rfl⟩
 · have e := getD_ge l (i := I) (by omega)
   rw [e]
   go_enter Tryz.func161, Tryz.ntmps161
   go_wp2
   go_ret
   exact ⟨rfl, rfl⟩
set_option maxHeartbeats 400000 in
theorem ref_cmp {v u : Value} {a b : List Nat} {w : World} (ha : Ws w v a) (hb : Ws w u b) (hla : a.length ≤ 100000000000) (hlb : b.length ≤ 100000000000) :
 Calls Tryz.prog 145 #[v, u] w fun e w' => e = .returned (.int .i64 (Wd.cmpI (Wd.val a) (Wd.val b))) ∧ w = w' := by
 have oka := ha.ok
 have okb := hb.ok
 have ha0 := ha
 have hb0 := hb
 obtain ⟨A, c, rfl, p2, _, _, _⟩ := ha
 obtain ⟨D, d, rfl, q2, _, _, _⟩ := hb
 obtain ⟨N, hN⟩ : ∃ N, N = max a.length b.length := ⟨_, rfl⟩
 have hNle : N ≤ 100000000000 := by omega
 have HNA : Hid (a.length ≤ N ∧ b.length ≤ N) := Lib.hid (by omega)
 have hN1 : a.length < b.length → N = b.length := by omega
 have hN2 : ¬ a.length < b.length → N = a.length := by omega
 have HN1 := Lib.hid hN1
 have HN2 := Lib.hid hN2
 clear hN hN1 hN2
 have OA := Lib.hid oka
 have OB := Lib.hid okb
 clear oka okb
 by_cases hab : a.length < b.length
 all_goals
  go_enter Tryz.func145, Tryz.ntmps145
  go_wp2
  go_loop [5] (fun s => ∃ k : Nat, s = .int .i64 ((k : Int) - 1) ∧ k ≤ N ∧ Hid (Wd.val (a.drop k) = Wd.val (b.drop k))) (fun s => (intOf s + 1).toNat)
  case atStart => exact ⟨N, by first | rw [HN1.out hab] | rw [HN2.out hab], Nat.le_refl _, Lib.hid (by rw [List.drop_eq_nil_of_le HNA.out.1, List.drop_eq_nil_of_le HNA.out.2])⟩
  case round =>
   obtain ⟨k, rfl, hk, hd⟩ := hrel
   match k, hk, hd with
   | 0, hk, hd =>
     have HV := Lib.hid (Wd.cmpI_eq (show Wd.val a = Wd.val b from hd.out))
     go_wp2
     go_ret
     exact ⟨by rw [HV.out]; rfl, rfl⟩
   | k + 1, hk, hd =>
     have ei : ((k + 1 : Nat) : Int) - 1 = k := by omega
     rw [ei]
     clear ei
     have H1 := Lib.hid (fun h : a.getD k 0 < b.getD k 0 => Wd.cmpI_lt (Wd.lt_of_drop OA.out hd.out h))
     have H2 := Lib.hid (fun h : b.getD k 0 < a.getD k 0 => Wd.cmpI_gt (Wd.lt_of_drop OB.out hd.out.symm h))
     have H3 := Lib.hid (fun h : a.getD k 0 = b.getD k 0 => Wd.drop_step hd.out h)
     go_wp2_with fail
     refine (ref_at k rfl ha0 hla (by omega)).mono ?_
     rintro e w' ⟨rfl, rfl⟩
     generalize a.getD k 0 = x at *
     go_wp2_with fail
     refine (ref_at k rfl hb0 hlb (by omega)).mono ?_
     rintro e w' ⟨rfl, rfl⟩
     generalize b.getD k 0 = y at *
     rcases Nat.lt_trichotomy x y with h | h | h
     · have HV := Lib.hid (H1.out h)
       go_wp2
       go_ret
       exact ⟨by rw [HV.out]; rfl, rfl⟩
     · have HV := Lib.hid (H3.out h)
       subst h
       go_wp2
       go_round
       case rel => exact ⟨k, rfl, by omega, HV⟩
       case measure => simp [intOf]
     · have HV := Lib.hid (H2.out h)
       go_wp2
       go_ret
       exact ⟨by rw [HV.out]; rfl, rfl⟩
theorem take_all_eq {a b : List Nat} (h : a.length = b.length) (ht : a.take a.length = b.take a.length) : a = b := by
 rw [List.take_length, h, List.take_length] at ht; exact ht
theorem take_succ_eq {a b : List Nat} {k : Nat} (hka : k < a.length) (hkb : k < b.length) (h : a.take k = b.take k) (hx : a.getD k 0 = b.getD k 0) : a.take (k + 1) = b.take (k + 1) := by
 rw [getD_lt a hka, getD_lt b hkb] at hx
 rw [List.take_succ_eq_append_getElem hka, List.take_succ_eq_append_getElem hkb, h, hx]
set_option maxHeartbeats 400000 in
theorem ref_same {v u : Value} {a b : List Nat} {w : World} (ha : Ws w v a) (hb : Ws w u b) (hla : a.length ≤ 100000000000) (hlb : b.length ≤ 100000000000) :
 Calls Tryz.prog 143 #[v, u] w fun e w' => ∃ n, e = .returned (.bool (decide (a = b))) ∧ w' = w.drewN n := by
 obtain ⟨A, c, rfl, p2, p3, p4, p5⟩ := ha
 obtain ⟨D, d, rfl, q2, q3, q4, q5⟩ := hb
 clear p3 q3 p4 q4
 by_cases hlen : a.length = b.length
 · have HLEN := Lib.hid hlen
   rw [← hlen] at q2 hlb ⊢
   clear hlen
   go_enter Tryz.func143, Tryz.ntmps143
   go_wp2
   go_loopw [5] (fun s wr => ∃ k n : Nat, s = .int .i64 k ∧ k ≤ a.length ∧ wr = w.drewN n ∧ Hid (a.take k = b.take k)) (fun s _ => a.length - (intOf s).toNat)
   case atStart => exact ⟨0, 0, rfl, Nat.zero_le _, rfl, Lib.hid rfl⟩
   case round =>
    obtain ⟨k, n, rfl, hk, rfl, ht⟩ := hrel
    by_cases hlt : k < a.length
    · obtain ⟨b1, o1, rfl, hb1, hc1⟩ := rd_word_D p5 hlt
      obtain ⟨b2, o2, rfl, hb2, hc2⟩ := rd_word_D q5 (k := k) (by rw [← HLEN.out]; exact hlt)
      have H1 := Lib.hid (fun h : a.getD k 0 = b.getD k 0 => take_succ_eq hlt (by rw [← HLEN.out]; exact hlt) ht.out h)
      have H2 := Lib.hid (fun (h : a.getD k 0 ≠ b.getD k 0) (e : a = b) => h (by rw [e]))
      generalize a.getD k 0 = x at *
      generalize b.getD k 0 = y at *
      by_cases hxy : x = y
      · have HN := Lib.hid (H1.out hxy)
        subst hxy
        go_wp2
        go_quiet (fail)
        go_wp2
        go_roundw
        case rel => exact ⟨k + 1, _, by go_num, by omega, by first | rfl | exact drewN_add _ _ _, HN⟩
        case measure => simp [intOf]; omega
      · have HN := Lib.hid (decide_eq_false (H2.out hxy))
        have hne : ((x : Int) != (y : Int)) = true := by simp; omega
        go_wp2
        go_quiet (fail)
        go_wp2
        go_ret
        exact ⟨_, by rw [HN.out]; rfl, by first | rfl | exact drewN_add _ _ _⟩
    · obtain rfl : k = a.length := by omega
      have HN := Lib.hid (decide_eq_true (take_all_eq HLEN.out ht.out))
      go_wp2
      go_ret
      exact ⟨n, by rw [HN.out]; rfl, rfl⟩
 · have HN := Lib.hid (decide_eq_false (p := a = b) (fun e => hlen (by rw [e])))
   have hne : ((a.length : Int) != (b.length : Int)) = true := by simp; omega
   go_enter Tryz.func143, Tryz.ntmps143
   go_wp2
   go_ret
   exact ⟨0, by rw [HN.out]; rfl, rfl⟩
set_option maxHeartbeats 1600000 in
theorem ref_add {v u : Value} {a b : List Nat} {w : World} (ha : Ws w v a) (hb : Ws w u b) (hla : a.length ≤ 99999999999) (hlb : b.length ≤ 99999999999) :
 Calls Tryz.prog 131 #[v, u] w (RetO (Wd.words (Wd.val a + Wd.val b)) w) := by
 have oka := ha.ok
 have okb := hb.ok
 have ha0 := ha
 have hb0 := hb
 obtain ⟨A, c, rfl, p2, _, _, _⟩ := ha
 obtain ⟨D, d, rfl, q2, _, _, _⟩ := hb
 obtain ⟨N, hN⟩ : ∃ N, N = max a.length b.length := ⟨_, rfl⟩
 have hNle : N ≤ 99999999999 := by omega
 have HNA : Hid (a.length ≤ N ∧ b.length ≤ N) := Lib.hid (by omega)
 have hN1 : a.length < b.length → N = b.length := by omega
 have hN2 : ¬ a.length < b.length → N = a.length := by omega
 have HN1 := Lib.hid hN1
 have HN2 := Lib.hid hN2
 clear hN hN1 hN2
 have OA := Lib.hid oka
 have OB := Lib.hid okb
 clear oka okb
 by_cases hab : a.length < b.length
 · have HE := Lib.hid (HN1.out hab)
   go_enter Tryz.func131, Tryz.ntmps131
   go_wp2_with (at_make; go_loud (refine wl_make rfl _ _ rfl (b.length + 1) rfl rfl ?_ ?_ ?_))
   · omega
   · omega
   intro w1 hb1 hu1
   have hz : (List.replicate (b.length + 1) 0).length = N + 1 := by rw [List.length_replicate, HE.out]
   have hzo := Wd.ok_replicate (b.length + 1)
   rw [← HE.out] at hb1 hz hzo ⊢
   generalize List.replicate (N + 1) 0 = o1 at hb1 hz hzo
   have HZ := Lib.hid hz
   have HZO := Lib.hid hzo
   try rw [← HE.out] at ha0
   try rw [← HE.out] at hb0
   clear hz hzo
   go_wp2_with fail
   go_loopw [7, 8] (fun s7 s8 wr => ∃ (i cy : Nat) (o : List Nat), s7 = .int .u64 cy ∧ s8 = .int .i64 i ∧ i ≤ N + 1 ∧ cy ≤ 1 ∧ Hid (o.length = N + 1) ∧ Hid (Wd.Ok o) ∧ Blk wr w.heap.size o ∧ Up w wr ∧ Hid (Wd.AddAt a b o i cy)) (fun _ s8 _ => N + 1 - (intOf s8).toNat)
   case atStart => exact ⟨0, 0, o1, rfl, rfl, Nat.zero_le _, by omega, HZ, HZO, hb1, hu1, Lib.hid (Wd.addAt_zero _ _ _)⟩
   case round =>
    obtain ⟨i, cy, o, rfl, rfl, hi, hcy, ho, HO, hbl, hup, HAT⟩ := hrel
    by_cases hlt : i < N + 1
    · have hx := Wd.ok_getD OA.out i
      have hy := Wd.ok_getD OB.out i
      have hil : i < o.length := by rw [ho.out]; omega
      have HN := Lib.hid (Wd.addAt_step hil hx hy HAT.out)
      have hs := Wd.addS_lt (a.getD i 0) (b.getD i 0) cy
      have HO2 := Lib.hid (Wd.ok_set HO.out i hs)
      have hc1 := HN.out.1
      have hcg := hbl.cellD hil
      have hfg := hbl.free i
      have hblN := Lib.hid (hbl.set i (Wd.addS (a.getD i 0) (b.getD i 0) cy))
      have eS : ((Wd.addS (a.getD i 0) (b.getD i 0) cy : Nat) : Int) = ((cy : Int) + (((a.getD i 0 : Nat) : Int) + ((b.getD i 0 : Nat) : Int))) % 4294967296 := by simp only [Wd.addS]; omega
      have eC : ((Wd.addC (a.getD i 0) (b.getD i 0) cy : Nat) : Int) = ((cy : Int) + (((a.getD i 0 : Nat) : Int) + ((b.getD i 0 : Nat) : Int))) / 4294967296 := by simp only [Wd.addC]; omega
      have ES := Lib.hid eS
      have EC := Lib.hid eC
      rw [Wd.B_eq] at hx hy
      clear hs eS eC
      go_wp2_with fail
      refine (ref_at i rfl (ha0.up hup) (by omega) (by omega)).mono ?_
      rintro e w' ⟨rfl, rfl⟩
      generalize a.getD i 0 = x at *
      go_wp2_with fail
      refine (ref_at i rfl (hb0.up hup) (by omega) (by omega)).mono ?_
      rintro e w' ⟨rfl, rfl⟩
      generalize b.getD i 0 = y at *
      generalize o.getD i 0 = z at *
      go_wp2
      go_roundw
      case rel => exact ⟨i + 1, Wd.addC x y cy, o.set i (Wd.addS x y cy), by rw [EC.out], by go_num, by omega, hc1, Lib.hid (by rw [List.length_set]; exact ho.out), HO2, by rw [← ES.out]; exact hblN.out, hup.setCell (Nat.le_refl _) _, HN⟩
      case measure => simp [intOf]; omega
    · obtain rfl : i = N + 1 := by omega
      have hend := (Wd.addAt_full HNA.out.1 HNA.out.2 ho.out OA.out OB.out HAT.out).1
      have hwn : Ws wr (.slice (some ⟨w.heap.size, 0, none⟩) (N + 1) (N + 1)) o := by
       have := hbl.ws HO.out (by rw [ho.out]; unfold maxLen; omega)
       rw [ho.out] at this
       exact this
      have HEND := Lib.hid hend
      clear hend
      go_wp2_with fail
      refine (ref_norm hwn (by rw [ho.out]; omega)).mono ?_
      rintro e w2 ⟨v', rfl, h', h2, h3⟩
      rw [HEND.out] at h' h2
      have hsz := hup.size
      have hfin : Up w w2 := hup.trans h3
      go_wp2
      go_ret
      exact ⟨v', rfl, own_weaken h' hsz, h2, hfin⟩
 · have HE := Lib.hid (HN2.out hab)
   go_enter Tryz.func131, Tryz.ntmps131
   go_wp2_with (at_make; go_loud (refine wl_make rfl _ _ rfl (a.length + 1) rfl rfl ?_ ?_ ?_))
   · omega
   · omega
   intro w1 hb1 hu1
   have hz : (List.replicate (a.length + 1) 0).length = N + 1 := by rw [List.length_replicate, HE.out]
   have hzo := Wd.ok_replicate (a.length + 1)
   rw [← HE.out] at hb1 hz hzo ⊢
   generalize List.replicate (N + 1) 0 = o1 at hb1 hz hzo
   have HZ := Lib.hid hz
   have HZO := Lib.hid hzo
   try rw [← HE.out] at ha0
   try rw [← HE.out] at hb0
   clear hz hzo
   go_wp2_with fail
   go_loopw [7, 8] (fun s7 s8 wr => ∃ (i cy : Nat) (o : List Nat), s7 = .int .u64 cy ∧ s8 = .int .i64 i ∧ i ≤ N + 1 ∧ cy ≤ 1 ∧ Hid (o.length = N + 1) ∧ Hid (Wd.Ok o) ∧ Blk wr w.heap.size o ∧ Up w wr ∧ Hid (Wd.AddAt a b o i cy)) (fun _ s8 _ => N + 1 - (intOf s8).toNat)
   case atStart => exact ⟨0, 0, o1, rfl, rfl, Nat.zero_le _, by omega, HZ, HZO, hb1, hu1, Lib.hid (Wd.addAt_zero _ _ _)⟩
   case round =>
    obtain ⟨i, cy, o, rfl, rfl, hi, hcy, ho, HO, hbl, hup, HAT⟩ := hrel
    by_cases hlt : i < N + 1
    · have hx := Wd.ok_getD OA.out i
      have hy := Wd.ok_getD OB.out i
      have hil : i < o.length := by rw [ho.out]; omega
      have HN := Lib.hid (Wd.addAt_step hil hx hy HAT.out)
      have hs := Wd.addS_lt (a.getD i 0) (b.getD i 0) cy
      have HO2 := Lib.hid (Wd.ok_set HO.out i hs)
      have hc1 := HN.out.1
      have hcg := hbl.cellD hil
      have hfg := hbl.free i
      have hblN := Lib.hid (hbl.set i (Wd.addS (a.getD i 0) (b.getD i 0) cy))
      have eS : ((Wd.addS (a.getD i 0) (b.getD i 0) cy : Nat) : Int) = ((cy : Int) + (((a.getD i 0 : Nat) : Int) + ((b.getD i 0 : Nat) : Int))) % 4294967296 := by simp only [Wd.addS]; omega
      have eC : ((Wd.addC (a.getD i 0) (b.getD i 0) cy : Nat) : Int) = ((cy : Int) + (((a.getD i 0 : Nat) : Int) + ((b.getD i 0 : Nat) : Int))) / 4294967296 := by simp only [Wd.addC]; omega
      have ES := Lib.hid eS
      have EC := Lib.hid eC
      rw [Wd.B_eq] at hx hy
      clear hs eS eC
      go_wp2_with fail
      refine (ref_at i rfl (ha0.up hup) (by omega) (by omega)).mono ?_
      rintro e w' ⟨rfl, rfl⟩
      generalize a.getD i 0 = x at *
      go_wp2_with fail
      refine (ref_at i rfl (hb0.up hup) (by omega) (by omega)).mono ?_
      rintro e w' ⟨rfl, rfl⟩
      generalize b.getD i 0 = y at *
      generalize o.getD i 0 = z at *
      go_wp2
      go_roundw
      case rel => exact ⟨i + 1, Wd.addC x y cy, o.set i (Wd.addS x y cy), by rw [EC.out], by go_num, by omega, hc1, Lib.hid (by rw [List.length_set]; exact ho.out), HO2, by rw [← ES.out]; exact hblN.out, hup.setCell (Nat.le_refl _) _, HN⟩
      case measure => simp [intOf]; omega
    · obtain rfl : i = N + 1 := by omega
      have hend := (Wd.addAt_full HNA.out.1 HNA.out.2 ho.out OA.out OB.out HAT.out).1
      have hwn : Ws wr (.slice (some ⟨w.heap.size, 0, none⟩) (N + 1) (N + 1)) o := by
       have := hbl.ws HO.out (by rw [ho.out]; unfold maxLen; omega)
       rw [ho.out] at this
       exact this
      have HEND := Lib.hid hend
      clear hend
      go_wp2_with fail
      refine (ref_norm hwn (by rw [ho.out]; omega)).mono ?_
      rintro e w2 ⟨v', rfl, h', h2, h3⟩
      rw [HEND.out] at h' h2
      have hsz := hup.size
      have hfin : Up w w2 := hup.trans h3
      go_wp2
      go_ret
      exact ⟨v', rfl, own_weaken h' hsz, h2, hfin⟩
set_option maxHeartbeats 1600000 in
theorem ref_sub {v u : Value} {a b : List Nat} {w : World} (ha : Ws w v a) (hb : Ws w u b) (hla : a.length ≤ 99999999999) (hlb : b.length ≤ 99999999999) (hle : Wd.val b ≤ Wd.val a) :
 Calls Tryz.prog 177 #[v, u] w (RetO (Wd.words (Wd.val a - Wd.val b)) w) := by
 have HLE := Lib.hid hle
 clear hle
 have oka := ha.ok
 have okb := hb.ok
 have ha0 := ha
 have hb0 := hb
 obtain ⟨A, c, rfl, p2, _, _, _⟩ := ha
 obtain ⟨D, d, rfl, q2, _, _, _⟩ := hb
 obtain ⟨N, hN⟩ : ∃ N, N = max a.length b.length := ⟨_, rfl⟩
 have hNle : N ≤ 99999999999 := by omega
 have HNA : Hid (a.length ≤ N ∧ b.length ≤ N) := Lib.hid (by omega)
 have hN1 : a.length < b.length → N = b.length := by omega
 have hN2 : ¬ a.length < b.length → N = a.length := by omega
 have HN1 := Lib.hid hN1
 have HN2 := Lib.hid hN2
 clear hN hN1 hN2
 have OA := Lib.hid oka
 have OB := Lib.hid okb
 clear oka okb
 by_cases hab : a.length < b.length
 · have HE := Lib.hid (HN1.out hab)
   go_enter Tryz.func177, Tryz.ntmps177
   go_wp2_with (at_make; go_loud (refine wl_make rfl _ _ rfl (b.length) rfl rfl ?_ ?_ ?_))
   · omega
   · omega
   intro w1 hb1 hu1
   have hz : (List.replicate (b.length) 0).length = N := by rw [List.length_replicate, HE.out]
   have hzo := Wd.ok_replicate (b.length)
   rw [← HE.out] at hb1 hz hzo ⊢
   generalize List.replicate (N) 0 = o1 at hb1 hz hzo
   have HZ := Lib.hid hz
   have HZO := Lib.hid hzo
   try rw [← HE.out] at ha0
   try rw [← HE.out] at hb0
   clear hz hzo
   go_wp2_with fail
   go_loopw [7, 8] (fun s7 s8 wr => ∃ (i cy : Nat) (o : List Nat), s7 = .int .u64 cy ∧ s8 = .int .i64 i ∧ i ≤ N ∧ cy ≤ 1 ∧ Hid (o.length = N) ∧ Hid (Wd.Ok o) ∧ Blk wr w.heap.size o ∧ Up w wr ∧ Hid (Wd.SubAt a b o i cy)) (fun _ s8 _ => N - (intOf s8).toNat)
   case atStart => exact ⟨0, 0, o1, rfl, rfl, Nat.zero_le _, by omega, HZ, HZO, hb1, hu1, Lib.hid (Wd.subAt_zero _ _ _)⟩
   case round =>
    obtain ⟨i, cy, o, rfl, rfl, hi, hcy, ho, HO, hbl, hup, HAT⟩ := hrel
    by_cases hlt : i < N
    · have hx := Wd.ok_getD OA.out i
      have hy := Wd.ok_getD OB.out i
      have hil : i < o.length := by rw [ho.out]; omega
      have HN := Lib.hid (Wd.subAt_step hil hy HAT.out)
      have hs := Wd.subD_lt hx hy (Nat.lt_of_le_of_lt hcy Wd.B_one)
      have HO2 := Lib.hid (Wd.ok_set HO.out i hs)
      have hc1 := HN.out.1
      have hcg := hbl.cellD hil
      have hfg := hbl.free i
      have hblN := Lib.hid (hbl.set i (Wd.subD (a.getD i 0) (b.getD i 0) cy))
      rw [Wd.B_eq] at hx hy
      clear hs
      go_wp2_with fail
      refine (ref_at i rfl (ha0.up hup) (by omega) (by omega)).mono ?_
      rintro e w' ⟨rfl, rfl⟩
      generalize a.getD i 0 = x at *
      go_wp2_with fail
      refine (ref_at i rfl (hb0.up hup) (by omega) (by omega)).mono ?_
      rintro e w' ⟨rfl, rfl⟩
      generalize b.getD i 0 = y at *
      generalize o.getD i 0 = z at *
      by_cases hxy : x < y + cy
      · have eB : Wd.subB x y cy = 1 := by simp only [Wd.subB]; omega
        have eD : ((Wd.subD x y cy : Nat) : Int) = (x : Int) + 4294967296 - ((y : Int) + (cy : Int)) := by simp only [Wd.subD, eB]; omega
        have EB := Lib.hid eB
        have ED := Lib.hid eD
        clear eB eD
        go_wp2
        go_roundw
        case rel => exact ⟨i + 1, Wd.subB x y cy, o.set i (Wd.subD x y cy), by rw [EB.out]; rfl, by go_num, by omega, hc1, Lib.hid (by rw [List.length_set]; exact ho.out), HO2, by rw [← ED.out]; exact hblN.out, hup.setCell (Nat.le_refl _) _, HN⟩
        case measure => simp [intOf]; omega
      · have eB : Wd.subB x y cy = 0 := by simp only [Wd.subB]; omega
        have eD : ((Wd.subD x y cy : Nat) : Int) = (x : Int) - ((y : Int) + (cy : Int)) := by simp only [Wd.subD, eB]; omega
        have EB := Lib.hid eB
        have ED := Lib.hid eD
        clear eB eD
        go_wp2
        go_roundw
        case rel => exact ⟨i + 1, Wd.subB x y cy, o.set i (Wd.subD x y cy), by rw [EB.out]; rfl, by go_num, by omega, hc1, Lib.hid (by rw [List.length_set]; exact ho.out), HO2, by rw [← ED.out]; exact hblN.out, hup.setCell (Nat.le_refl _) _, HN⟩
        case measure => simp [intOf]; omega
    · obtain rfl : N = i := by omega
      have hend := (Wd.subAt_full HNA.out.1 HNA.out.2 ho.out HO.out HLE.out HAT.out).1
      have hwn : Ws wr (.slice (some ⟨w.heap.size, 0, none⟩) (N) (N)) o := by
       have := hbl.ws HO.out (by rw [ho.out]; unfold maxLen; omega)
       rw [ho.out] at this
       exact this
      have HEND := Lib.hid hend
      clear hend
      go_wp2_with fail
      refine (ref_norm hwn (by rw [ho.out]; omega)).mono ?_
      rintro e w2 ⟨v', rfl, h', h2, h3⟩
      rw [HEND.out] at h' h2
      have hsz := hup.size
      have hfin : Up w w2 := hup.trans h3
      go_wp2
      go_ret
      exact ⟨v', rfl, own_weaken h' hsz, h2, hfin⟩
 · have HE := Lib.hid (HN2.out hab)
   go_enter Tryz.func177, Tryz.ntmps177
   go_wp2_with (at_make; go_loud (refine wl_make rfl _ _ rfl (a.length) rfl rfl ?_ ?_ ?_))
   · omega
   · omega
   intro w1 hb1 hu1
   have hz : (List.replicate (a.length) 0).length = N := by rw [List.length_replicate, HE.out]
   have hzo := Wd.ok_replicate (a.length)
   rw [← HE.out] at hb1 hz hzo ⊢
   generalize List.replicate (N) 0 = o1 at hb1 hz hzo
   have HZ := Lib.hid hz
   have HZO := Lib.hid hzo
   try rw [← HE.out] at ha0
   try rw [← HE.out] at hb0
   clear hz hzo
   go_wp2_with fail
   go_loopw [7, 8] (fun s7 s8 wr => ∃ (i cy : Nat) (o : List Nat), s7 = .int .u64 cy ∧ s8 = .int .i64 i ∧ i ≤ N ∧ cy ≤ 1 ∧ Hid (o.length = N) ∧ Hid (Wd.Ok o) ∧ Blk wr w.heap.size o ∧ Up w wr ∧ Hid (Wd.SubAt a b o i cy)) (fun _ s8 _ => N - (intOf s8).toNat)
   case atStart => exact ⟨0, 0, o1, rfl, rfl, Nat.zero_le _, by omega, HZ, HZO, hb1, hu1, Lib.hid (Wd.subAt_zero _ _ _)⟩
   case round =>
    obtain ⟨i, cy, o, rfl, rfl, hi, hcy, ho, HO, hbl, hup, HAT⟩ := hrel
    by_cases hlt : i < N
    · have hx := Wd.ok_getD OA.out i
      have hy := Wd.ok_getD OB.out i
      have hil : i < o.length := by rw [ho.out]; omega
      have HN := Lib.hid (Wd.subAt_step hil hy HAT.out)
      have hs := Wd.subD_lt hx hy (Nat.lt_of_le_of_lt hcy Wd.B_one)
      have HO2 := Lib.hid (Wd.ok_set HO.out i hs)
      have hc1 := HN.out.1
      have hcg := hbl.cellD hil
      have hfg := hbl.free i
      have hblN := Lib.hid (hbl.set i (Wd.subD (a.getD i 0) (b.getD i 0) cy))
      rw [Wd.B_eq] at hx hy
      clear hs
      go_wp2_with fail
      refine (ref_at i rfl (ha0.up hup) (by omega) (by omega)).mono ?_
      rintro e w' ⟨rfl, rfl⟩
      generalize a.getD i 0 = x at *
      go_wp2_with fail
      refine (ref_at i rfl (hb0.up hup) (by omega) (by omega)).mono ?_
      rintro e w' ⟨rfl, rfl⟩
      generalize b.getD i 0 = y at *
      generalize o.getD i 0 = z at *
      by_cases hxy : x < y + cy
      · have eB : Wd.subB x y cy = 1 := by simp only [Wd.subB]; omega
        have eD : ((Wd.subD x y cy : Nat) : Int) = (x : Int) + 4294967296 - ((y : Int) + (cy : Int)) := by simp only [Wd.subD, eB]; omega
        have EB := Lib.hid eB
        have ED := Lib.hid eD
        clear eB eD
        go_wp2
        go_roundw
        case rel => exact ⟨i + 1, Wd.subB x y cy, o.set i (Wd.subD x y cy), by rw [EB.out]; rfl, by go_num, by omega, hc1, Lib.hid (by rw [List.length_set]; exact ho.out), HO2, by rw [← ED.out]; exact hblN.out, hup.setCell (Nat.le_refl _) _, HN⟩
        case measure => simp [intOf]; omega
      · have eB : Wd.subB x y cy = 0 := by simp only [Wd.subB]; omega
        have eD : ((Wd.subD x y cy : Nat) : Int) = (x : Int) - ((y : Int) + (cy : Int)) := by simp only [Wd.subD, eB]; omega
        have EB := Lib.hid eB
        have ED := Lib.hid eD
        clear eB eD
        go_wp2
        go_roundw
        case rel => exact ⟨i + 1, Wd.subB x y cy, o.set i (Wd.subD x y cy), by rw [EB.out]; rfl, by go_num, by omega, hc1, Lib.hid (by rw [List.length_set]; exact ho.out), HO2, by rw [← ED.out]; exact hblN.out, hup.setCell (Nat.le_refl _) _, HN⟩
        case measure => simp [intOf]; omega
    · obtain rfl : N = i := by omega
      have hend := (Wd.subAt_full HNA.out.1 HNA.out.2 ho.out HO.out HLE.out HAT.out).1
      have hwn : Ws wr (.slice (some ⟨w.heap.size, 0, none⟩) (N) (N)) o := by
       have := hbl.ws HO.out (by rw [ho.out]; unfold maxLen; omega)
       rw [ho.out] at this
       exact this
      have HEND := Lib.hid hend
      clear hend
      go_wp2_with fail
      refine (ref_norm hwn (by rw [ho.out]; omega)).mono ?_
      rintro e w2 ⟨v', rfl, h', h2, h3⟩
      rw [HEND.out] at h' h2
      have hsz := hup.size
      have hfin : Up w w2 := hup.trans h3
      go_wp2
      go_ret
      exact ⟨v', rfl, own_weaken h' hsz, h2, hfin⟩
end Go.Proofs.YtmmcffceeahemaaGreat
