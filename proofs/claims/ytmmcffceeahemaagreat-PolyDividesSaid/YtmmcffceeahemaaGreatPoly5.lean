/-
  Layer 14: a row with noughts behind.
-/
import Derived.Test.YtmmcffceeahemaaGreatPoly4
set_option linter.unusedVariables false
set_option linter.unusedSimpArgs false
namespace Pq
/-- Noughts behind, up to a length: the first j of them are laid. -/
def pad (qs : List Rat) (n j : Nat) : List Rat := (List.range n).map (fun i => if i < j then qs.getD i 0 else 0)
theorem pad_len (qs : List Rat) (n j : Nat) : (pad qs n j).length = n := by simp [pad]
theorem pad_zero (qs : List Rat) (n : Nat) : List.replicate n 0 = pad qs n 0 := by
 apply List.ext_getElem (by simp [pad])
 intro i h1 h2
 simp [pad]
theorem pad_set {qs : List Rat} {n j : Nat} (h : j < n) : (pad qs n j).set j (qs.getD j 0) = pad qs n (j + 1) := by
 apply List.ext_getElem (by simp [pad])
 intro i h1 h2
 simp only [pad, List.getElem_set, List.getElem_map, List.getElem_range]
 by_cases e : j = i
 · subst e
   rw [if_pos rfl, if_pos (Nat.lt_succ_self j)]
 · rw [if_neg e]
   by_cases hi : i < j
   · rw [if_pos hi, if_pos (by omega)]
   · rw [if_neg hi, if_neg (by omega)]
end Pq
namespace Go.Proofs.YtmmcffceeahemaaGreat
open Go.RowKit

/-- 'make([]Frac, n)'. -/
theorem wl_make_q {w0 w : World} {ops : Array Oper} {rest : List Oper} {o : Oper} {a : Act} {Q : Exit → Act → World → Prop} {P : World → Value → Rat → Prop}
 (hP : ∀ w, P w F3.zero.agg 0) (hg : o.guard = none) (lo co : Operand) (hop : o.op = Op.makeSlice 49 lo co) (n : Nat) {L : Int} (hl : a.eval lo = .int .i64 L) (hc : a.eval co = .int .i64 L) (hL : L = (n : Int)) (hn : n ≤ 400000000) (hu : Up w0 w)
 (hK : ∀ w', OwnQ P 34 w0.heap.size w' (.slice (some ⟨w.heap.size, 0, none⟩) n n) (List.replicate n 0) → Up w w' → wpList Tryz.prog ops Q rest (a.put o.dst (.slice (some ⟨w.heap.size, 0, none⟩) n n)) w') :
 wpList Tryz.prog ops Q (o :: rest) a w := by
 obtain ⟨i0, hi, hz0, hz1, hz2⟩ := info_parts (show (Tryz.prog.info? 34).map (fun i => (i.zero, i.size, i.bytes)) = some (some (.agg #[.bool false, .slice none 0 0, .slice none 0 0]), 3, 56) from info_frac)
 refine wpList_make_full w hg lo co 49 hop w.heap.size 34 i0 (.agg #[.bool false, .slice none 0 0, .slice none 0 0]) 3 Tryz.underlying49 hi hz0 hz1 .i64 .i64 L L n hl hc hL hL (by rw [hz2]; omega) (by unfold maxLen; omega) (Nat.le_refl _) ?_
 intro w' hown hgr
 refine hK w' ?_ ((Up.refl w).grown hgr (fun k h => by cases h))
 rcases hown.2 with ⟨h1, _⟩ | ⟨g, cap, cur, hv, _, hh, _, _, hs, htake⟩
 · cases h1
 · simp at hv
   obtain ⟨rfl, rfl⟩ := hv
   refine OwnQ.made hP ?_ hu (by omega)
   unfold Bx
   rw [hh]
   have e : cur.toList = (madeCells #[.bool false, .slice none 0 0, .slice none 0 0] (n * 3)).toList := by
    have ec : (Value.agg #[.bool false, .slice none 0 0, .slice none 0 0]).cells = #[.bool false, .slice none 0 0, .slice none 0 0] := by first | rfl | simp [Value.cells]
    rw [ec, List.take_of_length_le (by simp [hs])] at htake
    exact htake
   have e2 : cur = (fcells (List.replicate n F3.zero)).toArray := by
    apply Array.toList_inj.1
    rw [e, made_f3]
   rw [e2]
theorem frk_zero {k : Nat} (hk : 1 ≤ k) (w : World) : Frk k w F3.zero.agg 0 := ⟨false, .slice none 0 0, .slice none 0 0, [], [], rfl, Ws.nil w, Ws.nil w, by simp [Wd.val, Wd.iv], by simp, by simp, hk⟩
set_option maxRecDepth 100000 in
set_option maxHeartbeats 6400000 in
theorem poly_long {v : Value} {qs : List Rat} {ka n : Nat} {w : World} (h : Sq (Frk ka) w v qs) (hl : qs.length ≤ 100000000) (hn : n ≤ 100000000) (hka : 2 ≤ ka) : Calls Tryz.prog 113 #[v, .int .i64 n] w fun e w' => ∃ V, e = .returned V ∧ OwnQ (Frk ka) 34 w.heap.size w' V (Pq.pad qs n n) ∧ Up w w' := by
 obtain ⟨A, cv, rfl⟩ := h.form
 have H := Lib.hid h
 clear h
 go_enter Tryz.func113, Tryz.ntmps113
 go_wp2_with (at_make; go_loud (refine wl_make_q (w0 := w) (P := Frk ka) (frk_zero (by omega)) rfl _ _ rfl n rfl rfl rfl ?_ (Up.refl w) ?_))
 · omega
 intro w1 MR0 u0
 rw [Pq.pad_zero qs n] at MR0
 have HM := Lib.hid MR0
 clear MR0
 go_wp2_with fail
 go_loopw [6, 11] (fun _ s11 wr => ∃ j : Nat, s11 = .int .i64 j ∧ j ≤ n ∧ OwnQ (Frk ka) 34 w.heap.size wr (.slice (some ⟨w.heap.size, 0, none⟩) n n) (Pq.pad qs n j) ∧ Up w wr) (fun _ s11 _ => n - (intOf s11).toNat)
 case atStart => exact ⟨0, rfl, Nat.zero_le _, HM.out, u0⟩
 case round =>
  obtain ⟨j, rfl, hj, MR, UP⟩ := hrel
  by_cases hlt : j < n
  · have HS : Hid _ := Lib.hid (Pq.pad_set (qs := qs) hlt)
    have HPL := Lib.hid (Pq.pad_len qs n j)
    have hp : j < (Pq.pad qs n j).length := by rw [HPL.out]; exact hlt
    have k1 : (j : Int) < (n : Int) := by omega
    have k0 : (0 : Int) ≤ (j : Int) := by omega
    have kk : ((j : Int)).toNat = j := by omega
    by_cases hq : j < qs.length
    · obtain ⟨b, o, s, B, m0, f, D, n', f', e0, hb, g1, g2, g3, FX⟩ := (H.out.up (kp_fr ka) UP).at_ (kp_fr ka) hq
      subst e0
      have hgd : qs.getD j 0 = qs[j] := Pq.getD_at hq
      rw [hgd] at HS
      generalize qs[j] = q at *
      have k2 : (j : Int) < (qs.length : Int) := by omega
      obtain ⟨_, s9, B9, m9, f9, D9, n9, f9', e9, hbg, hb9, c1, c2, c3, _, fr⟩ := OwnQ.at_ (kp_fr ka) MR hp
      cases e9
      have f1 := fr (j * 3)
      have f2 := fr (j * 3 + 1)
      have f3 := fr (j * 3 + 2)
      clear fr
      obtain ⟨q1, _, _, q4⟩ := OwnQ.store (kp_fr ka) MR UP hp FX
      rw [HS.out] at q1
      have Q1 := Lib.hid q1
      have Q4 := Lib.hid q4
      clear q1 q4
      go_wp2_with fail
      exact ⟨⟨j + 1, by go_num, by omega, Q1.out, Q4.out⟩, by simp [intOf]; omega⟩
    · have hgd : qs.getD j 0 = 0 := by simp [List.getD_eq_getElem?_getD, List.getElem?_eq_none (Nat.le_of_not_lt hq)]
      rw [hgd] at HS
      have k2 : ¬ (j : Int) < (qs.length : Int) := by omega
      have k3 : decide ((j : Int) < (qs.length : Int)) = false := decide_eq_false k2
      have HP := Lib.hid hp
      clear hgd hp
      go_wp2_with fail
      refine (frac_of0 _).mono ?_
      rintro e W2 ⟨V2, rfl, o, u2⟩
      have MR2 := OwnQ.up (kp_fr ka) MR u2
      have UP2 := UP.trans u2
      have FX : Frk ka W2 V2 0 := o.fr ((lq_int (n := 0) (by omega)).mono hka)
      obtain ⟨P0, HP0⟩ : ∃ P, Hid ((0 : Rat) = P) := ⟨_, Lib.hid rfl⟩
      rw [HP0.out] at o FX HS
      obtain ⟨Xo, Yo, rfl, o, od⟩ := o
      obtain ⟨Ao, no, co, rfl⟩ := o.shape
      obtain ⟨Aod, nod, cod, rfl⟩ := od.shape
      obtain ⟨_, s9, B9, m9, f9, D9, n9, f9', e9, hbg, hb9, c1, c2, c3, _, fr⟩ := OwnQ.at_ (kp_fr ka) MR2 HP.out
      cases e9
      have f1 := fr (j * 3)
      have f2 := fr (j * 3 + 1)
      have f3 := fr (j * 3 + 2)
      clear fr
      obtain ⟨q1, _, _, q4⟩ := OwnQ.store (kp_fr ka) MR2 UP2 HP.out FX
      rw [HS.out] at q1
      have Q1 := Lib.hid q1
      have Q4 := Lib.hid q4
      clear q1 q4 MR UP MR2 UP2
      go_wp2_with fail
      exact ⟨⟨j + 1, by go_num, by omega, Q1.out, Q4.out⟩, by simp [intOf]; omega⟩
  · obtain rfl : j = n := by omega
    have k1 : ¬ (j : Int) < (j : Int) := by omega
    go_wp2
    go_ret
    exact ⟨_, rfl, MR, UP⟩
end Go.Proofs.YtmmcffceeahemaaGreat
