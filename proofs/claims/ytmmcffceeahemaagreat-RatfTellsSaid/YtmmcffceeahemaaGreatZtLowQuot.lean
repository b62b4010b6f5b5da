/-
  Memory written in place: one block turns, all else stays.
  The walks of layer 5: by words, guesses, taken and given back in place.
  The walks of layer 5: long division, quotients.
  The walks of layer 5: quotient and rest of any two; exact quotients.
-/
import Derived.Test.YtmmcffceeahemaaGreatZtLowTwos
import Derived.Test.YtmmcffceeahemaaGreatZtLowProd
import Derived.Test.YtmmcffceeahemaaGreatZtPlain
import Derived.Deep.LoopGhost
import Derived.Deep.QuietTactic
import Derived.BigQuiet
import Derived.Test.YtmmcffceeahemaaGreatZtShort
set_option linter.unusedVariables false
set_option linter.unusedSimpArgs false
namespace Go.Proofs.YtmmcffceeahemaaGreat
open Go.RowKit
/-- Nothing but one block has turned. -/
def Only (g : Nat) (w w' : World) : Prop := w.grownBy w' (some g)
theorem Only.refl (g : Nat) (w : World) : Only g w w := ⟨rfl, rfl, rfl, Nat.le_refl _, fun _ _ _ => rfl⟩
theorem Only.trans {g : Nat} {a b c : World} (h : Only g a b) (k : Only g b c) : Only g a c :=
 ⟨k.os.trans h.os, k.tape.trans h.tape, k.output.trans h.output, Nat.le_trans h.size k.size, fun i hi hne => (k.block i (Nat.lt_of_lt_of_le hi h.size) hne).trans (h.block i hi hne)⟩
theorem Only.of_up {g : Nat} {w w' : World} (h : Up w w') : Only g w w' := ⟨h.os, h.tape, h.output, h.size, fun k hk _ => h.block k hk⟩
theorem Only.set {g : Nat} {a w : World} (h : Only g a w) (i : Nat) (u : Value) : Only g a (w.setCell ⟨g, i, none⟩ u) := by
 refine h.trans ⟨rfl, rfl, rfl, by simp [World.setCell], fun k hk hne => ?_⟩
 have : k ≠ g := fun e => hne (by rw [e])
 simp [World.setCell, Array.getElem?_modify, Ne.symm this]
theorem Only.set_new {g h : Nat} {a w : World} (k : Only g a w) (hh : a.heap.size ≤ h) (i : Nat) (u : Value) : Only g a (w.setCell ⟨h, i, none⟩ u) := by
 refine ⟨k.os, k.tape, k.output, Nat.le_trans k.size (by simp [World.setCell]), fun j hj hne => ?_⟩
 have hne2 : h ≠ j := by omega
 rw [← k.block j hj hne]
 simp [World.setCell, Array.getElem?_modify, hne2]
theorem Only.drew {g : Nat} {a w : World} (h : Only g a w) : Only g a w.drew := h.trans ⟨rfl, rfl, rfl, Nat.le_refl _, fun _ _ _ => rfl⟩
theorem Only.drewN {g : Nat} {a w : World} (h : Only g a w) (n : Nat) : Only g a (w.drewN n) := h.trans ⟨rfl, rfl, rfl, Nat.le_refl _, fun _ _ _ => rfl⟩
theorem Only.up {g : Nat} {w0 w w' : World} (hu : Up w0 w) (h : Only g w w') (hg : w0.heap.size ≤ g) : Up w0 w' := hu.grown h (fun k hk => by cases hk; exact hg)
theorem Only.size {g : Nat} {w w' : World} (h : Only g w w') : w.heap.size ≤ w'.heap.size := World.grownBy.size h
theorem Only.heap {g k : Nat} {w w' : World} (h : Only g w w') (hk : k < w.heap.size) (hne : k ≠ g) : w'.heap[k]? = w.heap[k]? := World.grownBy.block h k hk (fun e => hne (by cases e; rfl))
/-- A slice that reads as a list, whatever becomes of one block. -/
def Stays (g : Nat) (w : World) (v : Value) (l : List Nat) : Prop := ∀ w', Only g w w' → Ws w' v l
theorem Stays.ws {g : Nat} {w : World} {v : Value} {l : List Nat} (h : Stays g w v l) : Ws w v l := h w (Only.refl g w)
theorem Stays.only {g : Nat} {w w' : World} {v : Value} {l : List Nat} (h : Stays g w v l) (k : Only g w w') : Stays g w' v l := fun w2 h2 => h w2 (k.trans h2)
theorem Stays.of_old {g : Nat} {w0 w : World} {v : Value} {l : List Nat} (h : Ws w0 v l) (hu : Up w0 w) (hg : w0.heap.size ≤ g) : Stays g w v l := fun w' k => h.up (k.up hu hg)
theorem Stays.of_own {g base : Nat} {w : World} {v : Value} {l : List Nat} (h : w.ownsRow base 122 1 v l.length (l.map wv)) (ho : Wd.Ok l) (hg : g < base) : Stays g w v l := fun w' k => by
 refine Ws.of_own (base := base) (h.kept k ?_) ho
 rcases h.2 with ⟨rfl, _⟩ | ⟨b, cap, cur, rfl, hb, _⟩
 · exact .inl rfl
 · refine .inr ?_
   show some b ≠ some g
   simp; omega
/-- What is read of it. -/
theorem Stays.open_ {g : Nat} {w : World} {v : Value} {l : List Nat} (h : Stays g w v l) : ∃ A c, v = .slice A l.length c ∧ Wd.Ok l ∧ ∀ w', Only g w w' → RdV w' A (l.map wv) := by
 obtain ⟨A, c, rfl, _, _, h4, _⟩ := h.ws
 refine ⟨A, c, rfl, h4, fun w' k => ?_⟩
 obtain ⟨A', c', e, _, _, _, h5⟩ := h w' k
 cases e
 exact h5
theorem BlkR.other {w w' : World} {g h : Nat} {l : List Nat} {rest : List Value} (hb : BlkR w g l rest) (k : Only h w w') (hne : g ≠ h) : BlkR w' g l rest := (k.heap hb.lt hne).trans hb
theorem BlkR.up {w w' : World} {g : Nat} {l : List Nat} {rest : List Value} (hb : BlkR w g l rest) (k : Up w w') : BlkR w' g l rest := (k.heap hb.lt).trans hb
instance BlkR.lup {w w' : World} {g : Nat} {l : List Nat} {rest : List Value} : Lu (Up w w') (BlkR w g l rest) (BlkR w' g l rest) := luM fun u h => h.up u
theorem BlkR.drewN {w : World} {g : Nat} {l : List Nat} {rest : List Value} (h : BlkR w g l rest) (n : Nat) : BlkR (w.drewN n) g l rest := h
/-- A block in whose midst just these words stand. -/
def BlkP (w : World) (g : Nat) (pre : List Value) (l : List Nat) (rest : List Value) : Prop := w.heap[g]? = some (.cells (pre ++ (l.map wv ++ rest)).toArray 122 (0, 0))
theorem BlkR.mid {w : World} {g : Nat} {l : List Nat} {rest : List Value} (h : BlkR w g l rest) : BlkP w g [] l rest := h
theorem BlkP.lt {w : World} {g : Nat} {pre : List Value} {l : List Nat} {rest : List Value} (h : BlkP w g pre l rest) : g < w.heap.size := (Array.getElem?_eq_some_iff.1 h).1
theorem BlkP.cellD {w : World} {g off : Nat} {pre : List Value} {l : List Nat} {rest : List Value} (h : BlkP w g pre l rest) (ho : pre.length = off) {i : Nat} (hi : i < l.length) : w.cell? ⟨g, off + i, none⟩ = some (.int .u32 ((l.getD i 0 : Nat) : Int)) := by
 subst ho
 rw [getD_lt l hi, cell_of_row w g _ _ _ (0, 0) h]
 simp only [List.getElem?_toArray]
 rw [List.getElem?_append_right (by omega), Nat.add_sub_cancel_left, List.getElem?_append_left (by simpa using hi)]
 simp [wv, hi]
theorem BlkP.free {w : World} {g : Nat} {pre : List Value} {l : List Nat} {rest : List Value} (h : BlkP w g pre l rest) (i : Nat) : w.frozen? ⟨g, i, none⟩ = false := by
 unfold BlkP at h
 simp [World.frozen?, h]
theorem BlkP.set {w : World} {g off : Nat} {pre : List Value} {l : List Nat} {rest : List Value} (h : BlkP w g pre l rest) (ho : pre.length = off) {i : Nat} (hi : i < l.length) (x : Nat) : BlkP (w.setCell ⟨g, off + i, none⟩ (.int .u32 (x : Int))) g pre (l.set i x) rest := by
 subst ho
 unfold BlkP at h ⊢
 simp only [World.setCell, Array.getElem?_modify, h]
 simp [wv, List.map_set, List.set_append, hi]
theorem BlkP.up {w w' : World} {g : Nat} {pre : List Value} {l : List Nat} {rest : List Value} (hb : BlkP w g pre l rest) (k : Up w w') : BlkP w' g pre l rest := (k.heap hb.lt).trans hb
instance BlkP.lup {w w' : World} {g : Nat} {pre : List Value} {l : List Nat} {rest : List Value} : Lu (Up w w') (BlkP w g pre l rest) (BlkP w' g pre l rest) := luM fun u h => h.up u
theorem BlkP.other {w w' : World} {g h : Nat} {pre : List Value} {l : List Nat} {rest : List Value} (hb : BlkP w g pre l rest) (k : Only h w w') (hne : g ≠ h) : BlkP w' g pre l rest := (k.heap hb.lt hne).trans hb
theorem BlkP.drew {w : World} {g : Nat} {pre : List Value} {l : List Nat} {rest : List Value} (h : BlkP w g pre l rest) : BlkP w.drew g pre l rest := h
theorem BlkP.drewN {w : World} {g : Nat} {pre : List Value} {l : List Nat} {rest : List Value} (h : BlkP w g pre l rest) (n : Nat) : BlkP (w.drewN n) g pre l rest := h
theorem BlkP.rd {w : World} {g off : Nat} {pre : List Value} {l : List Nat} {rest : List Value} (h : BlkP w g pre l rest) (ho : pre.length = off) : RdV w (some ⟨g, off, none⟩) (l.map wv) := fun _ => by
 refine ⟨g, off, rfl, h.lt, fun j u hj => ?_⟩
 have hlt : j < (l.map wv).length := by
  rcases Nat.lt_or_ge j (l.map wv).length with h | h
  · exact h
  · rw [List.getElem?_eq_none h] at hj; cases hj
 have hlt2 : j < l.length := by simpa using hlt
 rw [h.cellD ho hlt2, ← hj, getD_lt l hlt2]
 simp [wv, hlt2]
theorem BlkP.ws {w : World} {g off c : Nat} {pre : List Value} {l : List Nat} {rest : List Value} (h : BlkP w g pre l rest) (hp : pre.length = off) (ho : Wd.Ok l) (hc : l.length ≤ c) (hm : c ≤ maxLen) : Ws w (.slice (some ⟨g, off, none⟩) l.length c) l :=
 Ws.mk rfl hc hm ho (h.rd hp)
theorem BlkP.stays {w : World} {g off c k : Nat} {pre : List Value} {l : List Nat} {rest : List Value} (h : BlkP w g pre l rest) (hp : pre.length = off) (ho : Wd.Ok l) (hc : l.length ≤ c) (hm : c ≤ maxLen) (hne : g ≠ k) : Stays k w (.slice (some ⟨g, off, none⟩) l.length c) l :=
 fun w' hw => (h.other hw hne).ws hp ho hc hm
/-- Its first word is left behind. -/
theorem BlkP.tail {w : World} {g : Nat} {pre : List Value} {x : Nat} {l : List Nat} {rest : List Value} (h : BlkP w g pre (x :: l) rest) : BlkP w g (pre ++ [wv x]) l rest := by
 unfold BlkP at h ⊢
 rw [h]
 simp
/-- Its last words are left behind. -/
theorem BlkP.cut {w : World} {g : Nat} {pre : List Value} {l : List Nat} {rest : List Value} (h : BlkP w g pre l rest) (n : Nat) : BlkP w g pre (l.take n) ((l.drop n).map wv ++ rest) := by
 unfold BlkP at h ⊢
 rw [h, ← List.append_assoc ((l.take n).map wv), ← List.map_append, List.take_append_drop]
/-- Two slices, and whether there are any. -/
def RetWWB (l m : List Nat) (b : Bool) (w : World) (e : Ending) (w' : World) : Prop := ∃ v u, e = .returned (.tuple #[v, u, .bool b]) ∧ Ws w' v l ∧ Ws w' u m ∧ Up w w'
theorem ret_wwb {v u : Value} {l l' m m' : List Nat} {b : Bool} {w w' : World} (hs : Ws w' v l) (hr : Ws w' u m) (h1 : l = l') (h2 : m = m') (hu : Up w w') : RetWWB l' m' b w (.returned (.tuple #[v, u, .bool b])) w' := ⟨v, u, rfl, by rw [← h1]; exact hs, by rw [← h2]; exact hr, hu⟩
/-- A slice and a word, and whether there are any. -/
def RetWNB (l : List Nat) (x : Nat) (b : Bool) (w : World) (e : Ending) (w' : World) : Prop := ∃ v, e = .returned (.tuple #[v, .int .u32 (x : Int), .bool b]) ∧ Ws w' v l ∧ Up w w'
end Go.Proofs.YtmmcffceeahemaaGreat
namespace Go.Proofs.YtmmcffceeahemaaGreat
open Go.RowKit
set_option maxHeartbeats 1600000 in
theorem quot_word {v : Value} {a : List Nat} {xi : Int} {w : World} (x : Nat) (hx : xi = x) (bx : x < Wd.B) (h0 : 0 < x) (ha : Ws w v a) (hla : a.length ≤ 10000000000) :
 Calls Tryz.prog 193 #[v, .int .u32 xi] w (RetWNB (Wd.words (Wd.val a / x)) (Wd.val a % x) true w) := by
 subst hx
 have HX : Hid (0 < x) := Lib.hid h0
 have hx0 : ((x : Int) == 0) = false := by simp; omega
 obtain ⟨A, d, rfl, p2, p3, p4, p5⟩ := ha
 have P4 := Lib.hid p4
 clear p3 p4
 go_enter Tryz.func193, Tryz.ntmps193
 go_wp2_with (at_make; go_loud (refine wl_make rfl _ _ rfl a.length rfl rfl ?_ ?_ ?_))
 · omega
 · omega
 intro w1 hb1 hu1
 have HZ : Hid ((List.replicate a.length 0).length = a.length) := Lib.hid (by rw [List.length_replicate])
 have HZO := Lib.hid (Wd.ok_replicate a.length)
 have HM := Lib.hid (Wd.wordAt_zero a HX.out)
 generalize List.replicate a.length 0 = o1 at hb1 HZ HZO HM
 go_wp2_with fail
 go_loopw [5, 7] (fun s5 s7 wr => ∃ (k r : Nat) (o : List Nat), s5 = .int .u32 r ∧ s7 = .int .i64 ((k : Int) - 1) ∧ k ≤ a.length ∧ r < x ∧ Hid (o.length = a.length) ∧ Hid (Wd.Ok o) ∧ Blk wr w.heap.size o ∧ Up w wr ∧ Hid (Wd.WordAt a o x k r)) (fun _ s7 _ => (intOf s7 + 1).toNat)
 case atStart => exact ⟨a.length, 0, o1, rfl, rfl, Nat.le_refl _, HX.out, HZ, HZO, hb1, hu1, HM⟩
 case round =>
  obtain ⟨k, r, o, rfl, rfl, hk, hr, ho, HO, hbl, hup, HAT⟩ := hrel
  match k, hk, HAT with
  | 0, hk, HAT =>
    have HE := Lib.hid (Wd.wordAt_end HAT.out)
    have hwn : Ws wr (.slice (some ⟨w.heap.size, 0, none⟩) a.length a.length) o := by
     have := hbl.ws HO.out (by rw [ho.out]; unfold maxLen; omega)
     rw [ho.out] at this
     exact this
    have HL : Hid (o.length ≤ 100000000000) := Lib.hid (by rw [ho.out]; omega)
    go_wp2_with fail
    refine (nat_norm hwn HL.out).mono ?_
    intro e w3 hret
    obtain ⟨v3, rfl, h3, h4⟩ := hret.ws
    rw [HE.out.1] at h3
    have hfin := hup.trans h4
    go_wp2
    go_ret3
    exact ⟨v3, by rw [HE.out.2]; rfl, h3, hfin⟩
  | k + 1, hk, HAT =>
    have ei : ((k + 1 : Nat) : Int) - 1 = k := by omega
    rw [ei]
    clear ei
    have hlt : k < a.length := hk
    have hy := Wd.ok_getD P4.out k
    have hil : k < o.length := by rw [ho.out]; omega
    have hrB : r < Wd.B := Nat.lt_trans hr bx
    have HN := Lib.hid (Wd.wordAt_step hlt HAT.out)
    have HO2 := Lib.hid (Wd.ok_set HO.out k (Wd.divQ_lt hy hr))
    have hr2 := Wd.divR_lt (h := r) (l := a.getD k 0) HX.out
    have hcg := hbl.cellD hil
    have hfg := hbl.free k
    obtain ⟨b1, o1, rfl, hb1, hc1⟩ := rd_word_D (p5.up hup) hlt
    generalize a.getD k 0 = y at *
    generalize o.getD k 0 = z at *
    go_wp2_with fail
    refine (limb_div r y x rfl rfl rfl hrB hy bx hr _).mono ?_
    rintro e w2 ⟨n, rfl, rfl⟩
    have hbl2 := hbl.drewN n
    have hup2 := hup.drewN n
    go_wp2
    go_roundw
    case rel => exact ⟨k, _, _, rfl, rfl, by omega, hr2, Lib.hid (by rw [List.length_set]; exact ho.out), HO2, hbl2.set _ _, hup2.setCell (Nat.le_refl _) _, HN⟩
    case measure => simp [intOf]
/-- A word, behind reads in an order that is open. -/
def RetDraw (x : Nat) (w : World) (e : Ending) (w' : World) : Prop := e = .returned (.int .u32 (x : Int)) ∧ ∃ n, w' = w.drewN n
set_option maxHeartbeats 1600000 in
theorem quot_guess {w : World} {a2i a1i a0i b1i b0i : Int} (a2 a1 a0 b1 b0 : Nat) (e2 : a2i = a2) (e1 : a1i = a1) (e0 : a0i = a0) (f1 : b1i = b1) (f0 : b0i = b0) (ha2 : a2 < Wd.B) (ha1 : a1 < Wd.B) (ha0 : a0 < Wd.B) (hb1 : b1 < Wd.B) (hb0 : b0 < Wd.B) (hle : a2 ≤ b1) (hpos : 0 < b1) :
 Calls Tryz.prog 200 #[.int .u32 a2i, .int .u32 a1i, .int .u32 a0i, .int .u32 b1i, .int .u32 b0i] w (RetDraw (Wd.guessN a2 a1 a0 b1 b0) w) := by
 subst e2 e1 e0 f1 f0
 have HTOP : Hid (Wd.B - 1 = 4294967295) := Lib.hid (by rw [Wd.B_eq])
 have POS := Lib.hid hpos
 by_cases h3 : a2 = b1 ∧ Wd.B ≤ a1 + b1
 · obtain ⟨rfl, h3⟩ := h3
   have HV := Lib.hid (Wd.guess_over_top (a0 := a0) hpos hb0 h3)
   have hc : Wd.addC a1 a2 0 = 1 := by
    have := Wd.addC_le ha1 hb1 (c := 0) (by omega)
    have h5 := Wd.add_eq a1 a2 0
    have := Wd.addS_lt a1 a2 0
    rcases Nat.eq_zero_or_pos (Wd.addC a1 a2 0) with h0 | h0
    · rw [h0, Nat.mul_zero] at h5; omega
    · omega
   have HC := Lib.hid hc
   clear hc h3
   go_enter Tryz.func200, Tryz.ntmps200
   go_wp2
   go_step3
   go_wp2_with fail
   refine (limb_div_no a2 a1 a2 rfl rfl rfl ha2 ha1 hb1 (Nat.le_refl _) _).mono ?_
   rintro e w' ⟨rfl, rfl⟩
   go_wp2_with fail
   refine (limb_add a1 a2 0 rfl rfl rfl ha1 hb1 Wd.B_pos _).mono ?_
   rintro e w' ⟨rfl, rfl⟩
   rw [HC.out]
   go_wp2
   rw [Exit.noGoto_ret]
   go_ret
   exact ⟨by rw [HV.out, HTOP.out]; rfl, 0, rfl⟩
 · obtain ⟨q0, r0, HG0, hcase⟩ : ∃ q0 r0, Hid (Wd.GuessAt a2 a1 a0 b1 b0 q0 r0) ∧ ((a2 < b1 ∧ Hid (q0 = Wd.divQ a2 a1 b1 ∧ r0 = Wd.divR a2 a1 b1)) ∨ (b1 ≤ a2 ∧ Hid (q0 = 4294967295 ∧ Wd.addS a1 b1 0 = r0 ∧ Wd.addC a1 b1 0 = 0))) := by
    rcases Nat.lt_or_ge a2 b1 with h | h
    · exact ⟨_, _, Lib.hid (Wd.guess_start h ha1 hb1 ha0), .inl ⟨h, Lib.hid ⟨rfl, rfl⟩⟩⟩
    · have e : a2 = b1 := by omega
      subst e
      have hlt : a1 + a2 < Wd.B := by
       rcases Nat.lt_or_ge (a1 + a2) Wd.B with h | h
       · exact h
       · exact absurd ⟨rfl, h⟩ h3
      have h5 := Wd.add_eq a1 a2 0
      have h6 := Wd.addC_le ha1 hb1 (c := 0) (by omega)
      have h7 : Wd.addC a1 a2 0 = 0 := by
       rcases Nat.eq_zero_or_pos (Wd.addC a1 a2 0) with h0 | h0
       · exact h0
       · have h8 : Wd.addC a1 a2 0 = 1 := by omega
         rw [h8] at h5; omega
      rw [h7] at h5
      refine ⟨Wd.B - 1, a1 + a2, Lib.hid (Wd.guess_start_top hlt), .inr ⟨by omega, Lib.hid ⟨HTOP.out, by omega, h7⟩⟩⟩
   clear h3
   rcases hcase with ⟨h, HQ⟩ | ⟨h, HQ⟩
   · go_enter Tryz.func200, Tryz.ntmps200
     go_wp2
     go_step3
     go_wp2_with fail
     refine (limb_div a2 a1 b1 rfl rfl rfl ha2 ha1 hb1 h _).mono ?_
     rintro e w' ⟨n, rfl, rfl⟩
     rw [← HQ.out.1, ← HQ.out.2]
     go_wp2
     go_step3
     go_wp2
     have hlt0 := HG0.out.1
     go_loop [11, 12] (fun s11 s12 => ∃ (q r : Nat), s11 = .int .u32 q ∧ s12 = .int .u32 r ∧ Hid (Wd.GuessAt a2 a1 a0 b1 b0 q r)) (fun s11 _ => (intOf s11).toNat)
     case atStart => exact ⟨q0, r0, rfl, rfl, HG0⟩
     case round =>
      obtain ⟨q, r, rfl, rfl, HAT⟩ := hrel
      have hq := HAT.out.1
      have hq4 : q < 4294967296 := by rw [← Wd.B_eq]; exact hq
      have hr := HAT.out.2.1
      have HT := Lib.hid (Wd.two_le (r := r) (a0 := a0) (Wd.mul_eq q b0 0 0) (Wd.mulL_lt q b0 0 0) ha0)
      have hhi := Wd.mulH_lt hq hb0 Wd.B_pos Wd.B_pos
      have hlo := Wd.mulL_lt q b0 0 0
      go_wp2_with fail
      refine (limb_mul q b0 0 0 rfl rfl rfl rfl hq hb0 Wd.B_pos Wd.B_pos _).mono ?_
      rintro e w2 ⟨rfl, rfl⟩
      generalize Wd.mulH q b0 0 0 = hi at *
      generalize Wd.mulL q b0 0 0 = lo at *
      by_cases hyes : hi < r ∨ hi = r ∧ lo ≤ a0
      · have HV := Lib.hid (Wd.guess_end POS.out HAT.out (by have := HT.out.2 hyes; omega))
        rcases hyes with h1 | ⟨rfl, h1⟩
        · go_wp2
          rw [Exit.noGoto_ret]
          go_ret
          exact ⟨by rw [← HV.out]; rfl, n, rfl⟩
        · go_wp2
          rw [Exit.noGoto_ret]
          go_ret
          exact ⟨by rw [← HV.out]; rfl, n, rfl⟩
      · have hgt : r * Wd.B + a0 < q * b0 := by
         rcases Nat.lt_or_ge (r * Wd.B + a0) (q * b0) with h | h
         · exact h
         · exact absurd (HT.out.1 (by omega)) hyes
        have HGT := Lib.hid hgt
        have hq1 := (Wd.guess_less HAT.out hgt).1
        have hcases : r < hi ∨ hi = r ∧ a0 < lo := by omega
        have h5 := Wd.add_eq r b1 0
        have h6 := Wd.addC_le hr hb1 (c := 0) (by omega)
        have h7 := Wd.addS_lt r b1 0
        have hsum : (r + b1 < Wd.B ∧ Wd.addS r b1 0 = r + b1 ∧ Wd.addC r b1 0 = 0) ∨ (Wd.B ≤ r + b1 ∧ Wd.addC r b1 0 = 1) := by
         rcases Nat.eq_zero_or_pos (Wd.addC r b1 0) with h0 | h0
         · rw [h0, Nat.mul_zero] at h5
           exact .inl ⟨by omega, by omega, h0⟩
         · have h8 : Wd.addC r b1 0 = 1 := by omega
           rw [h8] at h5
           exact .inr ⟨by omega, h8⟩
        clear h5 h6 h7 hgt hyes HT
        rcases hsum with ⟨hs1, hs2, hs3⟩ | ⟨hs1, hs3⟩
        · have HN := Lib.hid (Wd.guess_step HAT.out HGT.out hs1)
          have HS := Lib.hid (And.intro hs2 hs3)
          clear hs2 hs3
          rcases hcases with h1 | ⟨rfl, h1⟩
          all_goals
           go_wp2_with fail
           refine (limb_add _ b1 0 rfl rfl rfl hr hb1 Wd.B_pos _).mono ?_
           rintro e w2 ⟨rfl, rfl⟩
           rw [HS.out.1, HS.out.2]
           go_wp2
           go_round
           case rel => exact ⟨q - 1, _, by rw [Int.natCast_sub hq1]; rfl, rfl, HN⟩
           case measure => simp [intOf]; omega
        · have HV := Lib.hid (Wd.guess_over POS.out hb0 HAT.out HGT.out hs1)
          have HS := Lib.hid hs3
          clear hs3
          rcases hcases with h1 | ⟨rfl, h1⟩
          all_goals
           go_wp2_with fail
           refine (limb_add _ b1 0 rfl rfl rfl hr hb1 Wd.B_pos _).mono ?_
           rintro e w2 ⟨rfl, rfl⟩
           rw [HS.out]
           go_wp2
           rw [Exit.noGoto_ret]
           go_ret
           exact ⟨by rw [← HV.out, Int.natCast_sub hq1]; rfl, n, rfl⟩
   · have hd2 : decide (b1 < a2) = false := by simp; omega
     go_enter Tryz.func200, Tryz.ntmps200
     go_wp2
     go_step3
     go_wp2_with fail
     refine (limb_div_no a2 a1 b1 rfl rfl rfl ha2 ha1 hb1 h _).mono ?_
     rintro e w' ⟨rfl, rfl⟩
     go_wp2_with fail
     refine (limb_add a1 b1 0 rfl rfl rfl ha1 hb1 Wd.B_pos _).mono ?_
     rintro e w' ⟨rfl, rfl⟩
     rw [HQ.out.2.1, HQ.out.2.2]
     go_wp2
     go_step3
     go_wp2
     have hlt0 := HG0.out.1
     go_loop [11, 12] (fun s11 s12 => ∃ (q r : Nat), s11 = .int .u32 q ∧ s12 = .int .u32 r ∧ Hid (Wd.GuessAt a2 a1 a0 b1 b0 q r)) (fun s11 _ => (intOf s11).toNat)
     case atStart => exact ⟨q0, r0, by rw [HQ.out.1]; rfl, rfl, HG0⟩
     case round =>
      obtain ⟨q, r, rfl, rfl, HAT⟩ := hrel
      have hq := HAT.out.1
      have hq4 : q < 4294967296 := by rw [← Wd.B_eq]; exact hq
      have hr := HAT.out.2.1
      have HT := Lib.hid (Wd.two_le (r := r) (a0 := a0) (Wd.mul_eq q b0 0 0) (Wd.mulL_lt q b0 0 0) ha0)
      have hhi := Wd.mulH_lt hq hb0 Wd.B_pos Wd.B_pos
      have hlo := Wd.mulL_lt q b0 0 0
      go_wp2_with fail
      refine (limb_mul q b0 0 0 rfl rfl rfl rfl hq hb0 Wd.B_pos Wd.B_pos _).mono ?_
      rintro e w2 ⟨rfl, rfl⟩
      generalize Wd.mulH q b0 0 0 = hi at *
      generalize Wd.mulL q b0 0 0 = lo at *
      by_cases hyes : hi < r ∨ hi = r ∧ lo ≤ a0
      · have HV := Lib.hid (Wd.guess_end POS.out HAT.out (by have := HT.out.2 hyes; omega))
        rcases hyes with h1 | ⟨rfl, h1⟩
        · go_wp2
          rw [Exit.noGoto_ret]
          go_ret
          exact ⟨by rw [← HV.out]; rfl, 0, rfl⟩
        · go_wp2
          rw [Exit.noGoto_ret]
          go_ret
          exact ⟨by rw [← HV.out]; rfl, 0, rfl⟩
      · have hgt : r * Wd.B + a0 < q * b0 := by
         rcases Nat.lt_or_ge (r * Wd.B + a0) (q * b0) with h | h
         · exact h
         · exact absurd (HT.out.1 (by omega)) hyes
        have HGT := Lib.hid hgt
        have hq1 := (Wd.guess_less HAT.out hgt).1
        have hcases : r < hi ∨ hi = r ∧ a0 < lo := by omega
        have h5 := Wd.add_eq r b1 0
        have h6 := Wd.addC_le hr hb1 (c := 0) (by omega)
        have h7 := Wd.addS_lt r b1 0
        have hsum : (r + b1 < Wd.B ∧ Wd.addS r b1 0 = r + b1 ∧ Wd.addC r b1 0 = 0) ∨ (Wd.B ≤ r + b1 ∧ Wd.addC r b1 0 = 1) := by
         rcases Nat.eq_zero_or_pos (Wd.addC r b1 0) with h0 | h0
         · rw [h0, Nat.mul_zero] at h5
           exact .inl ⟨by omega, by omega, h0⟩
         · have h8 : Wd.addC r b1 0 = 1 := by omega
           rw [h8] at h5
           exact .inr ⟨by omega, h8⟩
        clear h5 h6 h7 hgt hyes HT
        rcases hsum with ⟨hs1, hs2, hs3⟩ | ⟨hs1, hs3⟩
        · have HN := Lib.hid (Wd.guess_step HAT.out HGT.out hs1)
          have HS := Lib.hid (And.intro hs2 hs3)
          clear hs2 hs3
          rcases hcases with h1 | ⟨rfl, h1⟩
          all_goals
           go_wp2_with fail
           refine (limb_add _ b1 0 rfl rfl rfl hr hb1 Wd.B_pos _).mono ?_
           rintro e w2 ⟨rfl, rfl⟩
           rw [HS.out.1, HS.out.2]
           go_wp2
           go_round
           case rel => exact ⟨q - 1, _, by rw [Int.natCast_sub hq1]; rfl, rfl, HN⟩
           case measure => simp [intOf]; omega
        · have HV := Lib.hid (Wd.guess_over POS.out hb0 HAT.out HGT.out hs1)
          have HS := Lib.hid hs3
          clear hs3
          rcases hcases with h1 | ⟨rfl, h1⟩
          all_goals
           go_wp2_with fail
           refine (limb_add _ b1 0 rfl rfl rfl hr hb1 Wd.B_pos _).mono ?_
           rintro e w2 ⟨rfl, rfl⟩
           rw [HS.out]
           go_wp2
           rw [Exit.noGoto_ret]
           go_ret
           exact ⟨by rw [← HV.out, Int.natCast_sub hq1]; rfl, 0, rfl⟩
/-- What is left when so many times another list is taken away, from a place on; and was it too much? -/
def TakeIs (g : Nat) (rest : List Value) (a b : List Nat) (x k bo : Nat) (w w' : World) : Prop :=
 ∃ o, BlkR w' g o rest ∧ Wd.Ok o ∧ o.length = a.length ∧ Wd.val o + Wd.B ^ k * (x * Wd.val b) = Wd.val a + Wd.B ^ (k + b.length + 1) * bo ∧ o.drop (k + b.length + 1) = a.drop (k + b.length + 1) ∧ Only g w w'
def RetTake (g : Nat) (rest : List Value) (a b : List Nat) (x k : Nat) (w : World) (e : Ending) (w' : World) : Prop :=
 (e = .returned (.bool false) ∧ TakeIs g rest a b x k 0 w w') ∨ (e = .returned (.bool true) ∧ TakeIs g rest a b x k 1 w w')
set_option maxRecDepth 100000 in
set_option maxHeartbeats 1600000 in
theorem quot_take {w : World} {u : Value} {a b : List Nat} {rest : List Value} {g N c : Nat} {ki xi : Int} (k x : Nat) (hk : ki = k) (hx : xi = x) (bx : x < Wd.B) (hN : a.length = N) (hb : BlkR w g a rest) (ho : Wd.Ok a) (hs : Stays g w u b) (hlen : k + b.length < a.length) (hbig : a.length ≤ 100000000000) :
 Calls Tryz.prog 201 #[.slice (some ⟨g, 0, none⟩) N c, .int .i64 ki, u, .int .u32 xi] w (RetTake g rest a b x k w) := by
 subst hk hx hN
 obtain ⟨A, d, rfl, okb, hr⟩ := hs.open_
 have OB := Lib.hid okb
 have HO := Lib.hid ho
 have HR := Lib.hid hr
 clear okb ho hr hs
 have hk1 : k < a.length := by omega
 go_enter Tryz.func201, Tryz.ntmps201
 go_wp2
 go_loopw [9, 10, 17] (fun s9 s10 s17 wr => ∃ (i cy bo : Nat) (p : List Nat), s9 = .int .u32 cy ∧ s10 = .int .u32 bo ∧ s17 = .int .i64 i ∧ i ≤ b.length ∧ Hid (Wd.Ok p) ∧ BlkR wr g p rest ∧ Only g w wr ∧ Hid (Wd.TakeAt b a p x k i cy bo)) (fun _ _ s17 _ => b.length - (intOf s17).toNat)
 case atStart => exact ⟨0, 0, 0, a, rfl, rfl, rfl, Nat.zero_le _, HO, hb, Only.refl _ _, Lib.hid (Wd.takeAt_zero b a x k)⟩
 case round =>
  obtain ⟨i, cy, bo, p, rfl, rfl, rfl, hi, HP, hbl, hon, HAT⟩ := hrel
  have hcy := HAT.out.1
  have hbo := HAT.out.2.1
  by_cases hlt : i < b.length
  · have hy := Wd.ok_getD OB.out i
    have hz := Wd.ok_getD HP.out (k + i)
    have hil : k + i < p.length := by rw [HAT.out.2.2.1]; omega
    have hki : k + i < a.length := by omega
    have HN := Lib.hid (Wd.takeAt_step hki bx hy HAT.out)
    have hlo := Wd.mulL_lt x (b.getD i 0) cy 0
    have HP2 := Lib.hid (Wd.ok_set HP.out (k + i) (Wd.subD_lt hz hlo (Nat.lt_of_le_of_lt hbo Wd.B_one)))
    have hcg := hbl.cellD hil
    have hfg := hbl.free (k + i)
    obtain ⟨b1, o1, rfl, hb1, hc1⟩ := rd_word_D (HR.out wr hon) hlt
    generalize b.getD i 0 = y at *
    generalize p.getD (k + i) 0 = z at *
    go_wp2_with fail
    refine (limb_mul x y cy 0 rfl rfl rfl rfl bx hy hcy Wd.B_pos _).mono ?_
    rintro e w2 ⟨rfl, rfl⟩
    generalize Wd.mulL x y cy 0 = lo at *
    go_wp2_with fail
    refine (limb_sub z lo bo rfl rfl rfl hz hlo (Nat.lt_of_le_of_lt hbo Wd.B_one) _).mono ?_
    rintro e w2 ⟨rfl, rfl⟩
    go_wp2
    go_roundw
    case rel => exact ⟨i + 1, _, _, _, rfl, rfl, by go_num, by omega, HP2, hbl.set hil _, hon.set _ _, HN⟩
    case measure => simp [intOf]; omega
  · obtain rfl : i = b.length := by omega
    have hz := Wd.ok_getD HP.out (k + b.length)
    have hil : k + b.length < p.length := by rw [HAT.out.2.2.1]; omega
    have HE := Lib.hid (Wd.takeAt_end hlen HAT.out)
    have HP2 := Lib.hid (Wd.ok_set HP.out (k + b.length) (Wd.subD_lt hz hcy (Nat.lt_of_le_of_lt hbo Wd.B_one)))
    have hcg := hbl.cellD hil
    have hfg := hbl.free (k + b.length)
    generalize p.getD (k + b.length) 0 = z at *
    go_wp2_with fail
    refine (limb_sub z cy bo rfl rfl rfl hz hcy (Nat.lt_of_le_of_lt hbo Wd.B_one) _).mono ?_
    rintro e w2 ⟨rfl, rfl⟩
    have hfin : ∀ j, Wd.subB z cy bo = j → TakeIs g rest a b x k j w (wr.setCell ⟨g, k + b.length, none⟩ (.int .u32 ((Wd.subD z cy bo : Nat) : Int))) := fun j hj =>
     ⟨_, hbl.set hil _, HP2.out, HE.out.2.2.1, by rw [← hj]; exact HE.out.1, HE.out.2.1, hon.set _ _⟩
    have HF := Lib.hid hfin
    have hj := HE.out.2.2.2
    clear hfin HE HP2 HAT
    generalize Wd.subB z cy bo = j at *
    have hj2 : j = 0 ∨ j = 1 := by omega
    rcases hj2 with rfl | rfl
    · have HF2 := Lib.hid (HF.out 0 rfl)
      go_wp2
      go_ret
      exact .inl ⟨rfl, HF2.out⟩
    · have HF2 := Lib.hid (HF.out 1 rfl)
      go_wp2
      go_ret
      exact .inr ⟨rfl, HF2.out⟩
/-- What is given back, from a place on: what comes out of the end is left off. -/
def RetGive (g : Nat) (rest : List Value) (a b : List Nat) (k : Nat) (w : World) (e : Ending) (w' : World) : Prop :=
 e = .returned (.tuple #[]) ∧ ∃ (o : List Nat) (j : Nat), j ≤ 1 ∧ BlkR w' g o rest ∧ Wd.Ok o ∧ o.length = a.length ∧ Wd.val o + Wd.B ^ (k + b.length + 1) * j = Wd.val a + Wd.B ^ k * Wd.val b ∧ o.drop (k + b.length + 1) = a.drop (k + b.length + 1) ∧ Only g w w'
set_option maxRecDepth 100000 in
set_option maxHeartbeats 1600000 in
theorem quot_give {w : World} {u : Value} {a b : List Nat} {rest : List Value} {g N c : Nat} {ki : Int} (k : Nat) (hk : ki = k) (hN : a.length = N) (hb : BlkR w g a rest) (ho : Wd.Ok a) (hs : Stays g w u b) (hlen : k + b.length < a.length) (hbig : a.length ≤ 100000000000) :
 Calls Tryz.prog 202 #[.slice (some ⟨g, 0, none⟩) N c, .int .i64 ki, u] w (RetGive g rest a b k w) := by
 subst hk hN
 obtain ⟨A, d, rfl, okb, hr⟩ := hs.open_
 have OB := Lib.hid okb
 have HO := Lib.hid ho
 have HR := Lib.hid hr
 clear okb ho hr hs
 have hk1 : k < a.length := by omega
 go_enter Tryz.func202, Tryz.ntmps202
 go_wp2
 go_loopw [6, 11] (fun s6 s11 wr => ∃ (i cy : Nat) (p : List Nat), s6 = .int .u32 cy ∧ s11 = .int .i64 i ∧ i ≤ b.length ∧ Hid (Wd.Ok p) ∧ BlkR wr g p rest ∧ Only g w wr ∧ Hid (Wd.GiveAt b a p k i cy)) (fun _ s11 _ => b.length - (intOf s11).toNat)
 case atStart => exact ⟨0, 0, a, rfl, rfl, Nat.zero_le _, HO, hb, Only.refl _ _, Lib.hid (Wd.giveAt_zero b a k)⟩
 case round =>
  obtain ⟨i, cy, p, rfl, rfl, hi, HP, hbl, hon, HAT⟩ := hrel
  have hcy := HAT.out.1
  by_cases hlt : i < b.length
  · have hy := Wd.ok_getD OB.out i
    have hz := Wd.ok_getD HP.out (k + i)
    have hil : k + i < p.length := by rw [HAT.out.2.1]; omega
    have hki : k + i < a.length := by omega
    have HN := Lib.hid (Wd.giveAt_step hki HP.out hy HAT.out)
    have HP2 := Lib.hid (Wd.ok_set HP.out (k + i) (Wd.addS_lt (p.getD (k + i) 0) (b.getD i 0) cy))
    have hcg := hbl.cellD hil
    have hfg := hbl.free (k + i)
    obtain ⟨b1, o1, rfl, hb1, hc1⟩ := rd_word_D (HR.out wr hon) hlt
    generalize b.getD i 0 = y at *
    generalize p.getD (k + i) 0 = z at *
    go_wp2_with fail
    refine (limb_add z y cy rfl rfl rfl hz hy (Nat.lt_of_le_of_lt hcy Wd.B_one) _).mono ?_
    rintro e w2 ⟨rfl, rfl⟩
    go_wp2
    go_roundw
    case rel => exact ⟨i + 1, _, _, rfl, by go_num, by omega, HP2, hbl.set hil _, hon.set _ _, HN⟩
    case measure => simp [intOf]; omega
  · obtain rfl : i = b.length := by omega
    have hz := Wd.ok_getD HP.out (k + b.length)
    have hil : k + b.length < p.length := by rw [HAT.out.2.1]; omega
    have HE := Lib.hid (Wd.giveAt_end hlen HP.out HAT.out)
    have HP2 := Lib.hid (Wd.ok_set HP.out (k + b.length) (x := (p.getD (k + b.length) 0 + cy) % Wd.B) (Nat.mod_lt _ Wd.B_pos))
    have hcg := hbl.cellD hil
    have hfg := hbl.free (k + b.length)
    generalize p.getD (k + b.length) 0 = z at *
    have HW : Hid (((z : Int) + (cy : Int)) % 4294967296 = (((z + cy) % Wd.B : Nat) : Int)) := Lib.hid (by rw [Wd.B_eq]; omega)
    go_wp2
    go_end0
    rw [HW.out]
    exact ⟨rfl, _, _, HE.out.2.2.2, hbl.set hil _, HP2.out, HE.out.2.2.1, HE.out.1, HE.out.2.1, hon.set _ _⟩
end Go.Proofs.YtmmcffceeahemaaGreat
namespace Go.Proofs.YtmmcffceeahemaaGreat
open Go.RowKit
theorem long_guess2 {a b o q : List Nat} {i L : Nat} (hob : Wd.Ok o) (hb : Wd.Ok b) (hn : b.length = L) (hL : 2 ≤ L) (hio : i + L < o.length) (htop : b.getD (L - 1) 0 ≠ 0) (h : Wd.LongAt a b o q (i + 1)) :
 Wd.val (o.drop (i + L + 1)) = 0 ∧ o.getD (i + L) 0 ≤ b.getD (L - 1) 0
 ∧ Wd.val o / Wd.B ^ i / Wd.val b ≤ Wd.guessN (o.getD (i + L) 0) (o.getD (i + L - 1) 0) (o.getD (i + L - 2) 0) (b.getD (L - 1) 0) (b.getD (L - 2) 0)
 ∧ Wd.guessN (o.getD (i + L) 0) (o.getD (i + L - 1) 0) (o.getD (i + L - 2) 0) (b.getD (L - 1) 0) (b.getD (L - 2) 0) ≤ Wd.val o / Wd.B ^ i / Wd.val b + 1 := by
 obtain ⟨n, rfl⟩ : ∃ n, L = n + 2 := ⟨L - 2, by omega⟩
 have := Wd.long_guess hob hb hn hio htop h
 exact this
/-- It was taken, and not too much. -/
theorem long_step_no {a b o p q : List Nat} {i x L : Nat} (hi : i < q.length) (hV : 0 < Wd.val b) (h : Wd.LongAt a b o q (i + 1)) (hx : Wd.val o / Wd.B ^ i / Wd.val b ≤ x) (h1 : Wd.val p + Wd.B ^ i * (x * Wd.val b) = Wd.val o + Wd.B ^ L * 0) : Wd.LongAt a b p (q.set i x) i := by
 rw [Nat.mul_zero, Nat.add_zero] at h1
 exact Wd.longAt_step hi h h1 (Wd.long_no (Nat.pow_pos Wd.B_pos) hV hx h1)
/-- It was too much: one is given back. -/
theorem long_step_yes {a b o p r q : List Nat} {i x j L : Nat} (hi : i < q.length) (hV : 0 < Wd.val b) (h : Wd.LongAt a b o q (i + 1)) (hz : Wd.val (o.drop L) = 0) (hx : x ≤ Wd.val o / Wd.B ^ i / Wd.val b + 1) (okp : Wd.Ok p) (okr : Wd.Ok r)
 (h1 : Wd.val p + Wd.B ^ i * (x * Wd.val b) = Wd.val o + Wd.B ^ L * 1) (h2 : p.drop L = o.drop L) (hj : j ≤ 1) (h3 : Wd.val r + Wd.B ^ L * j = Wd.val p + Wd.B ^ i * Wd.val b) (h4 : r.drop L = p.drop L) : 1 ≤ x ∧ Wd.LongAt a b r (q.set i (x - 1)) i := by
 rw [Nat.mul_one] at h1
 have hp : Wd.val p < Wd.B ^ L := Wd.val_lt_of_drop okp (by rw [h2]; exact hz)
 have hr : Wd.val r < Wd.B ^ L := Wd.val_lt_of_drop okr (by rw [h4, h2]; exact hz)
 obtain ⟨e1, e2, e3⟩ := Wd.long_yes (Nat.pow_pos Wd.B_pos) hV hx h1 hp hj h3 hr
 exact ⟨e1, Wd.longAt_step hi h e2 e3⟩
theorem Blk.other {w w' : World} {g h : Nat} {l : List Nat} (hb : Blk w g l) (k : Only h w w') (hne : g ≠ h) : Blk w' g l := (k.heap hb.lt hne).trans hb
/-- What long division leaves: the quotient, and the rest in place. -/
def RetLong (g : Nat) (rest : List Value) (a b : List Nat) (w : World) (e : Ending) (w' : World) : Prop :=
 ∃ (v : Value) (q r : List Nat), e = .returned v ∧ Ws w' v q ∧ q.length ≤ a.length ∧ BlkR w' g r rest ∧ Wd.Ok r ∧ r.length = a.length ∧ Wd.val q = Wd.val a / Wd.val b ∧ Wd.val r = Wd.val a % Wd.val b ∧ Only g w w'
set_option maxRecDepth 100000 in
set_option maxHeartbeats 3200000 in
theorem quot_long {w : World} {u : Value} {a b : List Nat} {rest : List Value} {g N c L m : Nat} (hL : b.length = L) (hL2 : 2 ≤ L) (hm : a.length = m + L) (hN : a.length = N) (hbig : N ≤ 100000000000) (hb : BlkR w g a rest) (ho : Wd.Ok a) (hs : Stays g w u b) (htop : b.getD (L - 1) 0 ≠ 0) (hlt : Wd.val a < Wd.B ^ m * Wd.val b) :
 Calls Tryz.prog 195 #[.slice (some ⟨g, 0, none⟩) N c, u] w (RetLong g rest a b w) := by
 have hV : 0 < Wd.val b := by
  rcases Nat.eq_zero_or_pos (Wd.val b) with h | h
  · rw [h, Nat.mul_zero] at hlt; omega
  · exact h
 have HS0 := Lib.hid hs
 have hg := hb.lt
 have hmN : N = m + L := by omega
 obtain ⟨A, d, rfl, okb, hr⟩ := hs.open_
 have OB := Lib.hid okb
 have HO := Lib.hid ho
 have HR := Lib.hid hr
 have HV := Lib.hid hV
 have HTOP := Lib.hid htop
 have HAL := Lib.hid hN
 have HBL := Lib.hid hL
 have HLT := Lib.hid hlt
 rw [hL] at HS0 ⊢
 have hN2 : m ≤ N := by omega
 have hN3 : L ≤ N := by omega
 have HMN : Hid ((N : Int) - (L : Int) = (m : Int)) := Lib.hid (by omega)
 have HNM := Lib.hid hmN
 have hmb : m ≤ 100000000000 := by omega
 clear okb ho hr hs hV htop hN hL hlt hm hmN
 go_enter Tryz.func195, Tryz.ntmps195
 go_wp2_with (at_make; go_loud (refine wl_make rfl _ _ rfl m rfl rfl HMN.out ?_ ?_))
 · omega
 intro w1 hb1 hu1
 have HZ : Hid ((List.replicate m 0).length = m) := Lib.hid (by rw [List.length_replicate])
 have HZO := Lib.hid (Wd.ok_replicate m)
 have HM := Lib.hid (Wd.longAt_zero HLT.out)
 generalize List.replicate m 0 = o1 at hb1 HZ HZO HM
 have hbw := hb.up hu1
 have hon := Only.of_up (g := g) hu1
 have HG : Hid (w.heap.size ≠ g) := Lib.hid (by omega)
 go_wp2_with fail
 go_loopw [7, 8] (fun s7 s8 wr => ∃ (k : Nat) (o q : List Nat), s7 = .int .i64 ((k : Int) - 1) ∧ k ≤ m ∧ Hid (o.length = N) ∧ Hid (Wd.Ok o) ∧ BlkR wr g o rest ∧ Hid (q.length = m) ∧ Hid (Wd.Ok q) ∧ Blk wr w.heap.size q ∧ Only g w wr ∧ Hid (Wd.LongAt a b o q k)) (fun s7 _ _ => (intOf s7 + 1).toNat)
 case atStart => exact ⟨m, a, o1, rfl, Nat.le_refl _, HAL, HO, hbw, HZ, HZO, hb1, hon, HM⟩
 case round =>
  obtain ⟨k, o, q, rfl, hk, HOL, HOO, hbl, HQL, HQO, hbq, hon, HAT⟩ := hrel
  match k, hk, HAT with
  | 0, hk, HAT =>
    have HE := Lib.hid (Wd.longAt_end HAT.out)
    have hwn : Ws wr (.slice (some ⟨w.heap.size, 0, none⟩) m m) q := by
     have := hbq.ws HQO.out (by rw [HQL.out]; unfold maxLen; omega)
     rw [HQL.out] at this
     exact this
    go_wp2
    go_ret
    exact ⟨_, q, o, rfl, hwn, by rw [HQL.out, HAL.out]; exact hN2, hbl, HOO.out, by rw [HOL.out, HAL.out], HE.out.1, HE.out.2, hon⟩
  | k + 1, hk, HAT =>
    have ei : ((k + 1 : Nat) : Int) - 1 = k := by omega
    rw [ei]
    clear ei
    have hkm : k < m := hk
    have hkl : k + L < N := by have := HNM.out; omega
    have hko : k + L < o.length := by rw [HOL.out]; exact hkl
    have HF := Lib.hid (long_guess2 HOO.out OB.out HBL.out hL2 hko HTOP.out HAT.out)
    have h2 := Wd.ok_getD HOO.out (k + L)
    have h1 := Wd.ok_getD HOO.out (k + L - 1)
    have h0 := Wd.ok_getD HOO.out (k + L - 2)
    have i1 := Wd.ok_getD OB.out (L - 1)
    have i0 := Wd.ok_getD OB.out (L - 2)
    have hcg2 := hbl.cellD (i := k + L) hko
    have hcg1 := hbl.cellD (i := k + L - 1) (by omega)
    have hcg0 := hbl.cellD (i := k + L - 2) (by omega)
    obtain ⟨b1, o1, rfl, hb1, hc1⟩ := rd_word_D (HR.out wr hon) (k := L - 1) (by rw [HBL.out]; omega)
    obtain ⟨b2, o2, e2, hb2, hc0⟩ := rd_word_D (HR.out wr hon) (k := L - 2) (by rw [HBL.out]; omega)
    simp at e2
    obtain ⟨rfl, rfl⟩ := e2
    have hle := HF.out.2.1
    have htp : 0 < b.getD (L - 1) 0 := Nat.pos_of_ne_zero HTOP.out
    have HQ := Lib.hid (And.intro HF.out.1 HF.out.2.2)
    clear HF
    generalize o.getD (k + L) 0 = a2 at *
    generalize o.getD (k + L - 1) 0 = a1 at *
    generalize o.getD (k + L - 2) 0 = a0 at *
    generalize b.getD (L - 1) 0 = b1 at *
    generalize b.getD (L - 2) 0 = b0 at *
    go_wp2
    have e1 : IntKind.i64.wrap ((k : Int) + (L : Int)) = (k : Int) + (L : Int) := by rw [IntKind.wrap_i64]; omega
    have e2 : IntKind.i64.wrap ((k : Int) + (L : Int) - 1) = (k : Int) + (L : Int) - 1 := by rw [IntKind.wrap_i64]; omega
    have e3 : IntKind.i64.wrap ((k : Int) + (L : Int) - 2) = (k : Int) + (L : Int) - 2 := by rw [IntKind.wrap_i64]; omega
    have e4 : IntKind.i64.wrap ((L : Int) - 1) = (L : Int) - 1 := by rw [IntKind.wrap_i64]; omega
    have e5 : IntKind.i64.wrap ((L : Int) - 2) = (L : Int) - 2 := by rw [IntKind.wrap_i64]; omega
    have n1 : ((k : Int) + (L : Int)).toNat = k + L := by omega
    have n2 : ((k : Int) + (L : Int) - 1).toNat = k + L - 1 := by omega
    have n3 : ((k : Int) + (L : Int) - 2).toNat = k + L - 2 := by omega
    have n4 : ((L : Int) - 1).toNat = L - 1 := by omega
    have n5 : ((L : Int) - 2).toNat = L - 2 := by omega
    have p1 : (0 : Int) ≤ (k : Int) + (L : Int) := by omega
    have p2 : (0 : Int) ≤ (k : Int) + (L : Int) - 1 := by omega
    have p3 : (0 : Int) ≤ (k : Int) + (L : Int) - 2 := by omega
    have p4 : (0 : Int) ≤ (L : Int) - 1 := by omega
    have p5 : (0 : Int) ≤ (L : Int) - 2 := by omega
    have q1 : (k : Int) + (L : Int) < (N : Int) := by omega
    have q2 : (k : Int) + (L : Int) - 1 < (N : Int) := by omega
    have q3 : (k : Int) + (L : Int) - 2 < (N : Int) := by omega
    have q4 : (L : Int) - 1 < (L : Int) := by omega
    have q5 : (L : Int) - 2 < (L : Int) := by omega
    go_quiet ((go_at_call 200; exact Calls.quiet_of (quot_guess a2 a1 a0 b1 b0 rfl rfl rfl rfl rfl h2 h1 h0 i1 i0 hle htp)))
    clear e1 e2 e3 e4 e5 n1 n2 n3 n4 n5 p1 p2 p3 p4 p5 q1 q2 q3 q4 q5 hcg2 hcg1 hcg0 hc1 hc0
    have hx := Wd.guess_lt a2 a1 a0 b1 b0
    generalize Wd.guessN a2 a1 a0 b1 b0 = x at *
    have hon2 := hon.drewN nq
    have hbl2 := hbl.drewN nq
    have hbq2 := hbq.drewN nq
    generalize wr.drewN nq = w2 at *
    have hst := HS0.out.only hon2
    have hkbl : k + b.length < o.length := by rw [HBL.out]; exact hko
    have HKQ : Hid (k < q.length) := Lib.hid (by rw [HQL.out]; exact hkm)
    have hNb : o.length ≤ 100000000000 := by rw [HOL.out]; exact hbig
    go_wp2_with fail
    refine (quot_take k x rfl rfl hx HOL.out hbl2 HOO.out hst hkbl hNb).mono ?_
    intro e w3 hret
    rcases hret with ⟨rfl, p, hbp, okp, hpl, hv, hd, hon3⟩ | ⟨rfl, p, hbp, okp, hpl, hv, hd, hon3⟩
    · have HN := Lib.hid (long_step_no HKQ.out HV.out HAT.out HQ.out.2.1 hv)
      have hbq3 := hbq2.other hon3 HG.out
      have g3 := hon2.trans hon3
      have HP := Lib.hid okp
      have HPL : Hid (p.length = N) := Lib.hid (by rw [hpl]; exact HOL.out)
      have HQO2 := Lib.hid (Wd.ok_set HQO.out k hx)
      have HQL2 : Hid ((q.set k x).length = m) := Lib.hid (by rw [List.length_set]; exact HQL.out)
      have hcg := hbq3.cellD HKQ.out
      have hfg := hbq3.free k
      have hbq4 := hbq3.set k x
      clear hpl hv hd okp hst hkbl
      generalize q.getD k 0 = z at *
      go_wp2
      go_roundw
      case rel => exact ⟨k, p, _, rfl, by omega, HPL, HP, hbp.other ((Only.refl _ _).set _ _) (Ne.symm HG.out), HQL2, HQO2, hbq4, g3.set_new (Nat.le_refl _) _ _, HN⟩
      case measure => simp [intOf]
    · have g3 := hon2.trans hon3
      have hst3 := HS0.out.only g3
      have hbq3 := hbq2.other hon3 HG.out
      have hkpl : k + b.length < p.length := by rw [hpl]; exact hkbl
      have hpn : p.length ≤ 100000000000 := by rw [hpl]; exact hNb
      have HPN : Hid (p.length = N) := Lib.hid (by rw [hpl]; exact HOL.out)
      have HV1 := Lib.hid (And.intro hv hd)
      have HP := Lib.hid okp
      have hz0 := HQ.out.1
      rw [← HBL.out] at hz0
      have HZ0 := Lib.hid hz0
      have hx1 : 1 ≤ x := by
       rcases Nat.eq_zero_or_pos x with h | h
       · exfalso
         have e := HV1.out.1
         rw [h, Nat.zero_mul, Nat.mul_zero, Nat.add_zero, Nat.mul_one] at e
         have := Wd.val_lt_of_drop HP.out (k := k + b.length + 1) (by rw [HV1.out.2]; exact HZ0.out)
         omega
       · exact h
      have hx4 : x < 4294967296 := by rw [← Wd.B_eq]; exact hx
      clear hpl hv hd okp hst hkbl hz0
      go_wp2_with fail
      refine (quot_give k rfl HPN.out hbp HP.out hst3 hkpl hpn).mono ?_
      rintro e w4 ⟨rfl, r, j, hj, hbr, okr, hrl, hv, hd, hon4⟩
      have HN := Lib.hid (long_step_yes HKQ.out HV.out HAT.out HZ0.out HQ.out.2.2 HP.out okr HV1.out.1 HV1.out.2 hj hv hd).2
      have g4 := g3.trans hon4
      have hbq4 := hbq3.other hon4 HG.out
      have HR2 := Lib.hid okr
      have HRL : Hid (r.length = N) := Lib.hid (by rw [hrl]; exact HPN.out)
      have HQO2 := Lib.hid (Wd.ok_set HQO.out k (x := x - 1) (by omega))
      have HQL2 : Hid ((q.set k (x - 1)).length = m) := Lib.hid (by rw [List.length_set]; exact HQL.out)
      have hcg := hbq4.cellD HKQ.out
      have hfg := hbq4.free k
      have hbq5 := hbq4.set k (x - 1)
      have hcast : ((x - 1 : Nat) : Int) = (x : Int) - 1 := by omega
      rw [hcast] at hbq5
      clear hrl hv hd okr hkpl hj hcast hon4
      generalize q.getD k 0 = z at *
      go_wp2
      go_roundw
      case rel => exact ⟨k, r, _, rfl, by omega, HRL, HR2, hbr.other ((Only.refl _ _).set _ _) (Ne.symm HG.out), HQL2, HQO2, hbq5, g4.set_new (Nat.le_refl _) _ _, HN⟩
      case measure => simp [intOf]
end Go.Proofs.YtmmcffceeahemaaGreat
namespace Go.Proofs.YtmmcffceeahemaaGreat
open Go.RowKit
set_option maxHeartbeats 800000 in
theorem quot_div_lt {v u : Value} {a b : List Nat} {w : World} (ha : Ws w v a) (hb : Ws w u b) (hla : a.length ≤ 1000000000) (hlb : b.length ≤ 1000000000) (h0 : Wd.val a < Wd.val b) :
 Calls Tryz.prog 186 #[v, u] w (RetWWB (Wd.words (Wd.val a / Wd.val b)) (Wd.words (Wd.val a % Wd.val b)) true w) := by
 have HQ : Hid (Wd.val a / Wd.val b = 0 ∧ Wd.val a % Wd.val b = Wd.val a) := Lib.hid ⟨Nat.div_eq_of_lt h0, Nat.mod_eq_of_lt h0⟩
 have HC := Lib.hid (Wd.cmpI_lt h0)
 have hlen : 1 ≤ (Wd.words (Wd.val b)).length := by
  rcases Nat.eq_zero_or_pos (Wd.words (Wd.val b)).length with h | h
  · have := Wd.words_length_zero.1 h; omega
  · exact h
 have hlen2 := len_words_val hb.ok hlb
 have HW := Lib.hid (Wd.val_words (Wd.val b))
 obtain ⟨A, c, rfl⟩ := ha.form
 clear h0
 go_enter Tryz.func186, Tryz.ntmps186
 go_wp2_with fail
 refine (nat_norm hb (by omega)).mono ?_
 intro e w1 hret
 obtain ⟨v1, rfl, s1, u1⟩ := hret.ws
 obtain ⟨D, d, rfl⟩ := s1.form
 have ha1 := ha.up u1
 generalize hL : (Wd.words (Wd.val b)).length = L at *
 have HL := Lib.hid hL
 clear hL
 go_wp2_with fail
 refine (nat_cmp_up ha1 s1 (by omega) (by rw [HL.out]; omega)).mono ?_
 rintro e w2 ⟨rfl, u2⟩
 rw [HW.out, HC.out]
 have ha2 := ha1.up u2
 have g2 := u1.trans u2
 go_wp2_with fail
 refine (nat_norm ha2 (by omega)).mono ?_
 intro e w3 hret3
 obtain ⟨v3, rfl, s3, u3⟩ := hret3.ws
 have g3 := g2.trans u3
 go_wp2
 go_ret3
 exact ret_wwb (Ws.nil _) s3 (by rw [HQ.out.1, Wd.words_zero]) (by rw [HQ.out.2]) g3
set_option maxHeartbeats 800000 in
theorem quot_div_one {v u : Value} {a b : List Nat} {w : World} (ha : Ws w v a) (hb : Ws w u b) (hla : a.length ≤ 1000000000) (hlb : b.length ≤ 1000000000) (h0 : Wd.val b ≤ Wd.val a) (h1 : (Wd.words (Wd.val b)).length = 1) :
 Calls Tryz.prog 186 #[v, u] w (RetWWB (Wd.words (Wd.val a / Wd.val b)) (Wd.words (Wd.val a % Wd.val b)) true w) := by
 have HC : Hid (Wd.cmpI (Wd.val a) (Wd.val b) = 0 ∨ Wd.cmpI (Wd.val a) (Wd.val b) = 1) := Lib.hid (by
  rcases Wd.cmpI_cases (Wd.val a) (Wd.val b) with h | h | h
  · omega
  · exact .inl h.2
  · exact .inr h.2)
 have HW := Lib.hid (Wd.val_words (Wd.val b))
 have hok := Wd.ok_words (Wd.val b)
 obtain ⟨x, hx⟩ : ∃ x, Wd.words (Wd.val b) = [x] := List.length_eq_one_iff.1 h1
 have hvx : Wd.val b = x := by
  have := HW.out
  rw [hx] at this
  simpa [Wd.val] using this.symm
 have bx : x < Wd.B := by
  rw [hx] at hok
  exact (Wd.ok_cons.1 hok).1
 have hx0 : 0 < x := by
  rcases Nat.eq_zero_or_pos x with h | h
  · rw [hvx, h, Wd.words_zero] at hx; cases hx
  · exact h
 obtain ⟨A, c, rfl⟩ := ha.form
 rw [hvx] at HC ⊢
 have HX := Lib.hid hx
 have HVX := Lib.hid hvx
 have HBX := Lib.hid bx
 have hxx : x < 4294967296 := by rw [← Wd.B_eq]; exact bx
 have hmod : Wd.val a % x < 4294967296 := Nat.lt_trans (Nat.mod_lt _ hx0) hxx
 clear h0 h1 HW hok hx hvx bx
 go_enter Tryz.func186, Tryz.ntmps186
 go_wp2_with fail
 refine (nat_norm hb (by omega)).mono ?_
 intro e w1 hret
 obtain ⟨v1, rfl, s1, u1⟩ := hret.ws
 rw [HX.out] at s1
 have s1b := s1
 obtain ⟨D, d, rfl, _, _, _, hrd⟩ := s1
 have ha1 := ha.up u1
 go_wp2_with fail
 refine (nat_cmp_up ha1 s1b (by omega) (by simp)).mono ?_
 rintro e w2 ⟨rfl, u2⟩
 rw [show Wd.val [x] = x from by simp [Wd.val]]
 have ha2 := ha1.up u2
 have g2 := u1.trans u2
 obtain ⟨b1, o1, rfl, hb1, hc1⟩ := rd_word_D (hrd.up u2) (k := 0) (by simp)
 have hc1 : w2.cell? ⟨b1, o1, none⟩ = some (.int .u32 (x : Int)) := hc1
 have hcc := HC.out
 generalize Wd.cmpI (Wd.val a) x = cm at *
 clear HC
 have hcn : ¬ cm < 0 := by omega
 clear hcc
 go_wp2_with fail
 refine (quot_word x rfl HBX.out hx0 ha2 (by omega)).mono ?_
 rintro e w3 ⟨v3, rfl, s3, u3⟩
 have g3 := g2.trans u3
 generalize hr : Wd.val a % x = r at *
 have HR := Lib.hid hr
 clear hr
 go_wp2_with fail
 refine (nat_of r rfl (by omega) _).mono ?_
 rintro e w4 ⟨v4, rfl, s4, u4⟩
 have s3 := s3.up u4
 have g4 := g3.trans u4
 go_wp2
 go_ret3
 exact ret_wwb s3 s4 rfl rfl g4
set_option maxRecDepth 100000 in
set_option maxHeartbeats 1600000 in
theorem quot_div_long {v u : Value} {a b : List Nat} {w : World} (ha : Ws w v a) (hb : Ws w u b) (hla : a.length ≤ 1000000000) (hlb : b.length ≤ 1000000000) (h0 : Wd.val b ≤ Wd.val a) (h1 : 2 ≤ (Wd.words (Wd.val b)).length) :
 Calls Tryz.prog 186 #[v, u] w (RetWWB (Wd.words (Wd.val a / Wd.val b)) (Wd.words (Wd.val a % Wd.val b)) true w) := by
 have HC : Hid (Wd.cmpI (Wd.val a) (Wd.val b) = 0 ∨ Wd.cmpI (Wd.val a) (Wd.val b) = 1) := Lib.hid (by
  rcases Wd.cmpI_cases (Wd.val a) (Wd.val b) with h | h | h
  · omega
  · exact .inl h.2
  · exact .inr h.2)
 have HW := Lib.hid (Wd.val_words (Wd.val b))
 have hok := Wd.ok_words (Wd.val b)
 have hlen2 := len_words_val hb.ok hlb
 have hlast := Wd.ok_getD hok ((Wd.words (Wd.val b)).length - 1)
 have hbl : Wd.bl ((Wd.words (Wd.val b)).getD ((Wd.words (Wd.val b)).length - 1) 0) ≤ 32 := by
  rw [Wd.bl_le_iff, ← Wd.B_two]; exact hlast
 have HLE := Lib.hid h0
 obtain ⟨A, c, rfl⟩ := ha.form
 clear h0
 go_enter Tryz.func186, Tryz.ntmps186
 go_wp2_with fail
 refine (nat_norm hb (by omega)).mono ?_
 intro e w1 hret
 obtain ⟨v1, rfl, s1, u1⟩ := hret.ws
 have s1b := s1
 obtain ⟨D, d, rfl, _, _, _, hrd⟩ := s1
 have ha1 := ha.up u1
 go_wp2_with fail
 refine (nat_cmp_up ha1 s1b (by omega) (by omega)).mono ?_
 rintro e w2 ⟨rfl, u2⟩
 rw [HW.out]
 have ha2 := ha1.up u2
 have g2 := u1.trans u2
 have s2 := s1b.up u2
 obtain ⟨b1, o1, rfl, hb1, hc1⟩ := rd_word_D (hrd.up u2) (k := (Wd.words (Wd.val b)).length - 1) (by omega)
 have HBW : Hid (∃ z, z = Wd.words (Wd.val b)) := Lib.hid ⟨_, rfl⟩
 have hcc := HC.out
 generalize Wd.cmpI (Wd.val a) (Wd.val b) = cm at *
 have hcn : ¬ cm < 0 := by omega
 clear hcc HC
 generalize (Wd.words (Wd.val b)).getD ((Wd.words (Wd.val b)).length - 1) 0 = top at *
 generalize hL : (Wd.words (Wd.val b)).length = L at *
 have HL := Lib.hid hL
 clear hL
 go_wp2_with fail
 refine (limb_len top rfl hlast _).mono ?_
 rintro e w3 ⟨rfl, rfl⟩
 have hsl := len_shift (Wd.val_lt_two ha.ok) (Nat.min_le_right (32 - (Wd.bl top : Int)).toNat 4096)
 have hsb := len_shift (Wd.val_lt_two hb.ok) (Nat.min_le_right (32 - (Wd.bl top : Int)).toNat 4096)
 have hmin : min (32 - (Wd.bl top : Int)).toNat 4096 = (32 - (Wd.bl top : Int)).toNat := Nat.min_eq_left (by omega)
 generalize Wd.bl top = t at *
 obtain ⟨S, hS⟩ : ∃ S, S = 2 ^ min (32 - (t : Int)).toNat 4096 := ⟨_, rfl⟩
 have hS0 : 0 < S := by rw [hS]; exact Nat.two_pow_pos _
 rw [← hS] at hsl hsb
 have HS := Lib.hid hS
 have HMIN := Lib.hid hmin
 have HSL := Lib.hid hsl
 have HSB := Lib.hid hsb
 have HLS : Hid (L ≤ (Wd.words (Wd.val b * S)).length ∧ (Wd.words (Wd.val b * S)).length ≤ (Wd.words (Wd.val a * S)).length) := Lib.hid (by
  refine ⟨?_, Wd.words_mono (Nat.mul_le_mul_right _ HLE.out)⟩
  rw [← HL.out]
  exact Wd.words_mono (Nat.le_mul_of_pos_right _ hS0))
 have HOA := Lib.hid (Wd.ok_words (Wd.val a * S))
 have HVA := Lib.hid (Wd.val_words (Wd.val a * S))
 have HOB := Lib.hid (Wd.ok_words (Wd.val b * S))
 have HVB := Lib.hid (Wd.val_words (Wd.val b * S))
 have HLAST := Lib.hid (Wd.words_last (Wd.val b * S))
 have HQ : Hid (Wd.val a * S / (Wd.val b * S) = Wd.val a / Wd.val b ∧ Wd.val a * S % (Wd.val b * S) = Wd.val a % Wd.val b * S) := Lib.hid ⟨Nat.mul_div_mul_right _ _ hS0, Nat.mul_mod_mul_right _ _ _⟩
 have HS0 := Lib.hid hS0
 clear hS hmin hsl hsb hS0 HBW hc1 hok
 go_wp2_with fail
 refine (twos_up_own (n := 32 - (t : Int)) ha2 (by omega) (by omega)).mono ?_
 rintro e w4 ⟨v4, rfl, s4, k4, u4⟩
 rw [← HS.out] at s4
 clear k4
 generalize Wd.words (Wd.val a * S) = U at *
 have hUl : U.length ≤ 2000000000 := Nat.le_trans HSL.out (by omega)
 go_wp2_with (at_builtin; refine wl_append (w0 := w2) rfl (.tmp 52) (.tmp 53) rfl (n := U.length) (xs := U) rfl (s4.alloc _) (l := [0]) rfl (blk_new w4 [0]).rd rfl (by omega) (u4.alloc _) ?_; intro v5 w5 h5 u5)
 obtain ⟨g, cc, rest, rfl, hbg, q2, q3, hbk⟩ := own_blk h5 (by omega)
 have hglt := hbk.lt
 have s5 := s2.up u5
 go_wp2_with fail
 refine (twos_up_own (n := 32 - (t : Int)) s5 (by rw [HL.out]; omega) (by omega)).mono ?_
 rintro e w6 ⟨v6, rfl, s6, k6, u6⟩
 rw [Wd.val_words, ← HS.out] at s6
 clear k6
 have hst := Stays.of_own s6 HOB.out hglt
 have hbk6 := hbk.up u6
 have g6 := u5.trans u6
 generalize Wd.words (Wd.val b * S) = V at *
 have hVl : V.length ≤ U.length := HLS.out.2
 have hV2 : 2 ≤ V.length := Nat.le_trans h1 HLS.out.1
 obtain ⟨m, hm⟩ : ∃ m, U.length + 1 = m + V.length := ⟨U.length + 1 - V.length, by omega⟩
 have HUL : Hid ((U ++ [0]).length = U.length + 1) := Lib.hid (by simp)
 have HUO : Hid (Wd.Ok (U ++ [0])) := Lib.hid (Wd.ok_append.2 ⟨HOA.out, Wd.ok_cons.2 ⟨Wd.B_pos, Wd.ok_nil⟩⟩)
 have HUV : Hid (Wd.val (U ++ [0]) = Wd.val a * S) := Lib.hid (by rw [Wd.val_append, HVA.out]; simp [Wd.val])
 have HTOP : Hid (V.getD (V.length - 1) 0 ≠ 0) := Lib.hid (HLAST.out (by omega))
 have HLT : Hid (Wd.val (U ++ [0]) < Wd.B ^ m * Wd.val V) := Lib.hid (by
  obtain ⟨n, hn⟩ : ∃ n, V.length = n + 2 := ⟨V.length - 2, by omega⟩
  have h := HTOP.out
  rw [hn] at h
  exact Wd.left_lt HOA.out hn h (by omega))
 have HM : Hid ((U ++ [0]).length = m + V.length) := Lib.hid (by rw [HUL.out]; exact hm)
 clear hm
 go_wp2_with fail
 refine (quot_long rfl hV2 HM.out HUL.out (by omega) hbk6 HUO.out hst HTOP.out HLT.out).mono ?_
 rintro e w7 ⟨v7, q, r, rfl, s7, hql, hbr, okr, hrl, hvq, hvr, hon⟩
 have g7 := hon.up g6 hbg
 rw [HUV.out, HVB.out] at hvq hvr
 rw [HUL.out] at hql hrl
 have HVQ : Hid (Wd.val q = Wd.val a / Wd.val b) := Lib.hid (by rw [hvq, HQ.out.1])
 have HVR : Hid (Wd.val r = Wd.val a % Wd.val b * S) := Lib.hid (by rw [hvr, HQ.out.2])
 have s7r := hbr.ws okr (by rw [hrl]; exact q2) q3
 rw [hrl] at s7r
 have HRL : Hid (r.length = U.length + 1) := Lib.hid hrl
 clear hvq hvr hrl okr
 go_wp2_with fail
 refine (nat_norm s7 (by omega)).mono ?_
 intro e w8 ret8
 obtain ⟨v8, rfl, s8, u8⟩ := ret8.ws
 have g8 := g7.trans u8
 rw [HVQ.out] at s8
 have s8r := s7r.up u8
 go_wp2_with fail
 refine (twos_down (n := 32 - (t : Int)) s8r (by rw [HRL.out]; omega) (by omega)).mono ?_
 rintro e w9 ⟨v9, rfl, s9, u9⟩
 have s8 := s8.up u9
 have g9 := g2.trans (g8.trans u9)
 have HV9 : Hid (Wd.val r / 2 ^ (32 - (t : Int)).toNat = Wd.val a % Wd.val b) := Lib.hid (by
  rw [HVR.out, ← HMIN.out, ← HS.out]
  exact Nat.mul_div_cancel _ HS0.out)
 rw [HV9.out] at s9
 go_wp2
 go_ret3
 exact ret_wwb s8 s9 rfl rfl g9
theorem quot_div {v u : Value} {a b : List Nat} {w : World} (ha : Ws w v a) (hb : Ws w u b) (hla : a.length ≤ 1000000000) (hlb : b.length ≤ 1000000000) (h0 : Wd.val b ≠ 0) :
 Calls Tryz.prog 186 #[v, u] w (RetWWB (Wd.words (Wd.val a / Wd.val b)) (Wd.words (Wd.val a % Wd.val b)) true w) := by
 rcases Nat.lt_or_ge (Wd.val a) (Wd.val b) with h | h
 · exact quot_div_lt ha hb hla hlb h
 · have h1 : (Wd.words (Wd.val b)).length ≠ 0 := fun h => h0 (Wd.words_length_zero.1 h)
   by_cases h2 : (Wd.words (Wd.val b)).length = 1
   · exact quot_div_one ha hb hla hlb h h2
   · exact quot_div_long ha hb hla hlb h (by omega)
end Go.Proofs.YtmmcffceeahemaaGreat
