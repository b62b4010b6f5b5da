/-
  Layer 9: the greatest of a row of fractions.
-/
import Derived.Test.YtmmcffceeahemaaSeqLaw
set_option linter.unusedVariables false
set_option linter.unusedSimpArgs false
namespace Wd
def maxO (o : Option Rat) (x : Rat) : Option Rat := match o with
  | none => some x
  | some b => some (if 0 < cmpQ x b then x else b)
/-- The greatest of all; 0, if there is none. -/
def maxQ (l : List Rat) : Rat := (l.foldl maxO none).getD 0
theorem maxO_some : ∀ (l : List Rat) (b : Rat), ∃ c, l.foldl maxO (some b) = some c
  | [], b => ⟨b, rfl⟩
  | x :: l, b => maxO_some l _
theorem maxQ_snoc (l : List Rat) (x : Rat) : maxQ (l ++ [x]) = if l.length = 0 ∨ 0 < cmpQ x (maxQ l) then x else maxQ l := by
  unfold maxQ
  rw [List.foldl_append]
  cases l with
  | nil => simp [maxO]
  | cons y l =>
    obtain ⟨c, hc⟩ := maxO_some l y
    have e : (y :: l).foldl maxO none = some c := hc
    rw [e]
    simp only [List.foldl_cons, List.foldl_nil, maxO, Option.getD_some, List.length_cons]
    by_cases h : 0 < cmpQ x c
    · rw [if_pos h, if_pos (.inr h)]
    · rw [if_neg h, if_neg (by omega)]
theorem maxQ_mem : ∀ l : List Rat, l = [] ∨ maxQ l ∈ l := by
  have key : ∀ (l : List Rat) (b c : Rat), l.foldl maxO (some b) = some c → c = b ∨ c ∈ l := by
    intro l
    induction l with
    | nil => intro b c h; simp at h; exact .inl h.symm
    | cons x l ih =>
      intro b c h
      simp only [List.foldl_cons, maxO] at h
      rcases ih _ _ h with h1 | h1
      · split at h1
        · exact .inr (by simp [h1])
        · exact .inl h1
      · exact .inr (by simp [h1])
  intro l
  cases l with
  | nil => exact .inl rfl
  | cons x l =>
    right
    obtain ⟨c, hc⟩ := maxO_some l x
    have e : maxQ (x :: l) = c := by
      unfold maxQ
      have : (x :: l).foldl maxO none = some c := hc
      rw [this]; rfl
    rw [e]
    rcases key l x c hc with h | h
    · simp [h]
    · simp [h]
theorem maxQ_lq {l : List Rat} {k : Nat} (h : ∀ q ∈ l, Lq q k) (h1 : 1 ≤ k) : Lq (maxQ l) k := by
  rcases maxQ_mem l with rfl | h2
  · exact Lq.mono ⟨by show (words 0).length ≤ 1; rw [words_zero]; simp, words_one_len⟩ h1
  · exact h _ h2
end Wd
namespace Go.Proofs.Ytmmcffceeahemaa
open Go.RowKit

theorem Sq.lq {k : Nat} {w : World} {v : Value} {qs : List Rat} (h : Sq (Frk k) w v qs) : ∀ q ∈ qs, Wd.Lq q k := by
  intro q hq
  obtain ⟨j, hj, rfl⟩ := List.getElem_of_mem hq
  obtain ⟨A, c, rfl⟩ := h.form
  obtain ⟨b, o, s, B, m, f, D, n', f', _, _, _, _, _, hp⟩ := h.at_ (kp_fr k) hj
  exact Fr.lq hp
set_option maxRecDepth 100000 in
set_option maxHeartbeats 6400000 in
theorem frac_max {v : Value} {qs : List Rat} {k : Nat} {w : World} (h : Sq (Frk k) w v qs) (hl : qs.length ≤ 1000000) (hk : k ≤ 200000) (h1 : 1 ≤ k) : Calls Try.prog 46 #[v] w (RetQ (Wd.maxQ qs) w) := by
  have LQ := Lib.hid h.lq
  have LM : Hid (∀ j, Wd.Lq (Wd.maxQ (qs.take j)) k) := Lib.hid (fun j => Wd.maxQ_lq (fun q hq => LQ.out q (List.mem_of_mem_take hq)) h1)
  obtain ⟨A, c, rfl⟩ := h.form
  have H := Lib.hid h
  clear h
  have UP : Up w (w.alloc (.cells #[.bool false, .slice none 0 0, .slice none 0 0] 69)) := (Up.refl w).alloc _
  have r0 := Bx.new 69 w [.bool false, .slice none 0 0, .slice none 0 0]
  go_enter Try.func46, Try.ntmps46
  go_wp2_with fail
  generalize (w.alloc (.cells #[.bool false, .slice none 0 0, .slice none 0 0] 69)) = W at *
  obtain ⟨r0_0, r0_1, r0_2⟩ := r0.c3
  have r0_f0 := r0.free 0
  have r0_f1 := r0.free 1
  have r0_f2 := r0.free 2
  go_wp2_with fail
  ((with_reducible refine (frac_of0 _).mono ?_))
  rintro e W1 ⟨V1, rfl, o, u1⟩
  replace r0 := r0.up u1
  replace UP := UP.trans u1
  clear r0_0 r0_1 r0_2
  obtain ⟨r0_0, r0_1, r0_2⟩ := r0.c3
  replace r0_f0 := r0.free 0
  replace r0_f1 := r0.free 1
  replace r0_f2 := r0.free 2
  clear u1
  obtain ⟨P0, HP0⟩ : ∃ P, Hid ((0 : Rat) = P) := ⟨_, Lib.hid rfl⟩
  rw [HP0.out] at o
  obtain ⟨Xo, Yo, rfl, o, od⟩ := o
  obtain ⟨Ao, no, co, rfl⟩ := o.shape
  obtain ⟨Aod, nod, cod, rfl⟩ := od.shape
  have r0_0a := fun O0 => (cell_alloc (o := O0) r0_0)
  have r0_f0a := fun O0 => (r0.up ((Up.refl W1).alloc O0)).free 0
  have r0_1a := fun O0 => (cell_alloc (o := O0) r0_1)
  have r0_f1a := fun O0 => (r0.up ((Up.refl W1).alloc O0)).free 1
  have r0_2a := fun O0 => (cell_alloc (o := O0) r0_2)
  have r0_f2a := fun O0 => (r0.up ((Up.refl W1).alloc O0)).free 2
  go_wp2_with fail
  clear r0_0a r0_f0a r0_1a r0_f1a r0_2a r0_f2a
  have x1 := Bx.new 69 W1 [.bool (Wd.ngb P0.num), .slice Ao no co, .slice Aod nod cod]
  have r0_lt_x1 := r0.lt
  have r0_ne_x1 : ¬ (w.heap.size = W1.heap.size) := by omega
  have r0_en_x1 : ¬ (W1.heap.size = w.heap.size) := by omega
  replace o := o.up ((Up.refl W1).alloc (.cells #[.bool (Wd.ngb P0.num), .slice Ao no co, .slice Aod nod cod] 69))
  replace od := od.up ((Up.refl W1).alloc (.cells #[.bool (Wd.ngb P0.num), .slice Ao no co, .slice Aod nod cod] 69))
  replace r0 := r0.up ((Up.refl W1).alloc (.cells #[.bool (Wd.ngb P0.num), .slice Ao no co, .slice Aod nod cod] 69))
  replace UP := UP.trans ((Up.refl W1).alloc (.cells #[.bool (Wd.ngb P0.num), .slice Ao no co, .slice Aod nod cod] 69))
  generalize (W1.alloc (.cells #[.bool (Wd.ngb P0.num), .slice Ao no co, .slice Aod nod cod] 69)) = W2 at *
  clear r0_0 r0_1 r0_2
  obtain ⟨r0_0, r0_1, r0_2⟩ := r0.c3
  replace r0_f0 := r0.free 0
  replace r0_f1 := r0.free 1
  replace r0_f2 := r0.free 2
  obtain ⟨x1_0, x1_1, x1_2⟩ := x1.c3
  have x1_f0 := x1.free 0
  have x1_f1 := x1.free 1
  have x1_f2 := x1.free 2
  go_loopw [9] (fun s9 wr => ∃ (j : Nat) (s' : Bool) (A' D' : Option Addr) (n1 c1 n2 c2 : Nat), s9 = .int .i64 j ∧ j ≤ qs.length ∧ Bx 69 wr W1.heap.size [.bool s', .slice A' n1 c1, .slice D' n2 c2] ∧ Qw wr (.agg #[.bool s', .slice A' n1 c1, .slice D' n2 c2]) (Wd.maxQ (qs.take j)) ∧ Bx 69 wr w.heap.size [.bool false, .slice none 0 0, .slice none 0 0] ∧ Up w wr) (fun s9 _ => qs.length - (intOf s9).toNat)
  case atStart => exact ⟨0, _, _, _, _, _, _, _, rfl, Nat.zero_le _, x1, by rw [List.take_zero, show Wd.maxQ [] = P0 from HP0.out]; exact ⟨_, _, rfl, o, od⟩, r0, UP⟩
  case round =>
    obtain ⟨j, s', A', D', n1, c1, n2, c2, rfl, hj, x1, X, r0, UP⟩ := hrel
    obtain ⟨r0_0, r0_1, r0_2⟩ := r0.c3
    have r0_f0 := r0.free 0
    have r0_f1 := r0.free 1
    have r0_f2 := r0.free 2
    obtain ⟨x1_0, x1_1, x1_2⟩ := x1.c3
    have x1_f0 := x1.free 0
    have x1_f1 := x1.free 1
    have x1_f2 := x1.free 2
    by_cases hlt : j < qs.length
    · obtain ⟨b, o, s, B, m, f, D, n', f', rfl, hb, g1, g2, g3, hp⟩ := (H.out.up (kp_fr k) UP).at_ (kp_fr k) hlt
      have HTK : Hid (Wd.maxQ (qs.take (j + 1)) = if j = 0 ∨ 0 < Wd.cmpQ qs[j] (Wd.maxQ (qs.take j)) then qs[j] else Wd.maxQ (qs.take j)) := Lib.hid (by
        rw [List.take_succ_eq_append_getElem hlt, Wd.maxQ_snoc, List.length_take, Nat.min_eq_left (by omega)])
      have LX := LM.out j
      generalize qs[j] = q at *
      generalize Wd.maxQ (qs.take j) = p at *
      have FX : Fr wr (.agg #[.bool s, .slice B m f, .slice D n' f']) q k := hp
      clear hp
      have k1 : (j : Int) < (qs.length : Int) := by omega
      have k0 : (0 : Int) ≤ (j : Int) := by omega
      have kk : ((j : Int)).toNat = j := by omega
      by_cases h0 : j = 0
      · have hj0 : ((j : Int) == 0) = true := by simp [h0]
        have HV : Hid (Wd.maxQ (qs.take (j + 1)) = q) := Lib.hid (by rw [HTK.out, if_pos (.inl h0)])
        clear h0 HTK
        have r0_0a := fun O0 => (cell_alloc (o := O0) r0_0)
        have r0_f0a := fun O0 => (r0.up ((Up.refl wr).alloc O0)).free 0
        have r0_1a := fun O0 => (cell_alloc (o := O0) r0_1)
        have r0_f1a := fun O0 => (r0.up ((Up.refl wr).alloc O0)).free 1
        have r0_2a := fun O0 => (cell_alloc (o := O0) r0_2)
        have r0_f2a := fun O0 => (r0.up ((Up.refl wr).alloc O0)).free 2
        have x1_0a := fun O0 => (cell_alloc (o := O0) x1_0)
        have x1_f0a := fun O0 => (x1.up ((Up.refl wr).alloc O0)).free 0
        have x1_1a := fun O0 => (cell_alloc (o := O0) x1_1)
        have x1_f1a := fun O0 => (x1.up ((Up.refl wr).alloc O0)).free 1
        have x1_2a := fun O0 => (cell_alloc (o := O0) x1_2)
        have x1_f2a := fun O0 => (x1.up ((Up.refl wr).alloc O0)).free 2
        go_wp2_with fail
        clear r0_0a r0_f0a r0_1a r0_f1a r0_2a r0_f2a x1_0a x1_f0a x1_1a x1_f1a x1_2a x1_f2a
        have a1 := Bx.new 69 wr [.bool s, .slice B m f, .slice D n' f']
        have r0_lt_a1 := r0.lt
        have x1_lt_a1 := x1.lt
        replace X := X.up ((Up.refl wr).alloc (.cells #[.bool s, .slice B m f, .slice D n' f'] 69))
        replace FX := FX.up ((Up.refl wr).alloc (.cells #[.bool s, .slice B m f, .slice D n' f'] 69))
        replace r0 := r0.up ((Up.refl wr).alloc (.cells #[.bool s, .slice B m f, .slice D n' f'] 69))
        replace x1 := x1.up ((Up.refl wr).alloc (.cells #[.bool s, .slice B m f, .slice D n' f'] 69))
        replace UP := UP.trans ((Up.refl wr).alloc (.cells #[.bool s, .slice B m f, .slice D n' f'] 69))
        generalize (wr.alloc (.cells #[.bool s, .slice B m f, .slice D n' f'] 69)) = W51 at *
        clear r0_0 r0_1 r0_2 x1_0 x1_1 x1_2
        obtain ⟨r0_0, r0_1, r0_2⟩ := r0.c3
        replace r0_f0 := r0.free 0
        replace r0_f1 := r0.free 1
        replace r0_f2 := r0.free 2
        obtain ⟨x1_0, x1_1, x1_2⟩ := x1.c3
        replace x1_f0 := x1.free 0
        replace x1_f1 := x1.free 1
        replace x1_f2 := x1.free 2
        obtain ⟨a1_0, a1_1, a1_2⟩ := a1.c3
        clear g1 g2 g3
        ((with_reducible refine (frac_norm FX (by omega)).mono ?_))
        rintro e W52 ⟨V52, rfl, y, u52⟩
        replace X := X.up u52
        replace FX := FX.up u52
        replace r0 := r0.up u52
        replace x1 := x1.up u52
        replace a1 := a1.up u52
        replace UP := UP.trans u52
        clear r0_0 r0_1 r0_2 x1_0 x1_1 x1_2 a1_0 a1_1 a1_2
        obtain ⟨r0_0, r0_1, r0_2⟩ := r0.c3
        replace r0_f0 := r0.free 0
        replace r0_f1 := r0.free 1
        replace r0_f2 := r0.free 2
        obtain ⟨x1_0, x1_1, x1_2⟩ := x1.c3
        replace x1_f0 := x1.free 0
        replace x1_f1 := x1.free 1
        replace x1_f2 := x1.free 2
        obtain ⟨a1_0, a1_1, a1_2⟩ := a1.c3
        clear u52
        obtain ⟨Xy, Yy, rfl, y, yd⟩ := y
        obtain ⟨Ay, ny, cy, rfl⟩ := y.shape
        obtain ⟨Ayd, nyd, cyd, rfl⟩ := yd.shape
        go_wp2_with fail
        have KW : Kw (W52) ((W52).setCell ⟨W1.heap.size, 0, none⟩ (.bool (Wd.ngb q.num))) := Kw.store (c := (.bool s')) x1 rfl trivial _
        replace X := X.kw KW
        replace FX := FX.kw KW
        replace y := y.kw KW
        replace yd := yd.kw KW
        replace r0 := r0.far (p := ⟨W1.heap.size, 0, none⟩) (by dsimp only; omega) (.bool (Wd.ngb q.num))
        replace a1 := a1.far (p := ⟨W1.heap.size, 0, none⟩) (by dsimp only; omega) (.bool (Wd.ngb q.num))
        replace x1 : Bx 69 ((W52).setCell ⟨W1.heap.size, 0, none⟩ (.bool (Wd.ngb q.num))) (W1.heap.size) [.bool (Wd.ngb q.num), .slice A' n1 c1, .slice D' n2 c2] := x1.set 0 (.bool (Wd.ngb q.num))
        replace UP := UP.setCell (p := ⟨W1.heap.size, 0, none⟩) (by dsimp only; omega) (.bool (Wd.ngb q.num))
        have KW : Kw (((W52).setCell ⟨W1.heap.size, 0, none⟩ (.bool (Wd.ngb q.num)))) ((((W52).setCell ⟨W1.heap.size, 0, none⟩ (.bool (Wd.ngb q.num)))).setCell ⟨W1.heap.size, 1, none⟩ (.slice Ay ny cy)) := Kw.store (c := (.slice A' n1 c1)) x1 rfl trivial _
        replace X := X.kw KW
        replace FX := FX.kw KW
        replace y := y.kw KW
        replace yd := yd.kw KW
        replace r0 := r0.far (p := ⟨W1.heap.size, 1, none⟩) (by dsimp only; omega) (.slice Ay ny cy)
        replace a1 := a1.far (p := ⟨W1.heap.size, 1, none⟩) (by dsimp only; omega) (.slice Ay ny cy)
        replace x1 : Bx 69 ((((W52).setCell ⟨W1.heap.size, 0, none⟩ (.bool (Wd.ngb q.num)))).setCell ⟨W1.heap.size, 1, none⟩ (.slice Ay ny cy)) (W1.heap.size) [.bool (Wd.ngb q.num), .slice Ay ny cy, .slice D' n2 c2] := x1.set 1 (.slice Ay ny cy)
        replace UP := UP.setCell (p := ⟨W1.heap.size, 1, none⟩) (by dsimp only; omega) (.slice Ay ny cy)
        have KW : Kw (((((W52).setCell ⟨W1.heap.size, 0, none⟩ (.bool (Wd.ngb q.num)))).setCell ⟨W1.heap.size, 1, none⟩ (.slice Ay ny cy))) ((((((W52).setCell ⟨W1.heap.size, 0, none⟩ (.bool (Wd.ngb q.num)))).setCell ⟨W1.heap.size, 1, none⟩ (.slice Ay ny cy))).setCell ⟨W1.heap.size, 2, none⟩ (.slice Ayd nyd cyd)) := Kw.store (c := (.slice D' n2 c2)) x1 rfl trivial _
        replace X := X.kw KW
        replace FX := FX.kw KW
        replace y := y.kw KW
        replace yd := yd.kw KW
        replace r0 := r0.far (p := ⟨W1.heap.size, 2, none⟩) (by dsimp only; omega) (.slice Ayd nyd cyd)
        replace a1 := a1.far (p := ⟨W1.heap.size, 2, none⟩) (by dsimp only; omega) (.slice Ayd nyd cyd)
        replace x1 : Bx 69 ((((((W52).setCell ⟨W1.heap.size, 0, none⟩ (.bool (Wd.ngb q.num)))).setCell ⟨W1.heap.size, 1, none⟩ (.slice Ay ny cy))).setCell ⟨W1.heap.size, 2, none⟩ (.slice Ayd nyd cyd)) (W1.heap.size) [.bool (Wd.ngb q.num), .slice Ay ny cy, .slice Ayd nyd cyd] := x1.set 2 (.slice Ayd nyd cyd)
        replace UP := UP.setCell (p := ⟨W1.heap.size, 2, none⟩) (by dsimp only; omega) (.slice Ayd nyd cyd)
        clear KW
        generalize ((((((W52).setCell ⟨W1.heap.size, 0, none⟩ (.bool (Wd.ngb q.num)))).setCell ⟨W1.heap.size, 1, none⟩ (.slice Ay ny cy))).setCell ⟨W1.heap.size, 2, none⟩ (.slice Ayd nyd cyd)) = W53 at *
        clear r0_0 r0_1 r0_2 x1_0 x1_1 x1_2 a1_0 a1_1 a1_2
        obtain ⟨r0_0, r0_1, r0_2⟩ := r0.c3
        replace r0_f0 := r0.free 0
        replace r0_f1 := r0.free 1
        replace r0_f2 := r0.free 2
        obtain ⟨x1_0, x1_1, x1_2⟩ := x1.c3
        obtain ⟨a1_0, a1_1, a1_2⟩ := a1.c3
        go_roundw
        case rel => exact ⟨j + 1, _, _, _, _, _, _, _, by go_num, by omega, x1, by rw [HV.out]; exact ⟨_, _, rfl, y, yd⟩, r0, UP⟩
        case measure => simp [intOf]; omega
      · have hj0 : ((j : Int) == 0) = false := by simp [h0]
        have HN0 := Lib.hid h0
        clear h0
        have r0_0a := fun O0 => (cell_alloc (o := O0) r0_0)
        have r0_f0a := fun O0 => (r0.up ((Up.refl wr).alloc O0)).free 0
        have r0_1a := fun O0 => (cell_alloc (o := O0) r0_1)
        have r0_f1a := fun O0 => (r0.up ((Up.refl wr).alloc O0)).free 1
        have r0_2a := fun O0 => (cell_alloc (o := O0) r0_2)
        have r0_f2a := fun O0 => (r0.up ((Up.refl wr).alloc O0)).free 2
        have x1_0a := fun O0 => (cell_alloc (o := O0) x1_0)
        have x1_f0a := fun O0 => (x1.up ((Up.refl wr).alloc O0)).free 0
        have x1_1a := fun O0 => (cell_alloc (o := O0) x1_1)
        have x1_f1a := fun O0 => (x1.up ((Up.refl wr).alloc O0)).free 1
        have x1_2a := fun O0 => (cell_alloc (o := O0) x1_2)
        have x1_f2a := fun O0 => (x1.up ((Up.refl wr).alloc O0)).free 2
        go_wp2_with fail
        clear r0_0a r0_f0a r0_1a r0_f1a r0_2a r0_f2a x1_0a x1_f0a x1_1a x1_f1a x1_2a x1_f2a
        have a1 := Bx.new 69 wr [.bool s, .slice B m f, .slice D n' f']
        have r0_lt_a1 := r0.lt
        have x1_lt_a1 := x1.lt
        replace X := X.up ((Up.refl wr).alloc (.cells #[.bool s, .slice B m f, .slice D n' f'] 69))
        replace FX := FX.up ((Up.refl wr).alloc (.cells #[.bool s, .slice B m f, .slice D n' f'] 69))
        replace r0 := r0.up ((Up.refl wr).alloc (.cells #[.bool s, .slice B m f, .slice D n' f'] 69))
        replace x1 := x1.up ((Up.refl wr).alloc (.cells #[.bool s, .slice B m f, .slice D n' f'] 69))
        replace UP := UP.trans ((Up.refl wr).alloc (.cells #[.bool s, .slice B m f, .slice D n' f'] 69))
        generalize (wr.alloc (.cells #[.bool s, .slice B m f, .slice D n' f'] 69)) = W51 at *
        clear r0_0 r0_1 r0_2 x1_0 x1_1 x1_2
        obtain ⟨r0_0, r0_1, r0_2⟩ := r0.c3
        replace r0_f0 := r0.free 0
        replace r0_f1 := r0.free 1
        replace r0_f2 := r0.free 2
        obtain ⟨x1_0, x1_1, x1_2⟩ := x1.c3
        replace x1_f0 := x1.free 0
        replace x1_f1 := x1.free 1
        replace x1_f2 := x1.free 2
        obtain ⟨a1_0, a1_1, a1_2⟩ := a1.c3
        clear g1 g2 g3
        ((with_reducible refine (frac_cmp FX (X.fr LX) (by omega) (by omega)).mono ?_))
        rintro e W52 ⟨rfl, u52⟩
        replace X := X.up u52
        replace FX := FX.up u52
        replace r0 := r0.up u52
        replace x1 := x1.up u52
        replace a1 := a1.up u52
        replace UP := UP.trans u52
        clear r0_0 r0_1 r0_2 x1_0 x1_1 x1_2 a1_0 a1_1 a1_2
        obtain ⟨r0_0, r0_1, r0_2⟩ := r0.c3
        replace r0_f0 := r0.free 0
        replace r0_f1 := r0.free 1
        replace r0_f2 := r0.free 2
        obtain ⟨x1_0, x1_1, x1_2⟩ := x1.c3
        replace x1_f0 := x1.free 0
        replace x1_f1 := x1.free 1
        replace x1_f2 := x1.free 2
        obtain ⟨a1_0, a1_1, a1_2⟩ := a1.c3
        clear u52
        obtain ⟨C, HC⟩ : ∃ C, Hid (Wd.cmpQ q p = C) := ⟨_, Lib.hid rfl⟩
        rw [HC.out]
        by_cases hc : 0 < C
        · have HV : Hid (Wd.maxQ (qs.take (j + 1)) = q) := Lib.hid (by rw [HTK.out, if_pos (.inr (by rw [HC.out]; exact hc))])
          clear HTK
          go_wp2_with fail
          ((with_reducible refine (frac_norm FX (by omega)).mono ?_))
          rintro e W53 ⟨V53, rfl, y, u53⟩
          replace X := X.up u53
          replace FX := FX.up u53
          replace r0 := r0.up u53
          replace x1 := x1.up u53
          replace a1 := a1.up u53
          replace UP := UP.trans u53
          clear r0_0 r0_1 r0_2 x1_0 x1_1 x1_2 a1_0 a1_1 a1_2
          obtain ⟨r0_0, r0_1, r0_2⟩ := r0.c3
          replace r0_f0 := r0.free 0
          replace r0_f1 := r0.free 1
          replace r0_f2 := r0.free 2
          obtain ⟨x1_0, x1_1, x1_2⟩ := x1.c3
          replace x1_f0 := x1.free 0
          replace x1_f1 := x1.free 1
          replace x1_f2 := x1.free 2
          obtain ⟨a1_0, a1_1, a1_2⟩ := a1.c3
          clear u53
          obtain ⟨Xy, Yy, rfl, y, yd⟩ := y
          obtain ⟨Ay, ny, cy, rfl⟩ := y.shape
          obtain ⟨Ayd, nyd, cyd, rfl⟩ := yd.shape
          go_wp2_with fail
          have KW : Kw (W53) ((W53).setCell ⟨W1.heap.size, 0, none⟩ (.bool (Wd.ngb q.num))) := Kw.store (c := (.bool s')) x1 rfl trivial _
          replace X := X.kw KW
          replace FX := FX.kw KW
          replace y := y.kw KW
          replace yd := yd.kw KW
          replace r0 := r0.far (p := ⟨W1.heap.size, 0, none⟩) (by dsimp only; omega) (.bool (Wd.ngb q.num))
          replace a1 := a1.far (p := ⟨W1.heap.size, 0, none⟩) (by dsimp only; omega) (.bool (Wd.ngb q.num))
          replace x1 : Bx 69 ((W53).setCell ⟨W1.heap.size, 0, none⟩ (.bool (Wd.ngb q.num))) (W1.heap.size) [.bool (Wd.ngb q.num), .slice A' n1 c1, .slice D' n2 c2] := x1.set 0 (.bool (Wd.ngb q.num))
          replace UP := UP.setCell (p := ⟨W1.heap.size, 0, none⟩) (by dsimp only; omega) (.bool (Wd.ngb q.num))
          have KW : Kw (((W53).setCell ⟨W1.heap.size, 0, none⟩ (.bool (Wd.ngb q.num)))) ((((W53).setCell ⟨W1.heap.size, 0, none⟩ (.bool (Wd.ngb q.num)))).setCell ⟨W1.heap.size, 1, none⟩ (.slice Ay ny cy)) := Kw.store (c := (.slice A' n1 c1)) x1 rfl trivial _
          replace X := X.kw KW
          replace FX := FX.kw KW
          replace y := y.kw KW
          replace yd := yd.kw KW
          replace r0 := r0.far (p := ⟨W1.heap.size, 1, none⟩) (by dsimp only; omega) (.slice Ay ny cy)
          replace a1 := a1.far (p := ⟨W1.heap.size, 1, none⟩) (by dsimp only; omega) (.slice Ay ny cy)
          replace x1 : Bx 69 ((((W53).setCell ⟨W1.heap.size, 0, none⟩ (.bool (Wd.ngb q.num)))).setCell ⟨W1.heap.size, 1, none⟩ (.slice Ay ny cy)) (W1.heap.size) [.bool (Wd.ngb q.num), .slice Ay ny cy, .slice D' n2 c2] := x1.set 1 (.slice Ay ny cy)
          replace UP := UP.setCell (p := ⟨W1.heap.size, 1, none⟩) (by dsimp only; omega) (.slice Ay ny cy)
          have KW : Kw (((((W53).setCell ⟨W1.heap.size, 0, none⟩ (.bool (Wd.ngb q.num)))).setCell ⟨W1.heap.size, 1, none⟩ (.slice Ay ny cy))) ((((((W53).setCell ⟨W1.heap.size, 0, none⟩ (.bool (Wd.ngb q.num)))).setCell ⟨W1.heap.size, 1, none⟩ (.slice Ay ny cy))).setCell ⟨W1.heap.size, 2, none⟩ (.slice Ayd nyd cyd)) := Kw.store (c := (.slice D' n2 c2)) x1 rfl trivial _
          replace X := X.kw KW
          replace FX := FX.kw KW
          replace y := y.kw KW
          replace yd := yd.kw KW
          replace r0 := r0.far (p := ⟨W1.heap.size, 2, none⟩) (by dsimp only; omega) (.slice Ayd nyd cyd)
          replace a1 := a1.far (p := ⟨W1.heap.size, 2, none⟩) (by dsimp only; omega) (.slice Ayd nyd cyd)
          replace x1 : Bx 69 ((((((W53).setCell ⟨W1.heap.size, 0, none⟩ (.bool (Wd.ngb q.num)))).setCell ⟨W1.heap.size, 1, none⟩ (.slice Ay ny cy))).setCell ⟨W1.heap.size, 2, none⟩ (.slice Ayd nyd cyd)) (W1.heap.size) [.bool (Wd.ngb q.num), .slice Ay ny cy, .slice Ayd nyd cyd] := x1.set 2 (.slice Ayd nyd cyd)
          replace UP := UP.setCell (p := ⟨W1.heap.size, 2, none⟩) (by dsimp only; omega) (.slice Ayd nyd cyd)
          clear KW
          generalize ((((((W53).setCell ⟨W1.heap.size, 0, none⟩ (.bool (Wd.ngb q.num)))).setCell ⟨W1.heap.size, 1, none⟩ (.slice Ay ny cy))).setCell ⟨W1.heap.size, 2, none⟩ (.slice Ayd nyd cyd)) = W54 at *
          clear r0_0 r0_1 r0_2 x1_0 x1_1 x1_2 a1_0 a1_1 a1_2
          obtain ⟨r0_0, r0_1, r0_2⟩ := r0.c3
          replace r0_f0 := r0.free 0
          replace r0_f1 := r0.free 1
          replace r0_f2 := r0.free 2
          obtain ⟨x1_0, x1_1, x1_2⟩ := x1.c3
          obtain ⟨a1_0, a1_1, a1_2⟩ := a1.c3
          go_roundw
          case rel => exact ⟨j + 1, _, _, _, _, _, _, _, by go_num, by omega, x1, by rw [HV.out]; exact ⟨_, _, rfl, y, yd⟩, r0, UP⟩
          case measure => simp [intOf]; omega
        · have HV : Hid (Wd.maxQ (qs.take (j + 1)) = p) := Lib.hid (by rw [HTK.out, if_neg (by rintro (h | h); exact HN0.out h; rw [HC.out] at h; exact hc h)])
          have hc2 : decide (0 < C) = false := decide_eq_false hc
          clear HTK hc
          go_wp2_with fail
          go_roundw
          case rel => exact ⟨j + 1, _, _, _, _, _, _, _, by go_num, by omega, x1, by rw [HV.out]; exact X, r0, UP⟩
          case measure => simp [intOf]; omega
    · obtain rfl : j = qs.length := by omega
      rw [List.take_length] at X
      obtain ⟨r0_0, r0_1, r0_2⟩ := r0.c3
      have r0_f0 := r0.free 0
      have r0_f1 := r0.free 1
      have r0_f2 := r0.free 2
      obtain ⟨x1_0, x1_1, x1_2⟩ := x1.c3
      have x1_f0 := x1.free 0
      have x1_f1 := x1.free 1
      have x1_f2 := x1.free 2
      go_wp2_with fail
      exact end_q rfl rfl rfl X r0 trivial trivial trivial UP (by omega)
end Go.Proofs.Ytmmcffceeahemaa
