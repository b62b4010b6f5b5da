/-
  Layer 13: gauges.
-/
import Derived.Test.YtmmcffceeahemaaSeqOpen
import Derived.Test.YtmmcffceeahemaaRefFrac6
import Derived.BigQuiet
import Derived.Deep.QuietTactic
set_option linter.unusedVariables false
set_option linter.unusedSimpArgs false
namespace Ga
/-- How many come before the first that is too long. -/
def bad (L : Int) : List Nat → Nat
  | [] => 0
  | n :: l => if (n : Int) ≤ L then bad L l + 1 else 0
/-- The greater one. -/
def mx (b n : Int) : Int := if n > b then n else b
/-- The longest. -/
def pk (p : Int) : List Nat → Int
  | [] => p
  | n :: l => pk (mx p n) l
theorem pk_append (p : Int) : ∀ (l m : List Nat), pk p (l ++ m) = pk (pk p l) m := by
  intro l
  induction l generalizing p with
  | nil => intro m; rfl
  | cons n l ih => intro m; exact ih _ m
theorem pk_take {p : Int} {l : List Nat} {j : Nat} (h : j < l.length) : pk p (l.take (j + 1)) = mx (pk p (l.take j)) (l[j] : Int) := by
  rw [List.take_succ_eq_append_getElem h, pk_append]
  rfl
theorem bad_le (L : Int) : ∀ l : List Nat, bad L l ≤ l.length
  | [] => Nat.le_refl _
  | n :: l => by
    have := bad_le L l
    unfold bad
    split <;> simp <;> omega
theorem bad_at {L : Int} : ∀ {l : List Nat} {j : Nat}, (∀ n ∈ l.take j, (n : Int) ≤ L) → (h : j < l.length) → L < (l[j] : Int) → bad L l = j
  | n :: l, 0, _, _, h => by
    simp only [List.getElem_cons_zero] at h
    unfold bad
    rw [if_neg (by omega)]
  | n :: l, j + 1, hj, h, hb => by
    have h0 : (n : Int) ≤ L := hj n (by simp)
    have ih := bad_at (l := l) (j := j) (fun m hm => hj m (by simp [hm])) (by simpa using h) (by simpa using hb)
    unfold bad
    rw [if_pos h0, ih]
theorem bad_all {L : Int} : ∀ {l : List Nat}, (∀ n ∈ l, (n : Int) ≤ L) → bad L l = l.length
  | [], _ => rfl
  | n :: l, h => by
    have ih := bad_all (l := l) (fun m hm => h m (by simp [hm]))
    unfold bad
    rw [if_pos (h n (by simp)), ih, List.length_cons]
theorem pk_ge (p : Int) : ∀ l : List Nat, p ≤ pk p l
  | [] => Int.le_refl _
  | n :: l => by
    have h1 : p ≤ mx p n := by unfold mx; split <;> omega
    exact Int.le_trans h1 (pk_ge _ l)
theorem pk_bd {p M : Int} : ∀ {l : List Nat}, p ≤ M → (∀ n ∈ l, (n : Int) ≤ M) → pk p l ≤ M
  | [], h, _ => h
  | n :: l, h, hl => by
    unfold pk
    refine pk_bd ?_ fun m hm => hl m (by simp [hm])
    unfold mx
    split
    · exact hl n (by simp)
    · exact h
theorem all_snoc {L : Int} {l : List Nat} {j : Nat} (h : j < l.length) (ha : ∀ n ∈ l.take j, (n : Int) ≤ L) (hb : (l[j] : Int) ≤ L) : ∀ n ∈ l.take (j + 1), (n : Int) ≤ L := by
  intro n hn
  rw [List.take_succ_eq_append_getElem h] at hn
  rcases List.mem_append.1 hn with hn | hn
  · exact ha n hn
  · simp at hn; subst hn; exact hb
/-- How long a fraction may be. -/
def lim (n : Int) : Int := if 4096 < (if 0 > n then 0 else n) then 4096 else (if 0 > n then 0 else n)
theorem lim_bd (n : Int) : 0 ≤ lim n ∧ lim n ≤ 4096 := by unfold lim; split <;> split <;> omega
theorem lim_of {n : Int} (h : 0 ≤ n) (h2 : n ≤ 4096) : lim n = n := by unfold lim; split <;> split <;> omega
end Ga
namespace Go.Proofs.Ytmmcffceeahemaa
open Go.RowKit

/-- One block may have turned; else the world has only grown. -/
def Gb (g : Nat) (w w' : World) : Prop := w.grownBy w' (some g) ∧ Kw w w'
theorem Gb.up {g : Nat} {w w' : World} (h : Up w w') : Gb g w w' := ⟨grown_up h _, h.kw⟩
theorem Gb.refl (g : Nat) (w : World) : Gb g w w := Gb.up (Up.refl w)
theorem Gb.trans {g : Nat} {a b c : World} (h : Gb g a b) (k : Gb g b c) : Gb g a c :=
  ⟨⟨k.1.os.trans h.1.os, k.1.tape.trans h.1.tape, k.1.output.trans h.1.output, Nat.le_trans h.1.size k.1.size, fun j hj hne => (k.1.block j (Nat.lt_of_lt_of_le hj h.1.size) hne).trans (h.1.block j hj hne)⟩, h.2.trans k.2⟩
theorem Gb.above {g : Nat} {w0 w w' : World} (h : Gb g w w') (hu : Up w0 w) (hg : w0.heap.size ≤ g) : Up w0 w' := hu.grown h.1 (fun k hk => by cases hk; exact hg)
theorem Gb.bx {g g' : Nat} {w w' : World} {T : TypeId} {vs : List Value} (h : Gb g w w') (hb : Bx T w g' vs) (hne : g' ≠ g) : Bx T w' g' vs := (h.1.block g' hb.lt (fun e => hne (by cases e; rfl))).trans hb
theorem Gb.sq {α : Type} {P : World → Value → α → Prop} (kp : Kp P) {g : Nat} {w w' : World} {v : Value} {qs : List α} (h : Gb g w w') (hs : Sq P w v qs) (hv : v.ownBlock ≠ some g) : Sq P w' v qs := by
  obtain ⟨A, c, xs, rfl, h2, h3, h4, h5⟩ := hs
  refine ⟨A, c, xs, rfl, h2, h3, h4.imp fun x q hx => kp.kw hx h.2, fun hl => ?_⟩
  obtain ⟨b, o, rfl, hb, hc⟩ := h5 hl
  refine ⟨b, o, rfl, Nat.lt_of_lt_of_le hb h.1.size, fun j u hj => ?_⟩
  exact h.1.cell (hc j u hj) (fun e => hv (by simpa [Value.ownBlock] using e))
theorem Gb.sqs {α : Type} {P : World → Value → α → Prop} (kp : Kp P) {g : Nat} {w0 w w' : World} {v : Value} {ls : List (List α)} (h : Gb g w w') (hu : Up w0 w) (hg : w0.heap.size ≤ g) (hs : Sqs P w0 v ls) : Sqs P w' v ls := hs.up kp (h.above hu hg)

/-- A fraction's size. -/
def Sz (k : Nat) (w : World) (v : Value) (n : Nat) : Prop := ∃ s u d l m, v = .agg #[.bool s, u, d] ∧ Ws w u l ∧ Ws w d m ∧ Wd.bl (Wd.val l) + Wd.bl (Wd.val m) = n ∧ l.length ≤ k ∧ m.length ≤ k
theorem kp_sz (k : Nat) : Kp (Sz k) where
  kw := fun ⟨s, u, d, l, m, h1, h2, h3, h4⟩ hk => ⟨s, u, d, l, m, h1, h2.kw hk, h3.kw hk, h4⟩
  form := fun ⟨s, u, d, l, m, h1, h2, h3, h4⟩ => ⟨⟨_, u, d⟩, h1, h2.shape, h3.shape⟩
theorem Sz.bd {k : Nat} {w : World} {v : Value} {n : Nat} (h : Sz k w v n) : n ≤ 64 * k := by
  obtain ⟨s, u, d, l, m, _, h2, h3, rfl, h5, h6⟩ := h
  have b1 := Wd.bl_len (Nat.le_trans (Wd.words_val_length h2.ok) h5)
  have b2 := Wd.bl_len (Nat.le_trans (Wd.words_val_length h3.ok) h6)
  omega
theorem Sq.szs {w : World} {v : Value} {rs : List Raw} (h : Sq Rw w v rs) {k : Nat} (hk : ∀ r ∈ rs, r.few k) : Sq (Sz k) w v (rs.map Raw.size) := h.map _ fun v r hr hx => by
  obtain ⟨u, d, rfl, h2, h3⟩ := hx
  exact ⟨_, u, d, _, _, rfl, h2, h3, rfl, (hk r hr).1, (hk r hr).2⟩
theorem Sz.size {k : Nat} {w : World} {v : Value} {n : Nat} (h : Sz k w v n) (hk : k ≤ 1000000) : Calls Try.prog 59 #[v] w (RetN (n : Int) w) := by
  obtain ⟨s, u, d, l, m, rfl, h2, h3, rfl, h5, h6⟩ := h
  exact frac_size h2 h3 (by omega) (by omega)
theorem Sz.rsize {k : Nat} {w : World} {v : Value} {n : Nat} (h : Sz k w v n) (hk : k ≤ 1000000) : Calls Try.prog 34 #[v] w (RetN (n : Int) w) := by
  obtain ⟨s, u, d, l, m, rfl, h2, h3, rfl, h5, h6⟩ := h
  exact ref9_size h2 h3 (by omega) (by omega)

/-- What comes back: a gauge of its own. -/
def RetG (L : Int) (w : World) (e : Ending) (w' : World) : Prop := ∃ g, e = .returned (.pointer (some ⟨g, 0, none⟩)) ∧ Bx 148 w' g [.int .i64 0, .int .i64 0, .int .i64 L] ∧ w.heap.size ≤ g ∧ Up w w'
theorem gauge_new {n : Int} (hn : -9223372036854775808 ≤ n ∧ n ≤ 9223372036854775807) (w : World) : Calls Try.prog 27 #[.int .i64 n] w (RetG (Ga.lim n) w) := by
  obtain ⟨m, hm⟩ : ∃ m, (if 0 > n then 0 else n) = m := ⟨_, rfl⟩
  have HM := Lib.hid hm.symm
  have HL : Hid (Ga.lim n = if 4096 < m then 4096 else m) := Lib.hid (by unfold Ga.lim; rw [hm])
  clear hm
  obtain ⟨L, hL⟩ : ∃ L, Ga.lim n = L := ⟨_, rfl⟩
  rw [hL] at HL ⊢
  clear hL
  go_enter Try.func27, Try.ntmps27
  go_wp2_with (first
    | (with_reducible show wpList _ _ _ _ _ _; refine wl_max (o := ⟨some 4, _, _, _, _, _⟩) rfl _ _ _ _ rfl rfl rfl HM.out ?_)
    | (with_reducible show wpList _ _ _ _ _ _; refine wl_min (o := ⟨some 5, _, _, _, _, _⟩) rfl _ _ _ _ rfl rfl rfl HL.out ?_))
  go_ret
  exact ⟨w.heap.size, rfl, Bx.new _ w _, Nat.le_refl _, (Up.refl w).alloc _⟩

/-- A gauge is shown one more. -/
def RetNote (g : Nat) (a b c : Int) (w : World) (e : Ending) (w' : World) : Prop := e = .returned (.tuple #[]) ∧ Bx 148 w' g [.int .i64 a, .int .i64 b, .int .i64 c] ∧ Gb g w w'
theorem gb_store {g i : Nat} {w : World} {a b c x : Int} (hb : Bx 148 w g [.int .i64 a, .int .i64 b, .int .i64 c]) (hi : i < 3) : Gb g w (w.setCell ⟨g, i, none⟩ (.int .i64 x)) := by
  refine ⟨⟨rfl, rfl, rfl, by simp [World.setCell], fun j hj hne => Below.heap_setCell _ _ _ _ (by simp; exact fun e => hne (by rw [e]))⟩, ?_⟩
  match i, hi with
  | 0, _ => exact Kw.store (c := .int .i64 a) hb rfl trivial _
  | 1, _ => exact Kw.store (c := .int .i64 b) hb rfl trivial _
  | 2, _ => exact Kw.store (c := .int .i64 c) hb rfl trivial _
theorem gauge_note {g : Nat} {a b c n : Int} {w : World} (hb : Bx 148 w g [.int .i64 a, .int .i64 b, .int .i64 c]) (ha : 0 ≤ a ∧ a ≤ 1000000000) (hn : 0 ≤ n ∧ n ≤ 1000000000000) :
    Calls Try.prog 150 #[.pointer (some ⟨g, 0, none⟩), .int .i64 n] w (RetNote g (a + 1) (Ga.mx b n) c w) := by
  obtain ⟨m, hm⟩ : ∃ m, Ga.mx b n = m := ⟨_, rfl⟩
  have HM : Hid (m = if n > b then n else b) := Lib.hid hm.symm
  rw [hm]
  clear hm
  obtain ⟨c0, c1, c2⟩ := hb.c3
  have f0 := hb.free 0
  have f1 := hb.free 1
  have hb1 : Bx 148 (w.setCell ⟨g, 0, none⟩ (.int .i64 (a + 1))) g [.int .i64 (a + 1), .int .i64 b, .int .i64 c] := hb.set 0 _
  have d1 := (hb1.c3).2.1
  have e1 := hb1.free 1
  have HB := Lib.hid hb
  have HB1 := Lib.hid hb1
  clear hb hb1
  go_enter Try.func150, Try.ntmps150
  go_wp2_with (with_reducible show wpList _ _ _ _ _ _; refine wl_max (o := ⟨some 17, _, _, _, _, _⟩) rfl _ _ _ _ rfl rfl rfl HM.out ?_)
  go_end0
  exact ⟨rfl, HB1.out.set 1 _, (gb_store HB.out (by omega)).trans (gb_store HB1.out (by omega))⟩

/-- May it be? -/
def RetTake13 (g : Nat) (t : Bool) (a b c : Int) (w : World) (e : Ending) (w' : World) : Prop := e = .returned (.bool t) ∧ Bx 148 w' g [.int .i64 a, .int .i64 b, .int .i64 c] ∧ Gb g w w'
theorem gauge_take {g k n : Nat} {a b c : Int} {v : Value} {w : World} (hb : Bx 148 w g [.int .i64 a, .int .i64 b, .int .i64 c]) (hv : Sz k w v n) (hk : k ≤ 1000000) (ha : 0 ≤ a ∧ a ≤ 1000000000) :
    Calls Try.prog 101 #[.pointer (some ⟨g, 0, none⟩), v] w (RetTake13 g (decide ((n : Int) ≤ c)) (a + 1) (Ga.mx b n) c w) := by
  have hn := hv.bd
  have HV := hv
  obtain ⟨x, rfl, ⟨A, n1, c1, e1⟩, ⟨D, n2, c2, e2⟩⟩ := (kp_sz k).form hv
  obtain ⟨s, u, d⟩ := x
  simp only at e1 e2
  subst e1 e2
  have HV : Sz k w (.agg #[.bool s, .slice A n1 c1, .slice D n2 c2]) n := hv
  clear hv
  have UP : Up w (w.alloc (.cells #[.bool s, .slice A n1 c1, .slice D n2 c2] 69)) := (Up.refl w).alloc _
  have b0 := Bx.new 69 w [.bool s, .slice A n1 c1, .slice D n2 c2]
  show Calls Try.prog 101 #[.pointer (some ⟨g, 0, none⟩), .agg #[.bool s, .slice A n1 c1, .slice D n2 c2]] w _
  go_enter Try.func101, Try.ntmps101
  go_wp2_with fail
  generalize (w.alloc (.cells #[.bool s, .slice A n1 c1, .slice D n2 c2] 69)) = W at *
  obtain ⟨b0_0, b0_1, b0_2⟩ := b0.c3
  have hb := hb.up UP
  have HV := (kp_sz k).kw HV UP.kw
  ((with_reducible refine (Sz.size HV hk).mono ?_))
  rintro e W1 ⟨rfl, u1⟩
  have hb := hb.up u1
  have UP := UP.trans u1
  obtain ⟨t, HT⟩ : ∃ t, Hid (decide ((n : Int) ≤ c) = t) := ⟨_, Lib.hid rfl⟩
  go_wp2_with fail
  ((with_reducible refine (gauge_note hb ha (by omega)).mono ?_))
  rintro e W2 ⟨rfl, hb2, G2⟩
  obtain ⟨c0, c1, c2⟩ := hb2.c3
  go_wp2
  go_ret
  exact ⟨rfl, hb2, (Gb.up UP).trans G2⟩

theorem agg_count (w : World) : (isAgg 52).run Try.prog w = .ok true w := by kernel_rfl
theorem size_count (w : World) : (sizeOf 52).run Try.prog w = .ok 2 w := by kernel_rfl
theorem gauge_tells {g : Nat} {a b c : Int} {w : World} (hb : Bx 148 w g [.int .i64 a, .int .i64 b, .int .i64 c]) :
    Calls Try.prog 30 #[.pointer (some ⟨g, 0, none⟩)] w fun e w' => e = .returned (.agg #[.int .i64 a, .int .i64 b]) ∧ Up w w' := by
  have UP : Up w (w.alloc (.cells #[.int .i64 0, .int .i64 0] 52)) := (Up.refl w).alloc _
  have hb := hb.up UP
  obtain ⟨c0, c1, c2⟩ := hb.c3
  have r0 := Bx.new 52 w [.int .i64 0, .int .i64 0]
  have f0 := r0.free 0
  have f1 := r0.free 1
  go_enter Try.func30, Try.ntmps30
  go_wp2
  exact bodyPost_ret (run_res_cell rfl rfl agg_count size_count (Bx.new 52 w [.int .i64 a, .int .i64 b]) rfl) rfl ⟨rfl, (Up.refl w).alloc _⟩
theorem gauge_over {g : Nat} {a b c : Int} {w : World} (hb : Bx 148 w g [.int .i64 a, .int .i64 b, .int .i64 c]) :
    Calls Try.prog 31 #[.pointer (some ⟨g, 0, none⟩)] w fun e w' => e = .returned (.bool (decide (c < b))) ∧ Up w w' := by
  obtain ⟨c0, c1, c2⟩ := hb.c3
  go_enter Try.func31, Try.ntmps31
  go_wp2
  go_quiet (fail)
  go_wp2
  go_ret
  exact ⟨rfl, (Up.refl w).drewN nq⟩
theorem gauge_limit {g : Nat} {a b c : Int} {w : World} (hb : Bx 148 w g [.int .i64 a, .int .i64 b, .int .i64 c]) :
    Calls Try.prog 32 #[.pointer (some ⟨g, 0, none⟩)] w fun e w' => e = .returned (.int .i64 c) ∧ w = w' := by
  obtain ⟨c0, c1, c2⟩ := hb.c3
  go_enter Try.func32, Try.ntmps32
  go_wp2
  go_ret
  exact ⟨rfl, rfl⟩

/-- A row is shown. -/
def RetRow13 (g : Nat) (L : Int) (a b : Int) (ns : List Nat) (w : World) (e : Ending) (w' : World) : Prop :=
  e = .returned (.tuple #[.int .i64 (Ga.bad L ns : Nat), .bool (decide (Ga.bad L ns = ns.length))]) ∧ Bx 148 w' g [.int .i64 (a + (min (Ga.bad L ns + 1) ns.length : Nat)), .int .i64 (Ga.pk b (ns.take (Ga.bad L ns + 1))), .int .i64 L] ∧ Gb g w w'
set_option maxRecDepth 100000 in
set_option maxHeartbeats 3200000 in
theorem gauge_row {g k : Nat} {a b L : Int} {v : Value} {ns : List Nat} {w : World} (hb : Bx 148 w g [.int .i64 a, .int .i64 b, .int .i64 L]) (h : Sq (Sz k) w v ns) (hv : v.ownBlock ≠ some g) (hk : k ≤ 1000000) (hl : ns.length ≤ 1000) (ha : 0 ≤ a ∧ a ≤ 100000000) :
    Calls Try.prog 29 #[.pointer (some ⟨g, 0, none⟩), v] w (RetRow13 g L a b ns w) := by
  obtain ⟨A, c, rfl⟩ := h.form
  have H := Lib.hid h
  have HV := Lib.hid hv
  have HB := Lib.hid hb
  clear h hv hb
  go_enter Try.func29, Try.ntmps29
  go_wp2
  go_loopw [10] (fun s10 wr => ∃ j : Nat, s10 = .int .i64 j ∧ j ≤ ns.length ∧ Hid (∀ n ∈ ns.take j, (n : Int) ≤ L) ∧ Bx 148 wr g [.int .i64 (a + (j : Int)), .int .i64 (Ga.pk b (ns.take j)), .int .i64 L] ∧ Gb g w wr) (fun s10 _ => ns.length - (intOf s10).toNat)
  case atStart => exact ⟨0, rfl, Nat.zero_le _, Lib.hid (by simp), by simpa [Ga.pk] using HB.out, Gb.refl g w⟩
  case round =>
    obtain ⟨j, rfl, hj, HA, gb, hgb⟩ := hrel
    by_cases hlt : j < ns.length
    · obtain ⟨b', o, s, B, m, f, D, n', f', rfl, hb', g1, g2, g3, hp⟩ := (hgb.sq (kp_sz k) H.out HV.out).at_ (kp_sz k) hlt
      have HPK := Lib.hid (Ga.pk_take (p := b) hlt)
      have HBA := Lib.hid fun hh => Ga.bad_at (L := L) HA.out hlt hh
      have HSN := Lib.hid fun hh => Ga.all_snoc (L := L) hlt HA.out hh
      generalize ns[j] = n at *
      obtain ⟨P, HP⟩ : ∃ P, Hid (Ga.pk b (ns.take j) = P) := ⟨_, Lib.hid rfl⟩
      rw [HP.out] at gb
      have UP := Up.refl wr
      obtain ⟨gb_0, gb_1, gb_2⟩ := gb.c3
      have k1 : (j : Int) < (ns.length : Int) := by omega
      have k0 : (0 : Int) ≤ (j : Int) := by omega
      have kk : ((j : Int)).toNat = j := by omega
      have gb_0a := fun O0 => (cell_alloc (o := O0) gb_0)
      have gb_1a := fun O0 => (cell_alloc (o := O0) gb_1)
      have gb_2a := fun O0 => (cell_alloc (o := O0) gb_2)
      go_wp2_with fail
      clear gb_0a gb_1a gb_2a
      have a1 := Bx.new 69 wr [.bool s, .slice B m f, .slice D n' f']
      have gb_lt_a1 := gb.lt
      replace gb := gb.up ((Up.refl wr).alloc (.cells #[.bool s, .slice B m f, .slice D n' f'] 69))
      replace UP := UP.trans ((Up.refl wr).alloc (.cells #[.bool s, .slice B m f, .slice D n' f'] 69))
      generalize (wr.alloc (.cells #[.bool s, .slice B m f, .slice D n' f'] 69)) = W51 at *
      clear gb_0 gb_1 gb_2
      obtain ⟨gb_0, gb_1, gb_2⟩ := gb.c3
      obtain ⟨a1_0, a1_1, a1_2⟩ := a1.c3
      clear g1 g2 g3
      have hp2 := (kp_sz k).kw hp UP.kw
      ((with_reducible refine (gauge_take gb hp2 hk ⟨by omega, by omega⟩).mono ?_))
      rintro e W2 ⟨rfl, gb2, GB2⟩
      have hgb2 := hgb.trans ((Gb.up UP).trans GB2)
      have GBX : Bx 148 W2 g [.int .i64 (a + ((j + 1 : Nat) : Int)), .int .i64 (Ga.pk b (ns.take (j + 1))), .int .i64 L] := by
        rw [HPK.out, HP.out, Int.natCast_add, ← Int.add_assoc]
        exact gb2
      have GBXH := Lib.hid GBX
      clear hp hp2 gb gb2 GBX gb_0 gb_1 gb_2 a1_0 a1_1 a1_2 a1
      by_cases hle : (n : Int) ≤ L
      · have HA2 := Lib.hid (HSN.out hle)
        go_wp2
        go_roundw
        case rel => exact ⟨j + 1, by go_num, by omega, HA2, GBXH.out, hgb2⟩
        case measure => simp [intOf]; omega
      · have HE := Lib.hid (HBA.out (by omega))
        have hle2 : decide ((n : Int) ≤ L) = false := decide_eq_false hle
        clear hle
        go_wp2
        go_ret2
        refine ⟨by rw [HE.out, decide_eq_false (by omega)]; rfl, ?_, hgb2⟩
        rw [HE.out, Nat.min_eq_left (by omega)]
        exact GBXH.out
    · obtain rfl : j = ns.length := by omega
      have HE : Hid (Ga.bad L ns = ns.length) := Lib.hid (Ga.bad_all (by have := HA.out; rw [List.take_length] at this; exact this))
      have GBXH := Lib.hid gb
      clear gb
      go_wp2
      go_ret2
      refine ⟨by rw [HE.out, decide_eq_true rfl]; rfl, ?_, hgb⟩
      rw [HE.out, Nat.min_eq_right (by omega), List.take_of_length_le (by omega)]
      have := GBXH.out
      rw [List.take_length] at this
      exact this

theorem ref_fits13 {k n : Nat} {L : Int} {v : Value} {w : World} (hv : Sz k w v n) (hk : k ≤ 1000000) : Calls Try.prog 102 #[v, .int .i64 L] w fun e w' => e = .returned (.bool (decide ((n : Int) ≤ L))) ∧ Up w w' := by
  obtain ⟨x, rfl, ⟨A, n1, c1, e1⟩, ⟨D, n2, c2, e2⟩⟩ := (kp_sz k).form hv
  obtain ⟨s, u, d⟩ := x
  simp only at e1 e2
  subst e1 e2
  have HV : Sz k w (.agg #[.bool s, .slice A n1 c1, .slice D n2 c2]) n := hv
  clear hv
  have UP : Up w (w.alloc (.cells #[.bool s, .slice A n1 c1, .slice D n2 c2] 61)) := (Up.refl w).alloc _
  have b0 := Bx.new 61 w [.bool s, .slice A n1 c1, .slice D n2 c2]
  show Calls Try.prog 102 #[.agg #[.bool s, .slice A n1 c1, .slice D n2 c2], .int .i64 L] w _
  go_enter Try.func102, Try.ntmps102
  go_wp2_with fail
  generalize (w.alloc (.cells #[.bool s, .slice A n1 c1, .slice D n2 c2] 61)) = W at *
  obtain ⟨b0_0, b0_1, b0_2⟩ := b0.c3
  have HV := (kp_sz k).kw HV UP.kw
  ((with_reducible refine (Sz.rsize HV hk).mono ?_))
  rintro e W1 ⟨rfl, u1⟩
  have UP := UP.trans u1
  go_wp2
  go_ret
  exact ⟨rfl, UP⟩
set_option maxRecDepth 100000 in
set_option maxHeartbeats 1600000 in
theorem ref_row13 {k : Nat} {L : Int} {v : Value} {ns : List Nat} {w : World} (h : Sq (Sz k) w v ns) (hk : k ≤ 1000000) (hl : ns.length ≤ 1000) : Calls Try.prog 33 #[v, .int .i64 L] w fun e w' => e = .returned (.int .i64 (Ga.bad L ns : Nat)) ∧ Up w w' := by
  obtain ⟨A, c, rfl⟩ := h.form
  have H := Lib.hid h
  clear h
  go_enter Try.func33, Try.ntmps33
  go_wp2
  go_loopw [5] (fun s5 wr => ∃ j : Nat, s5 = .int .i64 j ∧ j ≤ ns.length ∧ Hid (∀ n ∈ ns.take j, (n : Int) ≤ L) ∧ Up w wr) (fun s5 _ => ns.length - (intOf s5).toNat)
  case atStart => exact ⟨0, rfl, Nat.zero_le _, Lib.hid (by simp), Up.refl w⟩
  case round =>
    obtain ⟨j, rfl, hj, HA, hup⟩ := hrel
    by_cases hlt : j < ns.length
    · obtain ⟨b', o, s, B, m, f, D, n', f', rfl, hb', g1, g2, g3, hp⟩ := (H.out.up (kp_sz k) hup).at_ (kp_sz k) hlt
      have HBA := Lib.hid fun hh => Ga.bad_at (L := L) HA.out hlt hh
      have HSN := Lib.hid fun hh => Ga.all_snoc (L := L) hlt HA.out hh
      generalize ns[j] = n at *
      have k1 : (j : Int) < (ns.length : Int) := by omega
      have k0 : (0 : Int) ≤ (j : Int) := by omega
      have kk : ((j : Int)).toNat = j := by omega
      go_wp2_with fail
      ((with_reducible refine (ref_fits13 hp hk).mono ?_))
      rintro e W2 ⟨rfl, u2⟩
      have up2 := hup.trans u2
      clear hp g1 g2 g3 u2
      by_cases hle : (n : Int) ≤ L
      · have HA2 := Lib.hid (HSN.out hle)
        go_wp2
        go_roundw
        case rel => exact ⟨j + 1, by go_num, by omega, HA2, up2⟩
        case measure => simp [intOf]; omega
      · have HE := Lib.hid (HBA.out (by omega))
        have hle2 : decide ((n : Int) ≤ L) = false := decide_eq_false hle
        clear hle
        go_wp2
        go_ret
        exact ⟨by rw [HE.out]; rfl, up2⟩
    · obtain rfl : j = ns.length := by omega
      have HE : Hid (Ga.bad L ns = ns.length) := Lib.hid (Ga.bad_all (by have := HA.out; rw [List.take_length] at this; exact this))
      go_wp2
      go_ret
      exact ⟨by rw [HE.out]; rfl, hup⟩
end Go.Proofs.Ytmmcffceeahemaa
