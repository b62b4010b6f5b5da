/-
  Memory: rows of fractions, read and made.
-/
import Derived.Test.YtmmcffceeahemaaGreatZtFracHigh
import Derived.Deep.AppendLies
import Derived.Deep.RegionLaw
import Derived.Test.YtmmcffceeahemaaGreatZtShort
set_option linter.unusedVariables false
set_option linter.unusedSimpArgs false
namespace Go.Proofs.YtmmcffceeahemaaGreat
open Go.RowKit
/-- A fraction's cells: its sign, the upper number, the lower one. -/
structure F3 where
 s : Bool
 u : Value
 d : Value
def F3.agg (x : F3) : Value := .agg #[.bool x.s, x.u, x.d]
def F3.ok (x : F3) : Prop := (∃ A n c, x.u = .slice A n c) ∧ ∃ A n c, x.d = .slice A n c
def F3.zero : F3 := ⟨false, .slice none 0 0, .slice none 0 0⟩
theorem F3.zero_ok : F3.zero.ok := ⟨⟨_, _, _, rfl⟩, ⟨_, _, _, rfl⟩⟩
/-- The cells of fractions, one behind the other. -/
def fcells : List F3 → List Value
 | [] => []
 | x :: l => .bool x.s :: x.u :: x.d :: fcells l
theorem fcells_len : ∀ l : List F3, (fcells l).length = l.length * 3
 | [] => by simp [fcells]
 | x :: l => by simp only [fcells, List.length_cons, fcells_len l]; omega
theorem fcells_append : ∀ l m : List F3, fcells (l ++ m) = fcells l ++ fcells m
 | [], m => rfl
 | x :: l, m => by simp only [List.cons_append, fcells, fcells_append l m]
theorem fcells_at : ∀ (l : List F3) (j : Nat) (x : F3), l[j]? = some x → (fcells l)[j * 3]? = some (.bool x.s) ∧ (fcells l)[j * 3 + 1]? = some x.u ∧ (fcells l)[j * 3 + 2]? = some x.d
 | [], j, x, h => by simp at h
 | y :: l, 0, x, h => by simp at h; subst h; simp [fcells]
 | y :: l, j + 1, x, h => by
   have := fcells_at l j x (by simpa using h)
   have e : (j + 1) * 3 = j * 3 + 1 + 1 + 1 := by omega
   rw [e]
   simp only [fcells, List.getElem?_cons_succ]
   exact this
theorem fcells_set : ∀ (l : List F3) (j : Nat) (x : F3), j < l.length → fcells (l.set j x) = (((fcells l).set (j * 3) (.bool x.s)).set (j * 3 + 1) x.u).set (j * 3 + 2) x.d
 | [], j, x, h => by simp at h
 | y :: l, 0, x, h => by simp [fcells]
 | y :: l, j + 1, x, h => by
   have := fcells_set l j x (by simpa using h)
   have e : (j + 1) * 3 = j * 3 + 1 + 1 + 1 := by omega
   rw [e]
   simp only [List.set_cons_succ, fcells, this]
theorem fcells_mem {l : List F3} (h : ∀ x ∈ l, x.ok) {u : Value} (hu : u ∈ fcells l) : NoWord u ∧ u.oneCell' = true := by
 induction l with
 | nil => simp [fcells] at hu
 | cons y l ih =>
   obtain ⟨⟨A, n, c, e1⟩, ⟨B, m, d, e2⟩⟩ := h y (by simp)
   simp only [fcells, List.mem_cons] at hu
   rcases hu with rfl | rfl | rfl | hu
   · exact ⟨trivial, rfl⟩
   · rw [e1]; exact ⟨trivial, rfl⟩
   · rw [e2]; exact ⟨trivial, rfl⟩
   · exact ih (fun x hx => h x (by simp [hx])) hu
theorem fcells_take (l : List F3) (n : Nat) : fcells (l.take n) = (fcells l).take (n * 3) := by
 by_cases hn : n ≤ l.length
 · have e : fcells l = fcells (l.take n) ++ fcells (l.drop n) := by rw [← fcells_append, List.take_append_drop]
   rw [e, List.take_left' (by rw [fcells_len, List.length_take]; omega)]
 · rw [List.take_of_length_le (by omega), List.take_of_length_le (by rw [fcells_len]; omega)]
theorem fcells_drop (l : List F3) (n : Nat) : fcells (l.drop n) = (fcells l).drop (n * 3) := by
 by_cases hn : n ≤ l.length
 · have e : fcells l = fcells (l.take n) ++ fcells (l.drop n) := by rw [← fcells_append, List.take_append_drop]
   rw [e, List.drop_left' (by rw [fcells_len, List.length_take]; omega)]
 · rw [List.drop_of_length_le (by omega), List.drop_of_length_le (by rw [fcells_len]; omega)]; rfl
theorem zeros_f3 : ∀ k : Nat, (Builtin.zeroCells #[.bool false, .slice none 0 0, .slice none 0 0] k).toList = fcells (List.replicate k F3.zero)
 | 0 => by simp [Builtin.zeroCells, fcells]
 | k + 1 => by
   have ih := zeros_f3 k
   have e : (k + 1) * 3 = k * 3 + 1 + 1 + 1 := by omega
   have m0 : (k * 3) % 3 = 0 := by omega
   have m1 : (k * 3 + 1) % 3 = 1 := by omega
   have m2 : (k * 3 + 1 + 1) % 3 = 2 := by omega
   rw [List.replicate_succ', fcells_append, ← ih]
   simp [Builtin.zeroCells, e, Array.range_succ, m0, m1, m2, fcells, F3.zero]
theorem made_f3 (k : Nat) : (madeCells #[.bool false, .slice none 0 0, .slice none 0 0] (k * 3)).toList = fcells (List.replicate k F3.zero) := zeros_f3 k
variable {α : Type}
/-- Two lists go together. -/
def Al (R : F3 → α → Prop) (xs : List F3) (qs : List α) : Prop := xs.length = qs.length ∧ ∀ (j : Nat) x q, xs[j]? = some x → qs[j]? = some q → R x q
theorem Al.nil (R : F3 → α → Prop) : Al R [] [] := ⟨rfl, fun j x q h _ => by simp at h⟩
theorem Al.imp {R S : F3 → α → Prop} {xs : List F3} {qs : List α} (h : Al R xs qs) (f : ∀ x q, R x q → S x q) : Al S xs qs := ⟨h.1, fun j x q h1 h2 => f x q (h.2 j x q h1 h2)⟩
theorem Al.append {R : F3 → α → Prop} {xs ys : List F3} {qs rs : List α} (h : Al R xs qs) (k : Al R ys rs) : Al R (xs ++ ys) (qs ++ rs) := by
 refine ⟨by simp [h.1, k.1], fun j x q h1 h2 => ?_⟩
 by_cases hj : j < xs.length
 · rw [List.getElem?_append_left hj] at h1
   rw [List.getElem?_append_left (by rw [← h.1]; exact hj)] at h2
   exact h.2 j x q h1 h2
 · rw [List.getElem?_append_right (by omega)] at h1
   rw [List.getElem?_append_right (by rw [← h.1]; omega), ← h.1] at h2
   exact k.2 _ x q h1 h2
theorem Al.one {R : F3 → α → Prop} {x : F3} {q : α} (h : R x q) : Al R [x] [q] := ⟨rfl, fun j y r h1 h2 => by
 match j with
 | 0 => simp at h1 h2; subst h1 h2; exact h
 | j + 1 => simp at h1⟩
theorem Al.take {R : F3 → α → Prop} {xs : List F3} {qs : List α} (h : Al R xs qs) (n : Nat) : Al R (xs.take n) (qs.take n) := by
 refine ⟨by simp [h.1], fun j x q h1 h2 => ?_⟩
 rw [List.getElem?_take] at h1 h2
 split at h1
 · rename_i hj; rw [if_pos hj] at h2; exact h.2 j x q h1 h2
 · cases h1
theorem Al.set {R : F3 → α → Prop} {xs : List F3} {qs : List α} (h : Al R xs qs) (n : Nat) {x : F3} {q : α} (hx : R x q) : Al R (xs.set n x) (qs.set n q) := by
 refine ⟨by simp [h.1], fun j y r h1 h2 => ?_⟩
 rw [List.getElem?_set] at h1 h2
 split at h1
 · rename_i hj
   subst hj
   rw [if_pos rfl] at h2
   split at h1
   · split at h2
     · cases h1; cases h2; exact hx
     · cases h2
   · cases h1
 · rename_i hj
   rw [if_neg hj] at h2
   exact h.2 j y r h1 h2
theorem Al.at_ {R : F3 → α → Prop} {xs : List F3} {qs : List α} (h : Al R xs qs) {k : Nat} (hk : k < qs.length) : ∃ x, xs[k]? = some x ∧ R x qs[k] := by
 have hk2 : k < xs.length := by rw [h.1]; exact hk
 exact ⟨xs[k], List.getElem?_eq_getElem hk2, h.2 k _ _ (List.getElem?_eq_getElem hk2) (List.getElem?_eq_getElem hk)⟩
theorem Al.replicate {R : F3 → α → Prop} {x : F3} {q : α} (h : R x q) (n : Nat) : Al R (List.replicate n x) (List.replicate n q) :=
 ⟨by simp, fun j y r h1 h2 => by
   rw [List.getElem?_replicate] at h1 h2
   split at h1
   · rename_i hj; rw [if_pos hj] at h2; cases h1; cases h2; exact h
   · cases h1⟩
/-- A fraction's word: it is kept while words are, and tells its cells. -/
structure Kp {α : Type} (P : World → Value → α → Prop) : Prop where
 kw : ∀ {w w' : World} {v : Value} {q : α}, P w v q → Kw w w' → P w' v q
 form : ∀ {w : World} {v : Value} {q : α}, P w v q → ∃ x : F3, v = x.agg ∧ x.ok
/-- A fraction of at most so many words, and a right one. -/
def Frk (k : Nat) (w : World) (v : Value) (q : Rat) : Prop := Fr w v q k
theorem kp_fr (k : Nat) : Kp (Frk k) where
 kw := fun h hk => Fr.kw h hk
 form := fun h => by
  obtain ⟨s, u, d, l, m, rfl, hl, hm, _⟩ := h
  exact ⟨⟨s, u, d⟩, rfl, hl.shape, hm.shape⟩
theorem kp_qw : Kp Qw where
 kw := fun h hk => Qw.kw h hk
 form := fun h => by
  obtain ⟨u, d, rfl, hl, hm⟩ := h
  exact ⟨⟨_, u, d⟩, rfl, hl.shape, hm.shape⟩
/-- A right one of at most so many words. -/
def Qk (k : Nat) (w : World) (v : Value) (q : Rat) : Prop := Qw w v q ∧ Wd.Lq q k
theorem kp_qk (k : Nat) : Kp (Qk k) where
 kw := fun h hk => ⟨h.1.kw hk, h.2⟩
 form := fun h => kp_qw.form h.1
theorem F3.agg_inj {x y : F3} (h : x.agg = y.agg) : x = y := by
 cases x; cases y
 simp [F3.agg] at h
 obtain ⟨rfl, rfl, rfl⟩ := h
 rfl
/-- A row of fractions that can be read. -/
def Sq (P : World → Value → α → Prop) (w : World) (v : Value) (qs : List α) : Prop :=
 ∃ A c xs, v = .slice A qs.length c ∧ qs.length ≤ c ∧ c ≤ maxLen ∧ Al (fun x q => P w x.agg q) xs qs ∧ RdV w A (fcells xs)
theorem Sq.up {P : World → Value → α → Prop} (kp : Kp P) {w w' : World} {v : Value} {qs : List α} (h : Sq P w v qs) (hu : Up w w') : Sq P w' v qs := by
 obtain ⟨A, c, xs, h1, h2, h3, h4, h5⟩ := h
 exact ⟨A, c, xs, h1, h2, h3, h4.imp fun x q hx => kp.kw hx hu.kw, h5.up hu⟩
theorem Sq.imp {P Q : World → Value → α → Prop} {w : World} {v : Value} {qs : List α} (h : Sq P w v qs) (f : ∀ {v q}, P w v q → Q w v q) : Sq Q w v qs := by
 obtain ⟨A, c, xs, h1, h2, h3, h4, h5⟩ := h
 exact ⟨A, c, xs, h1, h2, h3, h4.imp fun x q hx => f hx, h5⟩
theorem Sq.form {P : World → Value → α → Prop} {w : World} {v : Value} {qs : List α} (h : Sq P w v qs) : ∃ A c, v = .slice A qs.length c := by obtain ⟨A, c, xs, h1, _⟩ := h; exact ⟨A, c, h1⟩
theorem Sq.nil (P : World → Value → α → Prop) (w : World) : Sq P w (.slice none 0 0) [] := ⟨none, 0, [], rfl, by simp, by simp, Al.nil _, fun h => absurd h (by simp [fcells])⟩
/-- The fraction at a place. -/
theorem Sq.at_ {P : World → Value → α → Prop} (kp : Kp P) {w : World} {A : Option Addr} {n c : Nat} {qs : List α} (h : Sq P w (.slice A n c) qs) {k : Nat} (hk : k < qs.length) :
 ∃ b o s B m f D n' f', A = some ⟨b, o, none⟩ ∧ b < w.heap.size ∧ w.cell? ⟨b, o + k * 3, none⟩ = some (.bool s) ∧ w.cell? ⟨b, o + k * 3 + 1, none⟩ = some (.slice B m f) ∧ w.cell? ⟨b, o + k * 3 + 2, none⟩ = some (.slice D n' f') ∧ P w (.agg #[.bool s, .slice B m f, .slice D n' f']) qs[k] := by
 obtain ⟨A', c', xs, h1, h2, h3, h4, h5⟩ := h
 cases h1
 obtain ⟨x, hx, hp⟩ := h4.at_ hk
 obtain ⟨q1, q2, q3⟩ := fcells_at xs k x hx
 obtain ⟨y, e, ⟨B, m, f, e1⟩, ⟨D, n', f', e2⟩⟩ := kp.form hp
 have e := F3.agg_inj e
 subst e
 have hl : 0 < (fcells xs).length := by rw [fcells_len, h4.1]; omega
 obtain ⟨b, o, rfl, hb, hc⟩ := h5 hl
 have c2 := hc _ _ q2
 have c3 := hc _ _ q3
 rw [e1] at c2
 rw [e2] at c3
 refine ⟨b, o, x.s, B, m, f, D, n', f', rfl, hb, hc _ _ q1, c2, c3, ?_⟩
 rw [← e1, ← e2]
 exact hp
/-- A row of the call's own: it lies at the head of a block, behind which are fractions too. -/
def RowF (T : TypeId) (base : Nat) (w : World) (v : Value) (xs : List F3) : Prop :=
 (∀ x ∈ xs, x.ok) ∧ ((v = .slice none 0 0 ∧ xs = []) ∨ ∃ g ys, v = .slice (some ⟨g, 0, none⟩) xs.length (xs.length + ys.length) ∧ base ≤ g ∧ Bx T w g (fcells (xs ++ ys)) ∧ (∀ y ∈ ys, y.ok) ∧ xs.length + ys.length ≤ maxLen)
theorem RowF.nil (T : TypeId) (base : Nat) (w : World) : RowF T base w (.slice none 0 0) [] := ⟨by simp, .inl ⟨rfl, rfl⟩⟩
theorem RowF.own {T : TypeId} {base : Nat} {w : World} {v : Value} {xs : List F3} (h : RowF T base w v xs) : w.ownsRow base T 3 v xs.length (fcells xs) := by
 refine ⟨fcells_len xs, ?_⟩
 rcases h.2 with ⟨rfl, rfl⟩ | ⟨g, ys, rfl, hb, hx, hy, hm⟩
 · exact .inl ⟨rfl, rfl⟩
 · refine .inr ⟨g, _, _, rfl, hb, hx, by omega, hm, ?_, ?_⟩
   · simp [fcells_len]
   · rw [fcells_append]
     simp only [List.take_left' (fcells_len xs)]
theorem RowF.kept {T : TypeId} {base : Nat} {w w' : World} {v : Value} {xs : List F3} {row : Option Nat} (h : RowF T base w v xs) (hg : w.grownBy w' row) (hne : v.ownBlock = none ∨ v.ownBlock ≠ row) : RowF T base w' v xs := by
 refine ⟨h.1, ?_⟩
 rcases h.2 with h2 | ⟨g, ys, rfl, hb, hx, hy, hm⟩
 · exact .inl h2
 · exact .inr ⟨g, ys, rfl, hb, (hg.block g hx.lt (by simpa [Value.ownBlock] using hne)).trans hx, hy, hm⟩
theorem grown_up {w w' : World} (h : Up w w') (row : Option Nat) : w.grownBy w' row := ⟨h.os, h.tape, h.output, h.size, fun k hk _ => h.block k hk⟩
theorem RowF.up {T : TypeId} {base : Nat} {w w' : World} {v : Value} {xs : List F3} (h : RowF T base w v xs) (hu : Up w w') : RowF T base w' v xs := h.kept (row := none) (grown_up hu none) (by cases v.ownBlock <;> simp)
instance RowF.lup {T : TypeId} {base : Nat} {w w' : World} {v : Value} {xs : List F3} : Lu (Up w w') (RowF T base w v xs) (RowF T base w' v xs) := luM fun u h => h.up u
theorem RowF.weaken {T : TypeId} {base base' : Nat} {w : World} {v : Value} {xs : List F3} (h : RowF T base w v xs) (hb : base' ≤ base) : RowF T base' w v xs := by
 refine ⟨h.1, ?_⟩
 rcases h.2 with h2 | ⟨g, ys, e, hb2, r⟩
 · exact .inl h2
 · exact .inr ⟨g, ys, e, Nat.le_trans hb hb2, r⟩
theorem RowF.rd {T : TypeId} {base : Nat} {w : World} {A : Option Addr} {n c : Nat} {xs : List F3} (h : RowF T base w (.slice A n c) xs) : RdV w A (fcells xs) := by
 obtain ⟨A', c', e, _⟩ := own_form h.own
 cases e
 exact RdV.of_own h.own
/-- Words are kept where a row of fractions is laid anew. -/
theorem Kw.setRow {T : TypeId} {w : World} {g : Nat} {xs : List F3} (h : Bx T w g (fcells xs)) (hx : ∀ x ∈ xs, x.ok) (cs : Array Value) : Kw w (w.setRow g cs) := by
 refine ⟨by simp [World.setRow], fun p y hp => ?_⟩
 by_cases hb : p.block = g
 · exfalso
   subst hb
   unfold Bx at h
   unfold World.cell? at hp
   rw [h] at hp
   simp only at hp
   split at hp
   · cases hp
   · have := List.mem_of_getElem? (by simpa using hp)
     exact (fcells_mem hx this).1
 · rw [cell_setRow_other w g cs p hb]
   exact hp
abbrev F3Info (T : TypeId) : Prop := (Tryz.prog.info? T).map (fun i => (i.zero, i.size, i.bytes)) = some (some (.agg #[.bool false, .slice none 0 0, .slice none 0 0]), 3, 56)
/-- 'append(v, x...)': the run. -/
theorem run_append_f3 {T TS ty : TypeId} {base : Nat} {w : World} {v : Value} {xs ms : List F3} {A : Option Addr} {c : Nat} (ht : Tryz.prog.underlying TS = some (.slice T)) (hI : F3Info T)
 (h : RowF T base w v xs) (hr : RdV w A (fcells ms)) (hm : ∀ x ∈ ms, x.ok) (hb : xs.length + ms.length ≤ 2000000000000) (hbase : base ≤ w.heap.size) :
 ∃ v' w', (Builtin.append_ #[TS, TS] ty #[v, .slice A ms.length c]).run Tryz.prog w = .ok v' w' ∧ RowF T base w' v' (xs ++ ms) ∧ Kw w w' ∧ w.grownBy w' v.ownBlock := by
 obtain ⟨i, hi, hz, hs, hby⟩ := info_parts hI
 have hown := h.own
 have hok : ∀ x ∈ xs ++ ms, x.ok := fun x hx => by
  rcases List.mem_append.1 hx with h1 | h1
  · exact h.1 x h1
  · exact hm x h1
 have hcell : ∀ ad, A = some ad → ∀ (j : Nat) u, (fcells ms)[j]? = some u → w.cell? (ad.add j) = some u := by
  intro ad hA j u hj
  have hpos : 0 < (fcells ms).length := by
   rcases Nat.eq_zero_or_pos (fcells ms).length with h0 | h0
   · have := List.eq_nil_of_length_eq_zero h0; rw [this] at hj; simp at hj
   · exact h0
  obtain ⟨b, o, hA2, _, hc⟩ := hr hpos
  rw [hA] at hA2
  cases hA2
  have := hc j u hj
  unfold Addr.add
  by_cases h0 : j = 0
  · subst h0; simpa using this
  · simpa [h0] using this
 rcases A with _ | ad
 · have hn : ms = [] := by
    rcases Nat.eq_zero_or_pos ms.length with h0 | h0
    · exact List.eq_nil_of_length_eq_zero h0
    · obtain ⟨b, off, hA, _⟩ := hr (by rw [fcells_len]; omega)
      cases hA
   subst hn
   refine ⟨v, w, run_append_none ht hi hown c, by rw [List.append_nil]; exact h, Kw.refl w, grown_up (Up.refl w) _⟩
 · have hl : (fcells ms).length = ms.length * i.size := by rw [hs, fcells_len]
   have hnews := hcell ad rfl
   rcases h.2 with ⟨rfl, rfl⟩ | ⟨g, ys, rfl, hg, hx, hy, hmx⟩
   · by_cases h0 : ms.length = 0
     · have := List.eq_nil_of_length_eq_zero h0
       subst this
       refine ⟨.slice none 0 0, w, ?_, RowF.nil T base w, Kw.refl w, grown_up (Up.refl w) _⟩
       simp [Builtin.append_, run_underlying ht, sizeOf, typeInfo, hi, Builtin.lenOf, Builtin.firstCells, loadCells, loadCellsFrom]
     · have hr2 := run_append_nil (P := Tryz.prog) w TS ty T i _ ht hi hz ad ms.length c (fcells ms) hl hnews (by omega) (by simp at hb; omega) (by rw [hby]; simp at hb; omega)
       have hge := grownCap_ge w ms.length 0 T
       have hle := grownCap_le_maxLen w ms.length 0 T (by simp at hb; simp only [maxLen]; omega)
       generalize grownCap w ms.length 0 T = cap at *
       have hup : Up w (w.drew.alloc (.cells ((fcells ms).toArray ++ Builtin.zeroCells (Value.agg #[.bool false, .slice none 0 0, .slice none 0 0]).cells (cap - ms.length)) T)) := (Up.refl w).drew.alloc _
       refine ⟨_, _, hr2, ⟨by simpa using hok, .inr ⟨w.heap.size, List.replicate (cap - ms.length) F3.zero, ?_, hbase, ?_, ?_, ?_⟩⟩, hup.kw, grown_up hup _⟩
       · simp; omega
       · have e : (fcells ms).toArray ++ Builtin.zeroCells (Value.agg #[.bool false, .slice none 0 0, .slice none 0 0]).cells (cap - ms.length) = (fcells ([] ++ ms ++ List.replicate (cap - ms.length) F3.zero)).toArray := by
          apply Array.toList_inj.1
          rw [Array.toList_append, fcells_append, ← zeros_f3]
          rfl
         rw [e]
         exact heap_alloc_new w.drew _
       · intro y hy; rw [(List.mem_replicate.1 hy).2]; exact F3.zero_ok
       · simp; omega
   · by_cases hroom : xs.length + ms.length ≤ xs.length + ys.length
     · have hfit : xs.length * i.size + (fcells ms).length ≤ (fcells (xs ++ ys)).toArray.size := by rw [hl, hs]; simp [fcells_len]; omega
       have hr2 := run_append_room (P := Tryz.prog) w TS ty T i ht hi g xs.length (xs.length + ys.length) _ hx ad ms.length c (fcells ms) hl hnews (fun u hu => (fcells_mem hm hu).2) hroom hfit
       have e : (((fcells (xs ++ ys)).toArray.toList.take (xs.length * i.size) ++ fcells ms ++ (fcells (xs ++ ys)).toArray.toList.drop (xs.length * i.size + (fcells ms).length)).toArray) = (fcells (xs ++ ms ++ ys.drop ms.length)).toArray := by
        have e1 : (fcells (xs ++ ys)).take (xs.length * 3) = fcells xs := by rw [← fcells_take, List.take_left]
        have e2 : (fcells (xs ++ ys)).drop (xs.length * 3 + ms.length * 3) = fcells (ys.drop ms.length) := by
         have e3 : xs.length * 3 + ms.length * 3 = (xs.length + ms.length) * 3 := by omega
         have e4 : (xs ++ ys).drop (xs.length + ms.length) = ys.drop ms.length := by rw [← List.drop_drop, List.drop_left]
         rw [e3, ← fcells_drop, e4]
        have e5 : (fcells (xs ++ ys)).toArray.toList = fcells (xs ++ ys) := rfl
        have e6 : fcells xs ++ fcells ms ++ fcells (ys.drop ms.length) = fcells (xs ++ ms ++ ys.drop ms.length) := by rw [fcells_append, fcells_append]
        rw [e5, hs, fcells_len ms, e1, e2, e6]
       rw [e] at hr2
       refine ⟨_, _, hr2, ⟨hok, .inr ⟨g, ys.drop ms.length, ?_, hg, setRow_heap w g _ _ T _ hx, fun y hy' => hy y (List.mem_of_mem_drop hy'), ?_⟩⟩, Kw.setRow hx (fun x hx' => ?_) _, ⟨rfl, rfl, rfl, by simp [World.setRow], fun k _ hk => setRow_other w g k _ (fun e => hk (by simp [Value.ownBlock, e]))⟩⟩
       · simp; omega
       · simp; omega
       · rcases List.mem_append.1 hx' with h1 | h1
         · exact h.1 x h1
         · exact hy x h1
     · have holds : ∀ j u, (fcells xs)[j]? = some u → w.cell? ((⟨g, 0, none⟩ : Addr).add j) = some u := hown.cells (g := g) rfl
       have hr2 := run_append_grow (P := Tryz.prog) w TS ty T i _ ht hi hz ⟨g, 0, none⟩ xs.length (xs.length + ys.length) (fcells xs) (by rw [hs, fcells_len]) holds ad ms.length c (fcells ms) hl hnews (by omega) (by omega) (growslice_fits (by omega) (by rw [hby]; omega))
       have hge := grownCap_ge w (xs.length + ms.length) (xs.length + ys.length) T
       have hle := grownCap_le_maxLen w (xs.length + ms.length) (xs.length + ys.length) T (by simp only [maxLen]; omega)
       generalize grownCap w (xs.length + ms.length) (xs.length + ys.length) T = cap at *
       have hup : Up w (w.drew.alloc (.cells ((fcells xs).toArray ++ (fcells ms).toArray ++ Builtin.zeroCells (Value.agg #[.bool false, .slice none 0 0, .slice none 0 0]).cells (cap - (xs.length + ms.length))) T)) := (Up.refl w).drew.alloc _
       refine ⟨_, _, hr2, ⟨hok, .inr ⟨w.heap.size, List.replicate (cap - (xs.length + ms.length)) F3.zero, ?_, hbase, ?_, ?_, ?_⟩⟩, hup.kw, grown_up hup _⟩
       · simp; omega
       · have e : (fcells xs).toArray ++ (fcells ms).toArray ++ Builtin.zeroCells (Value.agg #[.bool false, .slice none 0 0, .slice none 0 0]).cells (cap - (xs.length + ms.length)) = (fcells (xs ++ ms ++ List.replicate (cap - (xs.length + ms.length)) F3.zero)).toArray := by
          apply Array.toList_inj.1
          rw [Array.toList_append, Array.toList_append, fcells_append, fcells_append, ← zeros_f3]
          rfl
         rw [e]
         exact heap_alloc_new w.drew _
       · intro y hy; rw [(List.mem_replicate.1 hy).2]; exact F3.zero_ok
       · simp; omega
/-- A row of the call's own that reads as fractions. -/
def OwnQ (P : World → Value → α → Prop) (T : TypeId) (base : Nat) (w : World) (v : Value) (qs : List α) : Prop := ∃ xs, Al (fun x q => P w x.agg q) xs qs ∧ RowF T base w v xs
theorem OwnQ.nil (P : World → Value → α → Prop) (T : TypeId) (base : Nat) (w : World) : OwnQ P T base w (.slice none 0 0) [] := ⟨[], Al.nil _, RowF.nil T base w⟩
theorem OwnQ.sq {P : World → Value → α → Prop} {T : TypeId} {base : Nat} {w : World} {v : Value} {qs : List α} (h : OwnQ P T base w v qs) : Sq P w v qs := by
 obtain ⟨xs, ha, hr⟩ := h
 have hf : ∃ A c, v = .slice A qs.length c ∧ qs.length ≤ c ∧ c ≤ maxLen := by
  rcases hr.2 with ⟨rfl, rfl⟩ | ⟨g, ys, rfl, hb, hx, hy, hm⟩
  · have : qs.length = 0 := by rw [← ha.1]; rfl
    exact ⟨none, 0, by rw [this], by omega, by simp⟩
  · exact ⟨_, _, by rw [ha.1], by rw [ha.1]; omega, hm⟩
 obtain ⟨A, c, rfl, h1, h2⟩ := hf
 exact ⟨A, c, xs, rfl, h1, h2, ha, hr.rd⟩
theorem OwnQ.form {P : World → Value → α → Prop} {T : TypeId} {base : Nat} {w : World} {v : Value} {qs : List α} (h : OwnQ P T base w v qs) : ∃ A c, v = .slice A qs.length c := h.sq.form
theorem OwnQ.kept {P : World → Value → α → Prop} (kp : Kp P) {T : TypeId} {base : Nat} {w w' : World} {v : Value} {qs : List α} {row : Option Nat} (h : OwnQ P T base w v qs) (hk : Kw w w') (hg : w.grownBy w' row) (hne : v.ownBlock = none ∨ v.ownBlock ≠ row) : OwnQ P T base w' v qs := by
 obtain ⟨xs, ha, hr⟩ := h
 exact ⟨xs, ha.imp fun x q hx => kp.kw hx hk, hr.kept hg hne⟩
theorem OwnQ.up {P : World → Value → α → Prop} (kp : Kp P) {T : TypeId} {base : Nat} {w w' : World} {v : Value} {qs : List α} (h : OwnQ P T base w v qs) (hu : Up w w') : OwnQ P T base w' v qs := h.kept kp hu.kw (grown_up hu none) (by cases v.ownBlock <;> simp)
theorem OwnQ.weaken {P : World → Value → α → Prop} {T : TypeId} {base base' : Nat} {w : World} {v : Value} {qs : List α} (h : OwnQ P T base w v qs) (hb : base' ≤ base) : OwnQ P T base' w v qs := by
 obtain ⟨xs, ha, hr⟩ := h
 exact ⟨xs, ha, hr.weaken hb⟩
theorem OwnQ.lt {P : World → Value → α → Prop} {T : TypeId} {base : Nat} {w : World} {v : Value} {qs : List α} (h : OwnQ P T base w v qs) : ∀ k, v.ownBlock = some k → base ≤ k ∧ k < w.heap.size := by
 obtain ⟨xs, ha, hr⟩ := h
 exact hr.own.lt
theorem OwnQ.imp {P Q : World → Value → α → Prop} {T : TypeId} {base : Nat} {w : World} {v : Value} {qs : List α} (h : OwnQ P T base w v qs) (f : ∀ {v q}, P w v q → Q w v q) : OwnQ Q T base w v qs := by
 obtain ⟨xs, ha, hr⟩ := h
 exact ⟨xs, ha.imp fun x q hx => f hx, hr⟩
/-- What is laid in a new block, read. -/
theorem f3_new {T : TypeId} {w : World} {g c : Nat} {x : F3} (hb : w.heap[g]? = some (.cells #[.bool x.s, x.u, x.d] T (0, 0))) : RdV w (some ⟨g, 0, none⟩) (fcells [x]) := fun _ => by
 refine ⟨g, 0, rfl, (Array.getElem?_eq_some_iff.1 hb).1, fun j v hj => ?_⟩
 rw [Nat.zero_add, cell_of_row _ _ j _ _ (0, 0) hb]
 simpa [fcells] using hj
/-- 'append(v, x...)' of fractions onto a row of the call's own: the operation. -/
theorem wp_append_q {P : World → Value → α → Prop} (kp : Kp P) {T TS : TypeId} (ht : Tryz.prog.underlying TS = some (.slice T)) (hI : F3Info T) {w0 w : World} {o : Oper} {a : Act} {K : Act → World → Prop} {Q : Exit → Act → World → Prop} (s y : Operand)
 (ho : o.op = .call { callee := .builtin .append, args := #[s, y], argTypes := #[TS, TS] })
 {v : Value} {qs rs : List α} (hs : a.eval s = v) (hown : OwnQ P T w0.heap.size w v qs) (hu : Up w0 w)
 {A : Option Addr} {m c : Nat} {ms : List F3} (hy : a.eval y = .slice A m c) (hr : RdV w A (fcells ms)) (ha : Al (fun x q => P w x.agg q) ms rs) (hm : m = rs.length) (hb : qs.length + rs.length ≤ 2000000000000)
 (h : ∀ v' w', OwnQ P T w0.heap.size w' v' (qs ++ rs) → Kw w w' → w.grownBy w' v.ownBlock → Up w0 w' → K (a.put o.dst v') w') : o.wp Tryz.prog a w K Q := by
 obtain ⟨xs, hal, hrow⟩ := hown
 have hok : ∀ x ∈ ms, x.ok := fun x hx => by
  obtain ⟨j, hj⟩ := List.getElem?_of_mem hx
  have hjl : j < rs.length := by rw [← ha.1]; exact (List.getElem?_eq_some_iff.1 hj).1
  obtain ⟨z, e, hz⟩ := kp.form (ha.2 j x _ hj (List.getElem?_eq_getElem hjl))
  rw [F3.agg_inj e]
  exact hz
 obtain ⟨v', w', hrun, h1, h2, h3⟩ := run_append_f3 (ty := o.type) (c := c) ht hI hrow hr hok (by rw [hal.1, ha.1]; exact hb) hu.size
 rw [ha.1, ← hm] at hrun
 unfold Oper.wp execOp
 simp only [ho, resolve, invoke, builtin, Sem.run_bind, Sem.run_pure, Result.andThen_ok, List.map_toArray, List.map_cons, List.map_nil, hs, hy, hrun]
 exact h v' w' ⟨xs ++ ms, (hal.imp fun x q hx => kp.kw hx h2).append (ha.imp fun x q hx => kp.kw hx h2), h1⟩ h2 h3 (hu.grown h3 (fun k hk => (hrow.own.lt k hk).1))
theorem wl_append_q {P : World → Value → α → Prop} (kp : Kp P) {T TS : TypeId} (ht : Tryz.prog.underlying TS = some (.slice T)) (hI : F3Info T) {w0 w : World} {ops : Array Oper} {rest : List Oper} {o : Oper} {a : Act} {Q : Exit → Act → World → Prop} (hgd : o.guard = none) (s y : Operand)
 (ho : o.op = .call { callee := .builtin .append, args := #[s, y], argTypes := #[TS, TS] })
 {v : Value} {qs rs : List α} (hs : a.eval s = v) (hown : OwnQ P T w0.heap.size w v qs) (hu : Up w0 w)
 {A : Option Addr} {m c : Nat} {ms : List F3} (hy : a.eval y = .slice A m c) (hr : RdV w A (fcells ms)) (ha : Al (fun x q => P w x.agg q) ms rs) (hm : m = rs.length) (hb : qs.length + rs.length ≤ 2000000000000)
 (h : ∀ v' w', OwnQ P T w0.heap.size w' v' (qs ++ rs) → Kw w w' → w.grownBy w' v.ownBlock → Up w0 w' → wpList Tryz.prog ops Q rest (a.put o.dst v') w') : wpList Tryz.prog ops Q (o :: rest) a w :=
 wpList_plain hgd fun _ hK => wp_append_q kp ht hI s y ho hs hown hu hy hr ha hm hb fun v' w' h1 h2 h3 h4 => hK _ _ (h v' w' h1 h2 h3 h4)
theorem wl_append_q1 {P : World → Value → α → Prop} (kp : Kp P) {T TS : TypeId} (ht : Tryz.prog.underlying TS = some (.slice T)) (hI : F3Info T) {w0 w : World} {ops : Array Oper} {rest : List Oper} {o : Oper} {a : Act} {Q : Exit → Act → World → Prop} (hgd : o.guard = none) (s y : Operand)
 (ho : o.op = .call { callee := .builtin .append, args := #[s, y], argTypes := #[TS, TS] })
 {v : Value} {qs : List α} (hs : a.eval s = v) (hown : OwnQ P T w0.heap.size w v qs) (hu : Up w0 w)
 {g c : Nat} {t : Bool} {u d : Value} {q : α} (hy : a.eval y = .slice (some ⟨g, 0, none⟩) 1 c) (hr : w.heap[g]? = some (.cells #[.bool t, u, d] T (0, 0))) (ha : P w (.agg #[.bool t, u, d]) q) (hb : qs.length ≤ 1000000000000)
 (h : ∀ v' w', OwnQ P T w0.heap.size w' v' (qs ++ [q]) → Kw w w' → w.grownBy w' v.ownBlock → Up w0 w' → wpList Tryz.prog ops Q rest (a.put o.dst v') w') : wpList Tryz.prog ops Q (o :: rest) a w :=
 wl_append_q kp ht hI hgd s y ho hs hown hu hy (f3_new (c := c) (x := ⟨t, u, d⟩) hr) (Al.one ha) rfl (by simp; omega) h
/-- 'append(v, x)' of one fraction inside a region that draws its order. -/
theorem step_append_q {P : World → Value → α → Prop} (kp : Kp P) {T TS : TypeId} (ht : Tryz.prog.underlying TS = some (.slice T)) (hI : F3Info T) {w0 w : World} {ops : Array Oper} {o : Oper} {a : Act} {K : Act → World → Prop} {Q : Exit → Act → World → Prop} {E : Prop} (hgd : o.guard = none) (s y : Operand)
 (ho : o.op = .call { callee := .builtin .append, args := #[s, y], argTypes := #[TS, TS] })
 {v : Value} {qs : List α} (hs : a.eval s = v) (hown : OwnQ P T w0.heap.size w v qs) (hu : Up w0 w)
 {g c : Nat} {t : Bool} {u d : Value} {q : α} (hy : a.eval y = .slice (some ⟨g, 0, none⟩) 1 c) (hr : w.heap[g]? = some (.cells #[.bool t, u, d] T (0, 0))) (ha : P w (.agg #[.bool t, u, d]) q) (hb : qs.length ≤ 1000000000000)
 (h : ∀ v' w', OwnQ P T w0.heap.size w' v' (qs ++ [q]) → Kw w w' → w.grownBy w' v.ownBlock → Up w0 w' → K (a.put o.dst v') w') : if Region.wanted o (yielded ops a.tmps) = true then Oper.wp Tryz.prog o a w K Q else E := by
 have hw : Region.wanted o (yielded ops a.tmps) = true := by simp [Region.wanted, hgd]
 rw [if_pos hw]
 exact wp_append_q kp ht hI s y ho hs hown hu hy (f3_new (c := c) (x := ⟨t, u, d⟩) hr) (Al.one ha) rfl (by simp; omega) h
/-- The fraction at a place of a row of the call's own, and a store to it. -/
theorem OwnQ.at_ {P : World → Value → α → Prop} (kp : Kp P) {T : TypeId} {base : Nat} {w : World} {A : Option Addr} {n c : Nat} {qs : List α} (h : OwnQ P T base w (.slice A n c) qs) {k : Nat} (hk : k < qs.length) :
 ∃ g s B m f D n' f', A = some ⟨g, 0, none⟩ ∧ base ≤ g ∧ g < w.heap.size ∧ w.cell? ⟨g, k * 3, none⟩ = some (.bool s) ∧ w.cell? ⟨g, k * 3 + 1, none⟩ = some (.slice B m f) ∧ w.cell? ⟨g, k * 3 + 2, none⟩ = some (.slice D n' f') ∧ P w (.agg #[.bool s, .slice B m f, .slice D n' f']) qs[k] ∧ (∀ i, w.frozen? ⟨g, i, none⟩ = false) := by
 obtain ⟨b, o, s, B, m, f, D, n', f', e, hb, c1, c2, c3, hp⟩ := h.sq.at_ kp hk
 obtain ⟨xs, ha, hr⟩ := h
 rcases hr.2 with ⟨e2, rfl⟩ | ⟨g, ys, e2, hbg, hx, hy, hm⟩
 · rw [← ha.1] at hk; simp at hk
 · subst e
   cases e2
   rw [Nat.zero_add] at c1 c2 c3
   exact ⟨_, s, B, m, f, D, n', f', rfl, hbg, hb, c1, c2, c3, hp, fun i => hx.free i⟩
theorem OwnQ.store {P : World → Value → α → Prop} (kp : Kp P) {T : TypeId} {w0 w : World} {g n c : Nat} {qs : List α} (h : OwnQ P T w0.heap.size w (.slice (some ⟨g, 0, none⟩) n c) qs) (hu : Up w0 w) {k : Nat} (hk : k < qs.length) {s : Bool} {u d : Value} {q : α} (hq : P w (.agg #[.bool s, u, d]) q) :
 OwnQ P T w0.heap.size (((w.setCell ⟨g, k * 3, none⟩ (.bool s)).setCell ⟨g, k * 3 + 1, none⟩ u).setCell ⟨g, k * 3 + 2, none⟩ d) (.slice (some ⟨g, 0, none⟩) n c) (qs.set k q) ∧ Kw w (((w.setCell ⟨g, k * 3, none⟩ (.bool s)).setCell ⟨g, k * 3 + 1, none⟩ u).setCell ⟨g, k * 3 + 2, none⟩ d) ∧
  w.grownBy (((w.setCell ⟨g, k * 3, none⟩ (.bool s)).setCell ⟨g, k * 3 + 1, none⟩ u).setCell ⟨g, k * 3 + 2, none⟩ d) (some g) ∧ Up w0 (((w.setCell ⟨g, k * 3, none⟩ (.bool s)).setCell ⟨g, k * 3 + 1, none⟩ u).setCell ⟨g, k * 3 + 2, none⟩ d) := by
 obtain ⟨xs, ha, hr⟩ := h
 obtain ⟨z, e, hz⟩ := kp.form hq
 obtain ⟨rfl, rfl, rfl⟩ : s = z.s ∧ u = z.u ∧ d = z.d := by
  simp [F3.agg] at e
  exact e
 rcases hr.2 with ⟨e2, rfl⟩ | ⟨g', ys, e2, hbg, hx, hy, hm⟩
 · cases e2
 · obtain ⟨rfl, rfl, rfl⟩ : g = g' ∧ n = xs.length ∧ c = xs.length + ys.length := by
    simp at e2
    exact e2
   have hkx : k < xs.length := by rw [ha.1]; exact hk
   have hall : ∀ x ∈ xs ++ ys, x.ok := fun x hx' => by
    rcases List.mem_append.1 hx' with h1 | h1
    · exact hr.1 x h1
    · exact hy x h1
   have b1 := hx.set (k * 3) (.bool z.s)
   have b2 := b1.set (k * 3 + 1) z.u
   have b3 := b2.set (k * 3 + 2) z.d
   obtain ⟨y, hyk⟩ : ∃ y, (xs ++ ys)[k]? = some y := ⟨_, List.getElem?_eq_getElem (by simp; omega)⟩
   obtain ⟨q1, q2, q3⟩ := fcells_at _ k y hyk
   obtain ⟨⟨_, _, _, y1⟩, ⟨_, _, _, y2⟩⟩ := hall y (List.mem_of_getElem? hyk)
   have K := ((Kw.store hx q1 trivial (.bool z.s)).trans (Kw.store (i := k * 3 + 1) (c := y.u) b1 (by rw [List.getElem?_set_ne (by omega)]; exact q2) (by rw [y1]; trivial) z.u)).trans
    (Kw.store (i := k * 3 + 2) (c := y.d) b2 (by rw [List.getElem?_set_ne (by omega), List.getElem?_set_ne (by omega)]; exact q3) (by rw [y2]; trivial) z.d)
   have e3 : (((fcells (xs ++ ys)).set (k * 3) (.bool z.s)).set (k * 3 + 1) z.u).set (k * 3 + 2) z.d = fcells (xs.set k z ++ ys) := by
    rw [← fcells_set _ _ _ (by simp; omega), List.set_append_left _ _ hkx]
   rw [e3] at b3
   refine ⟨⟨xs.set k z, (ha.imp fun x q hx => kp.kw hx K).set k (kp.kw hq K), ?_, .inr ⟨g, ys, by simp, hbg, b3, hy, by simpa using hm⟩⟩, K, ?_, ((hu.setCell (p := ⟨g, k * 3, none⟩) hbg _).setCell (p := ⟨g, k * 3 + 1, none⟩) hbg _).setCell (p := ⟨g, k * 3 + 2, none⟩) hbg _⟩
   · intro x hx'
     rcases List.mem_or_eq_of_mem_set hx' with h1 | h1
     · exact hr.1 x h1
     · rw [h1]; exact hz
   · refine ⟨rfl, rfl, rfl, by simp [World.setCell], fun j hj hne => ?_⟩
     have hne2 : g ≠ j := fun e => hne (by rw [e])
     rw [Below.heap_setCell _ _ _ _ (by simpa using hne2.symm), Below.heap_setCell _ _ _ _ (by simpa using hne2.symm), Below.heap_setCell _ _ _ _ (by simpa using hne2.symm)]
/-- 'make([]Frac, n)'. -/
theorem OwnQ.made {P : World → Value → Rat → Prop} {T : TypeId} {w0 w w' : World} {n : Nat} (h : ∀ w, P w F3.zero.agg 0) (hb : Bx T w' w.heap.size (fcells (List.replicate n F3.zero))) (hu : Up w0 w) (hn : n ≤ 1000000000000) : OwnQ P T w0.heap.size w' (.slice (some ⟨w.heap.size, 0, none⟩) n n) (List.replicate n 0) :=
 ⟨List.replicate n F3.zero, Al.replicate (h w') n, fun x hx => by rw [(List.mem_replicate.1 hx).2]; exact F3.zero_ok, .inr ⟨w.heap.size, [], by simp, hu.size, by rw [List.append_nil]; exact hb, by simp, by simp [maxLen]; omega⟩⟩
end Go.Proofs.YtmmcffceeahemaaGreat
