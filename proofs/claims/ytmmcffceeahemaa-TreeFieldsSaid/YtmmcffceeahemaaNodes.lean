/-
  Memory: slices of nodes, read and made.
-/
import Derived.Test.YtmmcffceeahemaaLowRefQuot
import Derived.Test.YtmmcffceeahemaaNat
import Derived.Test.YtmmcffceeahemaaRefNat
import Derived.Test.YtmmcffceeahemaaTreeMath
import Derived.StillTailTactics
import Derived.Deep.QuietTactic
import Derived.BigQuiet
import Derived.Deep.AppendLies
import Derived.Deep.RegionHeld3
set_option linter.unusedVariables false
set_option linter.unusedSimpArgs false
namespace Go.Proofs.Ytmmcffceeahemaa
open Go.RowKit

/-- A number of the machine. -/
def I64 (x : Int) : Prop := -9223372036854775808 ≤ x ∧ x ≤ 9223372036854775807
/-- A node that can be read at a place. -/
def NdAt (w : World) (b o : Nat) (x : Tr.Nd) : Prop :=
  w.cell? ⟨b, o, none⟩ = some (.int .i64 x.op) ∧ w.cell? ⟨b, o + 1, none⟩ = some (.int .i64 x.i) ∧ ∃ u, w.cell? ⟨b, o + 2, none⟩ = some u ∧ Ws w u x.n
def RdN (w : World) (A : Option Addr) (l : List Tr.Nd) : Prop :=
  0 < l.length → ∃ b o, A = some ⟨b, o, none⟩ ∧ b < w.heap.size ∧ ∀ (j : Nat) x, l[j]? = some x → NdAt w b (o + j * 3) x
/-- A slice of nodes. -/
def Nds (w : World) (v : Value) (l : List Tr.Nd) : Prop := ∃ A c, v = .slice A l.length c ∧ l.length ≤ c ∧ c ≤ maxLen ∧ (∀ x ∈ l, I64 x.op ∧ I64 x.i) ∧ RdN w A l
theorem NdAt.up {w w' : World} {b o : Nat} {x : Tr.Nd} (h : NdAt w b o x) (hu : Up w w') : NdAt w' b o x := by
  obtain ⟨h1, h2, u, h3, h4⟩ := h
  have hb := World.block_lt_of_cell? w _ h1
  exact ⟨(hu.cell (p := ⟨b, o, none⟩) hb).trans h1, (hu.cell (p := ⟨b, o + 1, none⟩) hb).trans h2, u, (hu.cell (p := ⟨b, o + 2, none⟩) hb).trans h3, h4.up hu⟩
theorem RdN.up {w w' : World} {A : Option Addr} {l : List Tr.Nd} (h : RdN w A l) (hu : Up w w') : RdN w' A l := fun hl => by
  obtain ⟨b, o, h1, h2, h3⟩ := h hl
  exact ⟨b, o, h1, Nat.lt_of_lt_of_le h2 hu.size, fun j x hj => (h3 j x hj).up hu⟩
theorem Nds.up {w w' : World} {v : Value} {l : List Tr.Nd} (h : Nds w v l) (hu : Up w w') : Nds w' v l := by
  obtain ⟨A, c, h1, h2, h3, h4, h5⟩ := h
  exact ⟨A, c, h1, h2, h3, h4, h5.up hu⟩
theorem Nds.form {w : World} {v : Value} {l : List Tr.Nd} (h : Nds w v l) : ∃ A c, v = .slice A l.length c := by obtain ⟨A, c, h, _⟩ := h; exact ⟨A, c, h⟩
theorem Nds.ok {w : World} {v : Value} {l : List Tr.Nd} (h : Nds w v l) : ∀ x ∈ l, I64 x.op ∧ I64 x.i := by obtain ⟨_, _, _, _, _, h, _⟩ := h; exact h
theorem Nds.nil (w : World) : Nds w (.slice none 0 0) [] := ⟨none, 0, rfl, by simp, by simp, by simp, fun h => absurd h (by simp)⟩
theorem RdN.at_ {w : World} {A : Option Addr} {l : List Tr.Nd} (h : RdN w A l) {k : Nat} (hk : k < l.length) : ∃ b o, A = some ⟨b, o, none⟩ ∧ b < w.heap.size ∧ NdAt w b (o + k * 3) l[k] := by
  obtain ⟨b, o, h1, h2, h3⟩ := h (by omega)
  exact ⟨b, o, h1, h2, h3 k _ (List.getElem?_eq_getElem hk)⟩

set_option maxHeartbeats 800000 in
theorem tree_arity {op : Int} (h : I64 op) (w : World) : Calls Try.prog 147 #[.int .i64 op] w fun e w' => e = .returned (.int .i64 (Tr.arN op)) ∧ w = w' := by
  have h2 := h
  unfold I64 at h
  have HA : Hid (Tr.arN op = if 1 ≤ op ∧ op ≤ 5 then 0 else if op = 6 ∨ op = 11 then 1 else if 7 ≤ op ∧ op ≤ 10 then 2 else -1) := Lib.hid rfl
  go_enter Try.func147, Try.ntmps147
  go_wp2
  all_goals
    go_ret
    refine ⟨ret_int ?_, rfl⟩
    rw [HA.out]
    simp at *
    omega


set_option maxRecDepth 100000 in
set_option maxHeartbeats 1600000 in
theorem tree_wrong {v : Value} {l : List Tr.Nd} {w : World} (h : Nds w v l) (hl : l.length ≤ 1000000) :
    Calls Try.prog 95 #[v] w fun e w' => e = .returned (.int .i64 (Tr.wrongN l)) ∧ Up w w' := by
  obtain ⟨A, c, rfl, h1, h2, h3, h4⟩ := h
  have H3 := Lib.hid h3
  clear h2 h3
  go_enter Try.func95, Try.ntmps95
  go_wp2
  go_loopw [3, 4, 5, 6, 9] (fun s3 _ _ _ s9 wr => ∃ (k o : Nat), s3 = .int .i64 o ∧ s9 = .int .i64 k ∧ k ≤ l.length ∧ o ≤ k ∧ Hid (Tr.wrongG (l.drop k) o k = Tr.wrongN l) ∧ Up w wr) (fun _ _ _ _ s9 _ => l.length - (intOf s9).toNat)
  case atStart => exact ⟨0, 0, rfl, rfl, Nat.zero_le _, Nat.le_refl _, Lib.hid rfl, Up.refl w⟩
  case round =>
    obtain ⟨k, o, rfl, rfl, hk, hok, HG, hup⟩ := hrel
    by_cases hlt : k < l.length
    · obtain ⟨b, p, rfl, hb, g1, g2, u, g3, g4⟩ := (h4.up hup).at_ hlt
      have hx := H3.out l[k] (List.getElem_mem hlt)
      obtain ⟨B, d, rfl⟩ := g4.form
      have hop := hx.1
      have harn := Tr.arN_cases l[k].op
      have hrc : l.drop k = l[k] :: l.drop (k + 1) := List.drop_eq_getElem_cons hlt
      have HG1 := Lib.hid (fun (hh : Tr.arN l[k].op < 0 ∨ (o : Int) < Tr.arN l[k].op) => Tr.wrongG_stop (x := l[k]) (r := l.drop (k + 1)) (o := o) (i := k) hh)
      have HG2 := Lib.hid (fun (hh : ¬ (Tr.arN l[k].op < 0 ∨ (o : Int) < Tr.arN l[k].op)) => Tr.wrongG_go (x := l[k]) (r := l.drop (k + 1)) (o := o) (i := k) hh)
      rw [hrc] at HG
      clear hrc
      have g0 := hup.alloc (.cells #[.int .i64 l[k].op, .int .i64 l[k].i, .slice B l[k].n.length d] 135)
      generalize l[k] = x at *
      go_wp2_with fail
      refine (tree_arity hop _).mono ?_
      rintro e w2 ⟨rfl, rfl⟩
      generalize Tr.arN x.op = m at *
      by_cases hbad : m < 0 ∨ (o : Int) < m
      · have HE := Lib.hid (HG1.out hbad)
        rw [HG.out] at HE
        have hbad2 : m < 0 ∨ (0 ≤ m ∧ (o : Int) < m) := by omega
        rcases hbad2 with hb1 | ⟨hb0, hb1⟩
        all_goals
          go_wp2
          go_ret
          exact ⟨by rw [HE.out]; rfl, g0⟩
      · have HE := Lib.hid (HG2.out hbad)
        rw [HG.out] at HE
        have hm1 : 0 ≤ m := by omega
        have hm2 : m ≤ (o : Int) := by omega
        have hm3 : m ≤ 2 := by omega
        clear hbad
        obtain ⟨q, rfl⟩ : ∃ q : Nat, m = q := ⟨m.toNat, by omega⟩
        have HC : Hid ((o : Int) + (1 - (q : Int)) = ((o + 1 - q : Nat) : Int)) := Lib.hid (by omega)
        go_wp2
        go_roundw
        case rel => exact ⟨k + 1, o + 1 - q, by rw [HC.out], by go_num, by omega, by omega, Lib.hid (by rw [HE.out]; rfl), g0⟩
        case measure => simp [intOf]; omega
    · obtain rfl : k = l.length := by omega
      have HE : Hid (Tr.wrongN l = if o = 1 then -1 else (l.length : Int)) := Lib.hid (by rw [← HG.out, List.drop_length]; rfl)
      by_cases ho : o = 1
      · subst ho
        have HE2 : Hid (Tr.wrongN l = -1) := Lib.hid HE.out
        go_wp2
        go_ret
        exact ⟨by rw [HE2.out]; rfl, hup⟩
      · have HE2 : Hid (Tr.wrongN l = l.length) := Lib.hid (by rw [HE.out, if_neg ho])
        have ho2 : ((o : Int) == 1) = false := by simp; omega
        have ho3 : ((o : Int) != 1) = true := by simp; omega
        go_wp2
        go_ret
        exact ⟨by rw [HE2.out]; rfl, hup⟩

theorem tree_right {v : Value} {l : List Tr.Nd} {w : World} (h : Nds w v l) (hl : l.length ≤ 1000000) :
    Calls Try.prog 94 #[v] w fun e w' => e = .returned (.bool (decide (Tr.wrongN l < 0))) ∧ Up w w' := by
  go_enter Try.func94, Try.ntmps94
  go_wp2_with fail
  refine (tree_wrong h hl).mono ?_
  rintro e w2 ⟨rfl, u2⟩
  generalize hm : Tr.wrongN l = m at *
  have HM := Lib.hid hm
  clear hm
  go_wp2
  go_ret
  exact ⟨by rw [HM.out]; rfl, u2⟩


/-- The cells of nodes, their numbers' slices given. -/
def flat : List Tr.Nd → List Value → List Value
  | x :: l, u :: us => .int .i64 x.op :: .int .i64 x.i :: u :: flat l us
  | _, _ => []
theorem flat_len : ∀ (l : List Tr.Nd) (us : List Value), us.length = l.length → (flat l us).length = l.length * 3
  | [], us, _ => by simp [flat]
  | x :: l, u :: us, h => by
    have := flat_len l us (by simpa using h)
    simp only [flat, List.length_cons, this]
    omega
  | x :: l, [], h => by simp at h
theorem flat_append : ∀ (l : List Tr.Nd) (us : List Value) (m : List Tr.Nd) (vs : List Value), us.length = l.length → flat (l ++ m) (us ++ vs) = flat l us ++ flat m vs
  | [], [], m, vs, _ => rfl
  | [], u :: us, m, vs, h => by simp at h
  | x :: l, u :: us, m, vs, h => by simp only [List.cons_append, flat, flat_append l us m vs (by simpa using h)]
  | x :: l, [], m, vs, h => by simp at h
theorem flat_at : ∀ (l : List Tr.Nd) (us : List Value) (j : Nat) (x : Tr.Nd) (u : Value), us.length = l.length → l[j]? = some x → us[j]? = some u →
    (flat l us)[j * 3]? = some (.int .i64 x.op) ∧ (flat l us)[j * 3 + 1]? = some (.int .i64 x.i) ∧ (flat l us)[j * 3 + 2]? = some u
  | [], us, j, x, u, _, h, _ => by simp at h
  | y :: l, [], j, x, u, h, _, _ => by simp at h
  | y :: l, v :: us, 0, x, u, _, h1, h2 => by
    simp at h1 h2
    subst h1 h2
    simp [flat]
  | y :: l, v :: us, j + 1, x, u, h, h1, h2 => by
    have := flat_at l us j x u (by simpa using h) (by simpa using h1) (by simpa using h2)
    have e : (j + 1) * 3 = j * 3 + 1 + 1 + 1 := by omega
    rw [e]
    simp only [flat, List.getElem?_cons_succ]
    exact this
theorem flat_one (x : Tr.Nd) (u : Value) : flat [x] [u] = [.int .i64 x.op, .int .i64 x.i, u] := rfl

/-- Slices of numbers that are those of nodes. -/
def Nums (w : World) (l : List Tr.Nd) (us : List Value) : Prop := us.length = l.length ∧ ∀ (j : Nat) x u, l[j]? = some x → us[j]? = some u → Ws w u x.n
theorem Nums.up {w w' : World} {l : List Tr.Nd} {us : List Value} (h : Nums w l us) (hu : Up w w') : Nums w' l us := ⟨h.1, fun j x u h1 h2 => (h.2 j x u h1 h2).up hu⟩
theorem Nums.nil (w : World) : Nums w [] [] := ⟨rfl, fun j x u h _ => by simp at h⟩
theorem Nums.snoc {w : World} {l : List Tr.Nd} {us : List Value} {x : Tr.Nd} {u : Value} (h : Nums w l us) (hu : Ws w u x.n) : Nums w (l ++ [x]) (us ++ [u]) := by
  refine ⟨by simp [h.1], fun j y v h1 h2 => ?_⟩
  rcases Nat.lt_trichotomy j l.length with hj | hj | hj
  · rw [List.getElem?_append_left hj] at h1
    rw [List.getElem?_append_left (by rw [h.1]; exact hj)] at h2
    exact h.2 j y v h1 h2
  · subst hj
    rw [List.getElem?_append_right (by omega)] at h1
    rw [List.getElem?_append_right (by rw [h.1]; omega), h.1] at h2
    simp at h1 h2
    subst h1 h2
    exact hu
  · rw [List.getElem?_eq_none (by simp; omega)] at h1
    cases h1
theorem Nums.append {w : World} {l m : List Tr.Nd} {us vs : List Value} (h : Nums w l us) (k : Nums w m vs) : Nums w (l ++ m) (us ++ vs) := by
  refine ⟨by simp [h.1, k.1], fun j y v h1 h2 => ?_⟩
  by_cases hj : j < l.length
  · rw [List.getElem?_append_left hj] at h1
    rw [List.getElem?_append_left (by rw [h.1]; exact hj)] at h2
    exact h.2 j y v h1 h2
  · rw [List.getElem?_append_right (by omega)] at h1
    rw [List.getElem?_append_right (by rw [h.1]; omega), h.1] at h2
    exact k.2 _ y v h1 h2
theorem rdn_of_cells {w : World} {g o : Nat} {l : List Tr.Nd} {us : List Value} (hn : Nums w l us) (hg : g < w.heap.size) (hc : ∀ (j : Nat) u, (flat l us)[j]? = some u → w.cell? ⟨g, o + j, none⟩ = some u) : RdN w (some ⟨g, o, none⟩) l := fun hl => by
  refine ⟨g, o, rfl, hg, fun j x hj => ?_⟩
  have hjl : j < us.length := by
    rw [hn.1]
    rcases Nat.lt_or_ge j l.length with h | h
    · exact h
    · rw [List.getElem?_eq_none h] at hj; cases hj
  have hu := List.getElem?_eq_getElem hjl
  obtain ⟨h1, h2, h3⟩ := flat_at l us j x _ hn.1 hj hu
  exact ⟨hc _ _ h1, by rw [Nat.add_assoc]; exact hc _ _ h2, _, by rw [Nat.add_assoc]; exact hc _ _ h3, hn.2 j x _ hj hu⟩
/-- Slices of numbers: older than a world, or the call's own. -/
def NumsB (P : Prop) (w0 w : World) (l : List Tr.Nd) (us : List Value) : Prop :=
  us.length = l.length ∧ ∀ (j : Nat) x u, l[j]? = some x → us[j]? = some u → (P ∧ Ws w0 u x.n) ∨ (w.ownsRow w0.heap.size 150 1 u x.n.length (x.n.map wv) ∧ Wd.Ok x.n)
theorem NumsB.nums {P : Prop} {w0 w : World} {l : List Tr.Nd} {us : List Value} (h : NumsB P w0 w l us) (hu : Up w0 w) : Nums w l us :=
  ⟨h.1, fun j x u h1 h2 => (h.2 j x u h1 h2).elim (fun h => h.2.up hu) (fun h => Ws.of_own h.1 h.2)⟩
theorem NumsB.old {w0 w : World} {l : List Tr.Nd} {us : List Value} (h : Nums w0 l us) : NumsB True w0 w l us := ⟨h.1, fun j x u h1 h2 => .inl ⟨trivial, h.2 j x u h1 h2⟩⟩
theorem NumsB.kept {P : Prop} {w0 w w' : World} {l : List Tr.Nd} {us : List Value} {row : Option Nat} (h : NumsB P w0 w l us) (hg : w.grownBy w' row) (hne : ∀ (u : Value) n xs, w.ownsRow w0.heap.size 150 1 u n xs → u.ownBlock = none ∨ u.ownBlock ≠ row) : NumsB P w0 w' l us :=
  ⟨h.1, fun j x u h1 h2 => (h.2 j x u h1 h2).elim .inl (fun h => .inr ⟨h.1.kept hg (hne u _ _ h.1), h.2⟩)⟩
theorem NumsB.up {P : Prop} {w0 w w' : World} {l : List Tr.Nd} {us : List Value} (h : NumsB P w0 w l us) (hu : Up w w') : NumsB P w0 w' l us :=
  h.kept (row := none) ⟨hu.os, hu.tape, hu.output, hu.size, fun k hk _ => hu.block k hk⟩ (fun u _ _ _ => by cases u.ownBlock <;> simp)
theorem own_types {w : World} {b1 b2 : Nat} {S T : TypeId} {s1 s2 n m : Nat} {u v : Value} {xs ys : List Value} (hne : S ≠ T) (h : w.ownsRow b1 S s1 u n xs) (k : w.ownsRow b2 T s2 v m ys) : u.ownBlock = none ∨ u.ownBlock ≠ v.ownBlock := by
  rcases h.2 with ⟨rfl, _⟩ | ⟨g, cap, cur, rfl, _, hg, _⟩
  · exact .inl rfl
  · refine .inr ?_
    rcases k.2 with ⟨rfl, _⟩ | ⟨g2, cap2, cur2, rfl, _, hg2, _⟩
    · simp [Value.ownBlock]
    · simp only [Value.ownBlock]
      intro e
      simp at e
      subst e
      rw [hg] at hg2
      simp at hg2
      exact hne hg2.2
theorem NumsB.append {P : Prop} {w0 w : World} {l m : List Tr.Nd} {us vs : List Value} (h : NumsB P w0 w l us) (k : NumsB P w0 w m vs) : NumsB P w0 w (l ++ m) (us ++ vs) := by
  refine ⟨by simp [h.1, k.1], fun j y v h1 h2 => ?_⟩
  by_cases hj : j < l.length
  · rw [List.getElem?_append_left hj] at h1
    rw [List.getElem?_append_left (by rw [h.1]; exact hj)] at h2
    exact h.2 j y v h1 h2
  · rw [List.getElem?_append_right (by omega)] at h1
    rw [List.getElem?_append_right (by rw [h.1]; omega), h.1] at h2
    exact k.2 _ y v h1 h2
theorem NumsB.one_old {w0 w : World} {x : Tr.Nd} {u : Value} (h : Ws w0 u x.n) : NumsB True w0 w [x] [u] := ⟨rfl, fun j y v h1 h2 => by
  match j with
  | 0 => simp at h1 h2; subst h1 h2; exact .inl ⟨trivial, h⟩
  | j + 1 => simp at h1⟩
theorem NumsB.one_own {P : Prop} {w0 w : World} {x : Tr.Nd} {u : Value} (h : w.ownsRow w0.heap.size 150 1 u x.n.length (x.n.map wv)) (ho : Wd.Ok x.n) : NumsB P w0 w [x] [u] := ⟨rfl, fun j y v h1 h2 => by
  match j with
  | 0 => simp at h1 h2; subst h1 h2; exact .inr ⟨h, ho⟩
  | j + 1 => simp at h1⟩
/-- A row of nodes of the call's own, behind a world. -/
def Row (P : Prop) (T : TypeId) (w0 w : World) (v : Value) (l : List Tr.Nd) : Prop :=
  (∀ x ∈ l, I64 x.op ∧ I64 x.i) ∧ Up w0 w ∧ ∃ us, NumsB P w0 w l us ∧ w.ownsRow w0.heap.size T 3 v l.length (flat l us)
theorem Row.nds {P : Prop} {T : TypeId} {w0 w : World} {v : Value} {l : List Tr.Nd} (h : Row P T w0 w v l) : Nds w v l := by
  obtain ⟨h0, hu, us, hn, hown⟩ := h
  obtain ⟨A, c, rfl, h1, h2⟩ := own_form hown
  refine ⟨A, c, rfl, h1, h2, h0, ?_⟩
  intro hl
  have hr := RdV.of_own hown (by rw [flat_len l us hn.1]; omega)
  obtain ⟨b, o, rfl, hb, hc⟩ := hr
  exact rdn_of_cells (hn.nums hu) hb hc hl
theorem Row.none_ {P : Prop} (T : TypeId) (w : World) : Row P T w w (.slice none 0 0) [] := ⟨by simp, Up.refl w, [], ⟨rfl, by simp⟩, World.ownsRow_nil w w.heap.size T 3⟩
theorem Row.up {P : Prop} {T : TypeId} {w0 w w' : World} {v : Value} {l : List Tr.Nd} (h : Row P T w0 w v l) (hu : Up w w') : Row P T w0 w' v l := by
  obtain ⟨h0, h1, us, hn, hown⟩ := h
  exact ⟨h0, h1.trans hu, us, hn.up hu, own_made hown ⟨hu.os, hu.tape, hu.output, hu.size, fun k hk _ => hu.block k hk⟩⟩
theorem Row.world {P : Prop} {T : TypeId} {w0 w : World} {v : Value} {l : List Tr.Nd} (h : Row P T w0 w v l) : Up w0 w := h.2.1
theorem Row.form {P : Prop} {T : TypeId} {w0 w : World} {v : Value} {l : List Tr.Nd} (h : Row P T w0 w v l) : ∃ A c, v = .slice A l.length c := h.nds.form
theorem Row.apart {T : TypeId} {w0 w w' : World} {v : Value} {l : List Tr.Nd} {g : Nat} (h : Row False T w0 w v l) (hg : g < w0.heap.size) (hr : w.grownBy w' (some g)) : Nds w' v l := by
  obtain ⟨h0, hu, us, hn, hown⟩ := h
  have hk : ∀ {e : TypeId} {size : Nat} {u : Value} {n : Nat} {xs : List Value}, w.ownsRow w0.heap.size e size u n xs → w'.ownsRow w0.heap.size e size u n xs := fun {e size u n xs} k => k.kept hr (by
    cases hb : u.ownBlock with
    | none => exact .inl rfl
    | some b => exact .inr (fun e => by cases e; have := (k.lt _ hb).1; omega))
  have hn2 : Nums w' l us := ⟨hn.1, fun j x u h1 h2 => (hn.2 j x u h1 h2).elim (fun h => h.1.elim) (fun h => Ws.of_own (hk h.1) h.2)⟩
  have hown2 := hk hown
  obtain ⟨A, c, rfl, h1, h2⟩ := own_form hown2
  refine ⟨A, c, rfl, h1, h2, h0, ?_⟩
  intro hl
  obtain ⟨b, o, rfl, hb, hc⟩ := RdV.of_own hown2 (by rw [flat_len l us hn.1]; omega)
  exact rdn_of_cells hn2 hb hc hl
theorem info_tnode : (Try.prog.info? 135).map (fun i => (i.zero, i.size, i.bytes)) = some (some (.agg #[.int .i64 0, .int .i64 0, .slice none 0 0]), 3, 40) := by kernel_rfl
theorem info_rnode : (Try.prog.info? 144).map (fun i => (i.zero, i.size, i.bytes)) = some (some (.agg #[.int .i64 0, .int .i64 0, .slice none 0 0]), 3, 40) := by kernel_rfl

/-- A block of one node that was just laid. -/
theorem node_new (w : World) (x : Tr.Nd) (u : Value) (T : TypeId) : RdV (w.alloc (.cells #[.int .i64 x.op, .int .i64 x.i, u] T)) (some ⟨w.heap.size, 0, none⟩) (flat [x] [u]) := fun _ => by
  refine ⟨w.heap.size, 0, rfl, by simp, fun j v hj => ?_⟩
  rw [Nat.zero_add, cell_of_row _ _ j _ _ (0, 0) (heap_alloc_new w _)]
  simpa [flat] using hj
theorem flat_oneCell {w : World} {l : List Tr.Nd} {us : List Value} (h : Nums w l us) : ∀ u ∈ flat l us, u.oneCell' = true := by
  intro u hu
  obtain ⟨j, hj⟩ := List.getElem?_of_mem hu
  have hjl : j < (flat l us).length := by
    rcases Nat.lt_or_ge j (flat l us).length with h | h
    · exact h
    · rw [List.getElem?_eq_none h] at hj; cases hj
  rw [flat_len l us h.1] at hjl
  have hq : j / 3 < l.length := by omega
  have hq2 : j / 3 < us.length := by rw [h.1]; exact hq
  obtain ⟨h1, h2, h3⟩ := flat_at l us (j / 3) _ _ h.1 (List.getElem?_eq_getElem hq) (List.getElem?_eq_getElem hq2)
  have hcase : j = j / 3 * 3 ∨ j = j / 3 * 3 + 1 ∨ j = j / 3 * 3 + 2 := by omega
  rcases hcase with e | e | e
  · rw [← e, hj] at h1; cases h1; rfl
  · rw [← e, hj] at h2; cases h2; rfl
  · rw [← e, hj] at h3
    cases h3
    obtain ⟨A, c, e2, _⟩ := h.2 _ _ _ (List.getElem?_eq_getElem hq) (List.getElem?_eq_getElem hq2)
    rw [e2]
    rfl

/-- 'append(v, x...)' of nodes onto a row of the call's own. -/
theorem wl_append_t {P : Prop} {w0 w : World} {ops : Array Oper} {rest : List Oper} {o : Oper} {a : Act} {Q : Exit → Act → World → Prop} (hgd : o.guard = none) (s x : Operand)
    (ho : o.op = .call { callee := .builtin .append, args := #[s, x], argTypes := #[38, 38] })
    {v : Value} {l : List Tr.Nd} (hs : a.eval s = v) (hown : Row P 135 w0 w v l)
    {A : Option Addr} {m c : Nat} {k : List Tr.Nd} {vs : List Value} (hx : a.eval x = .slice A m c) (hr : RdV w A (flat k vs)) (hn : NumsB P w0 w k vs) (hk : ∀ x ∈ k, I64 x.op ∧ I64 x.i) (hm : k.length = m) (hb : l.length + m ≤ 400000000)
    (h : ∀ v' w', Row P 135 w0 w' v' (l ++ k) → wpList Try.prog ops Q rest (a.put o.dst v') w') : wpList Try.prog ops Q (o :: rest) a w := by
  obtain ⟨h0, hu, us, hn0, hrow⟩ := hown
  refine wl_append_any hgd s x 38 ho w0.heap.size 135 Try.underlying38 info_tnode rfl (by omega) hs hrow hx hr (by rw [flat_len k vs hn.1, hm]) (flat_oneCell (hn.nums hu)) (by unfold maxLen; omega) (by omega) hu.size ?_
  intro v' w' h1 h2
  have hu2 : Up w0 w' := hu.grown h2 (fun k hk => (hrow.lt k hk).1)
  have hne := fun (u : Value) n xs (hh : w.ownsRow w0.heap.size 150 1 u n xs) => own_types (by decide : (150 : Nat) ≠ 135) hh hrow
  refine h v' w' ⟨?_, hu2, us ++ vs, (hn0.kept h2 hne).append (hn.kept h2 hne), ?_⟩
  · intro y hy
    rcases List.mem_append.1 hy with hy | hy
    · exact h0 y hy
    · exact hk y hy
  · rw [flat_append l us k vs hn0.1, List.length_append, hm]
    exact h1
theorem wl_append_r {P : Prop} {w0 w : World} {ops : Array Oper} {rest : List Oper} {o : Oper} {a : Act} {Q : Exit → Act → World → Prop} (hgd : o.guard = none) (s x : Operand)
    (ho : o.op = .call { callee := .builtin .append, args := #[s, x], argTypes := #[36, 36] })
    {v : Value} {l : List Tr.Nd} (hs : a.eval s = v) (hown : Row P 144 w0 w v l)
    {A : Option Addr} {m c : Nat} {k : List Tr.Nd} {vs : List Value} (hx : a.eval x = .slice A m c) (hr : RdV w A (flat k vs)) (hn : NumsB P w0 w k vs) (hk : ∀ x ∈ k, I64 x.op ∧ I64 x.i) (hm : k.length = m) (hb : l.length + m ≤ 400000000)
    (h : ∀ v' w', Row P 144 w0 w' v' (l ++ k) → wpList Try.prog ops Q rest (a.put o.dst v') w') : wpList Try.prog ops Q (o :: rest) a w := by
  obtain ⟨h0, hu, us, hn0, hrow⟩ := hown
  refine wl_append_any hgd s x 36 ho w0.heap.size 144 Try.underlying36 info_rnode rfl (by omega) hs hrow hx hr (by rw [flat_len k vs hn.1, hm]) (flat_oneCell (hn.nums hu)) (by unfold maxLen; omega) (by omega) hu.size ?_
  intro v' w' h1 h2
  have hu2 : Up w0 w' := hu.grown h2 (fun k hk => (hrow.lt k hk).1)
  have hne := fun (u : Value) n xs (hh : w.ownsRow w0.heap.size 150 1 u n xs) => own_types (by decide : (150 : Nat) ≠ 144) hh hrow
  refine h v' w' ⟨?_, hu2, us ++ vs, (hn0.kept h2 hne).append (hn.kept h2 hne), ?_⟩
  · intro y hy
    rcases List.mem_append.1 hy with hy | hy
    · exact h0 y hy
    · exact hk y hy
  · rw [flat_append l us k vs hn0.1, List.length_append, hm]
    exact h1

/-- What is read of nodes, as cells. -/
theorem Nds.cells {w : World} {A : Option Addr} {l : List Tr.Nd} (h : RdN w A l) : ∃ us, Nums w l us ∧ RdV w A (flat l us) := by
  by_cases hl : l.length = 0
  · obtain rfl := List.eq_nil_of_length_eq_zero hl
    exact ⟨[], Nums.nil w, RdV.nil _ _⟩
  · obtain ⟨b, o, rfl, hb, hc⟩ := h (by omega)
    have hex : ∀ j, j < l.length → ∃ u, w.cell? ⟨b, o + j * 3 + 2, none⟩ = some u ∧ ∀ x, l[j]? = some x → Ws w u x.n := fun j hj => by
      obtain ⟨h1, h2, u, h3, h4⟩ := hc j _ (List.getElem?_eq_getElem hj)
      exact ⟨u, h3, fun x hx => by rw [List.getElem?_eq_getElem hj] at hx; cases hx; exact h4⟩
    obtain ⟨U, hU⟩ : ∃ U : Nat → Value, ∀ j, j < l.length → w.cell? ⟨b, o + j * 3 + 2, none⟩ = some (U j) ∧ ∀ x, l[j]? = some x → Ws w (U j) x.n :=
      ⟨fun j => if hj : j < l.length then Classical.choose (hex j hj) else .int .i64 0, fun j hj => by simp only [dif_pos hj]; exact Classical.choose_spec (hex j hj)⟩
    have hus : ∀ (j : Nat) u, ((List.range l.length).map U)[j]? = some u → j < l.length ∧ u = U j := fun j u hj => by
      simp only [List.getElem?_map, Option.map_eq_some_iff] at hj
      obtain ⟨k, hk, rfl⟩ := hj
      obtain ⟨hk3, hk4⟩ := List.getElem?_eq_some_iff.1 hk
      simp at hk3 hk4
      exact ⟨hk3, by rw [hk4]⟩
    have hn : Nums w l ((List.range l.length).map U) := ⟨by simp, fun j x u h1 h2 => by
      obtain ⟨hj, rfl⟩ := hus j u h2
      exact (hU j hj).2 x h1⟩
    refine ⟨_, hn, fun _ => ⟨b, o, rfl, hb, fun i v hi => ?_⟩⟩
    have hil : i < (flat l ((List.range l.length).map U)).length := by
      rcases Nat.lt_or_ge i (flat l ((List.range l.length).map U)).length with h | h
      · exact h
      · rw [List.getElem?_eq_none h] at hi; cases hi
    rw [flat_len l _ hn.1] at hil
    obtain ⟨q, hq, hcase⟩ : ∃ q, q < l.length ∧ (i = q * 3 ∨ i = q * 3 + 1 ∨ i = q * 3 + 2) := ⟨i / 3, by omega, by omega⟩
    have hq2 : ((List.range l.length).map U)[q]? = some (U q) := by simp [hq]
    obtain ⟨h1, h2, h3⟩ := flat_at l _ q _ _ hn.1 (List.getElem?_eq_getElem hq) hq2
    obtain ⟨c1, c2, _⟩ := hc q _ (List.getElem?_eq_getElem hq)
    have c3 := (hU q hq).1
    rcases hcase with rfl | rfl | rfl
    · rw [h1] at hi; cases hi; exact c1
    · rw [h2] at hi; cases hi; rw [← Nat.add_assoc]; exact c2
    · rw [h3] at hi; cases hi; rw [← Nat.add_assoc]; exact c3

/-- 'append(v, Node{..})' inside a region that draws its order. -/
theorem step_row_t {P : Prop} {w0 w : World} {ops : Array Oper} {o : Oper} {a : Act} {K : Act → World → Prop} {Q : Exit → Act → World → Prop} {E : Prop} (hgd : o.guard = none) (s y : Operand)
    (ho : o.op = .call { callee := .builtin .append, args := #[s, y], argTypes := #[38, 38] })
    {v : Value} {l : List Tr.Nd} (hs : a.eval s = v) (hown : Row P 135 w0 w v l)
    {g c : Nat} {x : Tr.Nd} {u : Value} (hy : a.eval y = .slice (some ⟨g, 0, none⟩) 1 c) (hb : w.heap[g]? = some (.cells #[.int .i64 x.op, .int .i64 x.i, u] 135 (0, 0))) (hn : NumsB P w0 w [x] [u]) (hk : I64 x.op ∧ I64 x.i) (hl : l.length ≤ 400000000)
    (h : ∀ v' w', Row P 135 w0 w' v' (l ++ [x]) → w.grownBy w' v.ownBlock → K (a.put o.dst v') w') : if Region.wanted o (yielded ops a.tmps) = true then Oper.wp Try.prog o a w K Q else E := by
  obtain ⟨h0, hu, us, hn0, hrow⟩ := hown
  obtain ⟨i0, hi, hz0, hz1, hz2⟩ := info_parts info_tnode
  have hc : ∀ (j : Nat) z, (flat [x] [u])[j]? = some z → w.cell? ((⟨g, 0, none⟩ : Addr).add j) = some z := fun j z hj => by
    have e : (⟨g, 0, none⟩ : Addr).add j = ⟨g, j, none⟩ := by unfold Addr.add; by_cases h0 : j = 0 <;> simp [h0]
    rw [e, cell_of_row w g j _ _ (0, 0) hb]
    simpa [flat] using hj
  refine step_append_lies w hgd s y 38 ho w0.heap.size 135 i0 _ 3 40 Try.underlying38 hi hz0 hz1 hz2 rfl (by omega) v l.length (flat l us) hs hrow ⟨g, 0, none⟩ 1 c (flat [x] [u]) hy rfl hc (flat_oneCell (hn.nums hu)) (by omega) (by unfold maxLen; omega) (by omega) hu.size _ rfl ?_
  intro g' cap w' h1 h2 _ _
  have hu2 : Up w0 w' := hu.grown h2 (fun k hk => (hrow.lt k hk).1)
  have hne := fun (u : Value) n xs (hh : w.ownsRow w0.heap.size 150 1 u n xs) => own_types (by decide : (150 : Nat) ≠ 135) hh hrow
  refine h _ w' ⟨?_, hu2, us ++ [u], (hn0.kept h2 hne).append (hn.kept h2 hne), ?_⟩ ?_
  · intro z hz
    rcases List.mem_append.1 hz with hz | hz
    · exact h0 z hz
    · simp at hz; subst hz; exact hk
  · rw [flat_append l us [x] [u] hn0.1, List.length_append]
    exact h1
  · exact h2
theorem step_row_r {P : Prop} {w0 w : World} {ops : Array Oper} {o : Oper} {a : Act} {K : Act → World → Prop} {Q : Exit → Act → World → Prop} {E : Prop} (hgd : o.guard = none) (s y : Operand)
    (ho : o.op = .call { callee := .builtin .append, args := #[s, y], argTypes := #[36, 36] })
    {v : Value} {l : List Tr.Nd} (hs : a.eval s = v) (hown : Row P 144 w0 w v l)
    {g c : Nat} {x : Tr.Nd} {u : Value} (hy : a.eval y = .slice (some ⟨g, 0, none⟩) 1 c) (hb : w.heap[g]? = some (.cells #[.int .i64 x.op, .int .i64 x.i, u] 144 (0, 0))) (hn : NumsB P w0 w [x] [u]) (hk : I64 x.op ∧ I64 x.i) (hl : l.length ≤ 400000000)
    (h : ∀ v' w', Row P 144 w0 w' v' (l ++ [x]) → w.grownBy w' v.ownBlock → K (a.put o.dst v') w') : if Region.wanted o (yielded ops a.tmps) = true then Oper.wp Try.prog o a w K Q else E := by
  obtain ⟨h0, hu, us, hn0, hrow⟩ := hown
  obtain ⟨i0, hi, hz0, hz1, hz2⟩ := info_parts info_rnode
  have hc : ∀ (j : Nat) z, (flat [x] [u])[j]? = some z → w.cell? ((⟨g, 0, none⟩ : Addr).add j) = some z := fun j z hj => by
    have e : (⟨g, 0, none⟩ : Addr).add j = ⟨g, j, none⟩ := by unfold Addr.add; by_cases h0 : j = 0 <;> simp [h0]
    rw [e, cell_of_row w g j _ _ (0, 0) hb]
    simpa [flat] using hj
  refine step_append_lies w hgd s y 36 ho w0.heap.size 144 i0 _ 3 40 Try.underlying36 hi hz0 hz1 hz2 rfl (by omega) v l.length (flat l us) hs hrow ⟨g, 0, none⟩ 1 c (flat [x] [u]) hy rfl hc (flat_oneCell (hn.nums hu)) (by omega) (by unfold maxLen; omega) (by omega) hu.size _ rfl ?_
  intro g' cap w' h1 h2 _ _
  have hu2 : Up w0 w' := hu.grown h2 (fun k hk => (hrow.lt k hk).1)
  have hne := fun (u : Value) n xs (hh : w.ownsRow w0.heap.size 150 1 u n xs) => own_types (by decide : (150 : Nat) ≠ 144) hh hrow
  refine h _ w' ⟨?_, hu2, us ++ [u], (hn0.kept h2 hne).append (hn.kept h2 hne), ?_⟩ ?_
  · intro z hz
    rcases List.mem_append.1 hz with hz | hz
    · exact h0 z hz
    · simp at hz; subst hz; exact hk
  · rw [flat_append l us [x] [u] hn0.1, List.length_append]
    exact h1
  · exact h2

/-- 'append([]uint32(nil), x...)' inside a region that draws its order. -/
theorem step_words_nil {w0 w : World} {ops : Array Oper} {o : Oper} {a : Act} {K : Act → World → Prop} {Q : Exit → Act → World → Prop} {E : Prop} (hgd : o.guard = none) (s y : Operand)
    (ho : o.op = .call { callee := .builtin .append, args := #[s, y], argTypes := #[59, 59] }) (hs : a.eval s = .slice none 0 0)
    {A : Option Addr} {m c : Nat} {l : List Nat} (hy : a.eval y = .slice A m c) (hr : RdV w A (l.map wv)) (hm : l.length = m) (hb : m ≤ 4000000000) (hu : Up w0 w)
    (h : ∀ v' w', w'.ownsRow w0.heap.size 150 1 v' m (l.map wv) → Up w w' → K (a.put o.dst v') w') : if Region.wanted o (yielded ops a.tmps) = true then Oper.wp Try.prog o a w K Q else E := by
  have hw : Region.wanted o (yielded ops a.tmps) = true := by simp [Region.wanted, hgd]
  rw [if_pos hw]
  obtain ⟨i0, hi, hz0, hz1, hz2⟩ := info_parts info_u32
  have hown : w.ownsRow w0.heap.size 150 1 (.slice none 0 0) 0 [] := World.ownsRow_nil w w0.heap.size 150 1
  have hup : ∀ w', w.grownBy w' none → Up w w' := fun w' hg => (Up.refl w).grown hg (fun k hk => by cases hk)
  rcases A with _ | ad
  · have hl0 : l = [] := by
      rcases Nat.eq_zero_or_pos l.length with h0 | h0
      · exact List.eq_nil_of_length_eq_zero h0
      · obtain ⟨b, off, hA, _⟩ := hr (by simpa using h0)
        cases hA
    subst hl0
    have hm0 : m = 0 := hm.symm
    subst hm0
    have hrun := run_append_none (P := Try.prog) (ty := o.type) (w := w) Try.underlying59 hi hown c
    unfold Oper.wp
    simp [execOp, ho, resolve, invoke, builtin, hs, hy, hrun, Result.andThen]
    exact h _ _ hown (Up.refl w)
  · refine wp_append_own w s y 59 ho w0.heap.size 150 i0 (.int .u32 0) 1 4 Try.underlying59 hi hz0 hz1 hz2 rfl (by omega) _ 0 [] hs hown ad m c (l.map wv) hy (by simp [hm]) ?_ (words_oneCell l) (by unfold maxLen; omega) (by omega) hu.size ?_
    · intro j u hj
      have hpos : 0 < (l.map wv).length := by
        rcases Nat.eq_zero_or_pos (l.map wv).length with h0 | h0
        · have := List.eq_nil_of_length_eq_zero h0; rw [this] at hj; simp at hj
        · exact h0
      obtain ⟨b, off, hA, _, hc⟩ := hr hpos
      simp at hA
      subst hA
      have := hc j u hj
      unfold Addr.add
      by_cases h0 : j = 0
      · subst h0; simpa using this
      · simpa [h0] using this
    · intro v' w' h1 h2 _
      rw [Nat.zero_add, List.nil_append] at h1
      exact h v' w' h1 (hup w' h2)
end Go.Proofs.Ytmmcffceeahemaa
