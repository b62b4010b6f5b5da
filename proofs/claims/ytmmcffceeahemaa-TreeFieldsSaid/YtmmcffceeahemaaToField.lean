/-
  Layer 17: a field turned over.
-/
import Derived.Test.YtmmcffceeahemaaToRow
import Derived.Deep.RegionLaw
import Derived.Deep.RegionHeld3
import Derived.Deep.LoopGhost
set_option linter.unusedVariables false
set_option linter.unusedSimpArgs false
namespace Go.Proofs.Ytmmcffceeahemaa
open Go.RowKit

/-- The cells of named expressions, the expressions' slices given. -/
def flatL : List (ByteArray × List Tr.Nd) → List Value → List Value
  | x :: l, u :: us => .string x.1 :: u :: flatL l us
  | _, _ => []
theorem flatL_len : ∀ (l : List (ByteArray × List Tr.Nd)) (us : List Value), us.length = l.length → (flatL l us).length = l.length * 2
  | [], us, _ => by simp [flatL]
  | x :: l, u :: us, h => by
    have := flatL_len l us (by simpa using h)
    simp only [flatL, List.length_cons, this]
    omega
  | x :: l, [], h => by simp at h
theorem flatL_append : ∀ (l : List (ByteArray × List Tr.Nd)) (us : List Value) (m : List (ByteArray × List Tr.Nd)) (vs : List Value), us.length = l.length → flatL (l ++ m) (us ++ vs) = flatL l us ++ flatL m vs
  | [], [], m, vs, _ => rfl
  | [], u :: us, m, vs, h => by simp at h
  | x :: l, u :: us, m, vs, h => by simp only [List.cons_append, flatL, flatL_append l us m vs (by simpa using h)]
  | x :: l, [], m, vs, h => by simp at h
theorem flatL_at : ∀ (l : List (ByteArray × List Tr.Nd)) (us : List Value) (j : Nat) (x : ByteArray × List Tr.Nd) (u : Value), us.length = l.length → l[j]? = some x → us[j]? = some u →
    (flatL l us)[j * 2]? = some (.string x.1) ∧ (flatL l us)[j * 2 + 1]? = some u
  | [], us, j, x, u, _, h, _ => by simp at h
  | y :: l, [], j, x, u, h, _, _ => by simp at h
  | y :: l, v :: us, 0, x, u, _, h1, h2 => by
    simp at h1 h2
    subst h1 h2
    simp [flatL]
  | y :: l, v :: us, j + 1, x, u, h, h1, h2 => by
    have := flatL_at l us j x u (by simpa using h) (by simpa using h1) (by simpa using h2)
    have e : (j + 1) * 2 = j * 2 + 1 + 1 := by omega
    rw [e]
    simp only [flatL, List.getElem?_cons_succ]
    exact this
/-- Slices that are those of expressions, the call's own. -/
def ElT (wn w : World) (ls : List (List Tr.Nd)) (us : List Value) : Prop := us.length = ls.length ∧ ∀ (j : Nat) l u, ls[j]? = some l → us[j]? = some u → RowT 135 wn wn w u l
theorem ElT.snoc {wn w : World} {ls : List (List Tr.Nd)} {us : List Value} {l : List Tr.Nd} {u : Value} (h : ElT wn w ls us) (hu : RowT 135 wn wn w u l) : ElT wn w (ls ++ [l]) (us ++ [u]) := by
  refine ⟨by simp [h.1], fun j y v h1 h2 => ?_⟩
  rcases Nat.lt_trichotomy j ls.length with hj | hj | hj
  · rw [List.getElem?_append_left hj] at h1
    rw [List.getElem?_append_left (by rw [h.1]; exact hj)] at h2
    exact h.2 j y v h1 h2
  · subst hj
    rw [List.getElem?_append_right (by omega)] at h1
    rw [List.getElem?_append_right (by rw [h.1]; omega), h.1] at h2
    simp at h1 h2
    subst h1 h2
    exact hu
  · rw [List.getElem?_eq_none (by simp; omega)] at h1
    cases h1
theorem ElT.kept {wn w w' : World} {ls : List (List Tr.Nd)} {us : List Value} {row : Option Nat} (h : ElT wn w ls us) (hg : w.grownBy w' row) (hr : ∀ k, row = some k → wn.heap.size ≤ k) (hne : ∀ (u : Value) n xs, w.ownsRow wn.heap.size 135 3 u n xs → u.ownBlock = none ∨ u.ownBlock ≠ row) : ElT wn w' ls us :=
  ⟨h.1, fun j l u h1 h2 => by
    have := h.2 j l u h1 h2
    exact this.kept hg hr (by obtain ⟨_, _, _, us', _, ho⟩ := this; exact hne u _ _ ho)⟩
/-- A row of named expressions of the call's own. -/
def RowL (w0 w : World) (v : Value) (ls : List (ByteArray × List Tr.Nd)) : Prop :=
  Up w0 w ∧ ∃ us, ElT w0 w (ls.map (·.2)) us ∧ w.ownsRow w0.heap.size 142 2 v ls.length (flatL ls us)
/-- A row of expressions of the call's own. -/
def RowO (w0 w : World) (v : Value) (ls : List (List Tr.Nd)) : Prop :=
  Up w0 w ∧ ∃ us, ElT w0 w ls us ∧ w.ownsRow w0.heap.size 38 1 v ls.length us
/-- Another block of the call's own, of another kind, is stored to. -/
theorem own_not {w : World} {base g : Nat} {T S : TypeId} {size n : Nat} {v : Value} {xs vs : List Value} (h : w.ownsRow base T size v n xs) (hg : VB S w g vs) (hne : T ≠ S) : v.ownBlock = none ∨ v.ownBlock ≠ some g := by
  rcases h.2 with ⟨rfl, _⟩ | ⟨b, cap, cur, rfl, _, hb, _⟩
  · exact .inl rfl
  · refine .inr (fun e => ?_)
    simp [Value.ownBlock] at e
    subst e
    unfold VB at hg
    rw [hg] at hb
    simp at hb
    exact hne hb.2.symm
theorem RowL.lts {w0 w : World} {v : Value} {ls : List (ByteArray × List Tr.Nd)} (h : RowL w0 w v ls) : Lts w v ls := by
  obtain ⟨hu, us, he, hown⟩ := h
  obtain ⟨A, c, rfl, h1, h2⟩ := own_form hown
  refine ⟨A, c, rfl, h1, h2, fun hl => ?_⟩
  have hlen : us.length = ls.length := by rw [he.1, List.length_map]
  obtain ⟨b, o, rfl, hb, hc⟩ := RdV.of_own hown (by rw [flatL_len ls us hlen]; omega)
  refine ⟨b, o, rfl, hb, fun j x hj => ?_⟩
  have hjl : j < us.length := by rw [hlen]; exact (List.getElem?_eq_some_iff.1 hj).1
  obtain ⟨q1, q2⟩ := flatL_at ls us j x us[j] hlen hj (List.getElem?_eq_getElem hjl)
  exact ⟨hc _ _ q1, us[j], by rw [Nat.add_assoc]; exact hc _ _ q2, (he.2 j x.2 us[j] (by rw [List.getElem?_map, hj]; rfl) (List.getElem?_eq_getElem hjl)).row.nds⟩
theorem RowO.ndss {w0 w : World} {v : Value} {ls : List (List Tr.Nd)} (h : RowO w0 w v ls) : Ndss w v ls := by
  obtain ⟨hu, us, he, hown⟩ := h
  obtain ⟨A, c, rfl, h1, h2⟩ := own_form hown
  exact ⟨A, c, us, rfl, h1, h2, he.1, RdV.of_own hown, fun i u l h1 h2 => (he.2 i l u h2 h1).row.nds⟩
theorem RowL.kept {w0 w w' : World} {v : Value} {ls : List (ByteArray × List Tr.Nd)} {S : TypeId} {g : Nat} {vs : List Value} (h : RowL w0 w v ls) (hv : VB S w g vs) (hg : w0.heap.size ≤ g) (h1 : 142 ≠ S) (h2 : 135 ≠ S) (hw : w.grownBy w' (some g)) : RowL w0 w' v ls := by
  obtain ⟨hu, us, he, hown⟩ := h
  exact ⟨hu.grown hw (fun k hk => by cases hk; exact hg), us, he.kept hw (fun k hk => by cases hk; exact hg) (fun u n xs ho => own_not ho hv h2), hown.kept hw (own_not hown hv h1)⟩
theorem RowO.kept {w0 w w' : World} {v : Value} {ls : List (List Tr.Nd)} {S : TypeId} {g : Nat} {vs : List Value} (h : RowO w0 w v ls) (hv : VB S w g vs) (hg : w0.heap.size ≤ g) (h1 : 38 ≠ S) (h2 : 135 ≠ S) (hw : w.grownBy w' (some g)) : RowO w0 w' v ls := by
  obtain ⟨hu, us, he, hown⟩ := h
  exact ⟨hu.grown hw (fun k hk => by cases hk; exact hg), us, he.kept hw (fun k hk => by cases hk; exact hg) (fun u n xs ho => own_not ho hv h2), hown.kept hw (own_not hown hv h1)⟩
theorem info_tlet : (Try.prog.info? 142).map (fun i => (i.zero, i.size, i.bytes)) = some (some (.agg #[.string ByteArray.empty, .slice none 0 0]), 2, 40) := by kernel_rfl
theorem VB.grown {S : TypeId} {w w' : World} {g : Nat} {vs : List Value} {row : Option Nat} (h : VB S w g vs) (hg : w.grownBy w' row) (hne : row = none ∨ row ≠ some g) : VB S w' g vs :=
  (hg.block g h.lt (by rcases hne with rfl | hne; exact (fun e => by cases e); exact (fun e => hne e.symm))).trans h
theorem RowL.not {w0 w : World} {v : Value} {ls : List (ByteArray × List Tr.Nd)} {S : TypeId} {g : Nat} {vs : List Value} (h : RowL w0 w v ls) (hv : VB S w g vs) (hne : 142 ≠ S) : v.ownBlock = none ∨ v.ownBlock ≠ some g := by
  obtain ⟨_, us, _, ho⟩ := h
  exact own_not ho hv hne
theorem RowL.form {w0 w : World} {v : Value} {ls : List (ByteArray × List Tr.Nd)} (h : RowL w0 w v ls) : ∃ A c, v = .slice A ls.length c := h.lts.form
theorem RowL.up2 {w0 w w' : World} {v : Value} {ls : List (ByteArray × List Tr.Nd)} (h : RowL w0 w v ls) (hu : Up w w') : RowL w0 w' v ls := by
  obtain ⟨h1, us, he, hown⟩ := h
  exact ⟨h1.trans hu, us, ⟨he.1, fun j l u h2 h3 => (he.2 j l u h2 h3).up hu⟩, own_made hown ⟨hu.os, hu.tape, hu.output, hu.size, fun k hk _ => hu.block k hk⟩⟩
/-- 'append(v, Let{..})' inside a region that draws its order. -/
theorem step_row_l {w0 w : World} {ops : Array Oper} {o : Oper} {a : Act} {K : Act → World → Prop} {Q : Exit → Act → World → Prop} {E : Prop} (hgd : o.guard = none) (s y : Operand)
    (ho : o.op = .call { callee := .builtin .append, args := #[s, y], argTypes := #[28, 28] })
    {v : Value} {ls : List (ByteArray × List Tr.Nd)} (hs : a.eval s = v) (hown : RowL w0 w v ls)
    {g c : Nat} {nm : ByteArray} {x : List Tr.Nd} {u : Value} (hy : a.eval y = .slice (some ⟨g, 0, none⟩) 1 c) (hb : w.heap[g]? = some (.cells #[.string nm, u] 142 (0, 0))) (hn : RowT 135 w0 w0 w u x) (hl : ls.length ≤ 400000000)
    (h : ∀ v' w', RowL w0 w' v' (ls ++ [(nm, x)]) → w.grownBy w' v.ownBlock → K (a.put o.dst v') w') : if Region.wanted o (yielded ops a.tmps) = true then Oper.wp Try.prog o a w K Q else E := by
  obtain ⟨hu, us, he, hrow⟩ := hown
  obtain ⟨i0, hi, hz0, hz1, hz2⟩ := info_parts info_tlet
  have hlen : us.length = ls.length := by rw [he.1, List.length_map]
  have hc : ∀ (j : Nat) z, [Value.string nm, u][j]? = some z → w.cell? ((⟨g, 0, none⟩ : Addr).add j) = some z := fun j z hj => by
    have e : (⟨g, 0, none⟩ : Addr).add j = ⟨g, j, none⟩ := by unfold Addr.add; by_cases h0 : j = 0 <;> simp [h0]
    rw [e, cell_of_row w g j _ _ (0, 0) hb]
    simpa using hj
  have hone : ∀ z ∈ [Value.string nm, u], z.oneCell' = true := by
    obtain ⟨A, c', rfl⟩ := hn.form
    intro z hz
    simp at hz
    rcases hz with rfl | rfl <;> rfl
  refine step_append_lies w hgd s y 28 ho w0.heap.size 142 i0 _ 2 40 Try.underlying28 hi hz0 hz1 hz2 rfl (by omega) v ls.length (flatL ls us) hs hrow ⟨g, 0, none⟩ 1 c [.string nm, u] hy rfl hc hone (by omega) (by unfold maxLen; omega) (by omega) hu.size _ rfl ?_
  intro g' cap w' h1 h2 _ _
  have hr : ∀ k, v.ownBlock = some k → w0.heap.size ≤ k := fun k hk => (hrow.lt k hk).1
  have hne := fun (u : Value) n xs (hh : w.ownsRow w0.heap.size 135 3 u n xs) => own_types (by decide : (135 : Nat) ≠ 142) hh hrow
  have hn2 : RowT 135 w0 w0 w' u x := hn.kept h2 hr (by obtain ⟨_, _, _, us', _, ho⟩ := hn; exact hne u _ _ ho)
  refine h _ w' ⟨hu.grown h2 hr, us ++ [u], ?_, ?_⟩ h2
  · rw [List.map_append]
    exact (he.kept h2 hr hne).snoc hn2
  · have e : flatL (ls ++ [(nm, x)]) (us ++ [u]) = flatL ls us ++ [.string nm, u] := by rw [flatL_append ls us [(nm, x)] [u] hlen]; rfl
    rw [e, List.length_append]
    exact h1


/-- 'append(v, l)' of one expression inside a region that draws its order. -/
theorem step_row_o {w0 w : World} {ops : Array Oper} {o : Oper} {a : Act} {K : Act → World → Prop} {Q : Exit → Act → World → Prop} {E : Prop} (hgd : o.guard = none) (s y : Operand)
    (ho : o.op = .call { callee := .builtin .append, args := #[s, y], argTypes := #[29, 29] })
    {v : Value} {ls : List (List Tr.Nd)} (hs : a.eval s = v) (hown : RowO w0 w v ls)
    {g c : Nat} {x : List Tr.Nd} {u : Value} (hy : a.eval y = .slice (some ⟨g, 0, none⟩) 1 c) (hb : w.heap[g]? = some (.cells #[u] 38 (0, 0))) (hn : RowT 135 w0 w0 w u x) (hl : ls.length ≤ 400000000)
    (h : ∀ v' w', RowO w0 w' v' (ls ++ [x]) → w.grownBy w' v.ownBlock → K (a.put o.dst v') w') : if Region.wanted o (yielded ops a.tmps) = true then Oper.wp Try.prog o a w K Q else E := by
  obtain ⟨hu, us, he, hrow⟩ := hown
  obtain ⟨i0, hi, hz0, hz1, hz2⟩ := info_parts info_tnodes
  have hlen : us.length = ls.length := he.1
  have hc : ∀ (j : Nat) z, [u][j]? = some z → w.cell? ((⟨g, 0, none⟩ : Addr).add j) = some z := fun j z hj => by
    have e : (⟨g, 0, none⟩ : Addr).add j = ⟨g, j, none⟩ := by unfold Addr.add; by_cases h0 : j = 0 <;> simp [h0]
    rw [e, cell_of_row w g j _ _ (0, 0) hb]
    simpa using hj
  have hone : ∀ z ∈ [u], z.oneCell' = true := by
    obtain ⟨A, c', rfl⟩ := hn.form
    intro z hz
    simp at hz
    subst hz
    rfl
  refine step_append_lies w hgd s y 29 ho w0.heap.size 38 i0 _ 1 24 Try.underlying29 hi hz0 hz1 hz2 rfl (by omega) v ls.length us hs hrow ⟨g, 0, none⟩ 1 c [u] hy rfl hc hone (by omega) (by unfold maxLen; omega) (by omega) hu.size _ rfl ?_
  intro g' cap w' h1 h2 _ _
  have hr : ∀ k, v.ownBlock = some k → w0.heap.size ≤ k := fun k hk => (hrow.lt k hk).1
  have hne := fun (u : Value) n xs (hh : w.ownsRow w0.heap.size 135 3 u n xs) => own_types (by decide : (135 : Nat) ≠ 38) hh hrow
  have hn2 : RowT 135 w0 w0 w' u x := hn.kept h2 hr (by obtain ⟨_, _, _, us', _, ho⟩ := hn; exact hne u _ _ ho)
  refine h _ w' ⟨hu.grown h2 hr, us ++ [u], (he.kept h2 hr hne).snoc hn2, ?_⟩ h2
  rw [List.length_append]
  exact h1
theorem RowO.form {w0 w : World} {v : Value} {ls : List (List Tr.Nd)} (h : RowO w0 w v ls) : ∃ A c, v = .slice A ls.length c := h.ndss.form
theorem RowO.up2 {w0 w w' : World} {v : Value} {ls : List (List Tr.Nd)} (h : RowO w0 w v ls) (hu : Up w w') : RowO w0 w' v ls := by
  obtain ⟨h1, us, he, hown⟩ := h
  exact ⟨h1.trans hu, us, ⟨he.1, fun j l u h2 h3 => (he.2 j l u h2 h3).up hu⟩, own_made hown ⟨hu.os, hu.tape, hu.output, hu.size, fun k hk _ => hu.block k hk⟩⟩
theorem RowO.not {w0 w : World} {v : Value} {ls : List (List Tr.Nd)} {S : TypeId} {g : Nat} {vs : List Value} (h : RowO w0 w v ls) (hv : VB S w g vs) (hne : 38 ≠ S) : v.ownBlock = none ∨ v.ownBlock ≠ some g := by
  obtain ⟨_, us, _, ho⟩ := h
  exact own_not ho hv hne
/-- The rows stay what they are while the other one grows. -/
theorem RowL.other {w0 w w' : World} {v u : Value} {ls : List (ByteArray × List Tr.Nd)} {os : List (List Tr.Nd)} (h : RowL w0 w v ls) (k : RowO w0 w u os) (hg : w.grownBy w' u.ownBlock) : RowL w0 w' v ls := by
  obtain ⟨hu, us, he, hown⟩ := h
  obtain ⟨_, us2, _, ho2⟩ := k
  have hr : ∀ k, u.ownBlock = some k → w0.heap.size ≤ k := fun k hk => (ho2.lt k hk).1
  exact ⟨hu.grown hg hr, us, he.kept hg hr (fun z n xs hh => own_types (by decide : (135 : Nat) ≠ 38) hh ho2), hown.kept hg (own_types (by decide : (142 : Nat) ≠ 38) hown ho2)⟩
theorem vb_far {T : TypeId} {w : World} {g i : Nat} {vs : List Value} (h : VB T w g vs) {g' : Nat} (hne : g ≠ g') (u : Value) : VB T (w.setCell ⟨g', i, none⟩ u) g vs := (Below.heap_setCell w _ u g (by exact hne)).trans h
theorem grown_set (w : World) (g i : Nat) (u : Value) : w.grownBy (w.setCell ⟨g, i, none⟩ u) (some g) := ⟨rfl, rfl, rfl, by simp [World.setCell], fun j hj hj2 => Below.heap_setCell _ _ _ _ (by simp; exact fun e => hj2 (by rw [e]))⟩

theorem agg_tfield (w : World) : (isAgg 31).run Try.prog w = .ok true w := by kernel_rfl
theorem size_tfield (w : World) : (sizeOf 31).run Try.prog w = .ok 2 w := by kernel_rfl
/-- What comes back lies in one cell. -/
theorem vb_load {w : World} {T S : TypeId} {g n : Nat} {cs : List Value} (hT : ∀ w : World, (isAgg T).run Try.prog w = .ok true w) (hS : ∀ w : World, (sizeOf T).run Try.prog w = .ok n w) (hb : VB S w g cs) (hn : cs.length = n) :
    (loadVar T ⟨g, 0, none⟩).run Try.prog w = .ok (.agg cs.toArray) w := by
  subst hn
  have hl := run_loadCells_list (P := Try.prog) w ⟨g, 0, none⟩ cs (fun j v hj => by
    have e : (⟨g, 0, none⟩ : Addr).add j = ⟨g, j, none⟩ := by unfold Addr.add; by_cases h0 : j = 0 <;> simp [h0]
    rw [e]
    exact hb.cell hj)
  simp only [loadVar, Sem.run_bind, hT, hS, hl, Result.andThen, if_true, Sem.run_pure]
theorem vb_res {fn : Func} {tmps : Array Value} {w : World} {t : Tmp} {T S : TypeId} {g n : Nat} {cs : List Value} (hres : fn.results = #[.cell t T]) (ht : tmps.getD t undef = .pointer (some ⟨g, 0, none⟩))
    (hT : ∀ w : World, (isAgg T).run Try.prog w = .ok true w) (hS : ∀ w : World, (sizeOf T).run Try.prog w = .ok n w) (hb : VB S w g cs) (hn : cs.length = n) : (results fn tmps).run Try.prog w = .ok (.agg cs.toArray) w := by
  have := vb_load hT hS hb hn
  have ht' : tmps[t]?.getD undef = .pointer (some ⟨g, 0, none⟩) := by simpa using ht
  simp [results, hres, ht', this, asAddr]
theorem end_field {fn : Func} {a : Act} {w0 w : World} {t : Tmp} {g : Nat} {F : Tr.Fd} {l o p1 p2 : Value} (hres : fn.results = #[.cell t 31]) (ht : a.tmps.getD t undef = .pointer (some ⟨g, 0, none⟩)) (hd : a.defers = [])
    (hl : RowL w0 w l F.lets) (ho : RowO w0 w o F.outs) (r : VB 31 w g [p1, p2]) (hg : w0.heap.size ≤ g) :
    bodyPost Try.prog fn (fun e w' => ∃ V, e = .returned V ∧ Fld w' V F ∧ Up w0 w') .ret a ((w.setCell ⟨g, 0, none⟩ l).setCell ⟨g, 1, none⟩ o) := by
  have r1 : VB 31 (w.setCell ⟨g, 0, none⟩ l) g [l, p2] := r.set 0 _
  have r2 : VB 31 ((w.setCell ⟨g, 0, none⟩ l).setCell ⟨g, 1, none⟩ o) g [l, o] := r1.set 1 _
  have l2 := (hl.kept r hg (by decide) (by decide) (grown_set w g 0 l)).kept r1 hg (by decide) (by decide) (grown_set _ g 1 o)
  have o2 := (ho.kept r hg (by decide) (by decide) (grown_set w g 0 l)).kept r1 hg (by decide) (by decide) (grown_set _ g 1 o)
  exact bodyPost_ret (vb_res hres ht agg_tfield size_tfield r2 rfl) hd ⟨_, rfl, ⟨l, o, rfl, l2.lts, o2.ndss⟩, l2.1⟩
set_option maxRecDepth 100000 in
set_option maxHeartbeats 12800000 in
theorem law_toField {v : Value} {F : Tr.Fd} {w : World} (h : Fld w v F) (hs : F.Small 12 100 10) :
    Calls Try.prog 16 #[v] w fun e w' => ∃ V, e = .returned V ∧ Fld w' V F ∧ Up w w' := by
  obtain ⟨a, b, rfl, ha, hb⟩ := h
  obtain ⟨A, c, rfl⟩ := ha.form
  obtain ⟨B, d, rfl⟩ := hb.form
  have HA := Lib.hid ha
  have HB := Lib.hid hb
  have HS := Lib.hid hs
  obtain ⟨hl, hm, _, _⟩ := hs
  clear ha hb
  have u0 : Up w (((w.alloc (.cells #[.slice A F.lets.length c, .slice B F.outs.length d] 25)).alloc (.cells #[.slice none 0 0, .slice none 0 0] 31)).alloc (.cells #[.slice none 0 0, .slice none 0 0] 31)) := (((Up.refl _).alloc _).alloc _).alloc _
  have b3 := heap_alloc_new ((w.alloc (.cells #[.slice A F.lets.length c, .slice B F.outs.length d] 25)).alloc (.cells #[.slice none 0 0, .slice none 0 0] 31)) (.cells #[.slice none 0 0, .slice none 0 0] 31)
  have e3 : ((w.alloc (.cells #[.slice A F.lets.length c, .slice B F.outs.length d] 25)).alloc (.cells #[.slice none 0 0, .slice none 0 0] 31)).heap.size = w.heap.size + 1 + 1 := by simp
  rw [e3] at b3
  obtain ⟨b1, b2⟩ := two_new w (.cells #[.slice A F.lets.length c, .slice B F.outs.length d] 25) (.cells #[.slice none 0 0, .slice none 0 0] 31)
  have b1 := (((Up.refl _).alloc (.cells #[.slice none 0 0, .slice none 0 0] 31)).heap (by rw [e3]; omega)).trans b1
  have b2 := (((Up.refl _).alloc (.cells #[.slice none 0 0, .slice none 0 0] 31)).heap (by rw [e3]; omega)).trans b2
  clear e3
  go_enter Try.func16, Try.ntmps16
  go_wp2
  generalize ((w.alloc (.cells #[.slice A F.lets.length c, .slice B F.outs.length d] 25)).alloc (.cells #[.slice none 0 0, .slice none 0 0] 31)).alloc (.cells #[.slice none 0 0, .slice none 0 0] 31) = W at *
  have v1 : VB 25 W w.heap.size [.slice A F.lets.length c, .slice B F.outs.length d] := b1
  have v2 : VB 31 W (w.heap.size + 1) [.slice none 0 0, .slice none 0 0] := b2
  have v3 : VB 31 W (w.heap.size + 1 + 1) [.slice none 0 0, .slice none 0 0] := b3
  have V1 := Lib.hid v1
  have V2 := Lib.hid v2
  have V3 := Lib.hid v3
  clear b1 b2 b3 v1 v2 v3
  go_loopw [4] (fun s4 wr => ∃ (k : Nat) (lv : Value), s4 = .int .i64 k ∧ k ≤ F.lets.length ∧ VB 25 wr w.heap.size [.slice A F.lets.length c, .slice B F.outs.length d] ∧ VB 31 wr (w.heap.size + 1) [.slice none 0 0, .slice none 0 0] ∧ VB 31 wr (w.heap.size + 1 + 1) [lv, .slice none 0 0] ∧ RowL w wr lv (F.lets.take k)) (fun s4 _ => F.lets.length - (intOf s4).toNat)
  case atStart => exact ⟨0, _, rfl, Nat.zero_le _, V1.out, V2.out, V3.out, u0, [], ⟨rfl, by simp⟩, World.ownsRow_nil W w.heap.size _ 2⟩
  case round =>
    obtain ⟨k, lv, rfl, hk, v1, v2, v3, hrow⟩ := hrel
    have c10 := v1.cell (i := 0) rfl
    by_cases hlt : k < F.lets.length
    · obtain ⟨b, o, u, rfl, hb, g1, g2, g3⟩ := HA.out.at_ hlt
      have HX : Hid (F.lets.take (k + 1) = F.lets.take k ++ [F.lets[k]]) := Lib.hid (List.take_succ_eq_append_getElem hlt)
      have HSX := Lib.hid (HS.out.2.2.1 F.lets[k] (List.getElem_mem hlt)).2
      have HLEN : Hid ((F.lets.take k).length = k) := Lib.hid (by rw [List.length_take]; omega)
      have HLEN2 : Hid ((F.lets.take (k + 1)).length = k + 1) := Lib.hid (by rw [List.length_take]; omega)
      generalize F.lets[k] = X at *
      obtain ⟨nm, x⟩ := X
      simp only at g1 g2 g3 HSX
      obtain ⟨C, e, rfl⟩ := g3.form
      obtain ⟨lA, lc, rfl⟩ : ∃ A c, lv = .slice A (F.lets.take k).length c := by obtain ⟨_, us, _, ho⟩ := hrow; obtain ⟨A, c, h, _⟩ := own_form ho; exact ⟨A, c, h⟩
      rw [HLEN.out] at hrow v3
      have c30 := v3.cell (i := 0) (u := .slice lA k lc) rfl
      have f30 := v3.free 0
      have G3 := Lib.hid g3
      have k1 : (k : Int) < (F.lets.length : Int) := by omega
      have k0 : (0 : Int) ≤ (k : Int) := by omega
      have kk : ((k : Int)).toNat = k := by omega
      have HE : Hid (∀ w', Up w w' → w'.cell? ⟨b, o + k * 2, none⟩ = some (.string nm) ∧ w'.cell? ⟨b, o + k * 2 + 1, none⟩ = some (.slice C x.length e)) := Lib.hid (fun w' hu => ⟨(hu.cell (p := ⟨b, o + k * 2, none⟩) hb).trans g1, (hu.cell (p := ⟨b, o + k * 2 + 1, none⟩) hb).trans g2⟩)
      have UPc := hrow.1
      clear g1 g2 g3 c30 f30
      go_wp2
      clear c10
      replace v1 := v1.up (Up.refl wr).drew
      replace v2 := v2.up (Up.refl wr).drew
      replace v3 := v3.up (Up.refl wr).drew
      replace hrow := hrow.up2 (Up.refl wr).drew
      (try replace hlet := hlet.up2 (Up.refl wr).drew)
      replace UPc := UPc.trans (Up.refl wr).drew
      refine wp_region_noPanic ?_
      refine wp_region_held_drew (S := fun w' => Up w w' ∧ w'.cell? ⟨w.heap.size, 0, none⟩ = some (.slice (some ⟨b, o, none⟩) F.lets.length c) ∧ w'.cell? ⟨b, o + k * 2, none⟩ = some (.string nm) ∧ w'.cell? ⟨b, o + k * 2 + 1, none⟩ = some (.slice C x.length e)) (by kernel_rfl) (by exact ⟨UPc, v1.cell (i := 0) rfl, HE.out _ UPc⟩) (fun hHeld => ?_)
      clear hHeld
      generalize wr.drew = WC at *
      have hHeld : Up w WC ∧ WC.cell? ⟨w.heap.size, 0, none⟩ = some (.slice (some ⟨b, o, none⟩) F.lets.length c) ∧ WC.cell? ⟨b, o + k * 2, none⟩ = some (.string nm) ∧ WC.cell? ⟨b, o + k * 2 + 1, none⟩ = some (.slice C x.length e) := ⟨UPc, v1.cell (i := 0) rfl, HE.out _ UPc⟩
      refine wpAnyH_take (i := 0) (v := ?_) rfl (by kernel_rfl) (by decide +kernel) (by decide +kernel) (fun _ _ _ h => h) (Or.inl ⟨by rfl, ?_⟩) (by assumption) ?_
      rotate_left
      · (intro w hSw; (try dsimp only at hSw); go_simp; first | done | with_reducible rfl)
      try simp only [List.getElem_toArray, List.getElem_cons_zero, List.getElem_cons_succ, Act.put, List.setIfInBounds_toArray, List.set_cons_zero, List.set_cons_succ]
      refine wpAnyH_take (i := 2) (v := ?_) rfl (by kernel_rfl) (by decide +kernel) (by decide +kernel) (fun _ _ _ h => h) (Or.inl ⟨by rfl, ?_⟩) (by assumption) ?_
      rotate_left
      · (intro w hSw; (try dsimp only at hSw); go_simp; first | done | with_reducible rfl)
      try simp only [List.getElem_toArray, List.getElem_cons_zero, List.getElem_cons_succ, Act.put, List.setIfInBounds_toArray, List.set_cons_zero, List.set_cons_succ]
      refine wpAnyH_take (i := 3) (v := ?_) rfl (by kernel_rfl) (by decide +kernel) (by decide +kernel) (fun _ _ _ h => h) (Or.inl ⟨by rfl, ?_⟩) (by assumption) ?_
      rotate_left
      · (intro w hSw; (try dsimp only at hSw); go_simp; first | done | with_reducible rfl)
      try simp only [List.getElem_toArray, List.getElem_cons_zero, List.getElem_cons_succ, Act.put, List.setIfInBounds_toArray, List.set_cons_zero, List.set_cons_succ]
      refine wpAnyH_take (i := 4) (v := ?_) rfl (by kernel_rfl) (by decide +kernel) (by decide +kernel) (fun _ _ _ h => h) (Or.inl ⟨by rfl, ?_⟩) (by assumption) ?_
      rotate_left
      · (intro w hSw; (try dsimp only at hSw); go_simp; first | done | with_reducible rfl)
      try simp only [List.getElem_toArray, List.getElem_cons_zero, List.getElem_cons_succ, Act.put, List.setIfInBounds_toArray, List.set_cons_zero, List.set_cons_succ]
      refine wpAnyH_take (i := 5) (v := ?_) rfl (by kernel_rfl) (by decide +kernel) (by decide +kernel) (fun _ _ _ h => h) (Or.inl ⟨by rfl, ?_⟩) (by assumption) ?_
      rotate_left
      · (intro w hSw; (try dsimp only at hSw); go_simp; first | done | with_reducible rfl)
      try simp only [List.getElem_toArray, List.getElem_cons_zero, List.getElem_cons_succ, Act.put, List.setIfInBounds_toArray, List.set_cons_zero, List.set_cons_succ]
      refine wpAnyH_take (i := 6) (v := ?_) rfl (by kernel_rfl) (by decide +kernel) (by decide +kernel) (fun _ _ _ h => h) (Or.inl ⟨by rfl, ?_⟩) (by assumption) ?_
      rotate_left
      · (intro w hSw; (try dsimp only at hSw); go_simp; first | done | with_reducible rfl)
      try simp only [List.getElem_toArray, List.getElem_cons_zero, List.getElem_cons_succ, Act.put, List.setIfInBounds_toArray, List.set_cons_zero, List.set_cons_succ]
      refine wpAnyH_take (i := 7) (v := ?_) rfl (by kernel_rfl) (by decide +kernel) (by decide +kernel) (fun _ _ _ h => h) (Or.inl ⟨by rfl, ?_⟩) (by assumption) ?_
      rotate_left
      · (intro w hSw; (try dsimp only at hSw); go_simp; first | done | with_reducible rfl)
      try simp only [List.getElem_toArray, List.getElem_cons_zero, List.getElem_cons_succ, Act.put, List.setIfInBounds_toArray, List.set_cons_zero, List.set_cons_succ]
      refine wpAnyH_take (i := 8) (v := ?_) rfl (by kernel_rfl) (by decide +kernel) (by decide +kernel) (fun _ _ _ h => h) (Or.inl ⟨by rfl, ?_⟩) (by assumption) ?_
      rotate_left
      · (intro w hSw; (try dsimp only at hSw); go_simp; first | done | with_reducible rfl)
      try simp only [List.getElem_toArray, List.getElem_cons_zero, List.getElem_cons_succ, Act.put, List.setIfInBounds_toArray, List.set_cons_zero, List.set_cons_succ]
      refine wpAnyH_take (i := 9) (v := ?_) rfl (by kernel_rfl) (by decide +kernel) (by decide +kernel) (fun _ _ _ h => h) (Or.inl ⟨by rfl, ?_⟩) (by assumption) ?_
      rotate_left
      · (intro w hSw; (try dsimp only at hSw); go_simp; first | done | with_reducible rfl)
      try simp only [List.getElem_toArray, List.getElem_cons_zero, List.getElem_cons_succ, Act.put, List.setIfInBounds_toArray, List.set_cons_zero, List.set_cons_succ]
      refine wpAnyH_take (i := 10) (v := ?_) rfl (by kernel_rfl) (by decide +kernel) (by decide +kernel) (fun _ _ _ h => h) (Or.inl ⟨by rfl, ?_⟩) (by assumption) ?_
      rotate_left
      · (intro w hSw; (try dsimp only at hSw); go_simp; first | done | with_reducible rfl)
      try simp only [List.getElem_toArray, List.getElem_cons_zero, List.getElem_cons_succ, Act.put, List.setIfInBounds_toArray, List.set_cons_zero, List.set_cons_succ]
      refine wpAnyH_take (i := 11) (v := ?_) rfl (by kernel_rfl) (by decide +kernel) (by decide +kernel) (fun _ _ _ h => h) (Or.inl ⟨by rfl, ?_⟩) (by assumption) ?_
      rotate_left
      · (intro w hSw; (try dsimp only at hSw); go_simp; first | done | with_reducible rfl)
      try simp only [List.getElem_toArray, List.getElem_cons_zero, List.getElem_cons_succ, Act.put, List.setIfInBounds_toArray, List.set_cons_zero, List.set_cons_succ]
      refine wpAnyH_take (i := 12) (v := ?_) rfl (by kernel_rfl) (by decide +kernel) (by decide +kernel) (fun _ _ _ h => h) (Or.inl ⟨by rfl, ?_⟩) (by assumption) ?_
      rotate_left
      · (intro w hSw; (try dsimp only at hSw); go_simp; first | done | with_reducible rfl)
      try simp only [List.getElem_toArray, List.getElem_cons_zero, List.getElem_cons_succ, Act.put, List.setIfInBounds_toArray, List.set_cons_zero, List.set_cons_succ]
      refine wpAnyH_take (i := 13) (v := ?_) rfl (by kernel_rfl) (by decide +kernel) (by decide +kernel) (fun _ _ _ h => h) (Or.inl ⟨by rfl, ?_⟩) (by assumption) ?_
      rotate_left
      · (intro w hSw; (try dsimp only at hSw); go_simp; first | done | with_reducible rfl)
      try simp only [List.getElem_toArray, List.getElem_cons_zero, List.getElem_cons_succ, Act.put, List.setIfInBounds_toArray, List.set_cons_zero, List.set_cons_succ]
      repeat' first
        | (refine wpAnyH_take (i := 15) (v := ?_) rfl (by kernel_rfl) (by decide +kernel) (by decide +kernel) (fun _ _ _ h => h) (Or.inl ⟨by rfl, ?_⟩) (by assumption) ?_
           rotate_left
           · (intro w hSw; (try dsimp only at hSw); go_simp; first | done | with_reducible rfl)
           try simp only [List.getElem_toArray, List.getElem_cons_zero, List.getElem_cons_succ, Act.put, List.setIfInBounds_toArray, List.set_cons_zero, List.set_cons_succ])
        | (refine wpAnyH_take (i := 18) (v := ?_) rfl (by kernel_rfl) (by decide +kernel) (by decide +kernel) (fun _ _ _ h => h) (Or.inl ⟨by rfl, ?_⟩) (by assumption) ?_
           rotate_left
           · (intro w hSw; (try dsimp only at hSw); go_simp; first | done | with_reducible rfl)
           try simp only [List.getElem_toArray, List.getElem_cons_zero, List.getElem_cons_succ, Act.put, List.setIfInBounds_toArray, List.set_cons_zero, List.set_cons_succ])
        | (refine wpAnyH_ready (rs := [1, 14]) (by decide +kernel) (by simp) ?_
           refine AllReadyH.cons rfl (fun K hK => ?_) ?_
           (try clear hHeld)
           have k30 := v3.cell (i := 0) rfl
           go_simp
           clear k30
           refine hK.out _ _ (by exact ⟨UPc, v1.cell (i := 0) rfl, HE.out _ UPc⟩) (fun hHeld => ?_)
           clear hK K
           try simp only [List.getElem_toArray, List.getElem_cons_zero, List.getElem_cons_succ, Act.put, List.setIfInBounds_toArray, List.set_cons_zero, List.set_cons_succ]
           rotate_left
           refine AllReadyH.cons rfl (fun K hK => ?_) ?_
           (try clear hHeld)
           go_simp
           go_at_call 97
           refine (law_to_row G3.out UPc (Nat.le_trans HSX.out.1 (by omega))).mono ?_
           rintro e WD ⟨vv2, rfl, r2⟩
           have q2 := r2.world
           have r2w := r2.weaken (Up.refl w) UPc
           replace v1 := v1.up q2
           replace v2 := v2.up q2
           replace v3 := v3.up q2
           replace hrow := hrow.up2 q2
           (try replace hlet := hlet.up2 q2)
           replace UPc := UPc.trans q2
           clear q2 r2
           obtain ⟨WC, hWC⟩ : ∃ W, W = WD := ⟨_, rfl⟩
           subst hWC
           obtain ⟨C2, e2, rfl⟩ := r2w.form
           try go_wp2_with fail
           refine hK.out _ _ (by exact ⟨UPc, v1.cell (i := 0) rfl, HE.out _ UPc⟩) (fun hHeld => ?_)
           clear hK K
           try simp only [List.getElem_toArray, List.getElem_cons_zero, List.getElem_cons_succ, Act.put, List.setIfInBounds_toArray, List.set_cons_zero, List.set_cons_succ]
           rotate_left
           exact AllReadyH.nil)
        | (refine wpAnyH_ready (rs := [14]) (by decide +kernel) (by simp) ?_
           refine AllReadyH.cons rfl (fun K hK => ?_) ?_
           (try clear hHeld)
           go_simp
           go_at_call 97
           refine (law_to_row G3.out UPc (Nat.le_trans HSX.out.1 (by omega))).mono ?_
           rintro e WD ⟨vv2, rfl, r2⟩
           have q2 := r2.world
           have r2w := r2.weaken (Up.refl w) UPc
           replace v1 := v1.up q2
           replace v2 := v2.up q2
           replace v3 := v3.up q2
           replace hrow := hrow.up2 q2
           (try replace hlet := hlet.up2 q2)
           replace UPc := UPc.trans q2
           clear q2 r2
           obtain ⟨WC, hWC⟩ : ∃ W, W = WD := ⟨_, rfl⟩
           subst hWC
           obtain ⟨C2, e2, rfl⟩ := r2w.form
           try go_wp2_with fail
           refine hK.out _ _ (by exact ⟨UPc, v1.cell (i := 0) rfl, HE.out _ UPc⟩) (fun hHeld => ?_)
           clear hK K
           try simp only [List.getElem_toArray, List.getElem_cons_zero, List.getElem_cons_succ, Act.put, List.setIfInBounds_toArray, List.set_cons_zero, List.set_cons_succ]
           rotate_left
           exact AllReadyH.nil)
        | (refine wpAnyH_ready (rs := [1, 16]) (by decide +kernel) (by simp) ?_
           refine AllReadyH.cons rfl (fun K hK => ?_) ?_
           (try clear hHeld)
           have k30 := v3.cell (i := 0) rfl
           go_simp
           clear k30
           refine hK.out _ _ (by exact ⟨UPc, v1.cell (i := 0) rfl, HE.out _ UPc⟩) (fun hHeld => ?_)
           clear hK K
           try simp only [List.getElem_toArray, List.getElem_cons_zero, List.getElem_cons_succ, Act.put, List.setIfInBounds_toArray, List.set_cons_zero, List.set_cons_succ]
           rotate_left
           refine AllReadyH.cons rfl (fun K hK => ?_) ?_
           (try clear hHeld)
           go_simp
           have q2 := (Up.refl WC).alloc (.cells #[.string nm, .slice C2 x.length e2] 142)
           have hblk := heap_alloc_new WC (.cells #[.string nm, .slice C2 x.length e2] 142)
           replace r2w := r2w.up q2
           replace v1 := v1.up q2
           replace v2 := v2.up q2
           replace v3 := v3.up q2
           replace hrow := hrow.up2 q2
           (try replace hlet := hlet.up2 q2)
           replace UPc := UPc.trans q2
           clear q2
           generalize WC.alloc (.cells #[.string nm, .slice C2 x.length e2] 142) = WD at *
           generalize WC.heap.size = gB at *
           obtain ⟨WC, hWC⟩ : ∃ W, W = WD := ⟨_, rfl⟩
           subst hWC
           refine hK.out _ _ (by exact ⟨UPc, v1.cell (i := 0) rfl, HE.out _ UPc⟩) (fun hHeld => ?_)
           clear hK K
           try simp only [List.getElem_toArray, List.getElem_cons_zero, List.getElem_cons_succ, Act.put, List.setIfInBounds_toArray, List.set_cons_zero, List.set_cons_succ]
           rotate_left
           exact AllReadyH.nil)
        | (refine wpAnyH_ready (rs := [16]) (by decide +kernel) (by simp) ?_
           refine AllReadyH.cons rfl (fun K hK => ?_) ?_
           (try clear hHeld)
           go_simp
           have q2 := (Up.refl WC).alloc (.cells #[.string nm, .slice C2 x.length e2] 142)
           have hblk := heap_alloc_new WC (.cells #[.string nm, .slice C2 x.length e2] 142)
           replace r2w := r2w.up q2
           replace v1 := v1.up q2
           replace v2 := v2.up q2
           replace v3 := v3.up q2
           replace hrow := hrow.up2 q2
           (try replace hlet := hlet.up2 q2)
           replace UPc := UPc.trans q2
           clear q2
           generalize WC.alloc (.cells #[.string nm, .slice C2 x.length e2] 142) = WD at *
           generalize WC.heap.size = gB at *
           obtain ⟨WC, hWC⟩ : ∃ W, W = WD := ⟨_, rfl⟩
           subst hWC
           refine hK.out _ _ (by exact ⟨UPc, v1.cell (i := 0) rfl, HE.out _ UPc⟩) (fun hHeld => ?_)
           clear hK K
           try simp only [List.getElem_toArray, List.getElem_cons_zero, List.getElem_cons_succ, Act.put, List.setIfInBounds_toArray, List.set_cons_zero, List.set_cons_succ]
           rotate_left
           exact AllReadyH.nil)
        | (refine wpAnyH_ready (rs := [1]) (by decide +kernel) (by simp) ?_
           refine AllReadyH.cons rfl (fun K hK => ?_) ?_
           (try clear hHeld)
           have k30 := v3.cell (i := 0) rfl
           go_simp
           clear k30
           refine hK.out _ _ (by exact ⟨UPc, v1.cell (i := 0) rfl, HE.out _ UPc⟩) (fun hHeld => ?_)
           clear hK K
           try simp only [List.getElem_toArray, List.getElem_cons_zero, List.getElem_cons_succ, Act.put, List.setIfInBounds_toArray, List.set_cons_zero, List.set_cons_succ]
           rotate_left
           exact AllReadyH.nil)
        | (refine wpAnyH_ready (rs := [17]) (by decide +kernel) (by simp) ?_
           refine AllReadyH.cons rfl (fun K hK => ?_) ?_
           (try clear hHeld)
           refine step_row_l (w0 := w) (by rfl) _ _ (by rfl) (ls := F.lets.take k) (nm := nm) (x := x) (u := .slice C2 x.length e2) (by rfl) hrow (by rfl) hblk r2w (by rw [HLEN.out]; omega) ?_
           intro v' WD h5 gr5
           replace v1 := v1.grown gr5 (hrow.not v1 (by decide))
           replace v2 := v2.grown gr5 (hrow.not v2 (by decide))
           replace v3 := v3.grown gr5 (hrow.not v3 (by decide))
           rw [← HX.out] at h5
           replace UPc := h5.1
           clear gr5 hblk r2w
           replace hrow := h5
           clear h5
           obtain ⟨WC, hWC⟩ : ∃ W, W = WD := ⟨_, rfl⟩
           subst hWC
           refine hK.out _ _ (by exact ⟨UPc, v1.cell (i := 0) rfl, HE.out _ UPc⟩) (fun hHeld => ?_)
           clear hK K
           try simp only [List.getElem_toArray, List.getElem_cons_zero, List.getElem_cons_succ, Act.put, List.setIfInBounds_toArray, List.set_cons_zero, List.set_cons_succ]
           rotate_left
           exact AllReadyH.nil)
        | (refine wpAnyH_ready (rs := [19]) (by decide +kernel) (by simp) ?_
           refine AllReadyH.cons rfl (fun K hK => ?_) ?_
           (try clear hHeld)
           obtain ⟨A5, c5, rfl⟩ := hrow.form
           simp only [HLEN2.out] at hrow ⊢
           have k30 := v3.cell (i := 0) rfl
           have f30 := v3.free 0
           go_simp
           clear k30 f30
           have gs := grown_set WC (w.heap.size + 1 + 1) 0 (.slice A5 (k + 1) c5)
           replace hrow := hrow.kept v3 (by omega) (by decide) (by decide) gs
           replace v1 := vb_far (i := 0) v1 (show w.heap.size ≠ w.heap.size + 1 + 1 by omega) (.slice A5 (k + 1) c5)
           replace v2 := vb_far (i := 0) v2 (show w.heap.size + 1 ≠ w.heap.size + 1 + 1 by omega) (.slice A5 (k + 1) c5)
           replace v3 := v3.set 0 (.slice A5 (k + 1) c5)
           replace UPc := hrow.1
           refine hK.out _ _ (by exact ⟨UPc, v1.cell (i := 0) rfl, HE.out _ UPc⟩) (fun hHeld => ?_)
           clear hK K
           try simp only [List.getElem_toArray, List.getElem_cons_zero, List.getElem_cons_succ, Act.put, List.setIfInBounds_toArray, List.set_cons_zero, List.set_cons_succ]
           rotate_left
           exact AllReadyH.nil)
        | refine wpAnyH_done (by decide +kernel) (NoPanic.normal ?_) _
        | fail
      all_goals
        (try clear hHeld)
        go_wp2
        go_roundw
        case rel => exact ⟨k + 1, _, by go_num, by omega, v1, v2, v3, hrow⟩
        case measure => simp [intOf]; omega
    · obtain rfl : k = F.lets.length := by omega
      rw [List.take_length] at hrow
      obtain ⟨lA, lc, rfl⟩ := hrow.form
      have c11 := v1.cell (i := 1) rfl
      have V1 := Lib.hid v1
      have V2 := Lib.hid v2
      have V3 := Lib.hid v3
      have HL := Lib.hid hrow
      clear v1 v2 v3 hrow
      go_wp2
      clear c10 c11
      go_loopw [5] (fun s5 wr => ∃ (k : Nat) (ov : Value), s5 = .int .i64 k ∧ k ≤ F.outs.length ∧ VB 25 wr w.heap.size [.slice A F.lets.length c, .slice B F.outs.length d] ∧ VB 31 wr (w.heap.size + 1) [.slice none 0 0, .slice none 0 0] ∧ VB 31 wr (w.heap.size + 1 + 1) [.slice lA F.lets.length lc, ov] ∧ RowL w wr (.slice lA F.lets.length lc) F.lets ∧ RowO w wr ov (F.outs.take k)) (fun s5 _ => F.outs.length - (intOf s5).toNat)
      case atStart => exact ⟨0, _, rfl, Nat.zero_le _, V1.out, V2.out, V3.out, HL.out, HL.out.1, [], ⟨rfl, by simp⟩, World.ownsRow_nil _ w.heap.size _ 1⟩
      case round =>
        clear V1 V2 V3 HL
        obtain ⟨k, ov, rfl, hk, v1, v2, v3, hlet, hrow⟩ := hrel
        have c11 := v1.cell (i := 1) rfl
        by_cases hlt : k < F.outs.length
        · obtain ⟨b, o, u, rfl, hb, g2, g3⟩ := HB.out.at_ hlt
          have HX : Hid (F.outs.take (k + 1) = F.outs.take k ++ [F.outs[k]]) := Lib.hid (List.take_succ_eq_append_getElem hlt)
          have HSX := Lib.hid (HS.out.2.2.2 F.outs[k] (List.getElem_mem hlt))
          have HLEN : Hid ((F.outs.take k).length = k) := Lib.hid (by rw [List.length_take]; omega)
          have HLEN2 : Hid ((F.outs.take (k + 1)).length = k + 1) := Lib.hid (by rw [List.length_take]; omega)
          generalize F.outs[k] = x at *
          obtain ⟨C, e, rfl⟩ := g3.form
          obtain ⟨oA, oc, rfl⟩ := hrow.form
          rw [HLEN.out] at hrow v3
          have G3 := Lib.hid g3
          have k1 : (k : Int) < (F.outs.length : Int) := by omega
          have k0 : (0 : Int) ≤ (k : Int) := by omega
          have kk : ((k : Int)).toNat = k := by omega
          have HE : Hid (∀ w', Up w w' → w'.cell? ⟨b, o + k, none⟩ = some (.slice C x.length e)) := Lib.hid (fun w' hu => (hu.cell (p := ⟨b, o + k, none⟩) hb).trans g2)
          have UPc := hrow.1
          clear g2 g3
          go_wp2
          clear c11
          replace v1 := v1.up (Up.refl wr).drew
          replace v2 := v2.up (Up.refl wr).drew
          replace v3 := v3.up (Up.refl wr).drew
          replace hrow := hrow.up2 (Up.refl wr).drew
          (try replace hlet := hlet.up2 (Up.refl wr).drew)
          replace UPc := UPc.trans (Up.refl wr).drew
          refine wp_region_noPanic ?_
          refine wp_region_held_drew (S := fun w' => Up w w' ∧ w'.cell? ⟨w.heap.size, 1, none⟩ = some (.slice (some ⟨b, o, none⟩) F.outs.length d) ∧ w'.cell? ⟨b, o + k, none⟩ = some (.slice C x.length e)) (by kernel_rfl) (by exact ⟨UPc, v1.cell (i := 1) rfl, HE.out _ UPc⟩) (fun hHeld => ?_)
          clear hHeld
          generalize wr.drew = WC at *
          have hHeld : Up w WC ∧ WC.cell? ⟨w.heap.size, 1, none⟩ = some (.slice (some ⟨b, o, none⟩) F.outs.length d) ∧ WC.cell? ⟨b, o + k, none⟩ = some (.slice C x.length e) := ⟨UPc, v1.cell (i := 1) rfl, HE.out _ UPc⟩
          refine wpAnyH_take (i := 0) (v := ?_) rfl (by kernel_rfl) (by decide +kernel) (by decide +kernel) (fun _ _ _ h => h) (Or.inl ⟨by rfl, ?_⟩) (by assumption) ?_
          rotate_left
          · (intro w hSw; (try dsimp only at hSw); go_simp; first | done | with_reducible rfl)
          try simp only [List.getElem_toArray, List.getElem_cons_zero, List.getElem_cons_succ, Act.put, List.setIfInBounds_toArray, List.set_cons_zero, List.set_cons_succ]
          refine wpAnyH_take (i := 2) (v := ?_) rfl (by kernel_rfl) (by decide +kernel) (by decide +kernel) (fun _ _ _ h => h) (Or.inl ⟨by rfl, ?_⟩) (by assumption) ?_
          rotate_left
          · (intro w hSw; (try dsimp only at hSw); go_simp; first | done | with_reducible rfl)
          try simp only [List.getElem_toArray, List.getElem_cons_zero, List.getElem_cons_succ, Act.put, List.setIfInBounds_toArray, List.set_cons_zero, List.set_cons_succ]
          refine wpAnyH_take (i := 3) (v := ?_) rfl (by kernel_rfl) (by decide +kernel) (by decide +kernel) (fun _ _ _ h => h) (Or.inl ⟨by rfl, ?_⟩) (by assumption) ?_
          rotate_left
          · (intro w hSw; (try dsimp only at hSw); go_simp; first | done | with_reducible rfl)
          try simp only [List.getElem_toArray, List.getElem_cons_zero, List.getElem_cons_succ, Act.put, List.setIfInBounds_toArray, List.set_cons_zero, List.set_cons_succ]
          refine wpAnyH_take (i := 4) (v := ?_) rfl (by kernel_rfl) (by decide +kernel) (by decide +kernel) (fun _ _ _ h => h) (Or.inl ⟨by rfl, ?_⟩) (by assumption) ?_
          rotate_left
          · (intro w hSw; (try dsimp only at hSw); go_simp; first | done | with_reducible rfl)
          try simp only [List.getElem_toArray, List.getElem_cons_zero, List.getElem_cons_succ, Act.put, List.setIfInBounds_toArray, List.set_cons_zero, List.set_cons_succ]
          refine wpAnyH_take (i := 5) (v := ?_) rfl (by kernel_rfl) (by decide +kernel) (by decide +kernel) (fun _ _ _ h => h) (Or.inl ⟨by rfl, ?_⟩) (by assumption) ?_
          rotate_left
          · (intro w hSw; (try dsimp only at hSw); go_simp; first | done | with_reducible rfl)
          try simp only [List.getElem_toArray, List.getElem_cons_zero, List.getElem_cons_succ, Act.put, List.setIfInBounds_toArray, List.set_cons_zero, List.set_cons_succ]
          refine wpAnyH_take (i := 6) (v := ?_) rfl (by kernel_rfl) (by decide +kernel) (by decide +kernel) (fun _ _ _ h => h) (Or.inl ⟨by rfl, ?_⟩) (by assumption) ?_
          rotate_left
          · (intro w hSw; (try dsimp only at hSw); go_simp; first | done | with_reducible rfl)
          try simp only [List.getElem_toArray, List.getElem_cons_zero, List.getElem_cons_succ, Act.put, List.setIfInBounds_toArray, List.set_cons_zero, List.set_cons_succ]
          repeat' first
            | (refine wpAnyH_take (i := 10) (v := ?_) rfl (by kernel_rfl) (by decide +kernel) (by decide +kernel) (fun _ _ _ h => h) (Or.inl ⟨by rfl, ?_⟩) (by assumption) ?_
               rotate_left
               · (intro w hSw; (try dsimp only at hSw); go_simp; first | done | with_reducible rfl)
               try simp only [List.getElem_toArray, List.getElem_cons_zero, List.getElem_cons_succ, Act.put, List.setIfInBounds_toArray, List.set_cons_zero, List.set_cons_succ])
            | (refine wpAnyH_ready (rs := [1, 7]) (by decide +kernel) (by simp) ?_
               refine AllReadyH.cons rfl (fun K hK => ?_) ?_
               (try clear hHeld)
               have k30 := v3.cell (i := 1) rfl
               go_simp
               clear k30
               refine hK.out _ _ (by exact ⟨UPc, v1.cell (i := 1) rfl, HE.out _ UPc⟩) (fun hHeld => ?_)
               clear hK K
               try simp only [List.getElem_toArray, List.getElem_cons_zero, List.getElem_cons_succ, Act.put, List.setIfInBounds_toArray, List.set_cons_zero, List.set_cons_succ]
               rotate_left
               refine AllReadyH.cons rfl (fun K hK => ?_) ?_
               (try clear hHeld)
               go_simp
               go_at_call 97
               refine (law_to_row G3.out UPc (Nat.le_trans HSX.out.1 (by omega))).mono ?_
               rintro e WD ⟨vv2, rfl, r2⟩
               have q2 := r2.world
               have r2w := r2.weaken (Up.refl w) UPc
               replace v1 := v1.up q2
               replace v2 := v2.up q2
               replace v3 := v3.up q2
               replace hrow := hrow.up2 q2
               (try replace hlet := hlet.up2 q2)
               replace UPc := UPc.trans q2
               clear q2 r2
               obtain ⟨WC, hWC⟩ : ∃ W, W = WD := ⟨_, rfl⟩
               subst hWC
               obtain ⟨C2, e2, rfl⟩ := r2w.form
               try go_wp2_with fail
               refine hK.out _ _ (by exact ⟨UPc, v1.cell (i := 1) rfl, HE.out _ UPc⟩) (fun hHeld => ?_)
               clear hK K
               try simp only [List.getElem_toArray, List.getElem_cons_zero, List.getElem_cons_succ, Act.put, List.setIfInBounds_toArray, List.set_cons_zero, List.set_cons_succ]
               rotate_left
               exact AllReadyH.nil)
            | (refine wpAnyH_ready (rs := [7]) (by decide +kernel) (by simp) ?_
               refine AllReadyH.cons rfl (fun K hK => ?_) ?_
               (try clear hHeld)
               go_simp
               go_at_call 97
               refine (law_to_row G3.out UPc (Nat.le_trans HSX.out.1 (by omega))).mono ?_
               rintro e WD ⟨vv2, rfl, r2⟩
               have q2 := r2.world
               have r2w := r2.weaken (Up.refl w) UPc
               replace v1 := v1.up q2
               replace v2 := v2.up q2
               replace v3 := v3.up q2
               replace hrow := hrow.up2 q2
               (try replace hlet := hlet.up2 q2)
               replace UPc := UPc.trans q2
               clear q2 r2
               obtain ⟨WC, hWC⟩ : ∃ W, W = WD := ⟨_, rfl⟩
               subst hWC
               obtain ⟨C2, e2, rfl⟩ := r2w.form
               try go_wp2_with fail
               refine hK.out _ _ (by exact ⟨UPc, v1.cell (i := 1) rfl, HE.out _ UPc⟩) (fun hHeld => ?_)
               clear hK K
               try simp only [List.getElem_toArray, List.getElem_cons_zero, List.getElem_cons_succ, Act.put, List.setIfInBounds_toArray, List.set_cons_zero, List.set_cons_succ]
               rotate_left
               exact AllReadyH.nil)
            | (refine wpAnyH_ready (rs := [1, 8]) (by decide +kernel) (by simp) ?_
               refine AllReadyH.cons rfl (fun K hK => ?_) ?_
               (try clear hHeld)
               have k30 := v3.cell (i := 1) rfl
               go_simp
               clear k30
               refine hK.out _ _ (by exact ⟨UPc, v1.cell (i := 1) rfl, HE.out _ UPc⟩) (fun hHeld => ?_)
               clear hK K
               try simp only [List.getElem_toArray, List.getElem_cons_zero, List.getElem_cons_succ, Act.put, List.setIfInBounds_toArray, List.set_cons_zero, List.set_cons_succ]
               rotate_left
               refine AllReadyH.cons rfl (fun K hK => ?_) ?_
               (try clear hHeld)
               go_simp
               have q2 := (Up.refl WC).alloc (.cells #[.slice C2 x.length e2] 38)
               have hblk := heap_alloc_new WC (.cells #[.slice C2 x.length e2] 38)
               replace r2w := r2w.up q2
               replace v1 := v1.up q2
               replace v2 := v2.up q2
               replace v3 := v3.up q2
               replace hrow := hrow.up2 q2
               (try replace hlet := hlet.up2 q2)
               replace UPc := UPc.trans q2
               clear q2
               generalize WC.alloc (.cells #[.slice C2 x.length e2] 38) = WD at *
               generalize WC.heap.size = gB at *
               obtain ⟨WC, hWC⟩ : ∃ W, W = WD := ⟨_, rfl⟩
               subst hWC
               refine hK.out _ _ (by exact ⟨UPc, v1.cell (i := 1) rfl, HE.out _ UPc⟩) (fun hHeld => ?_)
               clear hK K
               try simp only [List.getElem_toArray, List.getElem_cons_zero, List.getElem_cons_succ, Act.put, List.setIfInBounds_toArray, List.set_cons_zero, List.set_cons_succ]
               rotate_left
               exact AllReadyH.nil)
            | (refine wpAnyH_ready (rs := [8]) (by decide +kernel) (by simp) ?_
               refine AllReadyH.cons rfl (fun K hK => ?_) ?_
               (try clear hHeld)
               go_simp
               have q2 := (Up.refl WC).alloc (.cells #[.slice C2 x.length e2] 38)
               have hblk := heap_alloc_new WC (.cells #[.slice C2 x.length e2] 38)
               replace r2w := r2w.up q2
               replace v1 := v1.up q2
               replace v2 := v2.up q2
               replace v3 := v3.up q2
               replace hrow := hrow.up2 q2
               (try replace hlet := hlet.up2 q2)
               replace UPc := UPc.trans q2
               clear q2
               generalize WC.alloc (.cells #[.slice C2 x.length e2] 38) = WD at *
               generalize WC.heap.size = gB at *
               obtain ⟨WC, hWC⟩ : ∃ W, W = WD := ⟨_, rfl⟩
               subst hWC
               refine hK.out _ _ (by exact ⟨UPc, v1.cell (i := 1) rfl, HE.out _ UPc⟩) (fun hHeld => ?_)
               clear hK K
               try simp only [List.getElem_toArray, List.getElem_cons_zero, List.getElem_cons_succ, Act.put, List.setIfInBounds_toArray, List.set_cons_zero, List.set_cons_succ]
               rotate_left
               exact AllReadyH.nil)
            | (refine wpAnyH_ready (rs := [1]) (by decide +kernel) (by simp) ?_
               refine AllReadyH.cons rfl (fun K hK => ?_) ?_
               (try clear hHeld)
               have k30 := v3.cell (i := 1) rfl
               go_simp
               clear k30
               refine hK.out _ _ (by exact ⟨UPc, v1.cell (i := 1) rfl, HE.out _ UPc⟩) (fun hHeld => ?_)
               clear hK K
               try simp only [List.getElem_toArray, List.getElem_cons_zero, List.getElem_cons_succ, Act.put, List.setIfInBounds_toArray, List.set_cons_zero, List.set_cons_succ]
               rotate_left
               exact AllReadyH.nil)
            | (refine wpAnyH_ready (rs := [9]) (by decide +kernel) (by simp) ?_
               refine AllReadyH.cons rfl (fun K hK => ?_) ?_
               (try clear hHeld)
               refine step_row_o (w0 := w) (by rfl) _ _ (by rfl) (ls := F.outs.take k) (x := x) (u := .slice C2 x.length e2) (by rfl) hrow (by rfl) hblk r2w (by rw [HLEN.out]; omega) ?_
               intro v' WD h5 gr5
               replace v1 := v1.grown gr5 (hrow.not v1 (by decide))
               replace v2 := v2.grown gr5 (hrow.not v2 (by decide))
               replace v3 := v3.grown gr5 (hrow.not v3 (by decide))
               replace hlet := hlet.other hrow gr5
               rw [← HX.out] at h5
               replace UPc := h5.1
               clear gr5 hblk r2w
               replace hrow := h5
               clear h5
               obtain ⟨WC, hWC⟩ : ∃ W, W = WD := ⟨_, rfl⟩
               subst hWC
               refine hK.out _ _ (by exact ⟨UPc, v1.cell (i := 1) rfl, HE.out _ UPc⟩) (fun hHeld => ?_)
               clear hK K
               try simp only [List.getElem_toArray, List.getElem_cons_zero, List.getElem_cons_succ, Act.put, List.setIfInBounds_toArray, List.set_cons_zero, List.set_cons_succ]
               rotate_left
               exact AllReadyH.nil)
            | (refine wpAnyH_ready (rs := [11]) (by decide +kernel) (by simp) ?_
               refine AllReadyH.cons rfl (fun K hK => ?_) ?_
               (try clear hHeld)
               obtain ⟨A5, c5, rfl⟩ := hrow.form
               simp only [HLEN2.out] at hrow ⊢
               have k30 := v3.cell (i := 1) rfl
               have f30 := v3.free 1
               go_simp
               clear k30 f30
               have gs := grown_set WC (w.heap.size + 1 + 1) 1 (.slice A5 (k + 1) c5)
               replace hrow := hrow.kept v3 (by omega) (by decide) (by decide) gs
               replace hlet := hlet.kept v3 (by omega) (by decide) (by decide) gs
               replace v1 := vb_far (i := 1) v1 (show w.heap.size ≠ w.heap.size + 1 + 1 by omega) (.slice A5 (k + 1) c5)
               replace v2 := vb_far (i := 1) v2 (show w.heap.size + 1 ≠ w.heap.size + 1 + 1 by omega) (.slice A5 (k + 1) c5)
               replace v3 := v3.set 1 (.slice A5 (k + 1) c5)
               replace UPc := hrow.1
               refine hK.out _ _ (by exact ⟨UPc, v1.cell (i := 1) rfl, HE.out _ UPc⟩) (fun hHeld => ?_)
               clear hK K
               try simp only [List.getElem_toArray, List.getElem_cons_zero, List.getElem_cons_succ, Act.put, List.setIfInBounds_toArray, List.set_cons_zero, List.set_cons_succ]
               rotate_left
               exact AllReadyH.nil)
            | refine wpAnyH_done (by decide +kernel) (NoPanic.normal ?_) _
            | fail
          all_goals
            (try clear hHeld)
            go_wp2
            go_roundw
            case rel => exact ⟨k + 1, _, by go_num, by omega, v1, v2, v3, hlet, hrow⟩
            case measure => simp [intOf]; omega
        · obtain rfl : k = F.outs.length := by omega
          rw [List.take_length] at hrow
          obtain ⟨oA, oc, rfl⟩ := hrow.form
          have c30 := v3.cell (i := 0) rfl
          have c31 := v3.cell (i := 1) rfl
          have f20 := v2.free 0
          have f21 := v2.free 1
          have c20 := v2.cell (i := 0) rfl
          have c21 := v2.cell (i := 1) rfl
          go_wp2
          exact end_field rfl rfl rfl hlet hrow v2 (by omega)
end Go.Proofs.Ytmmcffceeahemaa
