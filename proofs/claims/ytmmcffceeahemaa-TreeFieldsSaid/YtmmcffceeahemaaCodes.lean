/-
  Layer 17: rows of expressions; a field's expressions, as the document has them.
-/
import Derived.Test.YtmmcffceeahemaaField
set_option linter.unusedVariables false
set_option linter.unusedSimpArgs false
namespace Go.Proofs.Ytmmcffceeahemaa
open Go.RowKit

/-- Expressions: older than a world, or the call's own. -/
def ElB (P : Prop) (T : TypeId) (w0 w : World) (ls : List (List Tr.Nd)) (us : List Value) : Prop :=
  us.length = ls.length ∧ ∀ (j : Nat) l u, ls[j]? = some l → us[j]? = some u → (P ∧ Nds w0 u l) ∨ Row False T w0 w u l
theorem Row.kept {T : TypeId} {w0 w w' : World} {v : Value} {l : List Tr.Nd} {row : Option Nat} (h : Row False T w0 w v l) (hg : w.grownBy w' row) (hr : ∀ k, row = some k → w0.heap.size ≤ k) (hne : v.ownBlock = none ∨ v.ownBlock ≠ row)
    (hnu : ∀ (u : Value) n xs, w.ownsRow w0.heap.size 150 1 u n xs → u.ownBlock = none ∨ u.ownBlock ≠ row) : Row False T w0 w' v l := by
  obtain ⟨h0, hu, us, hn, hown⟩ := h
  exact ⟨h0, hu.grown hg hr, us, hn.kept hg hnu, hown.kept hg hne⟩
theorem ElB.nds {P : Prop} {T : TypeId} {w0 w : World} {ls : List (List Tr.Nd)} {us : List Value} (h : ElB P T w0 w ls us) (hu : Up w0 w) {j : Nat} {l : List Tr.Nd} {u : Value} (h1 : ls[j]? = some l) (h2 : us[j]? = some u) : Nds w u l :=
  (h.2 j l u h1 h2).elim (fun h => h.2.up hu) Row.nds
theorem ElB.append {P : Prop} {T : TypeId} {w0 w : World} {l m : List (List Tr.Nd)} {us vs : List Value} (h : ElB P T w0 w l us) (k : ElB P T w0 w m vs) : ElB P T w0 w (l ++ m) (us ++ vs) := by
  refine ⟨by simp [h.1, k.1], fun j y v h1 h2 => ?_⟩
  by_cases hj : j < l.length
  · rw [List.getElem?_append_left hj] at h1
    rw [List.getElem?_append_left (by rw [h.1]; exact hj)] at h2
    exact h.2 j y v h1 h2
  · rw [List.getElem?_append_right (by omega)] at h1
    rw [List.getElem?_append_right (by rw [h.1]; omega), h.1] at h2
    exact k.2 _ y v h1 h2
theorem ElB.one_old {T : TypeId} {w0 w : World} {l : List Tr.Nd} {u : Value} (h : Nds w0 u l) : ElB True T w0 w [l] [u] := ⟨rfl, fun j y v h1 h2 => by
  match j with
  | 0 => simp at h1 h2; subst h1 h2; exact .inl ⟨trivial, h⟩
  | j + 1 => simp at h1⟩
theorem ElB.one_own {P : Prop} {T : TypeId} {w0 w : World} {l : List Tr.Nd} {u : Value} (h : Row False T w0 w u l) : ElB P T w0 w [l] [u] := ⟨rfl, fun j y v h1 h2 => by
  match j with
  | 0 => simp at h1 h2; subst h1 h2; exact .inr h
  | j + 1 => simp at h1⟩
theorem ElB.oneCell {P : Prop} {T : TypeId} {w0 w : World} {ls : List (List Tr.Nd)} {us : List Value} (h : ElB P T w0 w ls us) (hu : Up w0 w) : ∀ u ∈ us, u.oneCell' = true := by
  intro u hu'
  obtain ⟨j, hj⟩ := List.getElem?_of_mem hu'
  have hjl : j < ls.length := by rw [← h.1]; exact (List.getElem?_eq_some_iff.1 hj).1
  obtain ⟨A, c, e⟩ := (h.nds hu (List.getElem?_eq_getElem hjl) hj).form
  rw [e]
  rfl
/-- A row of expressions of the call's own. -/
def RowS (P : Prop) (TS T : TypeId) (w0 w : World) (v : Value) (ls : List (List Tr.Nd)) : Prop :=
  Up w0 w ∧ ∃ us, ElB P T w0 w ls us ∧ w.ownsRow w0.heap.size TS 1 v ls.length us
theorem RowS.world {P : Prop} {TS T : TypeId} {w0 w : World} {v : Value} {ls : List (List Tr.Nd)} (h : RowS P TS T w0 w v ls) : Up w0 w := h.1
theorem RowS.none_ {P : Prop} (TS T : TypeId) (w : World) : RowS P TS T w w (.slice none 0 0) [] := ⟨Up.refl w, [], ⟨rfl, by simp⟩, World.ownsRow_nil w w.heap.size TS 1⟩
theorem RowS.ndss {P : Prop} {TS T : TypeId} {w0 w : World} {v : Value} {ls : List (List Tr.Nd)} (h : RowS P TS T w0 w v ls) : Ndss w v ls := by
  obtain ⟨hu, us, he, hown⟩ := h
  obtain ⟨A, c, rfl, h1, h2⟩ := own_form hown
  exact ⟨A, c, us, rfl, h1, h2, he.1, RdV.of_own hown, fun i u l h1 h2 => he.nds hu h2 h1⟩
theorem ElB.kept {P : Prop} {TS T : TypeId} {w0 w w' : World} {ls : List (List Tr.Nd)} {us : List Value} (hT : TS ≠ T) (hU : 150 ≠ TS) {v : Value} {n : Nat} {xs : List Value} (hrow : w.ownsRow w0.heap.size TS 1 v n xs) (h : ElB P T w0 w ls us) (hg : w.grownBy w' v.ownBlock) : ElB P T w0 w' ls us :=
  ⟨h.1, fun j l u h1 h2 => (h.2 j l u h1 h2).elim .inl (fun hr => .inr (hr.kept hg (fun k hk => (hrow.lt k hk).1) (by
    obtain ⟨_, _, us', _, ho⟩ := hr
    exact own_types (Ne.symm hT) ho hrow) (fun u n xs hh => own_types hU hh hrow)))⟩
theorem RowS.up {P : Prop} {TS T : TypeId} {w0 w w' : World} {v : Value} {ls : List (List Tr.Nd)} (h : RowS P TS T w0 w v ls) (hu : Up w w') : RowS P TS T w0 w' v ls := by
  obtain ⟨h1, us, he, hown⟩ := h
  exact ⟨h1.trans hu, us, ⟨he.1, fun j l u h2 h3 => (he.2 j l u h2 h3).elim .inl (fun hr => .inr (hr.up hu))⟩, own_made hown ⟨hu.os, hu.tape, hu.output, hu.size, fun k hk _ => hu.block k hk⟩⟩

theorem info_rnodes : (Try.prog.info? 36).map (fun i => (i.zero, i.size, i.bytes)) = some (some (.slice none 0 0), 1, 24) := by kernel_rfl
/-- 'append(v, x...)' of expressions onto a row of the call's own. -/
theorem wl_append_st {P : Prop} {w0 w : World} {ops : Array Oper} {rest : List Oper} {o : Oper} {a : Act} {Q : Exit → Act → World → Prop} (hgd : o.guard = none) (s x : Operand)
    (ho : o.op = .call { callee := .builtin .append, args := #[s, x], argTypes := #[29, 29] })
    {v : Value} {ls : List (List Tr.Nd)} (hs : a.eval s = v) (hown : RowS P 38 135 w0 w v ls)
    {A : Option Addr} {m c : Nat} {ks : List (List Tr.Nd)} {vs : List Value} (hx : a.eval x = .slice A m c) (hr : RdV w A vs) (hn : ElB P 135 w0 w ks vs) (hm : ks.length = m) (hb : ls.length + m ≤ 400000000)
    (h : ∀ v' w', RowS P 38 135 w0 w' v' (ls ++ ks) → wpList Try.prog ops Q rest (a.put o.dst v') w') : wpList Try.prog ops Q (o :: rest) a w := by
  obtain ⟨hu, us, hn0, hrow⟩ := hown
  refine wl_append_any hgd s x 29 ho w0.heap.size 38 Try.underlying29 info_tnodes rfl (by omega) hs hrow hx hr (by rw [hn.1, hm, Nat.mul_one]) (hn.oneCell hu) (by unfold maxLen; omega) (by omega) hu.size ?_
  intro v' w' h1 h2
  have hu2 : Up w0 w' := hu.grown h2 (fun k hk => (hrow.lt k hk).1)
  have k0 := ElB.kept (by decide : (38 : Nat) ≠ 135) (by decide : (150 : Nat) ≠ 38) hrow hn0 h2
  have k1 := ElB.kept (by decide : (38 : Nat) ≠ 135) (by decide : (150 : Nat) ≠ 38) hrow hn h2
  refine h v' w' ⟨hu2, us ++ vs, k0.append k1, ?_⟩
  rw [List.length_append, hm]
  exact h1
theorem wl_append_sr {P : Prop} {w0 w : World} {ops : Array Oper} {rest : List Oper} {o : Oper} {a : Act} {Q : Exit → Act → World → Prop} (hgd : o.guard = none) (s x : Operand)
    (ho : o.op = .call { callee := .builtin .append, args := #[s, x], argTypes := #[23, 23] })
    {v : Value} {ls : List (List Tr.Nd)} (hs : a.eval s = v) (hown : RowS P 36 144 w0 w v ls)
    {A : Option Addr} {m c : Nat} {ks : List (List Tr.Nd)} {vs : List Value} (hx : a.eval x = .slice A m c) (hr : RdV w A vs) (hn : ElB P 144 w0 w ks vs) (hm : ks.length = m) (hb : ls.length + m ≤ 400000000)
    (h : ∀ v' w', RowS P 36 144 w0 w' v' (ls ++ ks) → wpList Try.prog ops Q rest (a.put o.dst v') w') : wpList Try.prog ops Q (o :: rest) a w := by
  obtain ⟨hu, us, hn0, hrow⟩ := hown
  refine wl_append_any hgd s x 23 ho w0.heap.size 36 Try.underlying23 info_rnodes rfl (by omega) hs hrow hx hr (by rw [hn.1, hm, Nat.mul_one]) (hn.oneCell hu) (by unfold maxLen; omega) (by omega) hu.size ?_
  intro v' w' h1 h2
  have hu2 : Up w0 w' := hu.grown h2 (fun k hk => (hrow.lt k hk).1)
  have k0 := ElB.kept (by decide : (36 : Nat) ≠ 144) (by decide : (150 : Nat) ≠ 36) hrow hn0 h2
  have k1 := ElB.kept (by decide : (36 : Nat) ≠ 144) (by decide : (150 : Nat) ≠ 36) hrow hn h2
  refine h v' w' ⟨hu2, us ++ vs, k0.append k1, ?_⟩
  rw [List.length_append, hm]
  exact h1
/-- A block of one value that was just laid. -/
theorem one_new (w : World) (u : Value) (T : TypeId) : RdV (w.alloc (.cells #[u] T)) (some ⟨w.heap.size, 0, none⟩) [u] := fun _ => by
  refine ⟨w.heap.size, 0, rfl, by simp, fun j v hj => ?_⟩
  rw [Nat.zero_add, cell_of_row _ _ j _ _ (0, 0) (heap_alloc_new w _)]
  simpa using hj

set_option maxRecDepth 100000 in
set_option maxHeartbeats 3200000 in
theorem ref_codes {v : Value} {F : Tr.Fd} {w : World} (h : Fld w v F) (hl : F.lets.length ≤ 1000000) (hm : F.outs.length ≤ 1000000) :
    Calls Try.prog 18 #[v] w (RetP F.codes w) := by
  obtain ⟨a, b, rfl, ha, hb⟩ := h
  obtain ⟨A, c, rfl⟩ := ha.form
  obtain ⟨B, d, rfl⟩ := hb.form
  obtain ⟨L, O⟩ := F
  simp only at ha hb hl hm ⊢
  have hA := Lib.hid (ha.up ((Up.refl w).alloc (.cells #[.slice A L.length c, .slice B O.length d] 25)))
  have hB := Lib.hid (hb.up ((Up.refl w).alloc (.cells #[.slice A L.length c, .slice B O.length d] 25)))
  have u0 : Up w (w.alloc (.cells #[.slice A L.length c, .slice B O.length d] 25)) := (Up.refl w).alloc _
  have c0 : (w.alloc (.cells #[.slice A L.length c, .slice B O.length d] 25)).cell? ⟨w.heap.size, 0, none⟩ = some (.slice A L.length c) := by rw [cell_of_row _ _ _ _ _ (0, 0) (heap_alloc_new w _)]; rfl
  have c1 : (w.alloc (.cells #[.slice A L.length c, .slice B O.length d] 25)).cell? ⟨w.heap.size, 1, none⟩ = some (.slice B O.length d) := by rw [cell_of_row _ _ _ _ _ (0, 0) (heap_alloc_new w _)]; rfl
  clear ha hb
  go_enter Try.func18, Try.ntmps18
  go_wp2
  generalize w.alloc (.cells #[.slice A L.length c, .slice B O.length d] 25) = W at *
  have C0 := Lib.hid c0
  have C1 := Lib.hid c1
  have hz := World.block_lt_of_cell? W _ c0
  clear c0 c1
  go_loopw [3, 4] (fun s3 s4 wr => ∃ k : Nat, s4 = .int .i64 k ∧ k ≤ L.length ∧ RowS True 36 144 W wr s3 ((L.take k).map (·.2))) (fun _ s4 _ => L.length - (intOf s4).toNat)
  case atStart => exact ⟨0, rfl, Nat.zero_le _, RowS.none_ _ _ _⟩
  case round =>
    obtain ⟨k, rfl, hk, hrow⟩ := hrel
    have c0 := (hrow.world.cell (p := ⟨w.heap.size, 0, none⟩) hz).trans C0.out
    have c1 := (hrow.world.cell (p := ⟨w.heap.size, 1, none⟩) hz).trans C1.out
    by_cases hlt : k < L.length
    · obtain ⟨b, o, u, rfl, hb, g1, g2, g3⟩ := hA.out.at_ hlt
      have g2 := (hrow.world.cell (p := ⟨b, o + k * 2 + 1, none⟩) hb).trans g2
      have HTK : Hid ((L.take (k + 1)).map (·.2) = (L.take k).map (·.2) ++ [L[k].2]) := Lib.hid (by rw [List.take_succ_eq_append_getElem hlt, List.map_append]; rfl)
      have hlen : ((L.take k).map (·.2)).length = k := by rw [List.length_map, List.length_take]; omega
      have HLEN := Lib.hid hlen
      clear g1 hlen
      generalize L[k].2 = x at *
      obtain ⟨C, e, rfl⟩ := g3.form
      go_wp2_with (at_builtin; refine wl_append_sr rfl (.tmp 12) (.tmp 19) rfl rfl (hrow.up ((Up.refl _).alloc _)) (ks := [x]) (vs := [.slice C x.length e]) rfl (one_new wr _ _) (ElB.one_old g3) rfl (by have := HLEN.out; omega) ?_; intro v' w' h')
      rw [← HTK.out] at h'
      refine ⟨⟨k + 1, by go_num, by omega, h'⟩, by simp [intOf]; omega⟩
    · obtain rfl : k = L.length := by omega
      rw [List.take_length] at hrow
      obtain ⟨vs, hvs, hrd⟩ : ∃ vs, ElB True 144 W wr O vs ∧ RdV W B vs := by
        obtain ⟨_, _, vs, e, _, _, h4, h5, h6⟩ := hB.out
        cases e
        exact ⟨vs, ⟨h4, fun j l u h1 h2 => .inl ⟨trivial, h6 j u l h2 h1⟩⟩, h5⟩
      have HVS := Lib.hid hvs
      have HRD := Lib.hid (hrd.up hrow.world)
      clear hvs hrd
      go_wp2_with (at_builtin; refine wl_append_sr rfl (.tmp 21) (.tmp 23) rfl rfl hrow (ks := O) (vs := vs) rfl HRD.out HVS.out rfl (by simp only [List.length_map]; omega) ?_; intro v' w' h')
      go_ret
      exact ⟨_, rfl, h'.ndss, u0.trans h'.world⟩
end Go.Proofs.Ytmmcffceeahemaa
