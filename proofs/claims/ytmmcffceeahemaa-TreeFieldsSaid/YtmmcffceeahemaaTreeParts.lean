/-
  The walks of layer 17: operands.
-/
import Derived.Test.YtmmcffceeahemaaTreeDepth
import Derived.Test.YtmmcffceeahemaaLowQuot
set_option linter.unusedVariables false
set_option linter.unusedSimpArgs false
namespace Go.Proofs.Ytmmcffceeahemaa
open Go.RowKit

/-- A slice of slices of nodes. -/
def Ndss (w : World) (v : Value) (ls : List (List Tr.Nd)) : Prop :=
  ∃ A c vs, v = .slice A ls.length c ∧ ls.length ≤ c ∧ c ≤ maxLen ∧ vs.length = ls.length ∧ RdV w A vs ∧ ∀ (i : Nat) u l, vs[i]? = some u → ls[i]? = some l → Nds w u l
theorem Ndss.up {w w' : World} {v : Value} {ls : List (List Tr.Nd)} (h : Ndss w v ls) (hu : Up w w') : Ndss w' v ls := by
  obtain ⟨A, c, vs, h1, h2, h3, h4, h5, h6⟩ := h
  exact ⟨A, c, vs, h1, h2, h3, h4, h5.up hu, fun i u l hu' hl => (h6 i u l hu' hl).up hu⟩
theorem Ndss.form {w : World} {v : Value} {ls : List (List Tr.Nd)} (h : Ndss w v ls) : ∃ A c, v = .slice A ls.length c := by obtain ⟨A, c, vs, h, _⟩ := h; exact ⟨A, c, h⟩
theorem Ndss.at_ {w : World} {A : Option Addr} {n c : Nat} {ls : List (List Tr.Nd)} (h : Ndss w (.slice A n c) ls) {k : Nat} (hk : k < ls.length) :
    ∃ b o u, A = some ⟨b, o, none⟩ ∧ b < w.heap.size ∧ w.cell? ⟨b, o + k, none⟩ = some u ∧ Nds w u ls[k] := by
  obtain ⟨A', c', vs, e, h2, h3, h4, h5, h6⟩ := h
  cases e
  have hkv : k < vs.length := by omega
  obtain ⟨b, o, h1, h2, h3⟩ := h5.at_ (List.getElem?_eq_getElem hkv)
  exact ⟨b, o, vs[k], h1, h2, h3, h6 k _ _ (List.getElem?_eq_getElem hkv) (List.getElem?_eq_getElem hk)⟩
/-- A block of slices that is known whole. -/
def VB (T : TypeId) (w : World) (g : Nat) (vs : List Value) : Prop := w.heap[g]? = some (.cells vs.toArray T (0, 0))
theorem VB.lt {T : TypeId} {w : World} {g : Nat} {vs : List Value} (h : VB T w g vs) : g < w.heap.size := (Array.getElem?_eq_some_iff.1 h).1
theorem VB.cell {T : TypeId} {w : World} {g : Nat} {vs : List Value} (h : VB T w g vs) {i : Nat} {u : Value} (hi : vs[i]? = some u) : w.cell? ⟨g, i, none⟩ = some u := by
  rw [cell_of_row w g i _ _ (0, 0) h]
  simpa using hi
theorem VB.free {T : TypeId} {w : World} {g : Nat} {vs : List Value} (h : VB T w g vs) (i : Nat) : w.frozen? ⟨g, i, none⟩ = false := by
  unfold VB at h
  simp [World.frozen?, h]
theorem VB.set {T : TypeId} {w : World} {g : Nat} {vs : List Value} (h : VB T w g vs) (i : Nat) (u : Value) : VB T (w.setCell ⟨g, i, none⟩ u) g (vs.set i u) := by
  unfold VB at h ⊢
  simp only [World.setCell, Array.getElem?_modify, h]
  simp
theorem VB.up {T : TypeId} {w w' : World} {g : Nat} {vs : List Value} (h : VB T w g vs) (hu : Up w w') : VB T w' g vs := (hu.heap h.lt).trans h
theorem VB.ndss {T : TypeId} {w : World} {g n : Nat} {vs : List Value} {ls : List (List Tr.Nd)} (h : VB T w g vs) (hn : n = ls.length) (hl : vs.length = ls.length) (hm : ls.length ≤ maxLen) (hv : ∀ (i : Nat) u l, vs[i]? = some u → ls[i]? = some l → Nds w u l) : Ndss w (.slice (some ⟨g, 0, none⟩) n n) ls := by
  subst hn
  exact ⟨_, _, vs, rfl, Nat.le_refl _, hm, hl, fun _ => ⟨g, 0, rfl, h.lt, fun j u hj => by rw [Nat.zero_add]; exact h.cell hj⟩, hv⟩

theorem info_tnodes : (Try.prog.info? 38).map (fun i => (i.zero, i.size, i.bytes)) = some (some (.slice none 0 0), 1, 24) := by kernel_rfl
/-- 'make([][]Node, n)'. -/
theorem wl_make_n {w : World} {ops : Array Oper} {rest : List Oper} {o : Oper} {a : Act} {Q : Exit → Act → World → Prop}
    (hg : o.guard = none) (lo co : Operand) (hop : o.op = Op.makeSlice 29 lo co) (n : Nat) {L : Int} (hl : a.eval lo = .int .i64 L) (hc : a.eval co = .int .i64 L) (hL : L = (n : Int)) (hn : n ≤ 1000)
    (hK : ∀ w', VB 38 w' w.heap.size (List.replicate n (.slice none 0 0)) → Up w w' → wpList Try.prog ops Q rest (a.put o.dst (.slice (some ⟨w.heap.size, 0, none⟩) n n)) w') :
    wpList Try.prog ops Q (o :: rest) a w := by
  obtain ⟨i0, hi, hz0, hz1, hz2⟩ := info_parts info_tnodes
  refine wpList_make_full w hg lo co 29 hop w.heap.size 38 i0 (.slice none 0 0) 1 Try.underlying29 hi hz0 hz1 .i64 .i64 L L n hl hc hL hL (by rw [hz2]; omega) (by unfold maxLen; omega) (Nat.le_refl _) ?_
  intro w' hown hgr
  refine hK w' ?_ ((Up.refl w).grown hgr (fun k h => by cases h))
  rcases hown.2 with ⟨h1, _⟩ | ⟨g, cap, cur, hv, _, hh, _, _, hs, htake⟩
  · cases h1
  · simp at hv
    obtain ⟨rfl, rfl⟩ := hv
    unfold VB
    rw [hh]
    have e : cur.toList = (madeCells (Value.slice none 0 0).cells (n * 1)).toList := by
      rw [← htake, List.take_of_length_le (by simp [hs])]
    have e2 : cur = (List.replicate n (Value.slice none 0 0)).toArray := by
      apply Array.toList_inj.1
      rw [e]
      show (madeCells #[Value.slice none 0 0] (n * 1)).toList = _
      rw [toList_madeCells_one, Nat.mul_one]
    rw [e2]

/-- Nodes in the midst of others. -/
theorem Nds.sub {w : World} {b o c : Nat} {l p e r : List Tr.Nd} (h : Nds w (.slice (some ⟨b, o, none⟩) l.length c) l) (hl : l = p ++ (e ++ r)) {k n c' : Nat} (hk : k = p.length * 3) (hn : n = e.length) (hc : e.length ≤ c') (hm : c' ≤ maxLen) : Nds w (.slice (some ⟨b, o + k, none⟩) n c') e := by
  subst hk hn
  obtain ⟨A, d, e1, h1, h2, h3, h4⟩ := h
  cases e1
  refine ⟨_, _, rfl, hc, hm, fun x hx => h3 x (by rw [hl]; simp [hx]), fun he => ?_⟩
  obtain ⟨b', o', e2, hb, hat⟩ := h4 (by rw [hl]; simp; omega)
  cases e2
  refine ⟨b, _, rfl, hb, fun j x hj => ?_⟩
  have := hat (p.length + j) x (by
    rw [hl, List.getElem?_append_right (by omega), Nat.add_sub_cancel_left]
    rw [List.getElem?_append_left ?_]
    · exact hj
    · rcases Nat.lt_or_ge j e.length with h | h
      · exact h
      · rw [List.getElem?_eq_none h] at hj; cases hj)
  rw [show o + p.length * 3 + j * 3 = o + (p.length + j) * 3 from by omega]
  exact this
theorem Nds.cap {w : World} {A : Option Addr} {n c : Nat} {l : List Tr.Nd} (h : Nds w (.slice A n c) l) : l.length ≤ c ∧ c ≤ maxLen := by
  obtain ⟨A', c', e, h1, h2, _⟩ := h
  cases e
  exact ⟨h1, h2⟩
theorem Nds.addr {w : World} {A : Option Addr} {n c : Nat} {l : List Tr.Nd} (h : Nds w (.slice A n c) l) (hl : 0 < l.length) : ∃ b o, A = some ⟨b, o, none⟩ := by
  obtain ⟨A', c', e, _, _, _, h4⟩ := h
  cases e
  obtain ⟨b, o, h, _⟩ := h4 hl
  exact ⟨b, o, h⟩

/-- Nodes that can be read whatever becomes of one block. -/
def Ap (g : Nat) (w : World) (v : Value) (l : List Tr.Nd) : Prop := ∀ w', Only g w w' → Nds w' v l
theorem Ap.nds {g : Nat} {w : World} {v : Value} {l : List Tr.Nd} (h : Ap g w v l) : Nds w v l := h w (Only.refl g w)
theorem Ap.only {g : Nat} {w w' : World} {v : Value} {l : List Tr.Nd} (h : Ap g w v l) (k : Only g w w') : Ap g w' v l := fun w2 h2 => h w2 (k.trans h2)

/-- Operands, and whether there are any. -/
def RetPB (ls : List (List Tr.Nd)) (b : Bool) (w : World) (e : Ending) (w' : World) : Prop := ∃ v, e = .returned (.tuple #[v, .bool b]) ∧ Ndss w' v ls ∧ Up w w'
theorem Ndss.nil (w : World) : Ndss w (.slice none 0 0) [] := ⟨none, 0, [], rfl, by simp, by simp, rfl, RdV.nil _ _, by simp⟩

theorem tree_parts_no {v : Value} {l : List Tr.Nd} {w : World} (h : Nds w v l) (hb : l.length ≤ 1000000) (hw : 0 ≤ Tr.wrongN l) :
    Calls Try.prog 93 #[v] w (RetPB [] false w) := by
  have HD : Hid (decide (Tr.wrongN l < 0) = false) := Lib.hid (by simpa using hw)
  go_enter Try.func93, Try.ntmps93
  go_wp2_with fail
  refine (tree_right h hb).mono ?_
  rintro e w2 ⟨rfl, u2⟩
  rw [HD.out]
  go_wp2_with fail
  go_ret2
  exact ⟨_, rfl, Ndss.nil _, u2⟩

set_option maxRecDepth 100000 in
set_option maxHeartbeats 3200000 in
theorem tree_parts {v : Value} {l : List Tr.Nd} {ps : List (List Tr.Nd)} {ds : List Nat} {w : World} (h : Nds w v l) (hb : l.length ≤ 1000000) (hnl : ∀ x ∈ l, x.n.length ≤ 1000000) (hr : Tr.wrongN l = -1) (hp : Tr.Pt l ps ds) :
    Calls Try.prog 93 #[v] w (RetPB ps true w) := by
  have HD : Hid (decide (Tr.wrongN l < 0) = true) := Lib.hid (by rw [hr]; rfl)
  clear hr
  rcases hp.view with ⟨x, hx, rfl, rfl, hl⟩ | ⟨x, a, d, hx, ha, rfl, rfl, hl⟩ | ⟨x, a, b, d, e, hx, ha, hb2, rfl, rfl, hl⟩
  · have HX := Lib.hid hx
    clear hx hp
    -- hl : l = body ++ [x], HX : the number of operands
    have HL := Lib.hid hl
    obtain ⟨k, hk⟩ : ∃ k, k = (([] : List Tr.Nd)).length := ⟨_, rfl⟩
    have HK := Lib.hid hk
    have hlen : l.length = k + 1 := by rw [hl, hk]; simp <;> omega
    have HLEN := Lib.hid hlen
    have hkb : k ≤ 1000000 := by omega
    have hxl : l[k]? = some x := by rw [hl, hk, List.getElem?_append_right (by omega), Nat.sub_self]; rfl
    obtain ⟨A, c, rfl⟩ := h.form
    obtain ⟨b1, o1, rfl⟩ := h.addr (by omega)
    have HCAP := Lib.hid h.cap
    have HNL := Lib.hid hnl
    have hcap1 : k + 1 ≤ c := by rw [← hlen]; exact h.cap.1
    have h0 := h
    have HB := Lib.hid hb
    rw [hlen] at h0 ⊢
    clear hl hk
    go_enter Try.func93, Try.ntmps93
    go_wp2_with fail
    refine (tree_right h0 HB.out).mono ?_
    rintro e w2 ⟨rfl, u2⟩
    rw [HD.out]
    have h := h.up u2
    have HN := Lib.hid h
    have hxo : I64 x.op := (h.ok x (List.mem_of_getElem? hxl)).1
    have hat : w2.cell? ⟨b1, o1 + k * 3, none⟩ = some (.int .i64 x.op) := by
      obtain ⟨A', c', e, _, _, _, h4⟩ := h
      cases e
      obtain ⟨b', o', e, hb', hat⟩ := h4 (by omega)
      cases e
      exact (hat k x hxl).1
    clear h h0 hxl hlen hb hnl
    go_wp2_with fail
    refine (tree_arity hxo _).mono ?_
    rintro e w3 ⟨rfl, rfl⟩
    rw [HX.out]
    go_wp2_with (at_make; go_loud (refine wl_make_n rfl _ _ rfl 0 rfl rfl rfl ?_ ?_))
    · omega
    intro w3 hv3 hu3
    have hfin := u2.trans hu3
    go_wp2_with fail
    go_loopw [4, 6, 7] (fun s4 s6 s7 wr => s6 = .int .i64 (-1) ∧ w3 = wr) (fun _ _ _ _ => 0)
    case atStart => exact ⟨rfl, rfl⟩
    case round =>
      obtain ⟨rfl, rfl⟩ := hrel
      go_wp2_with fail
      go_ret2
      exact ⟨_, rfl, hv3.ndss rfl rfl (by simp) (by simp), hfin⟩
  · have HX := Lib.hid hx
    have HA := Lib.hid ha
    clear hx hp ha
    -- hl : l = body ++ [x], HX : the number of operands
    have HL := Lib.hid hl
    obtain ⟨k, hk⟩ : ∃ k, k = (a).length := ⟨_, rfl⟩
    have HK := Lib.hid hk
    have hlen : l.length = k + 1 := by rw [hl, hk]; simp <;> omega
    have HLEN := Lib.hid hlen
    have hkb : k ≤ 1000000 := by omega
    have hxl : l[k]? = some x := by rw [hl, hk, List.getElem?_append_right (by omega), Nat.sub_self]; rfl
    obtain ⟨A, c, rfl⟩ := h.form
    obtain ⟨b1, o1, rfl⟩ := h.addr (by omega)
    have HCAP := Lib.hid h.cap
    have HNL := Lib.hid hnl
    have hcap1 : k + 1 ≤ c := by rw [← hlen]; exact h.cap.1
    have h0 := h
    have HB := Lib.hid hb
    rw [hlen] at h0 ⊢
    clear hl hk
    go_enter Try.func93, Try.ntmps93
    go_wp2_with fail
    refine (tree_right h0 HB.out).mono ?_
    rintro e w2 ⟨rfl, u2⟩
    rw [HD.out]
    have h := h.up u2
    have HN := Lib.hid h
    have hxo : I64 x.op := (h.ok x (List.mem_of_getElem? hxl)).1
    have hat : w2.cell? ⟨b1, o1 + k * 3, none⟩ = some (.int .i64 x.op) := by
      obtain ⟨A', c', e, _, _, _, h4⟩ := h
      cases e
      obtain ⟨b', o', e, hb', hat⟩ := h4 (by omega)
      cases e
      exact (hat k x hxl).1
    clear h h0 hxl hlen hb hnl
    go_wp2_with fail
    refine (tree_arity hxo _).mono ?_
    rintro e w3 ⟨rfl, rfl⟩
    rw [HX.out]
    go_wp2_with (at_make; go_loud (refine wl_make_n rfl _ _ rfl 1 rfl rfl rfl ?_ ?_))
    · omega
    intro w3 hv3 hu3
    have hn3 := HN.out.up hu3
    have g3 := u2.trans hu3
    go_wp2_with fail
    go_loopw [4, 6, 7] (fun s4 s6 s7 wr => (s4 = .int .i64 k ∧ s6 = .int .i64 0 ∧ w3 = wr) ∨ (s6 = .int .i64 (-1) ∧ Up w wr ∧ ∃ v0, VB 38 wr w2.heap.size [v0] ∧ Nds wr v0 a)) (fun _ s6 _ _ => (intOf s6 + 1).toNat)
    case atStart => exact .inl ⟨rfl, rfl, rfl⟩
    case round =>
      rcases hrel with ⟨rfl, rfl, rfl⟩ | ⟨rfl, hup, v0, hv, hn⟩
      · have hn3' : Nds w3 (.slice (some ⟨b1, o1, none⟩) (k + 1) c) l := by rw [← HLEN.out]; exact hn3
        have hsub : Nds w3 (.slice (some ⟨b1, o1, none⟩) k c) a := by
          have := Nds.sub (p := []) (e := a) (r := [x]) (k := 0) (n := k) (c' := c) hn3 (by rw [HL.out]; rfl) (by simp) HK.out (by rw [← HK.out]; omega) HCAP.out.2
          exact this
        have HAL : Hid (a.length ≤ 1000000) := Lib.hid (by rw [← HK.out]; exact hkb)
        have HANL : Hid (∀ y ∈ a, y.n.length ≤ 1000000) := Lib.hid (fun y hy => HNL.out y (by rw [HL.out]; simp [hy]))
        have HBEG : Hid ((k : Int) = (((0 : Nat) + a.length : Nat) : Int)) := Lib.hid (by rw [HK.out]; omega)
        have HB3 : Hid (l.length ≤ 1000000) := HB
        clear hn3
        go_wp2_with fail
        refine (tree_begin (l := l) (p := []) (e := a) (r := [x]) (by rw [HL.out]; rfl) HA.out (by rw [HBEG.out]; rfl) hn3' HB3.out).mono ?_
        rintro e w4 ⟨rfl, rfl⟩
        go_wp2_with fail
        refine (tree_copied hsub HAL.out HANL.out).mono ?_
        rintro e w4 ⟨v4, rfl, r4⟩
        have n4 := r4.nds
        have u4 := r4.world
        obtain ⟨A4, c4, rfl⟩ := n4.form
        have hv4 := hv3.up u4
        have hcg := hv4.cell (i := 0) (u := .slice none 0 0) rfl
        have hfg := hv4.free 0
        have hv5 := hv4.set 0 (.slice A4 a.length c4)
        have g4 := g3.trans u4
        have hsz := u2.size
        have n5 := r4.apart hv3.lt ((Only.refl w2.heap.size w4).set 0 (.slice A4 a.length c4))
        go_wp2_with fail
        go_roundw
        case rel => exact .inr ⟨rfl, g4.setCell hsz _, _, hv5, n5⟩
        case measure => simp [intOf]
      · go_wp2_with fail
        go_ret2
        refine ⟨_, rfl, hv.ndss rfl rfl (by simp [maxLen]) ?_, hup⟩
        intro i u l' hu hl'
        match i with
        | 0 => simp at hu hl'; subst hu hl'; exact hn
        | i + 1 => simp at hu
  · have HX := Lib.hid hx
    have HA := Lib.hid ha
    have HB2 := Lib.hid hb2
    clear hx hp ha hb2
    -- hl : l = body ++ [x], HX : the number of operands
    have HL := Lib.hid hl
    obtain ⟨k, hk⟩ : ∃ k, k = (a ++ b).length := ⟨_, rfl⟩
    have HK := Lib.hid hk
    have hlen : l.length = k + 1 := by rw [hl, hk]; simp <;> omega
    have HLEN := Lib.hid hlen
    have hkb : k ≤ 1000000 := by omega
    have hxl : l[k]? = some x := by rw [hl, hk, List.getElem?_append_right (by omega), Nat.sub_self]; rfl
    obtain ⟨A, c, rfl⟩ := h.form
    obtain ⟨b1, o1, rfl⟩ := h.addr (by omega)
    have HCAP := Lib.hid h.cap
    have HNL := Lib.hid hnl
    have hcap1 : k + 1 ≤ c := by rw [← hlen]; exact h.cap.1
    have h0 := h
    have HB := Lib.hid hb
    rw [hlen] at h0 ⊢
    clear hl hk
    go_enter Try.func93, Try.ntmps93
    go_wp2_with fail
    refine (tree_right h0 HB.out).mono ?_
    rintro e w2 ⟨rfl, u2⟩
    rw [HD.out]
    have h := h.up u2
    have HN := Lib.hid h
    have hxo : I64 x.op := (h.ok x (List.mem_of_getElem? hxl)).1
    have hat : w2.cell? ⟨b1, o1 + k * 3, none⟩ = some (.int .i64 x.op) := by
      obtain ⟨A', c', e, _, _, _, h4⟩ := h
      cases e
      obtain ⟨b', o', e, hb', hat⟩ := h4 (by omega)
      cases e
      exact (hat k x hxl).1
    clear h h0 hxl hlen hb hnl
    go_wp2_with fail
    refine (tree_arity hxo _).mono ?_
    rintro e w3 ⟨rfl, rfl⟩
    rw [HX.out]
    go_wp2_with (at_make; go_loud (refine wl_make_n rfl _ _ rfl 2 rfl rfl rfl ?_ ?_))
    · omega
    intro w3 hv3 hu3
    have hn3 := HN.out.up hu3
    have g3 := u2.trans hu3
    have HW23 := Lib.hid hu3
    obtain ⟨i, hi⟩ : ∃ i, i = a.length := ⟨_, rfl⟩
    have HI := Lib.hid hi
    have hik : i ≤ k := by rw [hi, HK.out]; simp
    have HIK : Hid (k - i = b.length) := Lib.hid (by rw [hi, HK.out]; simp)
    have HAL : Hid (a.length ≤ 1000000) := Lib.hid (by omega)
    have HBL : Hid (b.length ≤ 1000000) := Lib.hid (by have := HIK.out; omega)
    have HANL : Hid (∀ y ∈ a, y.n.length ≤ 1000000) := Lib.hid (fun y hy => HNL.out y (by rw [HL.out]; simp [hy]))
    have HBNL : Hid (∀ y ∈ b, y.n.length ≤ 1000000) := Lib.hid (fun y hy => HNL.out y (by rw [HL.out]; simp [hy]))
    have hsz := u2.size
    have hci : (c = i) = False := eq_false (by omega)
    clear hi
    go_wp2_with fail
    go_loopw [4, 6, 7] (fun s4 s6 s7 wr => (s4 = .int .i64 k ∧ s6 = .int .i64 1 ∧ w3 = wr) ∨ (s4 = .int .i64 i ∧ s6 = .int .i64 0 ∧ Up w wr ∧ Up w2 wr ∧ ∃ v1, VB 38 wr w2.heap.size [.slice none 0 0, v1] ∧ Ap w2.heap.size wr v1 b) ∨ (s6 = .int .i64 (-1) ∧ Up w wr ∧ ∃ v0 v1, VB 38 wr w2.heap.size [v0, v1] ∧ Nds wr v0 a ∧ Nds wr v1 b)) (fun _ s6 _ _ => (intOf s6 + 1).toNat)
    case atStart => exact .inl ⟨rfl, rfl, rfl⟩
    case round =>
      rcases hrel with ⟨rfl, rfl, rfl⟩ | ⟨rfl, rfl, hup, hup2, v1, hv, hap⟩ | ⟨rfl, hup, v0, v1, hv, hn0, hn1⟩
      · have hn3' : Nds w3 (.slice (some ⟨b1, o1, none⟩) (k + 1) c) l := by rw [← HLEN.out]; exact hn3
        have hsub : Nds w3 (.slice (some ⟨b1, o1 + i * 3, none⟩) (k - i) (c - i)) b :=
          Nds.sub (p := a) (e := b) (r := [x]) hn3 (by rw [HL.out]; simp) (by rw [HI.out]) HIK.out (by rw [← HIK.out]; omega) (Nat.le_trans (Nat.sub_le _ _) HCAP.out.2)
        have HBEG : Hid ((k : Int) = ((a.length + b.length : Nat) : Int)) := Lib.hid (by rw [HK.out]; simp)
        clear hn3
        go_wp2_with fail
        refine (tree_begin (l := l) (p := a) (e := b) (r := [x]) (by rw [HL.out]; simp) HB2.out HBEG.out hn3' HB.out).mono ?_
        rintro e w4 ⟨rfl, rfl⟩
        rw [← HI.out]
        go_wp2_with fail
        refine (tree_copied hsub HBL.out HBNL.out).mono ?_
        rintro e w4 ⟨v4, rfl, r4⟩
        have u4 := r4.world
        obtain ⟨A4, c4, rfl⟩ := r4.nds.form
        have hv4 := hv3.up u4
        have hcg := hv4.cell (i := 1) (u := .slice none 0 0) rfl
        have hfg := hv4.free 1
        have hv5 := hv4.set 1 (.slice A4 b.length c4)
        have g4 := g3.trans u4
        have hap4 : Ap w2.heap.size w4 (.slice A4 b.length c4) b := fun w' hw => r4.apart hv3.lt hw
        have hap5 := hap4.only ((Only.refl w2.heap.size w4).set 1 (.slice A4 b.length c4))
        have hu24 := HW23.out.trans u4
        clear hap4 hsub hn3'
        go_wp2_with fail
        go_roundw
        case rel => exact .inr (.inl ⟨rfl, rfl, g4.setCell hsz _, hu24.setCell (Nat.le_refl _) _, _, hv5, hap5⟩)
        case measure => simp [intOf]
      · have hn3' : Nds wr (.slice (some ⟨b1, o1, none⟩) (k + 1) c) l := by rw [← HLEN.out]; exact HN.out.up hup2
        have hsub : Nds wr (.slice (some ⟨b1, o1, none⟩) i c) a := by
          have := Nds.sub (p := []) (e := a) (r := b ++ [x]) (k := 0) (n := i) (c' := c) (HN.out.up hup2) (by rw [HL.out]; simp) (by simp) HI.out (by rw [← HI.out]; omega) HCAP.out.2
          exact this
        have HBEG : Hid ((i : Int) = (((0 : Nat) + a.length : Nat) : Int)) := Lib.hid (by rw [HI.out]; omega)
        go_wp2_with fail
        refine (tree_begin (l := l) (p := []) (e := a) (r := b ++ [x]) (by rw [HL.out]; simp) HA.out (by rw [HBEG.out]; rfl) hn3' HB.out).mono ?_
        rintro e w4 ⟨rfl, rfl⟩
        go_wp2_with fail
        refine (tree_copied hsub HAL.out HANL.out).mono ?_
        rintro e w4 ⟨v4, rfl, r4⟩
        have u4 := r4.world
        obtain ⟨A4, c4, rfl⟩ := r4.nds.form
        have hv4 := hv.up u4
        have hcg := hv4.cell (i := 0) (u := .slice none 0 0) rfl
        have hfg := hv4.free 0
        have hv5 := hv4.set 0 (.slice A4 a.length c4)
        have g4 := hup.trans u4
        have hlt := hv.lt
        have n5 := r4.apart hlt ((Only.refl w2.heap.size w4).set 0 (.slice A4 a.length c4))
        have m5 := hap _ ((Only.of_up u4).trans ((Only.refl w2.heap.size w4).set 0 (.slice A4 a.length c4)))
        clear hsub hn3' hap
        go_wp2_with fail
        go_roundw
        case rel => exact .inr (.inr ⟨rfl, g4.setCell hsz _, _, _, hv5, n5, m5⟩)
        case measure => simp [intOf]
      · go_wp2_with fail
        go_ret2
        refine ⟨_, rfl, hv.ndss rfl rfl (by simp [maxLen]) ?_, hup⟩
        intro i u l' hu hl'
        match i with
        | 0 => simp at hu hl'; subst hu hl'; exact hn0
        | 1 => simp at hu hl'; subst hu hl'; exact hn1
        | i + 2 => simp at hu

/-- Operands. -/
def RetP (ls : List (List Tr.Nd)) (w : World) (e : Ending) (w' : World) : Prop := ∃ v, e = .returned v ∧ Ndss w' v ls ∧ Up w w'


end Go.Proofs.Ytmmcffceeahemaa
