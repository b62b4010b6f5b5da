/-
  The walks of the statements of layer 17, the second part: an expression is its operands and its last node.
-/
import Derived.Test.YtelgenhmmfkmhaaTreeLaws
set_option linter.unusedVariables false
set_option linter.unusedSimpArgs false
theorem Tr.Pt.whole {l : List Tr.Nd} {ps : List (List Tr.Nd)} {ds : List Nat} (h : Tr.Pt l ps ds) :
    ∃ x, l = ps.flatten ++ [x] ∧ Tr.arN x.op = ps.length ∧ Tr.Ex l (Tr.maxs ds + 1) ∧ (∀ (i : Nat) p, ps[i]? = some p → ∃ e, ds[i]? = some e ∧ Tr.Ex p e) ∧ ds.length = ps.length := by
  cases h with
  | leaf x h => exact ⟨x, rfl, h, Tr.Ex.leaf x h, fun i p hp => by simp at hp, rfl⟩
  | one x a d h ha =>
    refine ⟨x, by simp, h, by simpa [Tr.maxs] using Tr.Ex.one x a d h ha, fun i p hp => ?_, rfl⟩
    match i with
    | 0 => simp at hp; subst hp; exact ⟨d, rfl, ha⟩
    | i + 1 => simp at hp
  | two x a b d e h ha hb =>
    refine ⟨x, by simp, h, by simpa [Tr.maxs] using Tr.Ex.two x a b d e h ha hb, fun i p hp => ?_, rfl⟩
    match i with
    | 0 => simp at hp; subst hp; exact ⟨d, rfl, ha⟩
    | 1 => simp at hp; subst hp; exact ⟨e, rfl, hb⟩
    | i + 2 => simp at hp
namespace Go.Proofs.Ytelgenhmmfkmhaa
open Go.RowKit

theorem node_new2 (w : World) (Z : Obj) (x : Tr.Nd) (u : Value) (T : TypeId) : RdV ((w.alloc Z).alloc (.cells #[.int .i64 x.op, .int .i64 x.i, u] T)) (some ⟨w.heap.size + 1, 0, none⟩) (flat [x] [u]) := by
  have e : (w.alloc Z).heap.size = w.heap.size + 1 := by simp
  have := node_new (w.alloc Z) x u T
  rwa [e] at this
theorem Row.ne {P : Prop} {T : TypeId} {w0 w : World} {v : Value} {l : List Tr.Nd} (h : Row P T w0 w v l) : some w.heap.size ≠ v.ownBlock := fun e => by
  obtain ⟨_, _, us, _, ho⟩ := h
  have := (ho.lt _ e.symm).2
  omega
/-- 'append(v, x...)' of nodes onto a row of the call's own; what grew is told. -/
theorem wl_append_tg {P : Prop} {w0 w : World} {ops : Array Oper} {rest : List Oper} {o : Oper} {a : Act} {Q : Exit → Act → World → Prop} (hgd : o.guard = none) (s x : Operand)
    (ho : o.op = .call { callee := .builtin .append, args := #[s, x], argTypes := #[37, 37] })
    {v : Value} {l : List Tr.Nd} (hs : a.eval s = v) (hown : Row P 75 w0 w v l)
    {A : Option Addr} {m c : Nat} {k : List Tr.Nd} {vs : List Value} (hx : a.eval x = .slice A m c) (hr : RdV w A (flat k vs)) (hn : NumsB P w0 w k vs) (hk : ∀ x ∈ k, I64 x.op ∧ I64 x.i) (hm : k.length = m) (hb : l.length + m ≤ 400000000)
    (h : ∀ v' w', Row P 75 w0 w' v' (l ++ k) → w.grownBy w' v.ownBlock → wpList Try.prog ops Q rest (a.put o.dst v') w') : wpList Try.prog ops Q (o :: rest) a w := by
  obtain ⟨h0, hu, us, hn0, hrow⟩ := hown
  refine wl_append_any hgd s x 37 ho w0.heap.size 75 Try.underlying37 info_tnode rfl (by omega) hs hrow hx hr (by rw [flat_len k vs hn.1, hm]) (flat_oneCell (hn.nums hu)) (by unfold maxLen; omega) (by omega) hu.size ?_
  intro v' w' h1 h2
  have hu2 : Up w0 w' := hu.grown h2 (fun k hk => (hrow.lt k hk).1)
  have hne := fun (u : Value) n xs (hh : w.ownsRow w0.heap.size 22 1 u n xs) => own_types (by decide : (22 : Nat) ≠ 75) hh hrow
  refine h v' w' ⟨?_, hu2, us ++ vs, (hn0.kept h2 hne).append (hn.kept h2 hne), ?_⟩ h2
  · intro y hy
    rcases List.mem_append.1 hy with hy | hy
    · exact h0 y hy
    · exact hk y hy
  · rw [flat_append l us k vs hn0.1, List.length_append, hm]
    exact h1

set_option maxRecDepth 100000 in
set_option maxHeartbeats 6400000 in
theorem treeWhole_walk {v : Value} {l : List Tr.Nd} {w : World} (h : Nds w v l) :
    Calls Try.prog 13 #[v] w fun e w' => e = .returned (.bool true) ∧ Up w w' := by
  obtain ⟨A, c, rfl⟩ := h.form
  go_enter Try.func13, Try.ntmps13
  go_wp2_with fail
  refine (nodes_long (p := 100) (q := 10) h (by omega) (by omega)).mono ?_
  rintro e W ⟨t, rfl, ht, rfl⟩
  cases t with
  | true =>
    clear ht
    go_wp2_with fail
    refine (tree_works _).mono ?_
    rintro e W1 ⟨rfl, U1⟩
    have G1 := (Up.refl w).trans U1
    clear U1
    go_wp2
    go_ret
    exact ⟨rfl, G1⟩
  | false =>
    obtain ⟨hl, hnl0⟩ := ht rfl
    have hl2 : l.length ≤ 1000000 := by omega
    have hnl : ∀ x ∈ l, x.n.length ≤ 1000000 := fun x hx => Nat.le_trans (hnl0 x hx) (by omega)
    have HNL := Lib.hid hnl
    clear ht hnl0 hnl
    go_wp2_with fail
    refine (law_to h hl2).mono ?_
    rintro e W1 ⟨V1, rfl, to, U1⟩
    have G1 := (Up.refl w).trans U1
    have h := h.up U1
    clear U1
    by_cases hw : Tr.wrongN l < 0
    · obtain ⟨d, hd⟩ := Tr.right_ex hw
      obtain ⟨ps, ds, hp, -⟩ := hd.parts
      obtain ⟨x, hx, har, hex, hes, hds⟩ := hp.whole
      have HX := Lib.hid hx
      have HAR := Lib.hid har
      have HD := Lib.hid hex
      have HES := Lib.hid hes
      have HP := Lib.hid hp
      have HDS := Lib.hid hds
      clear hw hd hp hx har hex hes hds
      go_wp2_with fail
      refine (tree_parts to hl2 HNL.out HD.out.right HP.out).mono ?_
      rintro e W2 ⟨V2, rfl, ap, U2⟩
      have G2 := G1.trans U2
      have h := h.up U2
      have to := to.up U2
      clear U2 G1
      obtain ⟨B, cb, rfl⟩ := ap.form
      have HPL : Hid (∀ p ∈ ps, p.length ≤ l.length ∧ ∀ x ∈ p, x ∈ l) := Lib.hid HP.out.sub
      have hps : ps.length ≤ 2 := HP.out.few
      have AP := Lib.hid ap
      have TO := Lib.hid to
      have HM : Hid (∀ k, Tr.maxs (ds.take k) ≤ 1000000) := Lib.hid (fun k => by
        refine Nat.le_trans (Tr.maxs_le (n := l.length) (fun y hy => ?_)) hl2
        obtain ⟨i, hi⟩ := List.getElem?_of_mem (List.mem_of_mem_take hy)
        have hil : i < ps.length := by rw [← HDS.out]; exact (List.getElem?_eq_some_iff.1 hi).1
        obtain ⟨e, he1, he2⟩ := HES.out i ps[i] (List.getElem?_eq_getElem hil)
        rw [hi] at he1
        cases he1
        have := (HPL.out ps[i] (List.getElem_mem hil)).1
        have := he2.len
        omega)
      clear ap h to
      go_wp2_with fail
      go_loopw [6, 7, 8] (fun s6 s7 s8 wr => ∃ k : Nat, s8 = .int .i64 k ∧ s7 = .int .i64 ((Tr.maxs (ds.take k) : Nat) : Int) ∧ k ≤ ps.length ∧ Row True 75 W2 wr s6 (ps.take k).flatten) (fun _ _ s8 _ => ps.length - (intOf s8).toNat)
      case atStart => exact ⟨0, rfl, rfl, Nat.zero_le _, Row.none_ _ _⟩
      case round =>
        obtain ⟨k, rfl, rfl, hk, hrow⟩ := hrel
        by_cases hlt : k < ps.length
        · obtain ⟨b, o, u, rfl, hb, c1, n1⟩ := AP.out.at_ hlt
          have CC : Hid (∀ w', Up W2 w' → w'.cell? ⟨b, o + k, none⟩ = some u) := Lib.hid (fun w' hu => (hu.cell (p := ⟨b, o + k, none⟩) hb).trans c1)
          obtain ⟨e1, he1, he2⟩ := HES.out k ps[k] (List.getElem?_eq_getElem hlt)
          have HL := Lib.hid (HPL.out ps[k] (List.getElem_mem hlt))
          have HTK : Hid ((ps.take (k + 1)).flatten = (ps.take k).flatten ++ ps[k]) := Lib.hid (by rw [List.take_succ_eq_append_getElem hlt, List.flatten_append]; simp only [List.flatten_cons, List.flatten_nil, List.append_nil])
          have hdl : k < ds.length := by rw [HDS.out]; exact hlt
          have HMX : Hid (Tr.maxs (ds.take (k + 1)) = max (Tr.maxs (ds.take k)) e1) := Lib.hid (by
            rw [List.take_succ_eq_append_getElem hdl, Tr.maxs_snoc]
            rw [List.getElem?_eq_getElem hdl] at he1
            cases he1
            rfl)
          have hm1 := HM.out k
          have hm2 := HM.out (k + 1)
          rw [HMX.out] at hm2
          have HFL : Hid ((ps.take k).flatten.length ≤ 1000000) := Lib.hid (by
            have h1 : (ps.take k).flatten.length ≤ ps.flatten.length := by
              conv => rhs; rw [← List.take_append_drop k ps, List.flatten_append, List.length_append]
              omega
            have h2 := congrArg List.length HX.out
            rw [List.length_append] at h2
            omega)
          generalize Tr.maxs (ds.take k) = M at *
          generalize ps[k] = p at *
          have HE := Lib.hid he2
          have hpl : p.length ≤ 1000000 := Nat.le_trans HL.out.1 hl2
          have HR : Hid (decide (Tr.wrongN p < 0) = true) := Lib.hid (by rw [he2.right]; rfl)
          clear he1 he2 hdl c1
          obtain ⟨A', c', rfl⟩ := n1.form
          obtain ⟨us, hn, hrd⟩ : ∃ us, Nums W2 p us ∧ RdV W2 A' (flat p us) := by
            obtain ⟨_, _, e, _, _, _, hr⟩ := n1
            cases e
            exact Nds.cells hr
          have HN := Lib.hid hn
          have HRD := Lib.hid hrd
          have HOK := Lib.hid n1.ok
          have N1 := Lib.hid n1
          clear hn hrd n1
          have c0 := CC.out wr hrow.world
          have k0 : (0 : Int) ≤ (k : Int) := by omega
          go_wp2_with fail
          refine (tree_right_at HR.out (N1.out.up hrow.world) hpl).mono ?_
          rintro e w3 ⟨rfl, u3⟩
          have r3 := hrow.up u3
          have c3 := CC.out w3 r3.world
          clear c0 u3 hrow
          go_wp2_with fail
          refine (tree_depth (N1.out.up r3.world) hpl HE.out).mono ?_
          rintro e w4 ⟨rfl, u4⟩
          have r4 := r3.up u4
          have c4 := CC.out w4 r4.world
          clear c3 u4 r3
          go_wp2_with (at_builtin; refine wl_append_t rfl (.tmp 47) (.tmp 51) rfl rfl r4 (k := p) (vs := us) rfl (HRD.out.up r4.world) (NumsB.old HN.out) HOK.out rfl (by have := HFL.out; omega) ?_; intro v' w5 h5)
          refine ⟨⟨k + 1, by go_num, ?_, by omega, by rw [HTK.out]; exact h5⟩, by simp [intOf]; omega⟩
          rw [HMX.out]
          congr 1
          split <;> omega
        · obtain rfl : k = ps.length := by omega
          have hx1 : ps.flatten.length + 1 = l.length := by have := congrArg List.length HX.out; simpa using this.symm
          have hlx : l[ps.flatten.length]? = some x := by
            conv => lhs; rw [HX.out]
            rw [List.getElem?_append_right (Nat.le_refl _), Nat.sub_self]
            rfl
          obtain ⟨n, hn⟩ : ∃ n, n = ps.flatten.length := ⟨_, rfl⟩
          rw [← hn] at hx1 hlx
          obtain ⟨A1, c1, rfl⟩ := TO.out.form
          obtain ⟨b1, o1, rfl⟩ := TO.out.addr (by omega)
          have hxo := TO.out.ok x (List.mem_of_getElem? hlx)
          obtain ⟨hb1, q1, q2, u, q3, q4⟩ : b1 < W2.heap.size ∧ W2.cell? ⟨b1, o1 + n * 3, none⟩ = some (.int .i64 x.op) ∧ W2.cell? ⟨b1, o1 + n * 3 + 1, none⟩ = some (.int .i64 x.i) ∧ ∃ u, W2.cell? ⟨b1, o1 + n * 3 + 2, none⟩ = some u ∧ Ws W2 u x.n := by
            obtain ⟨_, _, e, _, _, _, h4⟩ := TO.out
            cases e
            obtain ⟨_, _, e, hb, hat⟩ := h4 (by omega)
            cases e
            exact ⟨hb, hat n x hlx⟩
          have hbw := hrow.world
          have q1 := (hbw.cell (p := ⟨b1, o1 + n * 3, none⟩) hb1).trans q1
          have q2 := (hbw.cell (p := ⟨b1, o1 + n * 3 + 1, none⟩) hb1).trans q2
          have q3 := (hbw.cell (p := ⟨b1, o1 + n * 3 + 2, none⟩) hb1).trans q3
          obtain ⟨Bn, dn, rfl⟩ := q4.form
          have HLN : Hid (l.length = n + 1) := Lib.hid hx1.symm
          have HFL : Hid (ps.flatten.length = n) := Lib.hid hn.symm
          have TO2 : Hid (Nds W2 (.slice (some ⟨b1, o1, none⟩) (n + 1) c1) l) := Lib.hid (by rw [hx1]; exact TO.out)
          have hn1 : n + 1 ≤ 1000000 := by omega
          have HALL : Hid (ps.flatten ++ [x] = l) := Lib.hid HX.out.symm
          have HMD := Lib.hid (HM.out ps.length)
          have HTD : Hid (ds.take ps.length = ds) := Lib.hid (by rw [← HDS.out, List.take_length])
          rw [List.take_length] at hrow
          rw [HTD.out] at HMD ⊢
          rw [HLN.out]
          have hmd := HMD.out
          generalize Tr.maxs ds = M at *
          clear hn hlx hx1
          have HNE := Lib.hid hrow.ne
          have r2 := fun Z1 Z2 => hrow.up (((Up.refl wr).alloc Z1).alloc Z2)
          go_wp2_with (at_builtin; refine wl_append_tg rfl (.tmp 62) (.tmp 64) rfl rfl (r2 _ _) (k := [x]) (vs := [.slice Bn x.n.length dn]) rfl (node_new2 wr _ x _ _) (NumsB.one_old q4) (by intro y hy; simp at hy; subst hy; exact hxo) rfl (by have := HFL.out; omega) ?_; intro v5 w5 h5 gr5)
          have c5 : w5.cell? ⟨wr.heap.size, 0, none⟩ = some (.int .i64 x.op) := gr5.cell (by rw [cell_of_row _ _ _ _ _ (0, 0) (two_new wr _ _).1]; rfl) HNE.out
          have hz5 := World.block_lt_of_cell? w5 _ c5
          have C5 := Lib.hid c5
          have n5 := h5.nds
          rw [HALL.out] at n5
          have g5 := h5.world
          clear h5 gr5 c5 r2 q1 q2 q3 q4 hbw hrow hmd
          refine (nodes_same_t n5 (TO2.out.up g5) hl2 HNL.out).mono ?_
          rintro e w6 ⟨rfl, u6⟩
          have g6 := g5.trans u6
          clear n5
          go_wp2_with fail
          refine (tree_depth (TO2.out.up g6) hl2 HD.out).mono ?_
          rintro e w7 ⟨rfl, u7⟩
          rw [show (((M + 1 : Nat)) : Int) = (M : Int) + 1 from rfl]
          have g7 := g6.trans u7
          have c7 := ((u6.trans u7).cell (p := ⟨wr.heap.size, 0, none⟩) hz5).trans C5.out
          have hM9 := HMD.out
          go_wp2_with fail
          refine (tree_arity_at HAR.out hxo.1 _).mono ?_
          rintro e w8 ⟨rfl, rfl⟩
          clear c7
          go_wp2_with fail
          refine (tree_works _).mono ?_
          rintro e w9 ⟨rfl, u9⟩
          go_wp2
          go_ret
          exact ⟨rfl, (G2.trans g7).trans u9⟩
    · have HR : Hid (decide (Tr.wrongN l < 0) = false) := Lib.hid (decide_eq_false hw)
      have hw0 : 0 ≤ Tr.wrongN l := by omega
      clear hw
      go_wp2_with fail
      refine (tree_parts_no to hl2 hw0).mono ?_
      rintro e W2 ⟨V2, rfl, ap, U2⟩
      have G2 := G1.trans U2
      have h := h.up U2
      have to := to.up U2
      clear U2 G1
      obtain ⟨B, cb, rfl⟩ := ap.form
      go_wp2_with fail
      refine (tree_depth_no to hl2 hw0).mono ?_
      rintro e W3 ⟨rfl, U3⟩
      have G3 := G2.trans U3
      have h := h.up U3
      have to := to.up U3
      have ap := ap.up U3
      clear U3 G2
      go_wp2_with fail
      refine (tree_works _).mono ?_
      rintro e W4 ⟨rfl, U4⟩
      have G4 := G3.trans U4
      have h := h.up U4
      have to := to.up U4
      have ap := ap.up U4
      clear U4 G3
      go_wp2
      go_ret
      exact ⟨rfl, G4⟩
end Go.Proofs.Ytelgenhmmfkmhaa
