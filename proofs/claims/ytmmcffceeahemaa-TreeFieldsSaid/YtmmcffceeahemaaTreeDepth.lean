/-
  The walks of layer 17: depths by a stack; operands.
-/
import Derived.Test.YtmmcffceeahemaaTreeDeep
set_option linter.unusedVariables false
set_option linter.unusedSimpArgs false
namespace Go.Proofs.Ytmmcffceeahemaa
open Go.RowKit



theorem tree_depth_no {v : Value} {l : List Tr.Nd} {w : World} (h : Nds w v l) (hb : l.length ≤ 1000000) (hw : 0 ≤ Tr.wrongN l) :
    Calls Try.prog 96 #[v] w fun e w' => e = .returned (.int .i64 0) ∧ Up w w' := by
  have HD : Hid (decide (Tr.wrongN l < 0) = false) := Lib.hid (by simpa using hw)
  go_enter Try.func96, Try.ntmps96
  go_wp2_with fail
  refine (tree_right h hb).mono ?_
  rintro e w2 ⟨rfl, u2⟩
  rw [HD.out]
  go_wp2_with fail
  go_ret
  exact ⟨rfl, u2⟩

/-- A row of depths. -/
def dv (d : Nat) : Value := .int .i64 (d : Int)
/-- A stack of depths, the last first. -/
def Stk (w0 w : World) (v : Value) (ds : List Nat) : Prop := Up w0 w ∧ w.ownsRow w0.heap.size 3 1 v ds.length (ds.reverse.map dv)
theorem own_cut {w : World} {base : Nat} {e : TypeId} {A : Option Addr} {n c m : Nat} {xs : List Value} (h : w.ownsRow base e 1 (.slice A n c) n xs) (hm : m ≤ n) : w.ownsRow base e 1 (.slice A m c) m (xs.take m) := by
  have hl := h.1
  rcases h.2 with ⟨h1, rfl⟩ | ⟨g, cap, cur, hv, hb, hg, h2, h3, h4, h5⟩
  · simp at h1
    obtain ⟨rfl, rfl, rfl⟩ := h1
    have hm0 : m = 0 := by omega
    subst hm0
    exact ⟨by simp, .inl ⟨rfl, by simp⟩⟩
  · simp at hv
    obtain ⟨rfl, rfl⟩ := hv
    refine ⟨by rw [List.length_take, hl]; omega, .inr ⟨g, c, cur, rfl, hb, hg, by omega, h3, h4, ?_⟩⟩
    rw [← h5, List.take_take]
    congr 1
    omega
theorem Stk.pop {w0 w : World} {A : Option Addr} {c d : Nat} {ds : List Nat} (h : Stk w0 w (.slice A (ds.length + 1) c) (d :: ds)) : Stk w0 w (.slice A ds.length c) ds := by
  obtain ⟨hu, h⟩ := h
  refine ⟨hu, ?_⟩
  have := own_cut (m := ds.length) h (by simp)
  rw [List.reverse_cons, List.map_append, List.take_left' (by simp)] at this
  exact this
theorem Stk.top {w0 w : World} {A : Option Addr} {c d : Nat} {ds : List Nat} (h : Stk w0 w (.slice A (ds.length + 1) c) (d :: ds)) : ∃ b o, A = some ⟨b, o, none⟩ ∧ w.cell? ⟨b, o + ds.length, none⟩ = some (.int .i64 (d : Int)) := by
  have hr := RdV.of_own h.2
  obtain ⟨b, o, h1, _, h3⟩ := hr.at_ (k := ds.length) (u := dv d) (by
    rw [List.reverse_cons, List.map_append, List.getElem?_append_right (by simp)]
    simp)
  exact ⟨b, o, h1, h3⟩
theorem Stk.form {w0 w : World} {v : Value} {ds : List Nat} (h : Stk w0 w v ds) : ∃ A c, v = .slice A ds.length c := by
  obtain ⟨A, c, h, _, _⟩ := own_form h.2
  exact ⟨A, c, h⟩
theorem Stk.up {w0 w w' : World} {v : Value} {ds : List Nat} (h : Stk w0 w v ds) (hu : Up w w') : Stk w0 w' v ds :=
  ⟨h.1.trans hu, own_made h.2 ⟨hu.os, hu.tape, hu.output, hu.size, fun k hk _ => hu.block k hk⟩⟩
theorem Stk.nil (w : World) : Stk w w (.slice none 0 0) [] := ⟨Up.refl w, World.ownsRow_nil w w.heap.size 3 1⟩
theorem info_int : (Try.prog.info? 3).map (fun i => (i.zero, i.size, i.bytes)) = some (some (.int .i64 0), 1, 8) := by kernel_rfl
theorem wl_push {w0 w : World} {ops : Array Oper} {rest : List Oper} {o : Oper} {a : Act} {Q : Exit → Act → World → Prop} (hgd : o.guard = none) (s x : Operand)
    (ho : o.op = .call { callee := .builtin .append, args := #[s, x], argTypes := #[184, 184] })
    {v : Value} {ds : List Nat} {d g c : Nat} (hs : a.eval s = v) (hown : Stk w0 w v ds) (hx : a.eval x = .slice (some ⟨g, 0, none⟩) 1 c) (hb : w.heap[g]? = some (.cells #[.int .i64 (d : Int)] 3 (0, 0))) (hl : ds.length ≤ 1000000)
    (h : ∀ v' w', Stk w0 w' v' (d :: ds) → wpList Try.prog ops Q rest (a.put o.dst v') w') : wpList Try.prog ops Q (o :: rest) a w := by
  obtain ⟨hu, hrow⟩ := hown
  have hr : RdV w (some ⟨g, 0, none⟩) [dv d] := fun _ => ⟨g, 0, rfl, (Array.getElem?_eq_some_iff.1 hb).1, fun j z hj => by
    rw [Nat.zero_add, cell_of_row w g j _ _ (0, 0) hb]
    simpa [dv] using hj⟩
  refine wl_append_any hgd s x 184 ho w0.heap.size 3 Try.underlying184 info_int rfl (by omega) hs hrow hx hr (by simp) (by simp [dv, Value.oneCell']) (by unfold maxLen; omega) (by omega) hu.size ?_
  intro v' w' h1 h2
  refine h v' w' ⟨hu.grown h2 (fun k hk => (hrow.lt k hk).1), ?_⟩
  rw [List.reverse_cons, List.map_append]
  exact h1

set_option maxRecDepth 100000 in
set_option maxHeartbeats 3200000 in
theorem tree_depth {v : Value} {l : List Tr.Nd} {d : Nat} {w : World} (h : Nds w v l) (hb : l.length ≤ 1000000) (he : Tr.Ex l d) :
    Calls Try.prog 96 #[v] w fun e w' => e = .returned (.int .i64 (d : Int)) ∧ Up w w' := by
  have HD : Hid (decide (Tr.wrongN l < 0) = true) := Lib.hid (by rw [he.right]; rfl)
  have HEX := Lib.hid he
  have HWR := Lib.hid he.right
  go_enter Try.func96, Try.ntmps96
  go_wp2_with fail
  refine (tree_right h hb).mono ?_
  rintro e w2 ⟨rfl, u2⟩
  rw [HD.out]
  have h := h.up u2
  obtain ⟨A, c, rfl, h1, h2, h3, h4⟩ := h
  have H3 := Lib.hid h3
  have H4 := Lib.hid h4
  clear h2 h3 h4
  have hfin0 : ∀ w', Up w2 w' → Up w w' := fun w' hu => u2.trans hu
  have HFIN := Lib.hid hfin0
  clear hfin0 u2
  go_wp2
  go_loopw [3, 5, 6, 12, 19] (fun s3 _ _ s12 _ wr => ∃ (k : Nat) (ds : List Nat), s12 = .int .i64 k ∧ k ≤ l.length ∧ Stk w2 wr s3 ds ∧ Hid (Tr.St (l.take k) ds) ∧ Hid (Tr.wrongG (l.drop k) ds.length k = -1)) (fun _ _ _ s12 _ _ => l.length - (intOf s12).toNat)
  case atStart => exact ⟨0, [], rfl, Nat.zero_le _, Stk.nil w2, Lib.hid Tr.St.nil, HWR⟩
  case round =>
    obtain ⟨k, ds, rfl, hk, hstk, HST, HG⟩ := hrel
    have hdl := HST.out.len_le
    have hdle := HST.out.le
    have hln : (l.take k).length ≤ k := by rw [List.length_take]; omega
    by_cases hlt : k < l.length
    · obtain ⟨b, p, rfl, hb1, g1, g2, u, g3, g4⟩ := (H4.out.up hstk.1).at_ hlt
      have hx := H3.out l[k] (List.getElem_mem hlt)
      have HTK : Hid (l.take (k + 1) = l.take k ++ [l[k]]) := Lib.hid (List.take_succ_eq_append_getElem hlt)
      have hrc : l.drop k = l[k] :: l.drop (k + 1) := List.drop_eq_getElem_cons hlt
      rw [hrc] at HG
      have hgood : ¬ (Tr.arN l[k].op < 0 ∨ (ds.length : Int) < Tr.arN l[k].op) := fun hh => by
        have := HG.out
        rw [Tr.wrongG_stop hh] at this
        omega
      have HSTEP := Lib.hid (HST.out.step hgood)
      have HG2 : Hid (Tr.wrongG (l.drop (k + 1)) (Tr.stepD l[k] ds).length (k + 1) = -1) := Lib.hid (by
        rw [HSTEP.out.2, ← Tr.wrongG_go hgood]
        exact HG.out)
      have harn := Tr.arN_cases l[k].op
      obtain ⟨m, hm, hm2, hmd⟩ : ∃ m : Nat, Tr.arN l[k].op = m ∧ m ≤ 2 ∧ m ≤ ds.length := ⟨(Tr.arN l[k].op).toNat, by omega, by omega, by omega⟩
      have HSD := Lib.hid (Tr.stepD_eq hm hmd)
      have HM := Lib.hid hm
      obtain ⟨B, d', rfl⟩ := g4.form
      have hmx : ∀ j, Tr.maxs (ds.take j) ≤ 1000000 := fun j => Tr.maxs_le (fun d hd => by have := hdle d (List.mem_of_mem_take hd); omega)
      have HMX := Lib.hid hmx
      have HDLE := Lib.hid (fun d hd => Nat.le_trans (hdle d hd) (Nat.le_trans hln (Nat.le_trans hk hb)))
      have hdl2 : ds.length ≤ 1000000 := by omega
      clear hrc hgood harn hm hmx hdle hdl HG g4
      have hstk0 := hstk.up ((Up.refl wr).alloc (.cells #[.int .i64 l[k].op, .int .i64 l[k].i, .slice B l[k].n.length d'] 135))
      generalize l[k] = x at *
      have hop := hx.1
      go_wp2_with fail
      refine (tree_arity hop _).mono ?_
      rintro e w3 ⟨rfl, rfl⟩
      rw [HM.out]
      clear hstk g1 g2 g3 hb1
      generalize wr.alloc (.cells #[.int .i64 x.op, .int .i64 x.i, .slice B x.n.length d'] 135) = W1 at *
      go_wp2_with fail
      go_loop [3, 6, 19] (fun s3 s6 s19 => ∃ (j : Nat), s19 = .int .i64 j ∧ j ≤ m ∧ s6 = .int .i64 ((Tr.maxs (ds.take j) : Nat) : Int) ∧ Stk w2 W1 s3 (ds.drop j)) (fun _ _ s19 => m - (intOf s19).toNat)
      case atStart => exact ⟨0, rfl, Nat.zero_le _, rfl, hstk0⟩
      case round =>
        obtain ⟨j, rfl, hj, rfl, hst⟩ := hrel
        by_cases hjm : j < m
        · have hjd : j < ds.length := by omega
          have hdrop : ds.drop j = ds[j] :: ds.drop (j + 1) := List.drop_eq_getElem_cons hjd
          have htake : ds.take (j + 1) = ds.take j ++ [ds[j]] := List.take_succ_eq_append_getElem hjd
          have htl := HDLE.out ds[j] (List.getElem_mem hjd)
          have hml := HMX.out j
          have hMX : Hid (((Tr.maxs (ds.take (j + 1)) : Nat) : Int) = if ((ds[j] : Nat) : Int) > ((Tr.maxs (ds.take j) : Nat) : Int) then ((ds[j] : Nat) : Int) else ((Tr.maxs (ds.take j) : Nat) : Int)) := Lib.hid (by
            rw [htake, Tr.maxs_snoc]
            split <;> omega)
          rw [hdrop] at hst
          have hel : (ds.drop (j + 1)).length ≤ 1000000 := by rw [List.length_drop]; omega
          clear hdrop htake
          generalize ds[j] = t at *
          generalize hM' : Tr.maxs (ds.take (j + 1)) = M' at *
          generalize Tr.maxs (ds.take j) = M at *
          generalize hE : ds.drop (j + 1) = E at *
          have HM' := Lib.hid hM'
          have HE := Lib.hid hE
          clear hM' hE
          obtain ⟨A', c', rfl, hcap, _⟩ := own_form hst.2
          rw [List.length_cons] at hcap
          obtain ⟨b2, o2, rfl, hc2⟩ := Stk.top hst
          have hpop := Stk.pop hst
          rw [List.length_cons]
          clear hst
          go_wp2_with (with_reducible show wpList _ _ _ _ _ _; refine wl_max (o := ⟨some 28, _, _, _, _, _⟩) rfl _ _ _ _ rfl rfl rfl hMX.out ?_)
          go_round
          case rel => exact ⟨j + 1, by go_num, by omega, by rw [HM'.out], by rw [HE.out]; exact hpop⟩
          case measure => simp [intOf]; omega
        · obtain rfl : j = m := by omega
          have hml := HMX.out j
          have HSD2 : Hid (Tr.stepD x ds = (Tr.maxs (ds.take j) + 1) :: ds.drop j) := HSD
          have hel : (ds.drop j).length ≤ 1000000 := by rw [List.length_drop]; omega
          generalize Tr.maxs (ds.take j) = M at *
          generalize ds.drop j = E at *
          go_wp2_with (at_builtin; refine wl_push (w0 := w2) rfl (.tmp 35) (.tmp 38) rfl (ds := E) (d := M + 1) rfl (hst.up ((Up.refl _).alloc _)) rfl (heap_alloc_new W1 _) hel ?_; intro v' w4 h5)
          rw [← HSD2.out] at h5
          go_wp2_with fail
          go_roundw
          case rel => exact ⟨k + 1, _, by go_num, by omega, h5, Lib.hid (by rw [HTK.out]; exact HSTEP.out.1), HG2⟩
          case measure => simp [intOf]; omega
    · obtain rfl : k = l.length := by omega
      have hg := HG.out
      rw [List.drop_length] at hg
      unfold Tr.wrongG at hg
      have h1 : ds.length = 1 := by
        by_cases h1 : ds.length = 1
        · exact h1
        · rw [if_neg h1] at hg; omega
      have hst2 := HST.out
      rw [List.take_length] at hst2
      obtain ⟨d2, rfl⟩ := List.length_eq_one_iff.1 h1
      have hdd : d2 = d := hst2.of_one.unique HEX.out
      subst hdd
      obtain ⟨A', c', rfl⟩ := hstk.form
      obtain ⟨b2, o2, rfl, hc2⟩ := Stk.top hstk
      have hc2 : wr.cell? ⟨b2, o2, none⟩ = some (.int .i64 (d2 : Int)) := hc2
      have hfin := HFIN.out wr hstk.1
      clear hg h1 hst2 HST HG hdle hdl
      go_wp2_with fail
      go_ret
      exact ⟨rfl, hfin⟩
end Go.Proofs.Ytmmcffceeahemaa
