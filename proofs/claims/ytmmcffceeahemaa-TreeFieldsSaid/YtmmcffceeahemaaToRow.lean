/-
  Layer 17: nodes turned over, told whole: a row of the call's own, its numbers older still.
-/
import Derived.Test.YtmmcffceeahemaaSameField2
import Derived.Deep.LoopGhost
set_option linter.unusedVariables false
set_option linter.unusedSimpArgs false
namespace Go.Proofs.Ytmmcffceeahemaa
open Go.RowKit

/-- A row of nodes of the call's own, whose numbers lie in an elder world. -/
def RowT (T : TypeId) (wn w0 w : World) (v : Value) (l : List Tr.Nd) : Prop :=
  (∀ x ∈ l, I64 x.op ∧ I64 x.i) ∧ Up wn w0 ∧ Up w0 w ∧ ∃ us, Nums wn l us ∧ w.ownsRow w0.heap.size T 3 v l.length (flat l us)
theorem RowT.world {T : TypeId} {wn w0 w : World} {v : Value} {l : List Tr.Nd} (h : RowT T wn w0 w v l) : Up w0 w := h.2.2.1
theorem RowT.none_ (T : TypeId) {wn w : World} (h : Up wn w) : RowT T wn w w (.slice none 0 0) [] := ⟨by simp, h, Up.refl w, [], Nums.nil wn, World.ownsRow_nil w w.heap.size T 3⟩
theorem RowT.row {T : TypeId} {wn w0 w : World} {v : Value} {l : List Tr.Nd} (h : RowT T wn w0 w v l) : Row True T w0 w v l := by
  obtain ⟨h1, h2, h3, us, h4, h5⟩ := h
  exact ⟨h1, h3, us, NumsB.old (h4.up h2), h5⟩
theorem RowT.form {T : TypeId} {wn w0 w : World} {v : Value} {l : List Tr.Nd} (h : RowT T wn w0 w v l) : ∃ A c, v = .slice A l.length c := h.row.form
theorem RowT.up {T : TypeId} {wn w0 w w' : World} {v : Value} {l : List Tr.Nd} (h : RowT T wn w0 w v l) (hu : Up w w') : RowT T wn w0 w' v l := by
  obtain ⟨h1, h2, h3, us, h4, h5⟩ := h
  exact ⟨h1, h2, h3.trans hu, us, h4, own_made h5 ⟨hu.os, hu.tape, hu.output, hu.size, fun k hk _ => hu.block k hk⟩⟩
/-- The call's world goes back to the caller's: only the row's base falls. -/
theorem RowT.weaken {T : TypeId} {wn w0 w1 w : World} {v : Value} {l : List Tr.Nd} (h : RowT T wn w1 w v l) (hn : Up wn w0) (hu : Up w0 w1) : RowT T wn w0 w v l := by
  obtain ⟨h1, h2, h3, us, h4, h5⟩ := h
  exact ⟨h1, hn, hu.trans h3, us, h4, own_weaken h5 hu.size⟩
/-- It stays what it is when another row of the call's own grows, or one of its blocks is stored to. -/
theorem RowT.kept {T : TypeId} {wn w0 w w' : World} {v : Value} {l : List Tr.Nd} {row : Option Nat} (h : RowT T wn w0 w v l) (hg : w.grownBy w' row) (hr : ∀ k, row = some k → w0.heap.size ≤ k) (hne : v.ownBlock = none ∨ v.ownBlock ≠ row) : RowT T wn w0 w' v l := by
  obtain ⟨h1, h2, h3, us, h4, h5⟩ := h
  exact ⟨h1, h2, h3.grown hg hr, us, h4, h5.kept hg hne⟩
/-- 'append(v, Node{..})' inside a region that draws its order. -/
theorem step_row_tt {wn w0 w : World} {ops : Array Oper} {o : Oper} {a : Act} {K : Act → World → Prop} {Q : Exit → Act → World → Prop} {E : Prop} (hgd : o.guard = none) (s y : Operand)
    (ho : o.op = .call { callee := .builtin .append, args := #[s, y], argTypes := #[38, 38] })
    {v : Value} {l : List Tr.Nd} (hs : a.eval s = v) (hown : RowT 135 wn w0 w v l)
    {g c : Nat} {x : Tr.Nd} {u : Value} (hy : a.eval y = .slice (some ⟨g, 0, none⟩) 1 c) (hb : w.heap[g]? = some (.cells #[.int .i64 x.op, .int .i64 x.i, u] 135 (0, 0))) (hn : Ws wn u x.n) (hk : I64 x.op ∧ I64 x.i) (hl : l.length ≤ 400000000)
    (h : ∀ v' w', RowT 135 wn w0 w' v' (l ++ [x]) → w.grownBy w' v.ownBlock → K (a.put o.dst v') w') : if Region.wanted o (yielded ops a.tmps) = true then Oper.wp Try.prog o a w K Q else E := by
  obtain ⟨h0, hun, hu, us, hn0, hrow⟩ := hown
  obtain ⟨i0, hi, hz0, hz1, hz2⟩ := info_parts info_tnode
  have hc : ∀ (j : Nat) z, (flat [x] [u])[j]? = some z → w.cell? ((⟨g, 0, none⟩ : Addr).add j) = some z := fun j z hj => by
    have e : (⟨g, 0, none⟩ : Addr).add j = ⟨g, j, none⟩ := by unfold Addr.add; by_cases h0 : j = 0 <;> simp [h0]
    rw [e, cell_of_row w g j _ _ (0, 0) hb]
    simpa [flat] using hj
  have hone : Nums w [x] [u] := Nums.snoc (Nums.nil w) (hn.up (hun.trans hu))
  refine step_append_lies w hgd s y 38 ho w0.heap.size 135 i0 _ 3 40 Try.underlying38 hi hz0 hz1 hz2 rfl (by omega) v l.length (flat l us) hs hrow ⟨g, 0, none⟩ 1 c (flat [x] [u]) hy rfl hc (flat_oneCell hone) (by omega) (by unfold maxLen; omega) (by omega) hu.size _ rfl ?_
  intro g' cap w' h1 h2 _ _
  have hu2 : Up w0 w' := hu.grown h2 (fun k hk => (hrow.lt k hk).1)
  refine h _ w' ⟨?_, hun, hu2, us ++ [u], hn0.snoc hn, ?_⟩ ?_
  · intro z hz
    rcases List.mem_append.1 hz with hz | hz
    · exact h0 z hz
    · simp at hz; subst hz; exact hk
  · rw [flat_append l us [x] [u] hn0.1, List.length_append]
    exact h1
  · exact h2
/-- What comes back of 'To', told whole. -/
def RetT (T : TypeId) (wn : World) (l : List Tr.Nd) (w : World) (e : Ending) (w' : World) : Prop := ∃ v, e = .returned v ∧ RowT T wn w w' v l

set_option maxRecDepth 100000 in
set_option maxHeartbeats 1600000 in
theorem law_to_row {v : Value} {l : List Tr.Nd} {wn w : World} (h : Nds wn v l) (hwn : Up wn w) (hl : l.length ≤ 1000000) :
    Calls Try.prog 97 #[v] w (RetT 135 wn l w) := by
  obtain ⟨A, c, rfl, h1, h2, h3, h4⟩ := h
  have H3 := Lib.hid h3
  have H4 := Lib.hid h4
  clear h2 h3 h4
  go_enter Try.func97, Try.ntmps97
  go_wp2
  go_loopw [3, 4] (fun s3 s4 wr => ∃ (k : Nat), s4 = .int .i64 k ∧ k ≤ l.length ∧ RowT 135 wn w wr s3 (l.take k)) (fun _ s4 _ => l.length - (intOf s4).toNat)
  case atStart => exact ⟨0, rfl, Nat.zero_le _, RowT.none_ _ hwn⟩
  case round =>
    obtain ⟨k, rfl, hk, hrow⟩ := hrel
    by_cases hlt : k < l.length
    · obtain ⟨b, p, rfl, hb, g1, g2, u, g3, g4⟩ := ((H4.out.up hwn).up hrow.world).at_ hlt
      obtain ⟨g4o, hold⟩ : Ws wn u l[k].n ∧ ∀ w', Up w w' → w'.cell? ⟨b, p + k * 3, none⟩ = some (.int .i64 l[k].op) ∧ w'.cell? ⟨b, p + k * 3 + 1, none⟩ = some (.int .i64 l[k].i) ∧ w'.cell? ⟨b, p + k * 3 + 2, none⟩ = some u := by
        obtain ⟨b', p', e, _, q1, q2, u', q3, q4⟩ := H4.out.at_ hlt
        cases e
        have hbw0 := World.block_lt_of_cell? wn _ q3
        have hbw : b < w.heap.size := Nat.lt_of_lt_of_le hbw0 hwn.size
        have this := ((hwn.trans hrow.world).cell (p := ⟨b, p + k * 3 + 2, none⟩) hbw0).trans q3
        rw [g3] at this
        cases this
        have q1 := (hwn.cell (p := ⟨b, p + k * 3, none⟩) hbw0).trans q1
        have q2 := (hwn.cell (p := ⟨b, p + k * 3 + 1, none⟩) hbw0).trans q2
        have q3 := (hwn.cell (p := ⟨b, p + k * 3 + 2, none⟩) hbw0).trans q3
        exact ⟨q4, fun w' hu => ⟨(hu.cell (p := ⟨b, p + k * 3, none⟩) hbw).trans q1, (hu.cell (p := ⟨b, p + k * 3 + 1, none⟩) hbw).trans q2, (hu.cell (p := ⟨b, p + k * 3 + 2, none⟩) hbw).trans q3⟩⟩
      have HOLD := Lib.hid hold
      clear hold
      have hx := H3.out l[k] (List.getElem_mem hlt)
      have HTK : Hid (l.take (k + 1) = l.take k ++ [l[k]]) := Lib.hid (List.take_succ_eq_append_getElem hlt)
      have hlen : (l.take k).length = k := by rw [List.length_take]; omega
      obtain ⟨B, d, rfl⟩ := g4.form
      have HLEN := Lib.hid hlen
      clear hlen g4
      generalize l[k] = x at *
      obtain ⟨C, cc, rfl⟩ := hrow.form
      rw [HLEN.out] at hrow ⊢
      have k1 : (k : Int) < (l.length : Int) := by omega
      have k0 : (0 : Int) ≤ (k : Int) := by omega
      have kk : ((k : Int)).toNat = k := by omega
      go_wp2
      go_region_held3 (fun w' => w'.cell? ⟨b, p + k * 3, none⟩ = some (.int .i64 x.op) ∧ w'.cell? ⟨b, p + k * 3 + 1, none⟩ = some (.int .i64 x.i) ∧ w'.cell? ⟨b, p + k * 3 + 2, none⟩ = some (.slice B x.n.length d))
        (first | go_keep | exact HOLD.out _ h5.world)
        ((refine step_row_tt (wn := wn) (w0 := w) (by rfl) _ _ (by rfl) (l := l.take k) (x := x) (u := .slice B x.n.length d) (by rfl) (hrow.up (by first | exact ((Up.refl _).alloc _).drew | exact ((Up.refl _).drew).alloc _ | exact (Up.refl _).alloc _)) (by rfl) (heap_alloc_new wr _) g4o hx (by rw [HLEN.out]; omega) ?_; intro v' w3 h5 gr5))
      rw [← HTK.out] at h5
      go_wp2
      go_roundw
      case rel => exact ⟨k + 1, by go_num, by omega, h5⟩
      case measure => simp [intOf]; omega
    · obtain rfl : k = l.length := by omega
      rw [List.take_length] at hrow
      go_wp2
      go_ret
      exact ⟨_, rfl, hrow⟩
end Go.Proofs.Ytmmcffceeahemaa
