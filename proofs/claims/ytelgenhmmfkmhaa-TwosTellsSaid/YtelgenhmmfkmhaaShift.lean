/-
  The walks of layer 3 that shift.
-/
import Derived.Test.YtelgenhmmfkmhaaRefTwos
import Derived.Test.YtelgenhmmfkmhaaSmall
set_option linter.unusedVariables false
set_option linter.unusedSimpArgs false
namespace Go.Proofs.Ytelgenhmmfkmhaa
open Go.RowKit

/-- 'max(x, y)' and 'min(x, y)' of two numbers of the machine. -/
theorem wl_max {w : World} {ops : Array Oper} {rest : List Oper} {o : Oper} {a : Act} {Q : Exit → Act → World → Prop} (hg : o.guard = none) (x y : Operand) (t u : TypeId)
    (ho : o.op = .call { callee := .builtin .max, args := #[x, y], argTypes := #[t, u] }) {k : IntKind} {m n : Int} (hx : a.eval x = .int k m) (hy : a.eval y = .int k n) {Z : Int} (hz : Z = if n > m then n else m)
    (h : wpList Try.prog ops Q rest (a.put o.dst (.int k Z)) w) : wpList Try.prog ops Q (o :: rest) a w := by
  refine wpList_plain hg fun K hK => ?_
  unfold Oper.wp execOp
  simp only [ho, resolve, invoke, builtin, Sem.run_bind, Sem.run_pure, Result.andThen_ok, List.map_toArray, List.map_cons, List.map_nil, hx, hy, Builtin.max_, Builtin.max2, List.foldlM_cons, List.foldlM_nil, bind_pure_comp, map_pure]
  exact hK _ _ (by rw [← hz]; exact h)
theorem wl_min {w : World} {ops : Array Oper} {rest : List Oper} {o : Oper} {a : Act} {Q : Exit → Act → World → Prop} (hg : o.guard = none) (x y : Operand) (t u : TypeId)
    (ho : o.op = .call { callee := .builtin .min, args := #[x, y], argTypes := #[t, u] }) {k : IntKind} {m n : Int} (hx : a.eval x = .int k m) (hy : a.eval y = .int k n) {Z : Int} (hz : Z = if n < m then n else m)
    (h : wpList Try.prog ops Q rest (a.put o.dst (.int k Z)) w) : wpList Try.prog ops Q (o :: rest) a w := by
  refine wpList_plain hg fun K hK => ?_
  unfold Oper.wp execOp
  simp only [ho, resolve, invoke, builtin, Sem.run_bind, Sem.run_pure, Result.andThen_ok, List.map_toArray, List.map_cons, List.map_nil, hx, hy, Builtin.min_, Builtin.min2, List.foldlM_cons, List.foldlM_nil, bind_pure_comp, map_pure]
  exact hK _ _ (by rw [← hz]; exact h)
theorem max_zero (n : Int) : ((n.toNat : Nat) : Int) = if (0 : Int) > n then 0 else n := by split <;> omega

theorem cast_down2 (x y k : Nat) : (((x : Int) + 4294967296 * (y : Int)) / 2 ^ k % 4294967296) = (((x + Wd.B * y) / 2 ^ k % Wd.B : Nat) : Int) := by rw [Wd.B_eq, Int.natCast_emod, Int.natCast_ediv, Int.natCast_add, Int.natCast_mul, Int.natCast_pow]; rfl
theorem cast_down1 (x k : Nat) : ((x : Int) / 2 ^ k % 4294967296) = ((x / 2 ^ k % Wd.B : Nat) : Int) := by rw [Wd.B_eq, Int.natCast_emod, Int.natCast_ediv, Int.natCast_pow]; rfl

set_option maxRecDepth 100000 in
set_option maxHeartbeats 1600000 in
theorem twos_down {v : Value} {l : List Nat} {w : World} {n : Int} (h : Ws w v l) (hl : l.length ≤ 100000000) (hn : -9223372036854775808 ≤ n ∧ n ≤ 9223372036854775807) :
    Calls Try.prog 85 #[v, .int .i64 n] w (RetW (Wd.words (Wd.val l / 2 ^ n.toNat)) w) := by
  have hM := max_zero n
  have hi : n.toNat ≤ 9223372036854775807 := by omega
  generalize n.toNat = i at *
  have HM := Lib.hid hM
  clear hn hM
  obtain ⟨A, c, rfl, p2, p3, p4, p5⟩ := h
  have P4 := Lib.hid p4
  have HW := @Wd.down_far l p4 (i / 32) (i % 32)
  rw [Nat.div_add_mod] at HW
  have HF := Lib.hid HW
  clear p3 p4 HW
  by_cases hfar : l.length ≤ i / 32
  · have E := Lib.hid (HF.out hfar)
    go_enter Try.func85, Try.ntmps85
    go_wp2_with (with_reducible show wpList _ _ _ _ _ _; refine wl_max (o := ⟨some 11, _, _, _, _, _⟩) rfl _ _ _ _ rfl rfl rfl HM.out ?_)
    go_ret
    refine ⟨_, rfl, ?_, Up.refl _⟩
    rw [E.out, Wd.words_zero]
    exact Ws.nil _
  · obtain ⟨L, hL⟩ : ∃ L, l.length = i / 32 + L := ⟨l.length - i / 32, by omega⟩
    have hb : i % 32 < 32 := Nat.mod_lt _ (by omega)
    have hend := fun (o : List Nat) (ho : o.length = L) hd => Wd.downAt_end (w := i / 32) (b := i % 32) (o := o) P4.out (by omega) (by rw [ho]; omega) hd
    rw [Nat.div_add_mod, show l.length - i / 32 = L from by omega] at hend
    have HEND := Lib.hid hend
    have hstep := fun k o (hk : k < o.length) hd => Wd.downAt_step (w := i / 32) (b := i % 32) (i := k) (o := o) P4.out hb hk hd
    have HSTEP := Lib.hid hstep
    have HST := Lib.hid (fun o => Wd.downAt_zero l o (i / 32) (i % 32))
    clear HF hend hstep
    go_enter Try.func85, Try.ntmps85
    go_wp2_with (first | (with_reducible show wpList _ _ _ _ _ _; refine wl_max (o := ⟨some 11, _, _, _, _, _⟩) rfl _ _ _ _ rfl rfl rfl HM.out ?_) | (at_make; go_loud (refine wl_make rfl _ _ rfl L rfl rfl ?_ ?_ ?_)))
    · omega
    · omega
    intro w1 hb1 hu1
    have HZ : Hid ((List.replicate L 0).length = L) := Lib.hid (by rw [List.length_replicate])
    have HZO := Lib.hid (Wd.ok_replicate L)
    generalize List.replicate L 0 = o1 at hb1 HZ HZO
    go_wp2_with fail
    go_loopw [27] (fun s27 wr => ∃ (k : Nat) (o : List Nat), s27 = .int .i64 k ∧ k ≤ L ∧ Hid (o.length = L) ∧ Hid (Wd.Ok o) ∧ Blk wr w.heap.size o ∧ Up w wr ∧ Hid (Wd.DownAt l o (i / 32) (i % 32) k)) (fun s27 _ => L - (intOf s27).toNat)
    case atStart => exact ⟨0, o1, rfl, Nat.zero_le _, HZ, HZO, hb1, hu1, Lib.hid (HST.out _)⟩
    case round =>
      obtain ⟨k, o, rfl, hk, ho, HO, hbl, hup, HAT⟩ := hrel
      by_cases hlt : k < L
      · have hx := Wd.ok_getD P4.out (i / 32 + k)
        have hy := Wd.ok_getD P4.out (i / 32 + k + 1)
        have hil : k < o.length := by rw [ho.out]; omega
        have HN := Lib.hid (HSTEP.out k o hil HAT.out)
        have hcg := hbl.cellD hil
        have hfg := hbl.free k
        obtain ⟨b1, o1, rfl, hb1, hc1⟩ := rd_word_D (p5.up hup) (k := i / 32 + k) (by omega)
        by_cases hlt2 : i / 32 + k + 1 < l.length
        · obtain ⟨b2, o2, e2, hb2, hc2⟩ := rd_word_D (p5.up hup) hlt2
          simp at e2
          obtain ⟨rfl, rfl⟩ := e2
          generalize l.getD (i / 32 + k) 0 = x at *
          generalize l.getD (i / 32 + k + 1) 0 = y at *
          generalize o.getD k 0 = z at *
          rw [Wd.B_eq] at hx hy
          have ho2 := nat_or_join x y hx hy
          have HO2 := Lib.hid (Wd.ok_set HO.out k (x := (x + Wd.B * y) / 2 ^ (i % 32) % Wd.B) (Nat.mod_lt _ Wd.B_pos))
          go_wp2
          go_roundw
          case rel => exact ⟨k + 1, _, by go_num, by omega, Lib.hid (by rw [List.length_set]; exact ho.out), HO2, by rw [cast_down2]; exact hbl.set k _, hup.setCell (Nat.le_refl _) _, HN⟩
          case measure => simp [intOf]; omega
        · have hy0 := getD_ge l (i := i / 32 + k + 1) (by omega)
          rw [hy0, Nat.mul_zero, Nat.add_zero] at HN
          clear hy0 hy
          generalize l.getD (i / 32 + k) 0 = x at *
          generalize o.getD k 0 = z at *
          rw [Wd.B_eq] at hx
          have HO2 := Lib.hid (Wd.ok_set HO.out k (x := x / 2 ^ (i % 32) % Wd.B) (Nat.mod_lt _ Wd.B_pos))
          go_wp2
          go_roundw
          case rel => exact ⟨k + 1, _, by go_num, by omega, Lib.hid (by rw [List.length_set]; exact ho.out), HO2, by rw [cast_down1]; exact hbl.set k _, hup.setCell (Nat.le_refl _) _, HN⟩
          case measure => simp [intOf]; omega
      · obtain rfl : k = L := by omega
        have HE := Lib.hid (HEND.out o ho.out HAT.out)
        have hwn : Ws wr (.slice (some ⟨w.heap.size, 0, none⟩) k k) o := by
          have := hbl.ws HO.out (by rw [ho.out]; unfold maxLen; omega)
          rw [ho.out] at this
          exact this
        have HLN : Hid (o.length ≤ 1000000000) := Lib.hid (by rw [ho.out]; omega)
        go_wp2_with fail
        refine (nat_norm hwn HLN.out).mono ?_
        intro e w2 hret
        obtain ⟨v2, rfl, h2, h3⟩ := hret.ws
        rw [HE.out] at h2
        have hfin := hup.trans h3
        go_wp2
        go_ret
        exact ⟨v2, rfl, h2, hfin⟩
end Go.Proofs.Ytelgenhmmfkmhaa
