/-
  The walk of nat.Small.
  The walks of layer 3 that tell of bits.
  The walks of layer 3 that shift.
-/
import Derived.Test.YtmmcffceeahemaaGreatZtNat
import Derived.Test.YtmmcffceeahemaaGreatZtPlain
import Derived.StillTailTactics
import Derived.Test.YtmmcffceeahemaaGreatZtShort
set_option linter.unusedVariables false
set_option linter.unusedSimpArgs false
namespace Go.Proofs.YtmmcffceeahemaaGreat
open Go.RowKit
theorem nat_or_join (X Y : Nat) (hx : X < 4294967296) (hy : Y < 4294967296) : bits BinOp.or IntKind.u64 (X : Int) ((Y : Int) * 4294967296) = ((X + 4294967296 * Y : Nat) : Int) := by
 have h := u64_or_nat X (Y * 4294967296) (by omega) (by omega)
 rw [Nat.or_comm, nat_join 32 _ _ (by omega) (by omega)] at h
 have e : ((Y : Int) * 4294967296) = ((Y * 4294967296 : Nat) : Int) := by omega
 rw [e, h]; omega
theorem nat_or_zero (X : Nat) (hx : X < 4294967296) : bits BinOp.or IntKind.u64 0 (X : Int) = (X : Int) := by
 have h := u64_or_nat 0 X (by omega) (by omega)
 rw [Nat.zero_or] at h
 exact h
/-- What Small tells: a number below 2^64, or that it isn't. -/
def smallN (n : Nat) : Nat := if (Wd.words n).length ≤ 2 then n else 0
def RetSmall (n : Nat) (w : World) (e : Ending) (w' : World) : Prop := e = .returned (.tuple #[.int .u64 ((smallN n : Nat) : Int), .bool (decide ((Wd.words n).length ≤ 2))]) ∧ w = w'
theorem ret_small {n : Nat} {w : World} {x : Int} {b : Bool} (h1 : x = smallN n) (h2 : b = decide ((Wd.words n).length ≤ 2)) : RetSmall n w (.returned (.tuple #[.int .u64 x, .bool b])) w := ⟨by rw [h1, h2], rfl⟩
theorem small_yes {n : Nat} (h : (Wd.words n).length ≤ 2) : smallN n = n := if_pos h
theorem small_no {n : Nat} (h : ¬ (Wd.words n).length ≤ 2) : smallN n = 0 := if_neg h
set_option maxHeartbeats 800000 in
theorem nat_small {v : Value} {l : List Nat} {w : World} (h : Ws w v l) (hl : l.length ≤ 100000000000) :
 Calls Tryz.prog 191 #[v] w (RetSmall (Wd.val l) w) := by
 go_enter Tryz.func191, Tryz.ntmps191
 go_wp2_with fail
 refine (nat_trim_ws h hl).mono ?_
 rintro e w' ⟨v', rfl, h', rfl⟩
 have el := len_words_val h.ok hl
 generalize Wd.val l = N at *
 obtain ⟨la, hla⟩ : ∃ la, la = Wd.words N := ⟨_, rfl⟩
 rw [← hla] at h' el
 have HV : Hid (Wd.val la = N) := Lib.hid (by rw [hla, Wd.val_words])
 have HLA := Lib.hid hla
 clear h hl hla
 obtain ⟨A, c, rfl, p2, p3, p4, p5⟩ := h'
 clear p3
 match la, p2, p4, p5, HV, HLA, el with
 | [], p2, p4, p5, HV, HLA, el =>
   have H1 : Hid (smallN N = 0 ∧ decide ((Wd.words N).length ≤ 2) = true) := Lib.hid (by
    have e : (Wd.words N).length ≤ 2 := by rw [← HLA.out]; simp
    exact ⟨by rw [small_yes e, ← HV.out]; rfl, decide_eq_true e⟩)
   clear p4 p5
   go_wp2
   refine wp_loop_rounds 1 ?_
   rw [rounds_succ]
   go_wp2
   go_ret2
   exact ret_small (by rw [H1.out.1]; rfl) H1.out.2.symm
 | [x], p2, p4, p5, HV, HLA, el =>
   have hx := Wd.ok_get p4 (i := 0) (by simp)
   obtain ⟨b, o, rfl, hb, hc⟩ := rd_word p5 (k := 0) (by simp)
   simp only [List.getElem_cons_zero, Nat.add_zero] at hx hc
   rw [Wd.B_eq] at hx
   have H1 : Hid (smallN N = x ∧ decide ((Wd.words N).length ≤ 2) = true) := Lib.hid (by
    have e : (Wd.words N).length ≤ 2 := by rw [← HLA.out]; simp
    exact ⟨by rw [small_yes e, ← HV.out]; simp [Wd.val], decide_eq_true e⟩)
   have ho := nat_or_zero x hx
   clear p4 p5
   go_wp2
   refine wp_loop_rounds 2 ?_
   rw [rounds_succ]
   go_wp2
   rw [rounds_succ]
   go_wp2
   go_ret2
   exact ret_small (by rw [H1.out.1]) H1.out.2.symm
 | [x, y], p2, p4, p5, HV, HLA, el =>
   have hx := Wd.ok_get p4 (i := 0) (by simp)
   have hy := Wd.ok_get p4 (i := 1) (by simp)
   obtain ⟨b, o, hA, hb, hc⟩ := rd_word p5 (k := 0) (by simp)
   obtain ⟨b', o', hA', hb', hc'⟩ := rd_word p5 (k := 1) (by simp)
   rw [hA] at hA'
   simp at hA'
   obtain ⟨rfl, rfl⟩ := hA'
   subst hA
   simp only [List.getElem_cons_zero, List.getElem_cons_succ, Nat.add_zero] at hx hy hc hc'
   rw [Wd.B_eq] at hx hy
   have H1 : Hid (smallN N = x + 4294967296 * y ∧ decide ((Wd.words N).length ≤ 2) = true) := Lib.hid (by
    have e : (Wd.words N).length ≤ 2 := by rw [← HLA.out]; simp
    exact ⟨by rw [small_yes e, ← HV.out]; simp [Wd.val, Wd.B_eq], decide_eq_true e⟩)
   have ho := nat_or_zero x hx
   have ho2 := nat_or_join x y hx hy
   clear p4 p5
   go_wp2
   refine wp_loop_rounds 3 ?_
   rw [rounds_succ]
   go_wp2
   rw [rounds_succ]
   go_wp2
   rw [rounds_succ]
   go_wp2
   go_ret2
   exact ret_small (by rw [H1.out.1]; first | rfl | simp) H1.out.2.symm
 | x :: y :: z :: r, p2, p4, p5, HV, HLA, el =>
   have H1 : Hid (smallN N = 0 ∧ decide ((Wd.words N).length ≤ 2) = false) := Lib.hid (by
    have e : ¬ (Wd.words N).length ≤ 2 := by rw [← HLA.out]; simp
    exact ⟨small_no e, decide_eq_false e⟩)
   clear p4 p5
   simp only [List.length_cons] at p2 el ⊢
   generalize r.length = q at *
   go_wp2
   go_ret2
   exact ret_small (by rw [H1.out.1]; rfl) H1.out.2.symm
theorem words_list {l : List Nat} {n : Nat} (ho : Wd.Ok l) (ht : Wd.trim l = l) (hv : Wd.val l = n) : Wd.words n = l := by rw [← hv, Wd.words_val ho, ht]
theorem ok_of_all {l : List Nat} (h : ∀ x ∈ l, x < 4294967296) : Wd.Ok l := by rw [← Wd.B_eq] at h; exact h
theorem words_small {n : Nat} (h0 : n ≠ 0) (h : n < 4294967296) : Wd.words n = [n] := words_list (ok_of_all (by simpa using h)) (by simp [Wd.trim, h0]) (by simp [Wd.val])
theorem nat_cmp_up {v u : Value} {a b : List Nat} {w : World} (ha : Ws w v a) (hb : Ws w u b) (hla : a.length ≤ 100000000000) (hlb : b.length ≤ 100000000000) :
 Calls Tryz.prog 165 #[v, u] w fun e w' => e = .returned (.int .i64 (Wd.cmpI (Wd.val a) (Wd.val b))) ∧ Up w w' :=
 (nat_cmp ha hb hla hlb).mono fun e w' ⟨n, h1, h2⟩ => ⟨h1, by rw [h2]; exact (Up.refl w).drewN n⟩
theorem len_shift {N k i : Nat} (h : N < 2 ^ (32 * k)) (hi : i ≤ 4096) : (Wd.words (N * 2 ^ i)).length ≤ k + 128 := by
 rw [Wd.words_length_le_iff, Wd.B_pow]
 refine Nat.lt_of_lt_of_le (Nat.mul_lt_mul_of_pos_right h (Nat.two_pow_pos i)) ?_
 rw [← Nat.pow_add]
 exact Nat.pow_le_pow_right (by omega) (by omega)
theorem words_1 : Wd.words 1 = [1] := words_small (by omega) (by omega)
end Go.Proofs.YtmmcffceeahemaaGreat
namespace Go.Proofs.YtmmcffceeahemaaGreat
open Go.RowKit
/-- What comes back: a number of the machine. -/
def RetI (i : Int) (w : World) (e : Ending) (w' : World) : Prop := e = .returned (.int .i64 i) ∧ Up w w'
theorem ret_i {i j : Int} {w w' : World} (h : i = j) (hu : Up w w') : RetI j w (.returned (.int .i64 i)) w' := ⟨by rw [h], hu⟩
/-- The bit at any place. -/
def bitZ (N : Nat) (n : Int) : Bool := if n < 0 then false else Wd.bitN N n.toNat
theorem bit_far {l : List Nat} (h : Wd.Ok l) {i : Nat} (hi : l.length ≤ i / 32) : Wd.bitN (Wd.val l) i = false := by
 unfold Wd.bitN
 rw [Wd.bit_word l h, getD_ge l hi]
 simp
end Go.Proofs.YtmmcffceeahemaaGreat
namespace Go.Proofs.YtmmcffceeahemaaGreat
open Go.RowKit
/-- 'max(x, y)' and 'min(x, y)' of two numbers of the machine. -/
theorem wl_max {w : World} {ops : Array Oper} {rest : List Oper} {o : Oper} {a : Act} {Q : Exit → Act → World → Prop} (hg : o.guard = none) (x y : Operand) (t u : TypeId)
 (ho : o.op = .call { callee := .builtin .max, args := #[x, y], argTypes := #[t, u] }) {k : IntKind} {m n : Int} (hx : a.eval x = .int k m) (hy : a.eval y = .int k n) {Z : Int} (hz : Z = if n > m then n else m)
 (h : wpList Tryz.prog ops Q rest (a.put o.dst (.int k Z)) w) : wpList Tryz.prog ops Q (o :: rest) a w := by
 refine wpList_plain hg fun K hK => ?_
 unfold Oper.wp execOp
 simp only [ho, resolve, invoke, builtin, Sem.run_bind, Sem.run_pure, Result.andThen_ok, List.map_toArray, List.map_cons, List.map_nil, hx, hy, Builtin.max_, Builtin.max2, List.foldlM_cons, List.foldlM_nil, bind_pure_comp, map_pure]
 exact hK _ _ (by rw [← hz]; exact h)
theorem wl_min {w : World} {ops : Array Oper} {rest : List Oper} {o : Oper} {a : Act} {Q : Exit → Act → World → Prop} (hg : o.guard = none) (x y : Operand) (t u : TypeId)
 (ho : o.op = .call { callee := .builtin .min, args := #[x, y], argTypes := #[t, u] }) {k : IntKind} {m n : Int} (hx : a.eval x = .int k m) (hy : a.eval y = .int k n) {Z : Int} (hz : Z = if n < m then n else m)
 (h : wpList Tryz.prog ops Q rest (a.put o.dst (.int k Z)) w) : wpList Tryz.prog ops Q (o :: rest) a w := by
 refine wpList_plain hg fun K hK => ?_
 unfold Oper.wp execOp
 simp only [ho, resolve, invoke, builtin, Sem.run_bind, Sem.run_pure, Result.andThen_ok, List.map_toArray, List.map_cons, List.map_nil, hx, hy, Builtin.min_, Builtin.min2, List.foldlM_cons, List.foldlM_nil, bind_pure_comp, map_pure]
 exact hK _ _ (by rw [← hz]; exact h)
/-- A shift to the left. -/
theorem wl_shl {w : World} {ops : Array Oper} {rest : List Oper} {o : Oper} {a : Act} {Q : Exit → Act → World → Prop} (hg : o.guard = none) (x y : Operand) (t u : TypeId)
 (ho : o.op = .binOp .shl t x y u) {k l : IntKind} {m n : Int} (hx : a.eval x = .int k m) (hy : a.eval y = .int l n) {Z : Int} (hz : 0 ≤ n ∧ k.wrap (m * 2 ^ min n.toNat k.bits) = Z)
 (h : wpList Tryz.prog ops Q rest (a.put o.dst (.int k Z)) w) : wpList Tryz.prog ops Q (o :: rest) a w := by
 refine wpList_plain hg fun K hK => ?_
 unfold Oper.wp execOp
 have hn : ¬ n < 0 := by omega
 simp [ho, hx, hy, eqGuard, binOp, Op.shift, hn, hz.2]
 exact hK _ _ h
theorem shl64 (x i W : Nat) (hW : W = x * 2 ^ (i % 32)) (h : W < 18446744073709551616) (hx : x < Wd.B) : 0 ≤ (i : Int) % 32 ∧ IntKind.u64.wrap (IntKind.u64.wrap (x : Int) * 2 ^ min ((i : Int) % 32).toNat IntKind.u64.bits) = (W : Int) := by
 have e1 : ((i : Int) % 32).toNat = i % 32 := by omega
 have e2 : min (i % 32) IntKind.u64.bits = i % 32 := by show min (i % 32) 64 = i % 32; omega
 have e4 : IntKind.u64.wrap (x : Int) = (x : Int) := by rw [IntKind.wrap_u64]; rw [Wd.B_eq] at hx; omega
 refine ⟨by omega, ?_⟩
 rw [e1, e2, e4]
 have e3 : (x : Int) * 2 ^ (i % 32) = (W : Int) := by rw [hW, Int.natCast_mul, Int.natCast_pow]; rfl
 rw [e3, IntKind.wrap_u64]
 omega
theorem up_or (x i W z : Nat) (hW : W = x * 2 ^ (i % 32)) (hz : z < 2 ^ (i % 32)) : bits BinOp.or IntKind.u32 (z : Int) ((W : Int) % 4294967296) = ((z + W % Wd.B : Nat) : Int) ∧ z + W % Wd.B < Wd.B := by
 have hb : i % 32 < 32 := Nat.mod_lt _ (by omega)
 have h1 := Wd.up_low (x := x) hb
 have h2 := Wd.up_add_lt (x := x) hb hz
 rw [← hW] at h1 h2
 refine ⟨?_, h2⟩
 rw [Wd.B_eq] at h1 h2 ⊢
 have e := u32_or_nat z (W % 4294967296) (by omega) (by omega)
 have e1 : (z ||| W % 4294967296) = z + W % 4294967296 := by
  obtain ⟨m, hm⟩ := Nat.dvd_of_mod_eq_zero h1
  rw [hm, Nat.or_comm, ← Nat.two_pow_add_eq_or_of_lt hz, Nat.add_comm]
 rw [e1] at e
 rw [show ((W : Int) % 4294967296) = ((W % 4294967296 : Nat) : Int) from by omega]
 exact e
theorem shl_lt64 {x i : Nat} (hx : x < Wd.B) : x * 2 ^ (i % 32) < 18446744073709551616 := by
 have hb : i % 32 < 32 := Nat.mod_lt _ (by omega)
 have h1 : (2 : Nat) ^ (i % 32) ≤ 2 ^ 32 := Nat.pow_le_pow_right (by omega) (by omega)
 rw [Wd.B_eq] at hx
 have h2 : x * 2 ^ (i % 32) ≤ x * 2 ^ 32 := Nat.mul_le_mul_left x h1
 omega
theorem max_zero (n : Int) : ((n.toNat : Nat) : Int) = if (0 : Int) > n then 0 else n := by split <;> omega
theorem cast_down2 (x y k : Nat) : (((x : Int) + 4294967296 * (y : Int)) / 2 ^ k % 4294967296) = (((x + Wd.B * y) / 2 ^ k % Wd.B : Nat) : Int) := by rw [Wd.B_eq, Int.natCast_emod, Int.natCast_ediv, Int.natCast_add, Int.natCast_mul, Int.natCast_pow]; rfl
theorem cast_down1 (x k : Nat) : ((x : Int) / 2 ^ k % 4294967296) = ((x / 2 ^ k % Wd.B : Nat) : Int) := by rw [Wd.B_eq, Int.natCast_emod, Int.natCast_ediv, Int.natCast_pow]; rfl
set_option maxRecDepth 100000 in
set_option maxHeartbeats 1600000 in
theorem twos_down {v : Value} {l : List Nat} {w : World} {n : Int} (h : Ws w v l) (hl : l.length ≤ 10000000000) (hn : -9223372036854775808 ≤ n ∧ n ≤ 9223372036854775807) :
 Calls Tryz.prog 196 #[v, .int .i64 n] w (RetW (Wd.words (Wd.val l / 2 ^ n.toNat)) w) := by
 have hM := max_zero n
 have hi : n.toNat ≤ 9223372036854775807 := by omega
 generalize n.toNat = i at *
 have HM := Lib.hid hM
 clear hn hM
 obtain ⟨A, c, rfl, p2, p3, p4, p5⟩ := h
 have P4 := Lib.hid p4
 have HW := @Wd.down_far l p4 (i / 32) (i % 32)
 rw [Nat.div_add_mod] at HW
 have HF := Lib.hid HW
 clear p3 p4 HW
 by_cases hfar : l.length ≤ i / 32
 · have E := Lib.hid (HF.out hfar)
   go_enter Tryz.func196, Tryz.ntmps196
   go_wp2_with (with_reducible show wpList _ _ _ _ _ _; refine wl_max (o := ⟨some 11, _, _, _, _, _⟩) rfl _ _ _ _ rfl rfl rfl HM.out ?_)
   go_ret
   refine ⟨_, rfl, ?_, Up.refl _⟩
   rw [E.out, Wd.words_zero]
   exact Ws.nil _
 · obtain ⟨L, hL⟩ : ∃ L, l.length = i / 32 + L := ⟨l.length - i / 32, by omega⟩
   have hb : i % 32 < 32 := Nat.mod_lt _ (by omega)
   have hend := fun (o : List Nat) (ho : o.length = L) hd => Wd.downAt_end (w := i / 32) (b := i % 32) (o := o) P4.out (by omega) (by rw [ho]; omega) hd
   rw [Nat.div_add_mod, show l.length - i / 32 = L from by omega] at hend
   have HEND := Lib.hid hend
   have hstep := fun k o (hk : k < o.length) hd => Wd.downAt_step (w := i / 32) (b := i % 32) (i := k) (o := o) P4.out hb hk hd
   have HSTEP := Lib.hid hstep
   have HST := Lib.hid (fun o => Wd.downAt_zero l o (i / 32) (i % 32))
   clear HF hend hstep
   go_enter Tryz.func196, Tryz.ntmps196
   go_wp2_with (first | (with_reducible show wpList _ _ _ _ _ _; refine wl_max (o := ⟨some 11, _, _, _, _, _⟩) rfl _ _ _ _ rfl rfl rfl HM.out ?_) | (at_make; go_loud (refine wl_make rfl _ _ rfl L rfl rfl ?_ ?_ ?_)))
   · omega
   · omega
   intro w1 hb1 hu1
   have HZ : Hid ((List.replicate L 0).length = L) := Lib.hid (by rw [List.length_replicate])
   have HZO := Lib.hid (Wd.ok_replicate L)
   generalize List.replicate L 0 = o1 at hb1 HZ HZO
   go_wp2_with fail
   go_loopw [27] (fun s27 wr => ∃ (k : Nat) (o : List Nat), s27 = .int .i64 k ∧ k ≤ L ∧ Hid (o.length = L) ∧ Hid (Wd.Ok o) ∧ Blk wr w.heap.size o ∧ Up w wr ∧ Hid (Wd.DownAt l o (i / 32) (i % 32) k)) (fun s27 _ => L - (intOf s27).toNat)
   case atStart => exact ⟨0, o1, rfl, Nat.zero_le _, HZ, HZO, hb1, hu1, Lib.hid (HST.out _)⟩
   case round =>
    obtain ⟨k, o, rfl, hk, ho, HO, hbl, hup, HAT⟩ := hrel
    by_cases hlt : k < L
    · have hx := Wd.ok_getD P4.out (i / 32 + k)
      have hy := Wd.ok_getD P4.out (i / 32 + k + 1)
      have hil : k < o.length := by rw [ho.out]; omega
      have HN := Lib.hid (HSTEP.out k o hil HAT.out)
      have hcg := hbl.cellD hil
      have hfg := hbl.free k
      obtain ⟨b1, o1, rfl, hb1, hc1⟩ := rd_word_D (p5.up hup) (k := i / 32 + k) (by omega)
      by_cases hlt2 : i / 32 + k + 1 < l.length
      · obtain ⟨b2, o2, e2, hb2, hc2⟩ := rd_word_D (p5.up hup) hlt2
        simp at e2
        obtain ⟨rfl, rfl⟩ := e2
        generalize l.getD (i / 32 + k) 0 = x at *
        generalize l.getD (i / 32 + k + 1) 0 = y at *
        generalize o.getD k 0 = z at *
        rw [Wd.B_eq] at hx hy
        have ho2 := nat_or_join x y hx hy
        have HO2 := Lib.hid (Wd.ok_set HO.out k (x := (x + Wd.B * y) / 2 ^ (i % 32) % Wd.B) (Nat.mod_lt _ Wd.B_pos))
        go_wp2
        go_roundw
        case rel => exact ⟨k + 1, _, by go_num, by omega, Lib.hid (by rw [List.length_set]; exact ho.out), HO2, by rw [cast_down2]; exact hbl.set k _, hup.setCell (Nat.le_refl _) _, HN⟩
        case measure => simp [intOf]; omega
      · have hy0 := getD_ge l (i := i / 32 + k + 1) (by omega)
        rw [hy0, Nat.mul_zero, Nat.add_zero] at HN
        clear hy0 hy
        generalize l.getD (i / 32 + k) 0 = x at *
        generalize o.getD k 0 = z at *
        rw [Wd.B_eq] at hx
        have HO2 := Lib.hid (Wd.ok_set HO.out k (x := x / 2 ^ (i % 32) % Wd.B) (Nat.mod_lt _ Wd.B_pos))
        go_wp2
        go_roundw
        case rel => exact ⟨k + 1, _, by go_num, by omega, Lib.hid (by rw [List.length_set]; exact ho.out), HO2, by rw [cast_down1]; exact hbl.set k _, hup.setCell (Nat.le_refl _) _, HN⟩
        case measure => simp [intOf]; omega
    · obtain rfl : k = L := by omega
      have HE := Lib.hid (HEND.out o ho.out HAT.out)
      have hwn : Ws wr (.slice (some ⟨w.heap.size, 0, none⟩) k k) o := by
       have := hbl.ws HO.out (by rw [ho.out]; unfold maxLen; omega)
       rw [ho.out] at this
       exact this
      have HLN : Hid (o.length ≤ 100000000000) := Lib.hid (by rw [ho.out]; omega)
      go_wp2_with fail
      refine (nat_norm hwn HLN.out).mono ?_
      intro e w2 hret
      obtain ⟨v2, rfl, h2, h3⟩ := hret.ws
      rw [HE.out] at h2
      have hfin := hup.trans h3
      go_wp2
      go_ret
      exact ⟨v2, rfl, h2, hfin⟩
theorem min_top {n : Nat} : ((min n 4096 : Nat) : Int) = if (4096 : Int) < (n : Int) then 4096 else (n : Int) := by split <;> omega
set_option maxRecDepth 100000 in
set_option maxHeartbeats 1600000 in
theorem twos_up_own {v : Value} {l : List Nat} {w : World} {n : Int} (h : Ws w v l) (hl : l.length ≤ 10000000000) (hn : -9223372036854775808 ≤ n ∧ n ≤ 9223372036854775807) :
 Calls Tryz.prog 194 #[v, .int .i64 n] w (RetO (Wd.words (Wd.val l * 2 ^ min n.toNat 4096)) w) := by
 have hM := max_zero n
 have HM := Lib.hid hM
 have HM2 := Lib.hid (min_top (n := n.toNat))
 have hi : min n.toNat 4096 ≤ 4096 := by omega
 generalize min n.toNat 4096 = i at *
 generalize n.toNat = j at *
 clear hn hM
 obtain ⟨A, c, rfl, p2, p3, p4, p5⟩ := h
 have P4 := Lib.hid p4
 clear p3 p4
 have hb : i % 32 < 32 := Nat.mod_lt _ (by omega)
 have hend := fun (o : List Nat) (ho : o.length = i / 32 + l.length + 1) hd => Wd.upAt_end (a := l) (w := i / 32) (b := i % 32) (o := o) ho hd
 rw [Nat.div_add_mod] at hend
 have HEND := Lib.hid hend
 have hstep := fun k o (hk : i / 32 + k + 1 < o.length) hd => Wd.upAt_step (a := l) (w := i / 32) (b := i % 32) (i := k) (o := o) hb (Wd.ok_getD P4.out k) hk hd
 have HSTEP := Lib.hid hstep
 have HST := Lib.hid (fun n => Wd.upAt_zero l n (i / 32) (i % 32))
 clear hend hstep
 go_enter Tryz.func194, Tryz.ntmps194
 go_wp2_with (first | (with_reducible show wpList _ _ _ _ _ _; refine wl_max (o := ⟨some 12, _, _, _, _, _⟩) rfl _ _ _ _ rfl rfl rfl HM.out ?_) | (with_reducible show wpList _ _ _ _ _ _; refine wl_min (o := ⟨some 13, _, _, _, _, _⟩) rfl _ _ _ _ rfl rfl rfl HM2.out ?_) | (at_make; go_loud (refine wl_make rfl _ _ rfl (i / 32 + l.length + 1) rfl rfl ?_ ?_ ?_)))
 · omega
 · omega
 intro w1 hb1 hu1
 have HZ : Hid ((List.replicate (i / 32 + l.length + 1) 0).length = i / 32 + l.length + 1) := Lib.hid (by rw [List.length_replicate])
 have HZO := Lib.hid (Wd.ok_replicate (i / 32 + l.length + 1))
 have HZA := Lib.hid (HST.out (i / 32 + l.length + 1))
 generalize List.replicate (i / 32 + l.length + 1) 0 = o1 at hb1 HZ HZO HZA
 clear HST
 go_wp2_with fail
 go_loopw [26] (fun s26 wr => ∃ (k : Nat) (o : List Nat), s26 = .int .i64 k ∧ k ≤ l.length ∧ Hid (o.length = i / 32 + l.length + 1) ∧ Hid (Wd.Ok o) ∧ Blk wr w.heap.size o ∧ Up w wr ∧ Hid (Wd.UpAt l o (i / 32) (i % 32) k)) (fun s26 _ => l.length - (intOf s26).toNat)
 case atStart => exact ⟨0, o1, rfl, Nat.zero_le _, HZ, HZO, hb1, hu1, HZA⟩
 case round =>
  obtain ⟨k, o, rfl, hk, ho, HO, hbl, hup, HAT⟩ := hrel
  by_cases hlt : k < l.length
  · have hx := Wd.ok_getD P4.out k
    have hil : i / 32 + k < o.length := by rw [ho.out]; omega
    have hil2 : i / 32 + k + 1 < o.length := by rw [ho.out]; omega
    have HN := Lib.hid (HSTEP.out k o hil2 HAT.out)
    have hcg := hbl.cellD hil
    have hfg := hbl.free (i / 32 + k)
    have hcg2 := hbl.cellD hil2
    have hfg2 := hbl.free (i / 32 + k + 1)
    have hz := Lib.hid HAT.out.1
    obtain ⟨b1, o1, rfl, hb1, hc1⟩ := rd_word_D (p5.up hup) (k := k) hlt
    generalize l.getD k 0 = x at *
    generalize o.getD (i / 32 + k) 0 = z at *
    generalize o.getD (i / 32 + k + 1) 0 = z2 at *
    have hW64 := shl_lt64 (i := i) hx
    obtain ⟨W, hW⟩ : ∃ W, W = x * 2 ^ (i % 32) := ⟨_, rfl⟩
    have HSH := Lib.hid (shl64 x i W hW (by rw [hW]; exact hW64) hx)
    rw [← hW] at HN hW64
    have HOR := Lib.hid (up_or x i W z hW hz.out)
    have HO2 := Lib.hid (Wd.ok_set (Wd.ok_set HO.out (i / 32 + k) HOR.out.2) (i / 32 + k + 1) (x := W / Wd.B) (by rw [Wd.B_eq]; omega))
    have eq : ((W : Int) / 4294967296) = ((W / Wd.B : Nat) : Int) := by rw [Wd.B_eq]; omega
    have EQ := Lib.hid eq
    clear hW eq hz hb
    go_wp2_with (with_reducible show wpList _ _ _ _ _ _; refine wl_shl (o := ⟨some 34, _, _, _, _, _⟩) rfl _ _ _ _ rfl rfl rfl HSH.out ?_)
    go_roundw
    case rel =>
     rw [HOR.out.1, EQ.out]
     exact ⟨k + 1, _, by go_num, by omega, Lib.hid (by rw [List.length_set, List.length_set]; exact ho.out), HO2, (hbl.set _ _).set _ _, (hup.setCell (Nat.le_refl _) _).setCell (Nat.le_refl _) _, HN⟩
    case measure => simp [intOf]; omega
  · obtain rfl : k = l.length := by omega
    have HE := Lib.hid (HEND.out o ho.out HAT.out)
    have hwn : Ws wr (.slice (some ⟨w.heap.size, 0, none⟩) (i / 32 + l.length + 1) (i / 32 + l.length + 1)) o := by
     have := hbl.ws HO.out (by rw [ho.out]; unfold maxLen; omega)
     rw [ho.out] at this
     exact this
    have HLN : Hid (o.length ≤ 100000000000) := Lib.hid (by rw [ho.out]; omega)
    go_wp2_with fail
    refine (nat_norm hwn HLN.out).mono ?_
    rintro e w2 ⟨v2, rfl, h2, h2o, h3⟩
    rw [HE.out] at h2 h2o
    have hsz := hup.size
    have hfin : Up w w2 := hup.trans h3
    go_wp2
    go_ret
    exact ⟨v2, rfl, own_weaken h2 hsz, h2o, hfin⟩
/-- A block that begins with just these words. -/
def BlkR (w : World) (g : Nat) (l : List Nat) (rest : List Value) : Prop := w.heap[g]? = some (.cells (l.map wv ++ rest).toArray 122 (0, 0))
theorem own_blk {w : World} {base n : Nat} {v : Value} {l : List Nat} (h : w.ownsRow base 122 1 v n (l.map wv)) (hn : 0 < n) :
 ∃ g c rest, v = .slice (some ⟨g, 0, none⟩) n c ∧ base ≤ g ∧ n ≤ c ∧ c ≤ maxLen ∧ BlkR w g l rest := by
 rcases h.2 with ⟨h1, rfl⟩ | ⟨g, cap, cur, hv, hb, hg, h2, h3, _, htake⟩
 · have := h.1; simp at this; omega
 · refine ⟨g, cap, cur.toList.drop (n * 1), hv, hb, h2, h3, ?_⟩
   unfold BlkR
   rw [hg, ← htake, List.take_append_drop]
theorem BlkR.lt {w : World} {g : Nat} {l : List Nat} {rest : List Value} (h : BlkR w g l rest) : g < w.heap.size := (Array.getElem?_eq_some_iff.1 h).1
theorem BlkR.cellD {w : World} {g : Nat} {l : List Nat} {rest : List Value} (h : BlkR w g l rest) {i : Nat} (hi : i < l.length) : w.cell? ⟨g, i, none⟩ = some (.int .u32 ((l.getD i 0 : Nat) : Int)) := by
 rw [getD_lt l hi, cell_of_row w g i _ _ (0, 0) h]
 simp only [List.getElem?_toArray]
 rw [List.getElem?_append_left (by simpa using hi)]
 simp [wv, hi]
theorem BlkR.free {w : World} {g : Nat} {l : List Nat} {rest : List Value} (h : BlkR w g l rest) (i : Nat) : w.frozen? ⟨g, i, none⟩ = false := by
 unfold BlkR at h
 simp [World.frozen?, h]
theorem BlkR.set {w : World} {g : Nat} {l : List Nat} {rest : List Value} (h : BlkR w g l rest) {i : Nat} (hi : i < l.length) (x : Nat) : BlkR (w.setCell ⟨g, i, none⟩ (.int .u32 (x : Int))) g (l.set i x) rest := by
 unfold BlkR at h ⊢
 simp only [World.setCell, Array.getElem?_modify, h]
 simp [wv, List.map_set, List.set_append, hi]
theorem BlkR.drew {w : World} {g : Nat} {l : List Nat} {rest : List Value} (h : BlkR w g l rest) : BlkR w.drew g l rest := h
theorem BlkR.ws {w : World} {g c : Nat} {l : List Nat} {rest : List Value} (h : BlkR w g l rest) (ho : Wd.Ok l) (hc : l.length ≤ c) (hm : c ≤ maxLen) : Ws w (.slice (some ⟨g, 0, none⟩) l.length c) l :=
 Ws.mk rfl hc hm ho fun _ => ⟨g, 0, rfl, h.lt, fun j u hj => by
  rw [Nat.zero_add, cell_of_row w g j _ _ (0, 0) h]
  have hlt : j < (l.map wv).length := by
   rcases Nat.lt_or_ge j (l.map wv).length with h | h
   · exact h
   · rw [List.getElem?_eq_none h] at hj; cases hj
  simp only [List.getElem?_toArray]
  rw [List.getElem?_append_left hlt]
  exact hj⟩
end Go.Proofs.YtmmcffceeahemaaGreat
