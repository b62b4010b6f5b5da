/-
  The walks of layer 1, the program's and the document's: each call computes the numbers that the plain text names.
-/
import Derived.Test.YtmmcffceeahemaaGreatChecked
import Derived.Test.YtmmcffceeahemaaGreatZtPlain
import Derived.WalkKit
import Derived.WalkSpells
import Derived.WalkLawsBesides
import Derived.BigQuiet
import Derived.Deep.QuietTactic
import Derived.Lib.Hide
import Derived.Test.YtmmcffceeahemaaGreatZtShort
set_option linter.unusedVariables false
set_option linter.unusedSimpArgs false
namespace Go.Proofs.YtmmcffceeahemaaGreat
open Go.RowKit
theorem ret_pair {k l : IntKind} {a b c d : Int} (h1 : a = c) (h2 : b = d) : Ending.returned (.tuple #[.int k a, .int l b]) = Ending.returned (.tuple #[.int k c, .int l d]) := by rw [h1, h2]
theorem ret_int {k : IntKind} {a b : Int} (h : a = b) : Ending.returned (.int k a) = .returned (.int k b) := by rw [h]
set_option maxHeartbeats 400000 in
theorem limb_add {x y c : Int} (X Y C : Nat) (hx : x = X) (hy : y = Y) (hc : c = C) (bx : X < Wd.B) (b_y : Y < Wd.B) (bc : C < Wd.B) (w : World) :
 Calls Tryz.prog 197 #[.int .u32 x, .int .u32 y, .int .u32 c] w fun e w' => e = .returned (.tuple #[.int .u32 (Wd.addS X Y C : Nat), .int .u32 (Wd.addC X Y C : Nat)]) ∧ w = w' := by
 subst hx hy hc
 rw [Wd.B_eq] at bx b_y bc
 go_enter Tryz.func197, Tryz.ntmps197
 go_wp2
 all_goals
  go_ret2
  refine ⟨ret_pair ?_ ?_, rfl⟩
  all_goals (simp only [Wd.addS, Wd.addC]; omega)
set_option maxHeartbeats 400000 in
theorem limb_sub {x y c : Int} (X Y C : Nat) (hx : x = X) (hy : y = Y) (hc : c = C) (bx : X < Wd.B) (b_y : Y < Wd.B) (bc : C < Wd.B) (w : World) :
 Calls Tryz.prog 198 #[.int .u32 x, .int .u32 y, .int .u32 c] w fun e w' => e = .returned (.tuple #[.int .u32 (Wd.subD X Y C : Nat), .int .u32 (Wd.subB X Y C : Nat)]) ∧ w = w' := by
 subst hx hy hc
 rw [Wd.B_eq] at bx b_y bc
 go_enter Tryz.func198, Tryz.ntmps198
 go_wp2
 all_goals
  go_ret2
  refine ⟨ret_pair ?_ ?_, rfl⟩
  all_goals (simp only [Wd.subD, Wd.subB]; omega)
set_option maxHeartbeats 400000 in
theorem limb_mul {x y c d : Int} (X Y C D : Nat) (hx : x = X) (hy : y = Y) (hc : c = C) (hd : d = D) (bx : X < Wd.B) (b_y : Y < Wd.B) (bc : C < Wd.B) (bd : D < Wd.B) (w : World) :
 Calls Tryz.prog 189 #[.int .u32 x, .int .u32 y, .int .u32 c, .int .u32 d] w fun e w' => e = .returned (.tuple #[.int .u32 (Wd.mulH X Y C D : Nat), .int .u32 (Wd.mulL X Y C D : Nat)]) ∧ w = w' := by
 subst hx hy hc hd
 have hm := Wd.mul_le_top bx b_y
 have hm2 : (X : Int) * Y ≤ 18446744065119617025 := by rw [← Int.natCast_mul]; omega
 rw [Wd.B_eq] at bx b_y bc bd
 go_enter Tryz.func189, Tryz.ntmps189
 go_wp2
 all_goals
  go_ret2
  refine ⟨ret_pair ?_ ?_, rfl⟩
  all_goals (simp only [Wd.mulH, Wd.mulL]; omega)
set_option maxHeartbeats 400000 in
theorem limb_div_no {x y z : Int} (X Y Z : Nat) (hx : x = X) (hy : y = Y) (hz : z = Z) (bx : X < Wd.B) (b_y : Y < Wd.B) (bz : Z < Wd.B) (h : Z ≤ X) (w : World) :
 Calls Tryz.prog 199 #[.int .u32 x, .int .u32 y, .int .u32 z] w fun e w' => e = .returned (.tuple #[.int .u32 0, .int .u32 0, .bool false]) ∧ w = w' := by
 subst hx hy hz
 rw [Wd.B_eq] at bx b_y bz
 go_enter Tryz.func199, Tryz.ntmps199
 go_wp2
 go_ret3
 exact ⟨rfl, rfl⟩
theorem or_join (X Y : Nat) (hx : X < 4294967296) (hy : Y < 4294967296) : bits BinOp.or IntKind.u64 ((X : Int) * 4294967296) Y = ((X * 4294967296 + Y : Nat) : Int) := by
 have h := u64_or_nat (X * 4294967296) Y (by omega) (by omega)
 rw [nat_join 32 _ _ (by omega) (by omega)] at h
 rw [← h]; rfl
set_option maxHeartbeats 400000 in
theorem limb_div {x y z : Int} (X Y Z : Nat) (hx : x = X) (hy : y = Y) (hz : z = Z) (bx : X < Wd.B) (b_y : Y < Wd.B) (bz : Z < Wd.B) (h : X < Z) (w : World) :
 Calls Tryz.prog 199 #[.int .u32 x, .int .u32 y, .int .u32 z] w fun e w' => ∃ n, e = .returned (.tuple #[.int .u32 (Wd.divQ X Y Z : Nat), .int .u32 (Wd.divR X Y Z : Nat), .bool true]) ∧ w' = w.drewN n := by
 subst hx hy hz
 have hq := Wd.divQ_lt b_y h
 have hr := Wd.divR_lt (h := X) (l := Y) (y := Z) (by omega)
 rw [Wd.B_eq] at bx b_y bz hq
 obtain ⟨n, hn⟩ : ∃ n, n = X * 4294967296 + Y := ⟨_, rfl⟩
 have hor := or_join X Y bx b_y
 rw [← hn] at hor
 have hn2 : n < 18446744073709551616 := by omega
 have hQ : Hid (Wd.divQ X Y Z = n / Z) := by rw [hn]; rfl
 have hR : Hid (Wd.divR X Y Z = n % Z) := by rw [hn]; rfl
 clear hn
 go_enter Tryz.func199, Tryz.ntmps199
 go_wp2
 go_quiet (fail)
 go_wp2
 go_ret3
 refine ⟨nq, ?_, rfl⟩
 rw [hQ.out] at hq ⊢
 rw [hR.out] at hr ⊢
 have e1 : IntKind.u64.wrap ((n : Int) / (Z : Int)) % 4294967296 = ((n / Z : Nat) : Int) := by
  rw [← Int.natCast_ediv]
  generalize n / Z = q at hq ⊢
  rw [IntWalk.u64_in _ (by omega)]; omega
 have e2 : (n : Int) % (Z : Int) % 4294967296 = ((n % Z : Nat) : Int) := by omega
 exact congrArg Ending.returned (by rw [← e1, ← e2]; rfl)
set_option maxHeartbeats 400000 in
theorem limb_len {x : Int} (X : Nat) (hx : x = X) (bx : X < Wd.B) (w : World) :
 Calls Tryz.prog 183 #[.int .u32 x] w fun e w' => e = .returned (.int .i64 (Wd.bl X : Nat)) ∧ w = w' := by
 subst hx
 rw [Wd.B_eq] at bx
 go_enter Tryz.func183, Tryz.ntmps183
 go_wp2
 go_loop [0, 3, 4] (fun x n s => ∃ y k t : Nat, x = .int .u32 y ∧ n = .int .i64 k ∧ s = .int .i64 t ∧ k + 2 * t ≤ 32 ∧ Hid (Wd.bl X = Wd.bl y + k) ∧ (t = 16 ∧ y < 4294967296 ∨ t = 8 ∧ y < 65536 ∨ t = 4 ∧ y < 256 ∨ t = 2 ∧ y < 16 ∨ t = 1 ∧ y < 4 ∨ t = 0 ∧ y < 2)) (fun _ _ s => (intOf s).toNat)
 case atStart => exact ⟨X, 0, 16, rfl, rfl, rfl, by omega, by simp [Hid], by omega⟩
 case round =>
  obtain ⟨y, k, t, rfl, rfl, rfl, hk, hl, ht⟩ := hrel
  have key : ∀ s, y / 2 ^ s ≠ 0 → Wd.bl X = Wd.bl (y / 2 ^ s) + (k + s) := fun s h => by rw [hl.out, Wd.bl_shift s y h]; omega
  have Key := Lib.hid key
  clear key
  rcases ht with ⟨rfl, hy⟩ | ⟨rfl, hy⟩ | ⟨rfl, hy⟩ | ⟨rfl, hy⟩ | ⟨rfl, hy⟩ | ⟨rfl, hy⟩
  · go_wp2
    · have h : ((y : Int) / 65536 != 0) = true := by assumption
      go_round
      case rel => exact ⟨y / 65536, k + 16, 8, by go_num, by go_num, rfl, by omega, Key.out 16 (by simp at h; omega), by omega⟩
      case measure => simp [intOf]
    · have h : ((y : Int) / 65536 != 0) = false := by assumption
      go_round
      case rel => exact ⟨y, k, 8, rfl, rfl, rfl, by omega, hl, by simp at h; omega⟩
      case measure => simp [intOf]
  · go_wp2
    · have h : ((y : Int) / 256 != 0) = true := by assumption
      go_round
      case rel => exact ⟨y / 256, k + 8, 4, by go_num, by go_num, rfl, by omega, Key.out 8 (by simp at h; omega), by omega⟩
      case measure => simp [intOf]
    · have h : ((y : Int) / 256 != 0) = false := by assumption
      go_round
      case rel => exact ⟨y, k, 4, rfl, rfl, rfl, by omega, hl, by simp at h; omega⟩
      case measure => simp [intOf]
  · go_wp2
    · have h : ((y : Int) / 16 != 0) = true := by assumption
      go_round
      case rel => exact ⟨y / 16, k + 4, 2, by go_num, by go_num, rfl, by omega, Key.out 4 (by simp at h; omega), by omega⟩
      case measure => simp [intOf]
    · have h : ((y : Int) / 16 != 0) = false := by assumption
      go_round
      case rel => exact ⟨y, k, 2, rfl, rfl, rfl, by omega, hl, by simp at h; omega⟩
      case measure => simp [intOf]
  · go_wp2
    · have h : ((y : Int) / 4 != 0) = true := by assumption
      go_round
      case rel => exact ⟨y / 4, k + 2, 1, by go_num, by go_num, rfl, by omega, Key.out 2 (by simp at h; omega), by omega⟩
      case measure => simp [intOf]
    · have h : ((y : Int) / 4 != 0) = false := by assumption
      go_round
      case rel => exact ⟨y, k, 1, rfl, rfl, rfl, by omega, hl, by simp at h; omega⟩
      case measure => simp [intOf]
  · go_wp2
    · have h : ((y : Int) / 2 != 0) = true := by assumption
      go_round
      case rel => exact ⟨y / 2, k + 1, 0, by go_num, by go_num, rfl, by omega, Key.out 1 (by simp at h; omega), by omega⟩
      case measure => simp [intOf]
    · have h : ((y : Int) / 2 != 0) = false := by assumption
      go_round
      case rel => exact ⟨y, k, 0, rfl, rfl, rfl, by omega, hl, by simp at h; omega⟩
      case measure => simp [intOf]
  · go_wp2
    go_ret
    exact ⟨ret_int (by rw [hl.out, Wd.bl_small hy]; omega), rfl⟩
set_option maxHeartbeats 400000 in
theorem ref_zeros1 {x : Int} (X : Nat) (hx : x = X) (bx : X < Wd.B) (h0 : 0 < X) (w : World) :
 Calls Tryz.prog 168 #[.int .u32 x] w fun e w' => e = .returned (.int .i64 (Wd.tz X : Nat)) ∧ w = w' := by
 subst hx
 have h32 := Wd.tz_lt 32 X (by omega) (by rw [Wd.B_two] at bx; exact bx)
 rw [Wd.B_eq] at bx
 have e0 : ((X : Int) == 0) = false := by simp; omega
 go_enter Tryz.func168, Tryz.ntmps168
 go_wp2
 go_loop [0, 3] (fun x n => ∃ y k : Nat, x = .int .u32 y ∧ n = .int .i64 k ∧ k ≤ 32 ∧ 0 < y ∧ y ≤ X ∧ Hid (Wd.tz X = Wd.tz y + k)) (fun x _ => (intOf x).toNat)
 case atStart => exact ⟨X, 0, rfl, rfl, by omega, h0, Nat.le_refl _, by simp [Hid]⟩
 case round =>
  obtain ⟨y, k, rfl, rfl, hk, hy0, hyX, hl⟩ := hrel
  by_cases hod : y % 2 = 0
  · have h1 : Wd.tz X = Wd.tz (y / 2) + (k + 1) := by rw [hl.out, Wd.tz_even (by omega) hod]; ac_rfl
    have h2 : k + 1 ≤ 32 := by omega
    have H1 := Lib.hid h1
    clear h1
    have e2 : ((y : Int) % 2 == 0) = true := by simp; omega
    have hy1 : 2 ≤ y := by omega
    clear hod
    go_wp2
    go_round
    case rel => exact ⟨y / 2, k + 1, by go_num, by go_num, h2, by omega, by omega, H1⟩
    case measure => simp [intOf]; omega
  · have h1 : Wd.tz X = k := by rw [hl.out, Wd.tz_odd (by omega)]; omega
    have H1 := Lib.hid h1
    clear h1
    have e2 : ((y : Int) % 2 == 0) = false := by simp; omega
    clear hod
    go_wp2
    go_ret
    exact ⟨ret_int (by rw [H1.out]), rfl⟩
/-- The document's division, bit by bit: what holds when j bits are still to come. -/
def RD (hi lo y j q r : Nat) : Prop := hi * 2 ^ (32 - j) + lo / 2 ^ j = q * y + r ∧ r < y ∧ q < 2 ^ (32 - j)
end Go.Proofs.YtmmcffceeahemaaGreat
