/-
  The walks of layer 1, the program's and the document's: each call computes the numbers that the plain text names.
-/
import Derived.Test.YtelgenhmmfkmhaaChecked
import Derived.Test.YtelgenhmmfkmhaaWords
import Derived.WalkKit
import Derived.WalkSpells
import Derived.WalkLawsBesides
import Derived.BigQuiet
import Derived.Deep.QuietTactic
import Derived.Lib.Hide
set_option linter.unusedVariables false
set_option linter.unusedSimpArgs false
namespace Go.Proofs.Ytelgenhmmfkmhaa
open Go.RowKit

theorem ret_pair {k l : IntKind} {a b c d : Int} (h1 : a = c) (h2 : b = d) : Ending.returned (.tuple #[.int k a, .int l b]) = Ending.returned (.tuple #[.int k c, .int l d]) := by rw [h1, h2]
theorem ret_int {k : IntKind} {a b : Int} (h : a = b) : Ending.returned (.int k a) = .returned (.int k b) := by rw [h]

set_option maxHeartbeats 400000 in
theorem limb_add {x y c : Int} (X Y C : Nat) (hx : x = X) (hy : y = Y) (hc : c = C) (bx : X < Wd.B) (b_y : Y < Wd.B) (bc : C < Wd.B) (w : World) :
    Calls Try.prog 36 #[.int .u32 x, .int .u32 y, .int .u32 c] w fun e w' => e = .returned (.tuple #[.int .u32 (Wd.addS X Y C : Nat), .int .u32 (Wd.addC X Y C : Nat)]) ∧ w = w' := by
  subst hx hy hc
  rw [Wd.B_eq] at bx b_y bc
  go_enter Try.func36, Try.ntmps36
  go_wp2
  all_goals
    go_ret2
    refine ⟨ret_pair ?_ ?_, rfl⟩
    all_goals (simp only [Wd.addS, Wd.addC]; omega)

set_option maxHeartbeats 400000 in
theorem ref_add1 {x y c : Int} (X Y C : Nat) (hx : x = X) (hy : y = Y) (hc : c = C) (bx : X < Wd.B) (b_y : Y < Wd.B) (bc : C < Wd.B) (w : World) :
    Calls Try.prog 37 #[.int .u32 x, .int .u32 y, .int .u32 c] w fun e w' => e = .returned (.tuple #[.int .u32 (Wd.addS X Y C : Nat), .int .u32 (Wd.addC X Y C : Nat)]) ∧ w = w' := by
  subst hx hy hc
  rw [Wd.B_eq] at bx b_y bc
  go_enter Try.func37, Try.ntmps37
  go_wp2
  all_goals
    go_ret2
    refine ⟨ret_pair ?_ ?_, rfl⟩
    all_goals (simp only [Wd.addS, Wd.addC]; omega)

set_option maxHeartbeats 400000 in
theorem limb_sub {x y c : Int} (X Y C : Nat) (hx : x = X) (hy : y = Y) (hc : c = C) (bx : X < Wd.B) (b_y : Y < Wd.B) (bc : C < Wd.B) (w : World) :
    Calls Try.prog 38 #[.int .u32 x, .int .u32 y, .int .u32 c] w fun e w' => e = .returned (.tuple #[.int .u32 (Wd.subD X Y C : Nat), .int .u32 (Wd.subB X Y C : Nat)]) ∧ w = w' := by
  subst hx hy hc
  rw [Wd.B_eq] at bx b_y bc
  go_enter Try.func38, Try.ntmps38
  go_wp2
  all_goals
    go_ret2
    refine ⟨ret_pair ?_ ?_, rfl⟩
    all_goals (simp only [Wd.subD, Wd.subB]; omega)

set_option maxHeartbeats 400000 in
theorem limb_mul {x y c d : Int} (X Y C D : Nat) (hx : x = X) (hy : y = Y) (hc : c = C) (hd : d = D) (bx : X < Wd.B) (b_y : Y < Wd.B) (bc : C < Wd.B) (bd : D < Wd.B) (w : World) :
    Calls Try.prog 40 #[.int .u32 x, .int .u32 y, .int .u32 c, .int .u32 d] w fun e w' => e = .returned (.tuple #[.int .u32 (Wd.mulH X Y C D : Nat), .int .u32 (Wd.mulL X Y C D : Nat)]) ∧ w = w' := by
  subst hx hy hc hd
  have hm := Wd.mul_le_top bx b_y
  have hm2 : (X : Int) * Y ≤ 18446744065119617025 := by rw [← Int.natCast_mul]; omega
  rw [Wd.B_eq] at bx b_y bc bd
  go_enter Try.func40, Try.ntmps40
  go_wp2
  all_goals
    go_ret2
    refine ⟨ret_pair ?_ ?_, rfl⟩
    all_goals (simp only [Wd.mulH, Wd.mulL]; omega)

set_option maxHeartbeats 400000 in
theorem limb_div_no {x y z : Int} (X Y Z : Nat) (hx : x = X) (hy : y = Y) (hz : z = Z) (bx : X < Wd.B) (b_y : Y < Wd.B) (bz : Z < Wd.B) (h : Z ≤ X) (w : World) :
    Calls Try.prog 42 #[.int .u32 x, .int .u32 y, .int .u32 z] w fun e w' => e = .returned (.tuple #[.int .u32 0, .int .u32 0, .bool false]) ∧ w = w' := by
  subst hx hy hz
  rw [Wd.B_eq] at bx b_y bz
  go_enter Try.func42, Try.ntmps42
  go_wp2
  go_ret3
  exact ⟨rfl, rfl⟩

theorem or_join (X Y : Nat) (hx : X < 4294967296) (hy : Y < 4294967296) : bits BinOp.or IntKind.u64 ((X : Int) * 4294967296) Y = ((X * 4294967296 + Y : Nat) : Int) := by
  have h := u64_or_nat (X * 4294967296) Y (by omega) (by omega)
  rw [nat_join 32 _ _ (by omega) (by omega)] at h
  rw [← h]; rfl

set_option maxHeartbeats 400000 in
theorem limb_div {x y z : Int} (X Y Z : Nat) (hx : x = X) (hy : y = Y) (hz : z = Z) (bx : X < Wd.B) (b_y : Y < Wd.B) (bz : Z < Wd.B) (h : X < Z) (w : World) :
    Calls Try.prog 42 #[.int .u32 x, .int .u32 y, .int .u32 z] w fun e w' => ∃ n, e = .returned (.tuple #[.int .u32 (Wd.divQ X Y Z : Nat), .int .u32 (Wd.divR X Y Z : Nat), .bool true]) ∧ w' = w.drewN n := by
  subst hx hy hz
  have hq := Wd.divQ_lt b_y h
  have hr := Wd.divR_lt (h := X) (l := Y) (y := Z) (by omega)
  rw [Wd.B_eq] at bx b_y bz hq
  obtain ⟨n, hn⟩ : ∃ n, n = X * 4294967296 + Y := ⟨_, rfl⟩
  have hor := or_join X Y bx b_y
  rw [← hn] at hor
  have hn2 : n < 18446744073709551616 := by omega
  have hQ : Hid (Wd.divQ X Y Z = n / Z) := by rw [hn]; rfl
  have hR : Hid (Wd.divR X Y Z = n % Z) := by rw [hn]; rfl
  clear hn
  go_enter Try.func42, Try.ntmps42
  go_wp2
  go_quiet (fail)
  go_wp2
  go_ret3
  refine ⟨nq, ?_, rfl⟩
  rw [hQ.out] at hq ⊢
  rw [hR.out] at hr ⊢
  have e1 : IntKind.u64.wrap ((n : Int) / (Z : Int)) % 4294967296 = ((n / Z : Nat) : Int) := by
    rw [← Int.natCast_ediv]
    generalize n / Z = q at hq ⊢
    rw [IntWalk.u64_in _ (by omega)]; omega
  have e2 : (n : Int) % (Z : Int) % 4294967296 = ((n % Z : Nat) : Int) := by omega
  exact congrArg Ending.returned (by rw [← e1, ← e2]; rfl)

set_option maxHeartbeats 400000 in
theorem limb_len {x : Int} (X : Nat) (hx : x = X) (bx : X < Wd.B) (w : World) :
    Calls Try.prog 31 #[.int .u32 x] w fun e w' => e = .returned (.int .i64 (Wd.bl X : Nat)) ∧ w = w' := by
  subst hx
  rw [Wd.B_eq] at bx
  go_enter Try.func31, Try.ntmps31
  go_wp2
  go_loop [0, 3, 4] (fun x n s => ∃ y k t : Nat, x = .int .u32 y ∧ n = .int .i64 k ∧ s = .int .i64 t ∧ k + 2 * t ≤ 32 ∧ Hid (Wd.bl X = Wd.bl y + k) ∧ (t = 16 ∧ y < 4294967296 ∨ t = 8 ∧ y < 65536 ∨ t = 4 ∧ y < 256 ∨ t = 2 ∧ y < 16 ∨ t = 1 ∧ y < 4 ∨ t = 0 ∧ y < 2)) (fun _ _ s => (intOf s).toNat)
  case atStart => exact ⟨X, 0, 16, rfl, rfl, rfl, by omega, by simp [Hid], by omega⟩
  case round =>
    obtain ⟨y, k, t, rfl, rfl, rfl, hk, hl, ht⟩ := hrel
    have key : ∀ s, y / 2 ^ s ≠ 0 → Wd.bl X = Wd.bl (y / 2 ^ s) + (k + s) := fun s h => by rw [hl.out, Wd.bl_shift s y h]; omega
    have Key := Lib.hid key
    clear key
    rcases ht with ⟨rfl, hy⟩ | ⟨rfl, hy⟩ | ⟨rfl, hy⟩ | ⟨rfl, hy⟩ | ⟨rfl, hy⟩ | ⟨rfl, hy⟩
    · go_wp2
      · have h : ((y : Int) / 65536 != 0) = true := by assumption
        go_round
        case rel => exact ⟨y / 65536, k + 16, 8, by go_num, by go_num, rfl, by omega, Key.out 16 (by simp at h; omega), by omega⟩
        case measure => simp [intOf]
      · have h : ((y : Int) / 65536 != 0) = false := by assumption
        go_round
        case rel => exact ⟨y, k, 8, rfl, rfl, rfl, by omega, hl, by simp at h; omega⟩
        case measure => simp [intOf]
    · go_wp2
      · have h : ((y : Int) / 256 != 0) = true := by assumption
        go_round
        case rel => exact ⟨y / 256, k + 8, 4, by go_num, by go_num, rfl, by omega, Key.out 8 (by simp at h; omega), by omega⟩
        case measure => simp [intOf]
      · have h : ((y : Int) / 256 != 0) = false := by assumption
        go_round
        case rel => exact ⟨y, k, 4, rfl, rfl, rfl, by omega, hl, by simp at h; omega⟩
        case measure => simp [intOf]
    · go_wp2
      · have h : ((y : Int) / 16 != 0) = true := by assumption
        go_round
        case rel => exact ⟨y / 16, k + 4, 2, by go_num, by go_num, rfl, by omega, Key.out 4 (by simp at h; omega), by omega⟩
        case measure => simp [intOf]
      · have h : ((y : Int) / 16 != 0) = false := by assumption
        go_round
        case rel => exact ⟨y, k, 2, rfl, rfl, rfl, by omega, hl, by simp at h; omega⟩
        case measure => simp [intOf]
    · go_wp2
      · have h : ((y : Int) / 4 != 0) = true := by assumption
        go_round
        case rel => exact ⟨y / 4, k + 2, 1, by go_num, by go_num, rfl, by omega, Key.out 2 (by simp at h; omega), by omega⟩
        case measure => simp [intOf]
      · have h : ((y : Int) / 4 != 0) = false := by assumption
        go_round
        case rel => exact ⟨y, k, 1, rfl, rfl, rfl, by omega, hl, by simp at h; omega⟩
        case measure => simp [intOf]
    · go_wp2
      · have h : ((y : Int) / 2 != 0) = true := by assumption
        go_round
        case rel => exact ⟨y / 2, k + 1, 0, by go_num, by go_num, rfl, by omega, Key.out 1 (by simp at h; omega), by omega⟩
        case measure => simp [intOf]
      · have h : ((y : Int) / 2 != 0) = false := by assumption
        go_round
        case rel => exact ⟨y, k, 0, rfl, rfl, rfl, by omega, hl, by simp at h; omega⟩
        case measure => simp [intOf]
    · go_wp2
      go_ret
      exact ⟨ret_int (by rw [hl.out, Wd.bl_small hy]; omega), rfl⟩

set_option maxHeartbeats 400000 in
theorem ref_len1 {x : Int} (X : Nat) (hx : x = X) (bx : X < Wd.B) (w : World) :
    Calls Try.prog 32 #[.int .u32 x] w fun e w' => e = .returned (.int .i64 (Wd.bl X : Nat)) ∧ w = w' := by
  subst hx
  have h32 := (Wd.bl_le_iff 32 X).2 (by rw [Wd.B_two] at bx; exact bx)
  rw [Wd.B_eq] at bx
  go_enter Try.func32, Try.ntmps32
  go_wp2
  go_loop [0, 3] (fun x n => ∃ y k : Nat, x = .int .u32 y ∧ n = .int .i64 k ∧ k ≤ 32 ∧ y ≤ X ∧ Hid (Wd.bl X = Wd.bl y + k)) (fun x _ => (intOf x).toNat)
  case atStart => exact ⟨X, 0, rfl, rfl, by omega, Nat.le_refl _, by simp [Hid]⟩
  case round =>
    obtain ⟨y, k, rfl, rfl, hk, hyX, hl⟩ := hrel
    by_cases h0 : y = 0
    · subst h0
      go_wp2
      go_ret
      exact ⟨ret_int (by rw [hl.out, Wd.bl_zero]; omega), rfl⟩
    · have h1 : Wd.bl X = Wd.bl (y / 2) + (k + 1) := by rw [hl.out, Wd.bl_pos h0]; omega
      have h2 : k + 1 ≤ 32 := by omega
      have H1 := Lib.hid h1
      clear h1
      have h3 : 0 < y := by omega
      clear h0
      go_wp2
      go_round
      case rel => exact ⟨y / 2, k + 1, by go_num, by go_num, h2, by omega, H1⟩
      case measure => simp [intOf]; omega

set_option maxHeartbeats 400000 in
theorem limb_zeros {x : Int} (X : Nat) (hx : x = X) (bx : X < Wd.B) (h0 : 0 < X) (w : World) :
    Calls Try.prog 33 #[.int .u32 x] w fun e w' => e = .returned (.int .i64 (Wd.tz X : Nat)) ∧ w = w' := by
  subst hx
  have h32 := Wd.tz_lt 32 X (by omega) (by rw [Wd.B_two] at bx; exact bx)
  rw [Wd.B_eq] at bx
  have hb : ∀ y : Nat, y < 4294967296 → bits BinOp.and IntKind.u32 (y : Int) 65535 = ((y % 65536 : Nat) : Int) := fun y h => by
    have := u32_and_nat y 65535 h (by omega); rw [nat_mask16] at this; exact this
  have hb1 : ∀ y : Nat, y < 4294967296 → bits BinOp.and IntKind.u32 (y : Int) 1 = ((y % 2 : Nat) : Int) := fun y h => by
    have := u32_and_nat y 1 h (by omega); rw [nat_mask1] at this; exact this
  have Hb1 := Lib.hid hb1
  clear hb1
  have hbX := hb X bx
  clear hb
  go_enter Try.func33, Try.ntmps33
  by_cases hlow : X % 65536 = 0
  all_goals
    have hst : ∃ y k : Nat, (if X % 65536 = 0 then y = X / 65536 ∧ k = 16 else y = X ∧ k = 0) ∧ 0 < y ∧ y ≤ X ∧ k ≤ 32 ∧ Wd.tz X = Wd.tz y + k := by
      by_cases hlow : X % 65536 = 0
      · exact ⟨X / 65536, 16, by simp [hlow], by omega, by omega, by omega, Wd.tz_shift 16 X (by omega) hlow⟩
      · exact ⟨X, 0, by simp [hlow], h0, by omega, by omega, rfl⟩
    simp only [hlow, ↓reduceIte] at hst
    have Hst := Lib.hid hst
    clear hst
    have e0 : ((X : Int) == 0) = false := by simp; omega
    have e1 : (((X % 65536 : Nat) : Int) == 0) = decide (X % 65536 = 0) := by rw [Bool.eq_iff_iff]; simp; omega
    first | rw [decide_eq_true hlow] at e1 | rw [decide_eq_false hlow] at e1
    clear hlow
    go_wp2
    go_loop [0, 3] (fun x n => ∃ y k : Nat, x = .int .u32 y ∧ n = .int .i64 k ∧ k ≤ 32 ∧ 0 < y ∧ y ≤ X ∧ Hid (Wd.tz X = Wd.tz y + k)) (fun x _ => (intOf x).toNat)
    case atStart =>
      obtain ⟨y, k, ⟨e2, e3⟩, h1, h2, h3, h4⟩ := Hst.out
      exact ⟨y, k, by subst e2; first | rfl | go_num, by subst e3; rfl, h3, h1, h2, h4⟩
    case round =>
      obtain ⟨y, k, rfl, rfl, hk, hy0, hyX, hl⟩ := hrel
      have hby := Hb1.out y (by omega)
      by_cases hod : y % 2 = 0
      · have h1 : Wd.tz X = Wd.tz (y / 2) + (k + 1) := by rw [hl.out, Wd.tz_even (by omega) hod]; ac_rfl
        have h2 : k + 1 ≤ 32 := by omega
        have H1 := Lib.hid h1
        clear h1
        have e2 : (((y % 2 : Nat) : Int) == 0) = true := by simp; omega
        have hy1 : 2 ≤ y := by omega
        clear hod
        go_wp2
        go_round
        case rel => exact ⟨y / 2, k + 1, by go_num, by go_num, h2, by omega, by omega, H1⟩
        case measure => simp [intOf]; omega
      · have h1 : Wd.tz X = k := by rw [hl.out, Wd.tz_odd (by omega)]; omega
        have H1 := Lib.hid h1
        clear h1
        have e2 : (((y % 2 : Nat) : Int) == 0) = false := by simp; omega
        clear hod
        go_wp2
        go_ret
        exact ⟨ret_int (by rw [H1.out]), rfl⟩

set_option maxHeartbeats 400000 in
theorem limb_zeros_0 {x : Int} (hx : x = 0) (w : World) :
    Calls Try.prog 33 #[.int .u32 x] w fun e w' => e = .returned (.int .i64 32) ∧ w = w' := by
  subst hx
  go_enter Try.func33, Try.ntmps33
  go_wp2
  go_ret
  exact ⟨rfl, rfl⟩

set_option maxHeartbeats 400000 in
theorem ref_zeros1_0 {x : Int} (hx : x = 0) (w : World) :
    Calls Try.prog 34 #[.int .u32 x] w fun e w' => e = .returned (.int .i64 32) ∧ w = w' := by
  subst hx
  go_enter Try.func34, Try.ntmps34
  go_wp2
  go_ret
  exact ⟨rfl, rfl⟩

set_option maxHeartbeats 400000 in
theorem ref_zeros1 {x : Int} (X : Nat) (hx : x = X) (bx : X < Wd.B) (h0 : 0 < X) (w : World) :
    Calls Try.prog 34 #[.int .u32 x] w fun e w' => e = .returned (.int .i64 (Wd.tz X : Nat)) ∧ w = w' := by
  subst hx
  have h32 := Wd.tz_lt 32 X (by omega) (by rw [Wd.B_two] at bx; exact bx)
  rw [Wd.B_eq] at bx
  have e0 : ((X : Int) == 0) = false := by simp; omega
  go_enter Try.func34, Try.ntmps34
  go_wp2
  go_loop [0, 3] (fun x n => ∃ y k : Nat, x = .int .u32 y ∧ n = .int .i64 k ∧ k ≤ 32 ∧ 0 < y ∧ y ≤ X ∧ Hid (Wd.tz X = Wd.tz y + k)) (fun x _ => (intOf x).toNat)
  case atStart => exact ⟨X, 0, rfl, rfl, by omega, h0, Nat.le_refl _, by simp [Hid]⟩
  case round =>
    obtain ⟨y, k, rfl, rfl, hk, hy0, hyX, hl⟩ := hrel
    by_cases hod : y % 2 = 0
    · have h1 : Wd.tz X = Wd.tz (y / 2) + (k + 1) := by rw [hl.out, Wd.tz_even (by omega) hod]; ac_rfl
      have h2 : k + 1 ≤ 32 := by omega
      have H1 := Lib.hid h1
      clear h1
      have e2 : ((y : Int) % 2 == 0) = true := by simp; omega
      have hy1 : 2 ≤ y := by omega
      clear hod
      go_wp2
      go_round
      case rel => exact ⟨y / 2, k + 1, by go_num, by go_num, h2, by omega, by omega, H1⟩
      case measure => simp [intOf]; omega
    · have h1 : Wd.tz X = k := by rw [hl.out, Wd.tz_odd (by omega)]; omega
      have H1 := Lib.hid h1
      clear h1
      have e2 : ((y : Int) % 2 == 0) = false := by simp; omega
      clear hod
      go_wp2
      go_ret
      exact ⟨ret_int (by rw [H1.out]), rfl⟩

set_option maxHeartbeats 400000 in
theorem ref_mul1 {x y c d : Int} (X Y C D : Nat) (hx : x = X) (hy : y = Y) (hc : c = C) (hd : d = D) (bx : X < Wd.B) (b_y : Y < Wd.B) (bc : C < Wd.B) (bd : D < Wd.B) (w : World) :
    Calls Try.prog 41 #[.int .u32 x, .int .u32 y, .int .u32 c, .int .u32 d] w fun e w' => e = .returned (.tuple #[.int .u32 (Wd.mulH X Y C D : Nat), .int .u32 (Wd.mulL X Y C D : Nat)]) ∧ w = w' := by
  subst hx hy hc hd
  rw [Wd.B_eq] at bx b_y bc bd
  have m1 : X / 65536 * Y ≤ 65535 * 4294967295 := Nat.mul_le_mul (by omega) (by omega)
  have m2 : X % 65536 * Y ≤ 65535 * 4294967295 := Nat.mul_le_mul (by omega) (by omega)
  have n1 : (X : Int) / 65536 * Y ≤ 65535 * 4294967295 := by have e : (X : Int) / 65536 * Y = ((X / 65536 * Y : Nat) : Int) := by simp
                                                             rw [e]; omega
  have n2 : (X : Int) % 65536 * Y ≤ 65535 * 4294967295 := by have e : (X : Int) % 65536 * Y = ((X % 65536 * Y : Nat) : Int) := by simp
                                                             rw [e]; omega
  have p1 : 0 ≤ (X : Int) / 65536 * Y := Int.mul_nonneg (by omega) (by omega)
  have p2 : 0 ≤ (X : Int) % 65536 * Y := Int.mul_nonneg (by omega) (by omega)
  have hs : X * Y = 65536 * (X / 65536 * Y) + X % 65536 * Y := by
    rw [← Nat.mul_assoc, ← Nat.add_mul, Nat.div_add_mod]
  have Hs := Lib.hid hs
  clear hs
  go_enter Try.func41, Try.ntmps41
  go_wp2
  go_ret2
  have e1 : (X : Int) / 65536 * Y = ((X / 65536 * Y : Nat) : Int) := by simp
  have e2 : (X : Int) % 65536 * Y = ((X % 65536 * Y : Nat) : Int) := by simp
  refine ⟨ret_pair ?_ ?_, rfl⟩
  · simp only [Wd.mulH, Hs.out, e1, e2]
    generalize X / 65536 * Y = p at m1 ⊢
    generalize X % 65536 * Y = q at m2 ⊢
    omega
  · simp only [Wd.mulL, Hs.out, e1, e2]
    generalize X / 65536 * Y = p at m1 ⊢
    generalize X % 65536 * Y = q at m2 ⊢
    omega

set_option maxHeartbeats 400000 in
theorem ref_sub1 {x y c : Int} (X Y C : Nat) (hx : x = X) (hy : y = Y) (hc : c = C) (bx : X < Wd.B) (b_y : Y < Wd.B) (bc : C < Wd.B) (w : World) :
    Calls Try.prog 39 #[.int .u32 x, .int .u32 y, .int .u32 c] w fun e w' => e = .returned (.tuple #[.int .u32 (Wd.subD X Y C : Nat), .int .u32 (Wd.subB X Y C : Nat)]) ∧ w = w' := by
  subst hx hy hc
  rw [Wd.B_eq] at bx b_y bc
  go_enter Try.func39, Try.ntmps39
  go_wp2
  go_loop [8, 9] (fun n b => ∃ (z : Int) (k : Nat), n = .int .i64 z ∧ b = .int .u32 k ∧ k ≤ 3 ∧ -8589934592 ≤ z ∧ z = (X : Int) - Y - C + 4294967296 * k ∧ (1 ≤ k → z < 4294967296)) (fun n _ => (4294967296 * 4 - intOf n).toNat)
  case atStart => exact ⟨(X : Int) - Y - C, 0, rfl, rfl, by omega, by omega, by omega, by omega⟩
  case round =>
    obtain ⟨z, k, rfl, rfl, hk, hlo, hz, hk1⟩ := hrel
    have Hz := Lib.hid hz
    clear hz
    by_cases h0 : z < 0
    · go_wp2
      go_round
      case rel => exact ⟨z + 4294967296, k + 1, rfl, by go_num, by have := Hz.out; omega, by omega, by have := Hz.out; omega, by omega⟩
      case measure => simp [intOf]; omega
    · go_wp2
      go_ret2
      refine ⟨ret_pair ?_ ?_, rfl⟩
      all_goals (have := Hz.out; simp only [Wd.subD, Wd.subB]; omega)

/-- The document's division, bit by bit: what holds when j bits are still to come. -/
def RD (hi lo y j q r : Nat) : Prop := hi * 2 ^ (32 - j) + lo / 2 ^ j = q * y + r ∧ r < y ∧ q < 2 ^ (32 - j)
theorem rd_start {hi lo y : Nat} (h : hi < y) (hl : lo < 4294967296) : RD hi lo y 32 0 hi := ⟨by simp; omega, h, by simp⟩
theorem rd_step {hi lo y j q r : Nat} (hj : j + 1 ≤ 32) (h : RD hi lo y (j + 1) q r) :
    (∀ b, lo / 2 ^ j % 2 = b → (y ≤ 2 * r + b → RD hi lo y j (2 * q + 1) (2 * r + b - y)) ∧ (2 * r + b < y → RD hi lo y j (2 * q) (2 * r + b))) := by
  obtain ⟨h1, h2, h3⟩ := h
  intro b hb
  have e1 : 2 ^ (32 - j) = 2 * 2 ^ (32 - (j + 1)) := by rw [show 32 - j = (32 - (j + 1)) + 1 from by omega, Nat.pow_succ, Nat.mul_comm]
  have e2 : lo / 2 ^ j = 2 * (lo / 2 ^ (j + 1)) + b := by
    rw [Nat.pow_succ, ← Nat.div_div_eq_div_mul]; omega
  have e3 : hi * 2 ^ (32 - j) + lo / 2 ^ j = 2 * q * y + (2 * r + b) := by
    rw [e1, e2, ← Nat.mul_assoc, Nat.mul_comm hi 2, Nat.mul_assoc 2 hi, Nat.mul_assoc 2 q y]; omega
  have hb1 : b ≤ 1 := by omega
  refine ⟨fun h => ⟨?_, by omega, by omega⟩, fun h => ⟨e3, h, by omega⟩⟩
  rw [e3, Nat.add_mul]; omega
theorem rd_end {hi lo y q r : Nat} (h : RD hi lo y 0 q r) : q = Wd.divQ hi lo y ∧ r = Wd.divR hi lo y ∧ q < 4294967296 := by
  obtain ⟨h1, h2, h3⟩ := h
  have h0 : 0 < y := by omega
  simp only [Nat.sub_zero, Nat.pow_zero, Nat.div_one] at h1 h3
  have e : hi * 4294967296 + lo = y * q + r := by rw [Nat.mul_comm y q]; exact h1
  unfold Wd.divQ Wd.divR
  rw [e, Nat.mul_add_div h0, Nat.mul_add_mod, Nat.div_eq_of_lt h2, Nat.mod_eq_of_lt h2]
  exact ⟨rfl, rfl, h3⟩

theorem rd_lt {hi lo y j q r : Nat} (h : RD hi lo y j q r) : q < 4294967296 := by
  have h3 := h.2.2
  have := Nat.pow_le_pow_right (n := 2) (by omega) (show 32 - j ≤ 32 by omega)
  omega
set_option maxHeartbeats 800000 in
theorem ref_div1 {x y z : Int} (X Y Z : Nat) (hx : x = X) (hy : y = Y) (hz : z = Z) (bx : X < Wd.B) (b_y : Y < Wd.B) (bz : Z < Wd.B) (h : X < Z) (w : World) :
    Calls Try.prog 43 #[.int .u32 x, .int .u32 y, .int .u32 z] w fun e w' => e = .returned (.tuple #[.int .u32 (Wd.divQ X Y Z : Nat), .int .u32 (Wd.divR X Y Z : Nat), .bool true]) ∧ w = w' := by
  subst hx hy hz
  rw [Wd.B_eq] at bx b_y bz
  go_enter Try.func43, Try.ntmps43
  go_wp2
  go_loop [9, 10, 11] (fun q r bit => ∃ Q R t j : Nat, q = .int .u64 Q ∧ r = .int .u64 R ∧ bit = .int .u64 t ∧ j ≤ 32 ∧ R < Z ∧ Q < 4294967296 ∧ t ≤ 2147483648 ∧ Hid (t = 2 ^ j / 2) ∧ Hid (RD X Y Z j Q R)) (fun _ _ bit => (intOf bit).toNat)
  case atStart => exact ⟨0, X, 2147483648, 32, rfl, rfl, rfl, by omega, h, by omega, by omega, rfl, rd_start h b_y⟩
  case round =>
    obtain ⟨Q, R, t, j, rfl, rfl, rfl, hj, hR, hQ, ht, Ht, HP⟩ := hrel
    match j, hj, Ht, HP with
    | 0, hj, Ht, HP =>
      have e0 : t = 0 := by rw [Ht.out]
      subst e0
      go_wp2
      go_ret3
      obtain ⟨h1, h2, h3⟩ := rd_end HP.out
      refine ⟨?_, rfl⟩
      rw [← h1, ← h2]
      have e1 : (Q : Int) % 4294967296 = Q := by omega
      have e2 : (R : Int) % 4294967296 = R := by omega
      simp [e1, e2]
    | j + 1, hj, Ht, HP =>
      have e0 : t = 2 ^ j := by rw [Ht.out, Nat.pow_succ, Nat.mul_div_cancel _ (by omega)]
      have hpos : 0 < t := by rw [e0]; exact Nat.two_pow_pos j
      have hstep := rd_step hj HP.out (Y / t % 2) (by rw [e0])
      have Hnext : Hid (t / 2 = 2 ^ j / 2) := by rw [e0]; rfl
      have hst1 := Lib.hid hstep.1
      have hst2 := Lib.hid hstep.2
      clear hstep Ht e0
      have hb01 : Y / t % 2 = 0 ∨ Y / t % 2 = 1 := by omega
      have ewrap : (IntKind.u64.wrap ((Y : Int) / (t : Int))).tmod 2 = ((Y / t % 2 : Nat) : Int) := by
        have hle : Y / t ≤ Y := Nat.div_le_self _ _
        rw [← Int.natCast_ediv]
        generalize Y / t = q at hle ⊢
        rw [IntWalk.u64_in _ (by omega), Int.tmod_eq_emod_of_nonneg (by omega)]; omega
      generalize Y / t % 2 = b at *
      clear HP
      rcases hb01 with rfl | rfl
      · have ew : ((IntKind.u64.wrap ((Y : Int) / (t : Int))).tmod 2 == 1) = false := by rw [ewrap]; rfl
        clear ewrap
        by_cases hz : Z ≤ 2 * R + 0
        · have N := hst1.out hz
          have n1 := rd_lt N
          have n2 := N.2.1
          have N' := Lib.hid N
          clear N
          clear hst1 hst2
          go_wp2
          go_round
          case rel => exact ⟨2 * Q + 1, 2 * R + 0 - Z, t / 2, j, by go_num, by go_num, by go_num, by omega, n2, n1, by omega, Hnext, N'⟩
          case measure => simp [intOf]; omega
        · have N := hst2.out (by omega)
          have n1 := rd_lt N
          have n2 := N.2.1
          have N' := Lib.hid N
          clear N
          clear hst1 hst2
          go_wp2
          go_round
          case rel => exact ⟨2 * Q, 2 * R + 0, t / 2, j, by go_num, by go_num, by go_num, by omega, n2, n1, by omega, Hnext, N'⟩
          case measure => simp [intOf]; omega
      · have ew : ((IntKind.u64.wrap ((Y : Int) / (t : Int))).tmod 2 == 1) = true := by rw [ewrap]; rfl
        clear ewrap
        by_cases hz : Z ≤ 2 * R + 1
        · have N := hst1.out hz
          have n1 := rd_lt N
          have n2 := N.2.1
          have N' := Lib.hid N
          clear N
          clear hst1 hst2
          go_wp2
          go_round
          case rel => exact ⟨2 * Q + 1, 2 * R + 1 - Z, t / 2, j, by go_num, by go_num, by go_num, by omega, n2, n1, by omega, Hnext, N'⟩
          case measure => simp [intOf]; omega
        · have N := hst2.out (by omega)
          have n1 := rd_lt N
          have n2 := N.2.1
          have N' := Lib.hid N
          clear N
          clear hst1 hst2
          go_wp2
          go_round
          case rel => exact ⟨2 * Q, 2 * R + 1, t / 2, j, by go_num, by go_num, by go_num, by omega, n2, n1, by omega, Hnext, N'⟩
          case measure => simp [intOf]; omega

set_option maxHeartbeats 400000 in
theorem ref_div1_no {x y z : Int} (X Y Z : Nat) (hx : x = X) (hy : y = Y) (hz : z = Z) (bx : X < Wd.B) (b_y : Y < Wd.B) (bz : Z < Wd.B) (h : Z ≤ X) (w : World) :
    Calls Try.prog 43 #[.int .u32 x, .int .u32 y, .int .u32 z] w fun e w' => e = .returned (.tuple #[.int .u32 0, .int .u32 0, .bool false]) ∧ w = w' := by
  subst hx hy hz
  rw [Wd.B_eq] at bx b_y bz
  go_enter Try.func43, Try.ntmps43
  go_wp2
  go_ret3
  exact ⟨rfl, rfl⟩
end Go.Proofs.Ytelgenhmmfkmhaa
