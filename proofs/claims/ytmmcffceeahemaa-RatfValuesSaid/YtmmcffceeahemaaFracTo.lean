/-
  Layer 9: what the statements are made of: turned over, too long?
-/
import Derived.Test.YtmmcffceeahemaaFracHigh
set_option linter.unusedVariables false
set_option linter.unusedSimpArgs false
namespace Go.Proofs.Ytmmcffceeahemaa
open Go.RowKit

theorem agg_rfrac (w : World) : (isAgg 61).run Try.prog w = .ok true w := by kernel_rfl
theorem size_rfrac (w : World) : (sizeOf 61).run Try.prog w = .ok 3 w := by kernel_rfl

theorem law_to9 (s : Bool) (A D : Option Addr) (n c m d : Nat) (w : World) :
 Calls Try.prog 38 #[.agg #[.bool s, .slice A n c, .slice D m d]] w fun e w' => e = .returned (.agg #[.bool s, .slice A n c, .slice D m d]) ∧ Up w w' := by
 have UP : Up w ((w.alloc (.cells #[.bool s, .slice A n c, .slice D m d] 61)).alloc (.cells #[.bool s, .slice A n c, .slice D m d] 69)) := ((Up.refl w).alloc _).alloc _
 obtain ⟨b0, r0⟩ := bx_two 61 69 w [.bool s, .slice A n c, .slice D m d] [.bool s, .slice A n c, .slice D m d]
 go_enter Try.func38, Try.ntmps38
 go_wp2
 exact bodyPost_ret (run_res_cell rfl rfl agg_frac size_frac r0 rfl) rfl ⟨rfl, UP⟩
theorem law_of9 (s : Bool) (A D : Option Addr) (n c m d : Nat) (w : World) :
 Calls Try.prog 114 #[.agg #[.bool s, .slice A n c, .slice D m d]] w fun e w' => e = .returned (.agg #[.bool s, .slice A n c, .slice D m d]) ∧ Up w w' := by
 have UP : Up w ((w.alloc (.cells #[.bool s, .slice A n c, .slice D m d] 69)).alloc (.cells #[.bool s, .slice A n c, .slice D m d] 61)) := ((Up.refl w).alloc _).alloc _
 obtain ⟨b0, r0⟩ := bx_two 69 61 w [.bool s, .slice A n c, .slice D m d] [.bool s, .slice A n c, .slice D m d]
 go_enter Try.func114, Try.ntmps114
 go_wp2
 exact bodyPost_ret (run_res_cell rfl rfl agg_rfrac size_rfrac r0 rfl) rfl ⟨rfl, UP⟩

/-- Is a fraction too long? -/
theorem ref_long9_no {s : Bool} {A D : Option Addr} {n c m d : Nat} {k : Int} {w : World} (h1 : (n : Int) ≤ k) (h2 : (m : Int) ≤ k) (h3 : k ≤ 100000000) :
 Calls Try.prog 35 #[.agg #[.bool s, .slice A n c, .slice D m d], .int .i64 k] w fun e w' => e = .returned (.bool false) ∧ Up w w' := by
 have UP : Up w (w.alloc (.cells #[.bool s, .slice A n c, .slice D m d] 61)) := (Up.refl w).alloc _
 go_enter Try.func35, Try.ntmps35
 go_wp2
 go_ret
 refine ⟨?_, UP⟩
 simp
 omega
theorem ref_long9_yes {s : Bool} {A D : Option Addr} {n c m d : Nat} {k : Int} {w : World} (h1 : k < (n : Int) ∨ k < (m : Int)) (h3 : k ≤ 100000000) :
 Calls Try.prog 35 #[.agg #[.bool s, .slice A n c, .slice D m d], .int .i64 k] w fun e w' => e = .returned (.bool true) ∧ Up w w' := by
 have UP : Up w (w.alloc (.cells #[.bool s, .slice A n c, .slice D m d] 61)) := (Up.refl w).alloc _
 by_cases h : k < (n : Int)
 · clear h1
   go_enter Try.func35, Try.ntmps35
   go_wp2
   go_ret
   exact ⟨by simp [h], UP⟩
 · have h2 : k < (m : Int) := by omega
   clear h1
   go_enter Try.func35, Try.ntmps35
   go_wp2
   go_ret
   exact ⟨by simp [h2], UP⟩

/-- Are two just the same, as they stand? -/
def rawB (s t : Bool) (l l' m m' : List Nat) : Bool := (s == t) && (decide (l = l') && decide (m = m'))
theorem rawB_self (s : Bool) (l m : List Nat) : rawB s s l l m m = true := by simp [rawB]
theorem lq_zero : Wd.Lq 0 2 := lq_int (n := 0) (by omega)
end Go.Proofs.Ytmmcffceeahemaa
