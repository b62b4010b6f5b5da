/-
  Layer 9: what the statements are made of: turned over, too long?
-/
import Derived.Test.YtmmcffceeahemaaGreatZsFracHigh
set_option linter.unusedVariables false
set_option linter.unusedSimpArgs false
namespace Go.Proofs.YtmmcffceeahemaaGreat
open Go.RowKit
theorem agg_rfrac (w : World) : (isAgg 24).run Tryz.prog w = .ok true w := by kernel_rfl
theorem size_rfrac (w : World) : (sizeOf 24).run Tryz.prog w = .ok 3 w := by kernel_rfl
theorem law_to9 (s : Bool) (A D : Option Addr) (n c m d : Nat) (w : World) :
 Calls Tryz.prog 26 #[.agg #[.bool s, .slice A n c, .slice D m d]] w fun e w' => e = .returned (.agg #[.bool s, .slice A n c, .slice D m d]) ∧ Up w w' := by
 have UP : Up w ((w.alloc (.cells #[.bool s, .slice A n c, .slice D m d] 24)).alloc (.cells #[.bool s, .slice A n c, .slice D m d] 34)) := ((Up.refl w).alloc _).alloc _
 obtain ⟨b0, r0⟩ := bx_two 24 34 w [.bool s, .slice A n c, .slice D m d] [.bool s, .slice A n c, .slice D m d]
 go_enter Tryz.func26, Tryz.ntmps26
 go_wp2
 exact bodyPost_ret (run_res_cell rfl rfl agg_frac size_frac r0 rfl) rfl ⟨rfl, UP⟩
theorem law_of9 (s : Bool) (A D : Option Addr) (n c m d : Nat) (w : World) :
 Calls Tryz.prog 98 #[.agg #[.bool s, .slice A n c, .slice D m d]] w fun e w' => e = .returned (.agg #[.bool s, .slice A n c, .slice D m d]) ∧ Up w w' := by
 have UP : Up w ((w.alloc (.cells #[.bool s, .slice A n c, .slice D m d] 34)).alloc (.cells #[.bool s, .slice A n c, .slice D m d] 24)) := ((Up.refl w).alloc _).alloc _
 obtain ⟨b0, r0⟩ := bx_two 34 24 w [.bool s, .slice A n c, .slice D m d] [.bool s, .slice A n c, .slice D m d]
 go_enter Tryz.func98, Tryz.ntmps98
 go_wp2
 exact bodyPost_ret (run_res_cell rfl rfl agg_rfrac size_rfrac r0 rfl) rfl ⟨rfl, UP⟩
/-- Is a fraction too long? -/
theorem ref_long9_no {s : Bool} {A D : Option Addr} {n c m d : Nat} {k : Int} {w : World} (h1 : (n : Int) ≤ k) (h2 : (m : Int) ≤ k) (h3 : k ≤ 100000000) :
 Calls Tryz.prog 20 #[.agg #[.bool s, .slice A n c, .slice D m d], .int .i64 k] w fun e w' => e = .returned (.bool false) ∧ Up w w' := by
 have UP : Up w (w.alloc (.cells #[.bool s, .slice A n c, .slice D m d] 24)) := (Up.refl w).alloc _
 go_enter Tryz.func20, Tryz.ntmps20
 go_wp2
 go_ret
 refine ⟨?_, UP⟩
 simp
 omega
theorem ref_long9_yes {s : Bool} {A D : Option Addr} {n c m d : Nat} {k : Int} {w : World} (h1 : k < (n : Int) ∨ k < (m : Int)) (h3 : k ≤ 100000000) :
 Calls Tryz.prog 20 #[.agg #[.bool s, .slice A n c, .slice D m d], .int .i64 k] w fun e w' => e = .returned (.bool true) ∧ Up w w' := by
 have UP : Up w (w.alloc (.cells #[.bool s, .slice A n c, .slice D m d] 24)) := (Up.refl w).alloc _
 by_cases h : k < (n : Int)
 · clear h1
   go_enter Tryz.func20, Tryz.ntmps20
   go_wp2
   go_ret
   exact ⟨by simp [h], UP⟩
 · have h2 : k < (m : Int) := by omega
   clear h1
   go_enter Tryz.func20, Tryz.ntmps20
   go_wp2
   go_ret
   exact ⟨by simp [h2], UP⟩
/-- Are two just the same, as they stand? -/
def rawB (s t : Bool) (l l' m m' : List Nat) : Bool := (s == t) && (decide (l = l') && decide (m = m'))
theorem rawB_self (s : Bool) (l m : List Nat) : rawB s s l l m m = true := by simp [rawB]
theorem lq_zero : Wd.Lq 0 2 := lq_int (n := 0) (by omega)
end Go.Proofs.YtmmcffceeahemaaGreat
