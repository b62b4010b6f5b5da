/-
  Layers 8 and 9, the document's answers: rounded down, sizes, the same as they stand.
-/
import Derived.Test.YtmmcffceeahemaaGreatZsRefFrac5
import Derived.Test.YtmmcffceeahemaaGreatZsFracLaw
import Derived.Test.YtmmcffceeahemaaGreatZsFloorMath
set_option linter.unusedVariables false
set_option linter.unusedSimpArgs false
namespace Go.Proofs.YtmmcffceeahemaaGreat
open Go.RowKit
theorem run_res_cell2 {fn : Func} {tmps : Array Value} {w : World} {t t' : Tmp} {T S T' S' : TypeId} {g n g' n' : Nat} {cs cs' : List Value} (hres : fn.results = #[.cell t T, .cell t' T']) (ht : tmps.getD t undef = .pointer (some ⟨g, 0, none⟩)) (ht' : tmps.getD t' undef = .pointer (some ⟨g', 0, none⟩))
 (hT : ∀ w : World, (isAgg T).run Tryz.prog w = .ok true w) (hS : ∀ w : World, (sizeOf T).run Tryz.prog w = .ok n w) (hT' : ∀ w : World, (isAgg T').run Tryz.prog w = .ok true w) (hS' : ∀ w : World, (sizeOf T').run Tryz.prog w = .ok n' w) (hb : Bx S w g cs) (hn : cs.length = n) (hb' : Bx S' w g' cs') (hn' : cs'.length = n') :
 (results fn tmps).run Tryz.prog w = .ok (.tuple #[.agg cs.toArray, .agg cs'.toArray]) w := by
 have h1 := run_load_agg hT hS hb hn
 have h2 := run_load_agg hT' hS' hb' hn'
 have e1 : tmps[t]?.getD undef = .pointer (some ⟨g, 0, none⟩) := by simpa using ht
 have e2 : tmps[t']?.getD undef = .pointer (some ⟨g', 0, none⟩) := by simpa using ht'
 simp [results, hres, e1, e2, h1, h2, asAddr]
/-- What comes back: two whole numbers. -/
def RetFl2 (q : Int) (w : World) (e : Ending) (w' : World) : Prop := ∃ V R y, e = .returned (.tuple #[V, R]) ∧ Zw w' V q ∧ Zw w' R y ∧ Up w w'
set_option maxHeartbeats 1600000 in
theorem ref9_size {w : World} {s : Bool} {u d : Value} {l m : List Nat} (hl : Ws w u l) (hm : Ws w d m) (hle : l.length ≤ 100000000) (hme : m.length ≤ 100000000) :
 Calls Tryz.prog 136 #[.agg #[.bool s, u, d]] w (RetN ((Wd.bl (Wd.val l) + Wd.bl (Wd.val m) : Nat) : Int) w) := by
 have b1 := Wd.bl_len (Wd.words_val_length hl.ok)
 have b2 := Wd.bl_len (Wd.words_val_length hm.ok)
 obtain ⟨A, c, rfl⟩ := hl.form
 obtain ⟨D, d, rfl⟩ := hm.form
 have UP : Up w (w.alloc (.cells #[.bool s, .slice A l.length c, .slice D m.length d] 24)) := (Up.refl w).alloc _
 have b0 := Bx.new 24 w [.bool s, .slice A l.length c, .slice D m.length d]
 go_enter Tryz.func136, Tryz.ntmps136
 go_wp2_with fail
 generalize (w.alloc (.cells #[.bool s, .slice A l.length c, .slice D m.length d] 24)) = W at *
 replace hl := hl.up UP
 replace hm := hm.up UP
 obtain ⟨b0_0, b0_1, b0_2⟩ := b0.c3
 have hw : IntKind.i64.wrap (((Wd.bl (Wd.val l) : Nat) : Int) + ((Wd.bl (Wd.val m) : Nat) : Int)) = ((Wd.bl (Wd.val l) : Nat) : Int) + ((Wd.bl (Wd.val m) : Nat) : Int) := IntWalk.i64_in _ (by omega)
 replace hl := hl.up (Up.refl W).drew
 replace hm := hm.up (Up.refl W).drew
 replace b0 := b0.up (Up.refl W).drew
 replace UP := UP.trans (Up.refl W).drew
 clear b0_0 b0_1 b0_2
 obtain ⟨b0_0, b0_1, b0_2⟩ := b0.c3
 go_region_held3 (fun w' => Up w w' ∧ w'.cell? ⟨w.heap.size, 0, none⟩ = some (.bool s) ∧ w'.cell? ⟨w.heap.size, 1, none⟩ = some (.slice A l.length c) ∧ w'.cell? ⟨w.heap.size, 2, none⟩ = some (.slice D m.length d))
  (first | with_reducible exact ⟨UP, b0_0, b0_1, b0_2⟩ | with_reducible exact ⟨(UP.alloc_drew _), (cell_alloc_drew b0_0), (cell_alloc_drew b0_1), (cell_alloc_drew b0_2)⟩ | with_reducible exact ⟨(UP.alloc2_drew _ _), (cell_alloc2_drew b0_0), (cell_alloc2_drew b0_1), (cell_alloc2_drew b0_2)⟩ | go_keep)
  ((first
    | (go_at_call 164
       ((with_reducible refine (ref_len3 hl (by omega)).mono ?_))
       rintro e W1 ⟨rfl, u1⟩
       replace hl := hl.up u1
       replace hm := hm.up u1
       replace b0 := b0.up u1
       replace UP := UP.trans u1
       clear b0_0 b0_1 b0_2
       obtain ⟨b0_0, b0_1, b0_2⟩ := b0.c3
       clear u1)
    | (go_at_call 164
       ((with_reducible refine (ref_len3 hm (by omega)).mono ?_))
       rintro e W2 ⟨rfl, u2⟩
       replace hl := hl.up u2
       replace hm := hm.up u2
       replace b0 := b0.up u2
       replace UP := UP.trans u2
       clear b0_0 b0_1 b0_2
       obtain ⟨b0_0, b0_1, b0_2⟩ := b0.c3
       clear u2)))
 all_goals
  go_wp2
  go_ret
  exact ⟨by rw [Int.natCast_add]; rfl, UP⟩
end Go.Proofs.YtmmcffceeahemaaGreat
