/-
  Layers 8 and 9, the document's answers: rounded down, sizes, the same as they stand.
-/
import Derived.Test.YtmmcffceeahemaaRefFrac5
import Derived.Test.YtmmcffceeahemaaFracLaw
set_option linter.unusedVariables false
set_option linter.unusedSimpArgs false
namespace Wd
/-- Rounded down: the quotient without a sign, and one more where something is left below 0. -/
theorem floor_more {N M : Nat} (hM : 0 < M) (h : N % M ≠ 0) : iv true (N / M + 1) = iv true N / iv false M := by
  have hd : (M : Int) * ((N / M : Nat) : Int) + ((N % M : Nat) : Int) = (N : Int) := by exact_mod_cast Nat.div_add_mod N M
  have hm : ((N % M : Nat) : Int) < (M : Int) := by exact_mod_cast Nat.mod_lt N hM
  have h0 : ((N % M : Nat) : Int) ≠ 0 := by omega
  have hM2 : (0 : Int) < (M : Int) := by omega
  have hR : (0 : Int) ≤ ((N % M : Nat) : Int) := Int.natCast_nonneg _
  rw [iv_true, iv_true, iv_false, Int.natCast_add]
  generalize ((N / M : Nat) : Int) = Q at *
  generalize ((N % M : Nat) : Int) = R at *
  refine (((Int.ediv_emod_unique (r := (M : Int) - R) hM2).2 ⟨?_, by omega, by omega⟩).1).symm
  rw [Int.mul_neg, Int.mul_add]
  show (M : Int) - R + -((M : Int) * Q + (M : Int) * (1 : Int)) = -(N : Int)
  omega
theorem floor_even {s : Bool} {N M : Nat} (hM : 0 < M) (h : s = false ∨ N % M = 0) : iv s (N / M) = iv s N / iv false M := by
  have hd : (M : Int) * ((N / M : Nat) : Int) + ((N % M : Nat) : Int) = (N : Int) := by exact_mod_cast Nat.div_add_mod N M
  have hm : ((N % M : Nat) : Int) < (M : Int) := by exact_mod_cast Nat.mod_lt N hM
  have hM2 : (0 : Int) < (M : Int) := by omega
  have hR : (0 : Int) ≤ ((N % M : Nat) : Int) := Int.natCast_nonneg _
  rcases s with _ | _
  · rw [iv_false, iv_false, iv_false]
    generalize ((N / M : Nat) : Int) = Q at *
    generalize ((N % M : Nat) : Int) = R at *
    exact (((Int.ediv_emod_unique hM2).2 ⟨by omega, hR, hm⟩).1).symm
  · have h0 : ((N % M : Nat) : Int) = 0 := by
      rcases h with h | h
      · cases h
      · omega
    rw [iv_true, iv_true, iv_false]
    generalize ((N / M : Nat) : Int) = Q at *
    generalize ((N % M : Nat) : Int) = R at *
    subst h0
    exact (((Int.ediv_emod_unique (r := 0) hM2).2 ⟨by rw [Int.mul_neg]; omega, by omega, by omega⟩).1).symm
theorem Lq.floor {q : Rat} {k : Nat} (h : Lq q k) : Lz q.floor k := by
  unfold Lz
  refine Nat.le_trans (words_mono ?_) h.1
  rw [Rat.floor_def]
  have hd : (0 : Int) < (q.den : Int) := by have := q.den_pos; omega
  generalize q.num = z
  generalize (q.den : Int) = d at *
  rcases Int.lt_or_le z 0 with hz | hz
  · have h1 : z ≤ z / d := Int.le_ediv_of_mul_le hd (by have := Int.mul_le_mul_of_nonpos_left (a := z) (b := d) (c := 1) (by omega) (by omega); omega)
    have h2 : z / d < 0 := Int.ediv_lt_of_lt_mul hd (by omega)
    omega
  · have h1 := Int.ediv_nonneg hz (Int.le_of_lt hd)
    have h2 := Int.ediv_le_self d hz
    omega
end Wd
namespace Go.Proofs.Ytmmcffceeahemaa
open Go.RowKit

theorem run_res_cell2 {fn : Func} {tmps : Array Value} {w : World} {t t' : Tmp} {T S T' S' : TypeId} {g n g' n' : Nat} {cs cs' : List Value} (hres : fn.results = #[.cell t T, .cell t' T']) (ht : tmps.getD t undef = .pointer (some ⟨g, 0, none⟩)) (ht' : tmps.getD t' undef = .pointer (some ⟨g', 0, none⟩))
    (hT : ∀ w : World, (isAgg T).run Try.prog w = .ok true w) (hS : ∀ w : World, (sizeOf T).run Try.prog w = .ok n w) (hT' : ∀ w : World, (isAgg T').run Try.prog w = .ok true w) (hS' : ∀ w : World, (sizeOf T').run Try.prog w = .ok n' w) (hb : Bx S w g cs) (hn : cs.length = n) (hb' : Bx S' w g' cs') (hn' : cs'.length = n') :
    (results fn tmps).run Try.prog w = .ok (.tuple #[.agg cs.toArray, .agg cs'.toArray]) w := by
  have h1 := run_load_agg hT hS hb hn
  have h2 := run_load_agg hT' hS' hb' hn'
  have e1 : tmps[t]?.getD undef = .pointer (some ⟨g, 0, none⟩) := by simpa using ht
  have e2 : tmps[t']?.getD undef = .pointer (some ⟨g', 0, none⟩) := by simpa using ht'
  simp [results, hres, e1, e2, h1, h2, asAddr]

/-- What comes back: two whole numbers. -/
def RetFl2 (q : Int) (w : World) (e : Ending) (w' : World) : Prop := ∃ V R y, e = .returned (.tuple #[V, R]) ∧ Zw w' V q ∧ Zw w' R y ∧ Up w w'

set_option maxHeartbeats 1600000 in
theorem ref9_size {w : World} {s : Bool} {u d : Value} {l m : List Nat} (hl : Ws w u l) (hm : Ws w d m) (hle : l.length ≤ 1000000) (hme : m.length ≤ 1000000) :
    Calls Try.prog 34 #[.agg #[.bool s, u, d]] w (RetN ((Wd.bl (Wd.val l) + Wd.bl (Wd.val m) : Nat) : Int) w) := by
  have b1 := Wd.bl_len (Wd.words_val_length hl.ok)
  have b2 := Wd.bl_len (Wd.words_val_length hm.ok)
  obtain ⟨A, c, rfl⟩ := hl.form
  obtain ⟨D, d, rfl⟩ := hm.form
  have UP : Up w (w.alloc (.cells #[.bool s, .slice A l.length c, .slice D m.length d] 61)) := (Up.refl w).alloc _
  have b0 := Bx.new 61 w [.bool s, .slice A l.length c, .slice D m.length d]
  go_enter Try.func34, Try.ntmps34
  go_wp2_with fail
  generalize (w.alloc (.cells #[.bool s, .slice A l.length c, .slice D m.length d] 61)) = W at *
  replace hl := hl.up UP
  replace hm := hm.up UP
  obtain ⟨b0_0, b0_1, b0_2⟩ := b0.c3
  have hw : IntKind.i64.wrap (((Wd.bl (Wd.val l) : Nat) : Int) + ((Wd.bl (Wd.val m) : Nat) : Int)) = ((Wd.bl (Wd.val l) : Nat) : Int) + ((Wd.bl (Wd.val m) : Nat) : Int) := IntWalk.i64_in _ (by omega)
  replace hl := hl.up (Up.refl W).drew
  replace hm := hm.up (Up.refl W).drew
  replace b0 := b0.up (Up.refl W).drew
  replace UP := UP.trans (Up.refl W).drew
  clear b0_0 b0_1 b0_2
  obtain ⟨b0_0, b0_1, b0_2⟩ := b0.c3
  go_region_held3 (fun w' => Up w w' ∧ w'.cell? ⟨w.heap.size, 0, none⟩ = some (.bool s) ∧ w'.cell? ⟨w.heap.size, 1, none⟩ = some (.slice A l.length c) ∧ w'.cell? ⟨w.heap.size, 2, none⟩ = some (.slice D m.length d))
      (first | with_reducible exact ⟨UP, b0_0, b0_1, b0_2⟩ | with_reducible exact ⟨UP, b0_0, b0_1, b0_2⟩ | with_reducible exact ⟨(UP.alloc_drew _), (cell_alloc_drew b0_0), (cell_alloc_drew b0_1), (cell_alloc_drew b0_2)⟩ | with_reducible exact ⟨(UP.alloc2_drew _ _), (cell_alloc2_drew b0_0), (cell_alloc2_drew b0_1), (cell_alloc2_drew b0_2)⟩ | (simp only [← World.setCell_drew]; first | with_reducible exact ⟨UP, b0_0, b0_1, b0_2⟩) | go_keep)
      ((first
        | (go_at_call 103
           ((with_reducible refine (ref_len3 hl (by omega)).mono ?_))
           rintro e W1 ⟨rfl, u1⟩
           replace hl := hl.up u1
           replace hm := hm.up u1
           replace b0 := b0.up u1
           replace UP := UP.trans u1
           clear b0_0 b0_1 b0_2
           obtain ⟨b0_0, b0_1, b0_2⟩ := b0.c3
           clear u1)
        | (go_at_call 103
           ((with_reducible refine (ref_len3 hm (by omega)).mono ?_))
           rintro e W2 ⟨rfl, u2⟩
           replace hl := hl.up u2
           replace hm := hm.up u2
           replace b0 := b0.up u2
           replace UP := UP.trans u2
           clear b0_0 b0_1 b0_2
           obtain ⟨b0_0, b0_1, b0_2⟩ := b0.c3
           clear u2)))
  all_goals
    go_wp2
    go_ret
    exact ⟨by rw [Int.natCast_add]; rfl, UP⟩

set_option maxHeartbeats 1600000 in
theorem ref8_same_yes {v u : Value} {z : Int} {k : Nat} {w : World} (h : Zw w v z) (h' : Zw w u z) (hk : Wd.Lz z k) (hk2 : k ≤ 1000000) : Calls Try.prog 57 #[v, u] w fun e w' => e = .returned (.bool true) ∧ Up w w' := by
  have hlen : (Wd.words z.natAbs).length ≤ k := hk
  obtain ⟨u1, rfl, h1⟩ := h
  obtain ⟨u2, rfl, h2⟩ := h'
  obtain ⟨A, n, c, rfl⟩ := h1.shape
  obtain ⟨D, m, d, rfl⟩ := h2.shape
  obtain ⟨s, HS⟩ : ∃ s, Hid (Wd.ngb z = s) := ⟨_, Lib.hid rfl⟩
  rw [HS.out]
  have hss : (s == s) = true := by cases s <;> rfl
  have UP : Up w ((w.alloc (.cells #[.bool s, .slice A n c] 90)).alloc (.cells #[.bool s, .slice D m d] 90)) := ((Up.refl w).alloc _).alloc _
  obtain ⟨b0, b1⟩ := bx_two 90 90 w [.bool s, .slice A n c] [.bool s, .slice D m d]
  go_enter Try.func57, Try.ntmps57
  go_wp2_with fail
  generalize ((w.alloc (.cells #[.bool s, .slice A n c] 90)).alloc (.cells #[.bool s, .slice D m d] 90)) = W at *
  replace h1 := h1.up UP
  replace h2 := h2.up UP
  obtain ⟨b0_0, b0_1⟩ := b0.c2
  obtain ⟨b1_0, b1_1⟩ := b1.c2
  go_wp2_with fail
  ((with_reducible refine (ref_same_u9 h1 h2 (by omega) (by omega)).mono ?_))
  rintro e W1 ⟨rfl, u1⟩
  replace h1 := h1.up u1
  replace h2 := h2.up u1
  replace b0 := b0.up u1
  replace b1 := b1.up u1
  replace UP := UP.trans u1
  clear b0_0 b0_1 b1_0 b1_1
  obtain ⟨b0_0, b0_1⟩ := b0.c2
  obtain ⟨b1_0, b1_1⟩ := b1.c2
  clear u1
  rw [show decide (Wd.words z.natAbs = Wd.words z.natAbs) = true from decide_eq_true rfl]
  go_wp2
  go_ret
  exact ⟨rfl, UP⟩
end Go.Proofs.Ytmmcffceeahemaa
