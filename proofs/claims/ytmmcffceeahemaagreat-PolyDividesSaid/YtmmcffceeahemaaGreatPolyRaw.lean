/-
  Rows as they are spelled; lengths of products, quotients and rests.
-/
import Derived.Test.YtmmcffceeahemaaGreatPoly11
import Derived.Test.YtmmcffceeahemaaGreatSeqOpen
import Derived.Test.YtmmcffceeahemaaGreatPolyPlain
set_option linter.unusedVariables false
set_option linter.unusedSimpArgs false
namespace Pq
theorem D_nm : ∀ (p : List Rat) (x : Rat), D (nm p) x = D p x
 | [], x => rfl
 | a :: p, x => by
   have ih := D_nm p x
   unfold nm
   split
   · rename_i h
     have h2 := E_of_nil h.2 x
     rw [h.2] at ih
     simp only [D] at ih ⊢
     rw [h2, ← ih]
     grind
   · simp only [D, E_nm, ih]
theorem mul_le : ∀ p q : List Rat, (mul p q).length ≤ p.length + q.length
 | [], q => by simp [mul]
 | a :: p, q => by
   have := mul_le p q
   rw [mul, add_len, sc_len]
   simp only [List.length_cons]
   omega
theorem leibniz (p q : List Rat) : nm (nm (df (nm (mul p q)))) = nm (nm (add (nm (mul (nm (df p)) q)) (nm (mul p (nm (df q)))))) := nm_ext fun x => by
 simp only [E_nm, E_df, E_add, E_mul, D_nm, D_mul]
theorem nm_mul_len (p q : List Rat) : (nm (mul p q)).length ≤ p.length + q.length - 1 := by
 by_cases hp : p = []
 · subst hp; simp [mul, nm]
 by_cases hq : q = []
 · subst hq
   rw [nm_nil (p := mul p []) (fun x => by rw [E_mul, E_nil, Rat.mul_zero])]
   simp
 have := mul_len p q hp hq
 have := nm_len (mul p q)
 omega
theorem gst_nil_bound {x : List Rat} {K : Nat} (h : Lp x K) (n : Nat) (hn : ∀ i, i < n → (gst x [] i).2 ≠ []) : Lp (gst x [] n).1 K ∧ Lp (gst x [] n).2 K := by
 cases n with
 | zero => exact ⟨h.nm.mo (tr_nm x), Lp.nil.mono h.one_le⟩
 | succ n => exact absurd rfl (hn 0 (by omega))
theorem len_zero {p : List Rat} (h : p = []) : ((p.length : Int) - 1) = -1 := by rw [h]; rfl
theorem back (p q : List Rat) (h : nm q ≠ []) : nm (nm (add (nm (mul (dq p q) q)) (dr p q))) = nm p := nm_ext fun x => by
 rw [E_nm, E_add, E_nm, E_mul]
 exact ((dqr_div h).1 x).symm
theorem dq_len (p q : List Rat) : (dq p q).length ≤ p.length + 1 := by
 unfold dq
 split
 · simp
 · split
   · simp
   · refine Nat.le_trans (nm_len _) ?_
     have h1 : (qt (nm p) (nm q)).length = (nm p).length - (nm q).length + 1 := (dst_len _ _ _).2
     have := nm_len p
     omega
theorem dr_len (p q : List Rat) : (dr p q).length ≤ p.length := by
 unfold dr
 split
 · simp
 · split
   · exact nm_len p
   · refine Nat.le_trans (nm_len _) ?_
     have h1 : (rm (nm p) (nm q)).length = (nm p).length := (dst_len _ _ _).1
     have := nm_len p
     omega
theorem rest_len (p q : List Rat) (h : nm q ≠ []) : (nm (dr p q)).length < (nm q).length := (dqr_div h).2
end Pq
namespace Go.Proofs.YtmmcffceeahemaaGreat
open Go.RowKit

/-- A row as it is spelled. -/
def RSq (w : World) (v : Value) (rs : List Raw) : Prop := Sq Rw w v rs
theorem RSq.up {w w' : World} {v : Value} {rs : List Raw} (h : RSq w v rs) (hu : Up w w') : RSq w' v rs := Sq.up kp_rw h hu
theorem RSq.form {w : World} {v : Value} {rs : List Raw} (h : RSq w v rs) : ∃ A c, v = .slice A rs.length c := Sq.form h
theorem RSq.fs {w : World} {v : Value} {rs : List Raw} (h : RSq w v rs) {k : Nat} (hk : ∀ r ∈ rs, r.few k) (h1 : 1 ≤ k) : FSq k w v (rs.map Raw.val) := Sq.frs h hk h1
theorem ref_long11r {v : Value} {rs : List Raw} {w : World} (m k : Nat) (h : RSq w v rs) (hm : m ≤ 1000000) (hk : k ≤ 1000000) : Calls Tryz.prog 19 #[v, .int .i64 (m : Int), .int .i64 (k : Int)] w (RetLong11 rs m k w) := ref_long11 m k h (by omega) (by omega)
theorem law_to11f {k : Nat} {v : Value} {ps : List Rat} {w : World} (h : FSq k w v ps) (hl : ps.length ≤ 10000) : Calls Tryz.prog 25 #[v] w (RetF k ps w) := (law_to11 (kp_fr k) h.sq (by omega)).mono fun e w' ⟨V, h1, h2, h3⟩ => ⟨V, h1, OwnQ.sq h2, h3⟩
theorem fs_nil (k : Nat) (w : World) : FSq k w (.slice none 0 0) [] := Sq.nil _ _
end Go.Proofs.YtmmcffceeahemaaGreat
