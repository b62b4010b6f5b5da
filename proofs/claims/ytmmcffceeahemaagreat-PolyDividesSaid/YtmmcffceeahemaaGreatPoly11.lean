/-
  Layer 14: products and sums, told with their sizes; rows that are spelled out.
-/
import Derived.Test.YtmmcffceeahemaaGreatPoly10
import Derived.Test.YtmmcffceeahemaaGreatPoly4
import Derived.Test.YtmmcffceeahemaaGreatPoly3
set_option linter.unusedVariables false
set_option linter.unusedSimpArgs false
namespace Go.Proofs.YtmmcffceeahemaaGreat
open Go.RowKit

theorem poly_mul2 {v u : Value} {ps qs : List Rat} {ka kb j k : Nat} {w : World} (h : FSq ka w v ps) (h2 : FSq kb w u qs) (LP : Pq.Lp ps j) (LQ : Pq.Lp qs k) (hl : ps.length ≤ 10000) (hl2 : qs.length ≤ 10000) (hka : ka ≤ 4000000) (hkb : kb ≤ 4000000) (hk : j + k ≤ 3000000) :
 Calls Tryz.prog 39 #[v, u] w (RetP (j + k + 1) (Pq.nm (Pq.mul ps qs)) w) := by
 have h1 := LP.one_le
 exact (poly_mul h h2 hl hl2 (Lib.hid (Pq.mul_states LP LQ (by omega))) hka hkb (by omega) (by omega)).mono fun e w' h => h.re (LP.mul LQ (by omega)).lq
theorem poly_add2 {v u : Value} {ps qs : List Rat} {ka kb j k : Nat} {w : World} (h : FSq ka w v ps) (h2 : FSq kb w u qs) (LP : Pq.Lp ps j) (LQ : Pq.Lp qs k) (hl : ps.length ≤ 10000) (hl2 : qs.length ≤ 10000) (hka : ka ≤ 3000000) (hkb : kb ≤ 3000000) :
 Calls Tryz.prog 35 #[v, u] w (RetP (j + k + 1) (Pq.nm (Pq.add ps qs)) w) :=
 (poly_add (h.mono (Nat.le_add_right ka 2)) (h2.mono (Nat.le_add_right kb 2)) hl hl2 (by omega) (by omega) (by omega) (by omega)).mono fun e w' h => h.re (LP.add LQ).nm.lq
theorem Lp.sub2 {p q : List Rat} {j k : Nat} (h : Pq.Lp p j) (h' : Pq.Lp q k) : Pq.Lp (Pq.sub p q) (j + k + 1) := h.add (Pq.Lp.scn (c := -1) (by omega) h')
theorem poly_sub2 {v u : Value} {ps qs : List Rat} {ka kb j k : Nat} {w : World} (h : FSq ka w v ps) (h2 : FSq kb w u qs) (LP : Pq.Lp ps j) (LQ : Pq.Lp qs k) (hl : ps.length ≤ 10000) (hl2 : qs.length ≤ 10000) (hka : ka ≤ 3000000) (hkb : kb ≤ 3000000) :
 Calls Tryz.prog 37 #[v, u] w (RetP (j + k + 1) (Pq.nm (Pq.sub ps qs)) w) :=
 (poly_sub (h.mono (Nat.le_add_right ka 2)) (h2.mono (Nat.le_add_right kb 2)) hl hl2 (by omega) (by omega) (by omega) (by omega)).mono fun e w' h => h.re (Lp.sub2 LP LQ).nm.lq
theorem df_mem {p : List Rat} {d N : Nat} (h : ∀ q ∈ p, Pq.Cm d N q) : ∀ (k : Nat), ∀ x ∈ Pq.dfl k p, Pq.Cm d (N * (k + p.length)) x := by
 induction p with
 | nil => intro k x hx; simp [Pq.dfl] at hx
 | cons a p ih =>
   intro k x hx
   rcases List.mem_cons.1 (show x ∈ ((k : Rat) * a) :: Pq.dfl (k + 1) p from hx) with rfl | hx
   · obtain ⟨n, h1, h2⟩ := h a (by simp)
     refine ⟨k * n, by push_cast; rw [← h1]; grind, ?_⟩
     rw [Int.natAbs_mul, Int.natAbs_natCast, Nat.mul_comm]
     exact Nat.mul_le_mul h2 (by omega)
   · have := ih (fun q hq => h q (by simp [hq])) (k + 1) x hx
     rw [List.length_cons]
     rwa [show k + (p.length + 1) = k + 1 + p.length by omega]
theorem Lp.df {p : List Rat} {k : Nat} (h : Pq.Lp p k) (hl : p.length ≤ 1000000) : Pq.Lp (Pq.df p) (k + 1) := by
 obtain ⟨d, h1, h2, N, h3, h4⟩ := h
 have hb : 1 + p.tail.length ≤ Wd.B := by rw [Wd.B_eq, List.length_tail]; omega
 refine ⟨d, h1, Nat.lt_of_lt_of_le h2 (Nat.pow_le_pow_right Wd.B_pos (by omega)), N * (1 + p.tail.length), ?_, df_mem (fun q hq => h4 q (List.mem_of_mem_tail hq)) 1⟩
 rw [Nat.mul_comm]
 exact Pq.count_lt hb h3 Wd.B_pos
theorem poly_diff2 {v : Value} {qs : List Rat} {ka k : Nat} {w : World} (h : FSq ka w v qs) (LQ : Pq.Lp qs k) (hl : qs.length ≤ 10000) (hka : ka ≤ 4000000) : Calls Tryz.prog 44 #[v] w (RetP (k + 1) (Pq.nm (Pq.df qs)) w) :=
 (poly_diff h.sq (by omega) hka).mono fun e w' h => h.re (Lp.df LQ (by omega)).nm.lq

theorem fs_row {k : Nat} {w : World} {g : Nat} {xs : List F3} {qs : List Rat} (hb : Bx 34 w g (fcells xs)) (ha : Al (fun x q => Frk k w x.agg q) xs qs) (hl : qs.length ≤ 1000000) : FSq k w (.slice (some ⟨g, 0, none⟩) qs.length qs.length) qs := by
 have hok : ∀ x ∈ xs, x.ok := fun x hx => by
  obtain ⟨j, hj⟩ := List.getElem?_of_mem hx
  have hjl : j < qs.length := by rw [← ha.1]; exact (List.getElem?_eq_some_iff.1 hj).1
  obtain ⟨z, e, hz⟩ := (kp_fr k).form (ha.2 j x _ hj (List.getElem?_eq_getElem hjl))
  rw [F3.agg_inj e]
  exact hz
 have : OwnQ (Frk k) 34 0 w (.slice (some ⟨g, 0, none⟩) xs.length xs.length) qs := ⟨xs, ha, hok, .inr ⟨g, [], rfl, Nat.zero_le _, by rw [List.append_nil]; exact hb, by simp, by rw [ha.1]; simp [maxLen]; omega⟩⟩
 rw [ha.1] at this
 exact this.sq
theorem fs_two {k : Nat} {w : World} {g : Nat} {s1 s2 : Bool} {u1 d1 u2 d2 : Value} {q1 q2 : Rat} (hb : Bx 34 w g [.bool s1, u1, d1, .bool s2, u2, d2]) (h1 : Fr w (.agg #[.bool s1, u1, d1]) q1 k) (h2 : Fr w (.agg #[.bool s2, u2, d2]) q2 k) : FSq k w (.slice (some ⟨g, 0, none⟩) 2 2) [q1, q2] :=
 fs_row (xs := [⟨s1, u1, d1⟩, ⟨s2, u2, d2⟩]) hb ((Al.one (R := fun x q => Frk k w x.agg q) (x := ⟨s1, u1, d1⟩) h1).append (Al.one h2)) (by simp)
theorem fs_three {k : Nat} {w : World} {g : Nat} {s1 s2 s3 : Bool} {u1 d1 u2 d2 u3 d3 : Value} {q1 q2 q3 : Rat} (hb : Bx 34 w g [.bool s1, u1, d1, .bool s2, u2, d2, .bool s3, u3, d3]) (h1 : Fr w (.agg #[.bool s1, u1, d1]) q1 k) (h2 : Fr w (.agg #[.bool s2, u2, d2]) q2 k) (h3 : Fr w (.agg #[.bool s3, u3, d3]) q3 k) : FSq k w (.slice (some ⟨g, 0, none⟩) 3 3) [q1, q2, q3] :=
 fs_row (xs := [⟨s1, u1, d1⟩, ⟨s2, u2, d2⟩, ⟨s3, u3, d3⟩]) hb ((Al.one (R := fun x q => Frk k w x.agg q) (x := ⟨s1, u1, d1⟩) h1).append ((Al.one (R := fun x q => Frk k w x.agg q) (x := ⟨s2, u2, d2⟩) h2).append (Al.one h3))) (by simp)
end Go.Proofs.YtmmcffceeahemaaGreat
