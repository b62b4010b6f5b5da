/-
  What comes in, read: rules; two and three fractions.
-/
import Derived.Test.YtmmcffceeahemaaGreatZsFracOpen
import Derived.Deep.Strs
set_option linter.unusedVariables false
set_option linter.unusedSimpArgs false
set_option maxRecDepth 100000
namespace Go.Proofs.YtmmcffceeahemaaGreat
open Go.RowKit Go.ChangeShapes Go.WideShapes Go.Deep
theorem frac_of_trod {H : Type} {enc : TypeId × Value → H} {W : World} {fuel : Nat} {v0 v1 v2 : Value} {x : DataW H × List MemPlace} (h : DataW.trod enc Tryz.prog W 0 (fun _ => true) true fuel 24 [v0, v1, v2] = some x) :
 ∃ (s : Bool) (A D : Option Addr) (l m : List Nat) (c d : Nat), v0 = .bool s ∧ v1 = .slice A l.length c ∧ v2 = .slice D m.length d ∧ Ws W (.slice A l.length c) l ∧ Ws W (.slice D m.length d) m := by
 obtain ⟨ys, n', _, _, hlen, hyl, hf⟩ := DataW.trod_struct Tryz.underlying24 h
 have f0 : DataW.trod enc Tryz.prog W 0 (fun _ => true) true n' 4 (([v0, v1, v2].drop 0).take (Tryz.prog.cellsOf 4)) = ys[0]? := hf 0 _ rfl
 have f1 : DataW.trod enc Tryz.prog W 0 (fun _ => true) true n' 22 (([v0, v1, v2].drop 1).take (Tryz.prog.cellsOf 22)) = ys[1]? := hf 1 _ rfl
 have f2 : DataW.trod enc Tryz.prog W 0 (fun _ => true) true n' 22 (([v0, v1, v2].drop 2).take (Tryz.prog.cellsOf 22)) = ys[2]? := hf 2 _ rfl
 have hy3 : ys.length = 3 := hyl
 have k3 : Tryz.prog.cellsOf 4 = 1 := by kernel_rfl
 have k4 : Tryz.prog.cellsOf 22 = 1 := by kernel_rfl
 rw [k3] at f0
 rw [k4] at f1 f2
 rw [List.getElem?_eq_getElem (by omega)] at f0 f1 f2
 obtain ⟨b0, e0⟩ := DataW.trod_bool Tryz.underlying4 f0
 obtain ⟨l, hw⟩ := words_of_trod f1
 obtain ⟨m, hw2⟩ := words_of_trod f2
 obtain ⟨e0, _⟩ := e0
 simp at e0
 subst e0
 obtain ⟨A, c, rfl⟩ := hw.form
 obtain ⟨D, d, rfl⟩ := hw2.form
 exact ⟨b0, A, D, l, m, c, d, rfl, rfl, rfl, hw, hw2⟩
theorem cells_int36 : Tryz.prog.cellsOf 3 = 1 := by kernel_rfl
theorem cells_rules : Tryz.prog.cellsOf 26 = 17 := by kernel_rfl
theorem open_rules {H : Type} {enc : TypeId × Value → H} {W : World} {base : Nat} {v : Value} {d : DataW H} {p : List MemPlace} (hv : Value.okWide Tryz.prog W .any base 26 v) (h : DataW.Trod enc Tryz.prog W 0 (fun _ => true) true 26 v d p) :
 ∃ (s1 s2 s3 s4 s5 : Bool) (A1 A2 A3 A4 A5 D1 D2 D3 D4 D5 : Option Addr) (l1 l2 l3 l4 l5 m1 m2 m3 m4 m5 : List Nat) (c1 c2 c3 c4 c5 e1 e2 e3 e4 e5 : Nat) (fi mo : Int), v = .agg #[.bool s1, .slice A1 l1.length c1, .slice D1 m1.length e1, .bool s2, .slice A2 l2.length c2, .slice D2 m2.length e2, .bool s3, .slice A3 l3.length c3, .slice D3 m3.length e3, .bool s4, .slice A4 l4.length c4, .slice D4 m4.length e4, .bool s5, .slice A5 l5.length c5, .slice D5 m5.length e5, .int .i64 fi, .int .i64 mo] ∧ (Ws W (.slice A1 l1.length c1) l1 ∧ Ws W (.slice D1 m1.length e1) m1) ∧ (Ws W (.slice A2 l2.length c2) l2 ∧ Ws W (.slice D2 m2.length e2) m2) ∧ (Ws W (.slice A3 l3.length c3) l3 ∧ Ws W (.slice D3 m3.length e3) m3) ∧ (Ws W (.slice A4 l4.length c4) l4 ∧ Ws W (.slice D4 m4.length e4) m4) ∧ (Ws W (.slice A5 l5.length c5) l5 ∧ Ws W (.slice D5 m5.length e5) m5) ∧ (-9223372036854775808 ≤ fi ∧ fi ≤ 9223372036854775807) ∧ (-9223372036854775808 ≤ mo ∧ mo ≤ 9223372036854775807) := by
 simp only [Value.okWide, Tryz.underlying26] at hv
 obtain ⟨cs, rfl, hsz, _⟩ := hv
 rw [cells_rules] at hsz
 obtain ⟨x0, x1, x2, x3, x4, x5, x6, x7, x8, x9, x10, x11, x12, x13, x14, x15, x16, rfl⟩ : ∃ x0 x1 x2 x3 x4 x5 x6 x7 x8 x9 x10 x11 x12 x13 x14 x15 x16, cs = #[x0, x1, x2, x3, x4, x5, x6, x7, x8, x9, x10, x11, x12, x13, x14, x15, x16] := by
  match cs, hsz with
  | ⟨[x0, x1, x2, x3, x4, x5, x6, x7, x8, x9, x10, x11, x12, x13, x14, x15, x16]⟩, _ => exact ⟨x0, x1, x2, x3, x4, x5, x6, x7, x8, x9, x10, x11, x12, x13, x14, x15, x16, rfl⟩
 obtain ⟨fuel, hf0⟩ := h
 obtain ⟨ys, n', _, _, hlen, hyl, hf⟩ := DataW.trod_struct Tryz.underlying26 hf0
 have hy7 : ys.length = 7 := hyl
 have f0 : DataW.trod enc Tryz.prog W 0 (fun _ => true) true n' 24 ((([x0, x1, x2, x3, x4, x5, x6, x7, x8, x9, x10, x11, x12, x13, x14, x15, x16] : List Value).drop 0).take (Tryz.prog.cellsOf 24)) = ys[0]? := hf 0 _ rfl
 have f1 : DataW.trod enc Tryz.prog W 0 (fun _ => true) true n' 24 ((([x0, x1, x2, x3, x4, x5, x6, x7, x8, x9, x10, x11, x12, x13, x14, x15, x16] : List Value).drop 3).take (Tryz.prog.cellsOf 24)) = ys[1]? := hf 1 _ rfl
 have f2 : DataW.trod enc Tryz.prog W 0 (fun _ => true) true n' 24 ((([x0, x1, x2, x3, x4, x5, x6, x7, x8, x9, x10, x11, x12, x13, x14, x15, x16] : List Value).drop 6).take (Tryz.prog.cellsOf 24)) = ys[2]? := hf 2 _ rfl
 have f3 : DataW.trod enc Tryz.prog W 0 (fun _ => true) true n' 24 ((([x0, x1, x2, x3, x4, x5, x6, x7, x8, x9, x10, x11, x12, x13, x14, x15, x16] : List Value).drop 9).take (Tryz.prog.cellsOf 24)) = ys[3]? := hf 3 _ rfl
 have f4 : DataW.trod enc Tryz.prog W 0 (fun _ => true) true n' 24 ((([x0, x1, x2, x3, x4, x5, x6, x7, x8, x9, x10, x11, x12, x13, x14, x15, x16] : List Value).drop 12).take (Tryz.prog.cellsOf 24)) = ys[4]? := hf 4 _ rfl
 have f5 : DataW.trod enc Tryz.prog W 0 (fun _ => true) true n' 3 ((([x0, x1, x2, x3, x4, x5, x6, x7, x8, x9, x10, x11, x12, x13, x14, x15, x16] : List Value).drop 15).take (Tryz.prog.cellsOf 3)) = ys[5]? := hf 5 _ rfl
 have f6 : DataW.trod enc Tryz.prog W 0 (fun _ => true) true n' 3 ((([x0, x1, x2, x3, x4, x5, x6, x7, x8, x9, x10, x11, x12, x13, x14, x15, x16] : List Value).drop 16).take (Tryz.prog.cellsOf 3)) = ys[6]? := hf 6 _ rfl
 rw [cells_rfrac, List.getElem?_eq_getElem (by omega)] at f0 f1 f2 f3 f4
 rw [cells_int36, List.getElem?_eq_getElem (by omega)] at f5 f6
 obtain ⟨s1, A1, D1, l1, m1, c1, e1, q0, q1, q2, hl1, hm1⟩ := frac_of_trod f0
 subst q0 q1 q2
 obtain ⟨s2, A2, D2, l2, m2, c2, e2, q0, q1, q2, hl2, hm2⟩ := frac_of_trod f1
 subst q0 q1 q2
 obtain ⟨s3, A3, D3, l3, m3, c3, e3, q0, q1, q2, hl3, hm3⟩ := frac_of_trod f2
 subst q0 q1 q2
 obtain ⟨s4, A4, D4, l4, m4, c4, e4, q0, q1, q2, hl4, hm4⟩ := frac_of_trod f3
 subst q0 q1 q2
 obtain ⟨s5, A5, D5, l5, m5, c5, e5, q0, q1, q2, hl5, hm5⟩ := frac_of_trod f4
 subst q0 q1 q2
 obtain ⟨a0, g0, _, w0⟩ := DataW.trod_int Tryz.underlying3 f5
 obtain ⟨a1, g1, _, w1⟩ := DataW.trod_int Tryz.underlying3 f6
 simp at g0 g1
 subst g0 g1
 exact ⟨s1, s2, s3, s4, s5, A1, A2, A3, A4, A5, D1, D2, D3, D4, D5, l1, l2, l3, l4, l5, m1, m2, m3, m4, m5, c1, c2, c3, c4, c5, e1, e2, e3, e4, e5, a0, a1, rfl, ⟨hl1, hm1⟩, ⟨hl2, hm2⟩, ⟨hl3, hm3⟩, ⟨hl4, hm4⟩, ⟨hl5, hm5⟩, bounds_i64 w0, bounds_i64 w1⟩
theorem cells_frac_three : Tryz.prog.cellsOf 69 = 9 := by kernel_rfl
theorem open_three {H : Type} {enc : TypeId × Value → H} {W : World} {base : Nat} {v : Value} {d : DataW H} {p : List MemPlace} (hv : Value.okWide Tryz.prog W .any base 69 v) (h : DataW.Trod enc Tryz.prog W 0 (fun _ => true) true 69 v d p) :
 ∃ (s1 s2 s3 : Bool) (A1 D1 A2 D2 A3 D3 : Option Addr) (l1 m1 l2 m2 l3 m3 : List Nat) (c1 e1 c2 e2 c3 e3 : Nat), v = .agg #[.bool s1, .slice A1 l1.length c1, .slice D1 m1.length e1, .bool s2, .slice A2 l2.length c2, .slice D2 m2.length e2, .bool s3, .slice A3 l3.length c3, .slice D3 m3.length e3] ∧ (Ws W (.slice A1 l1.length c1) l1 ∧ Ws W (.slice D1 m1.length e1) m1) ∧ (Ws W (.slice A2 l2.length c2) l2 ∧ Ws W (.slice D2 m2.length e2) m2) ∧ (Ws W (.slice A3 l3.length c3) l3 ∧ Ws W (.slice D3 m3.length e3) m3) := by
 simp only [Value.okWide, Tryz.underlying69] at hv
 obtain ⟨cs, rfl, hsz, _⟩ := hv
 rw [cells_frac_three] at hsz
 obtain ⟨x0, x1, x2, x3, x4, x5, x6, x7, x8, rfl⟩ : ∃ x0 x1 x2 x3 x4 x5 x6 x7 x8, cs = #[x0, x1, x2, x3, x4, x5, x6, x7, x8] := by
  match cs, hsz with
  | ⟨[x0, x1, x2, x3, x4, x5, x6, x7, x8]⟩, _ => exact ⟨x0, x1, x2, x3, x4, x5, x6, x7, x8, rfl⟩
 obtain ⟨fuel, hf⟩ := h
 obtain ⟨xs, m, _, _, _, hl, hel⟩ := DataW.trod_array Tryz.underlying69 hf
 have h0 := hel 0 (by omega)
 have h1 := hel 1 (by omega)
 have h2 := hel 2 (by omega)
 rw [cells_rfrac, List.getElem?_eq_getElem (by omega)] at h0 h1 h2
 have f0 : DataW.trod enc Tryz.prog W 0 (fun _ => true) true m 24 [x0, x1, x2] = some (xs[0]'(by omega)) := h0
 obtain ⟨s1, A1, D1, l1, m1, c1, e1, q0, q1, q2, hl1, hm1⟩ := frac_of_trod f0
 subst q0 q1 q2
 have f1 : DataW.trod enc Tryz.prog W 0 (fun _ => true) true m 24 [x3, x4, x5] = some (xs[1]'(by omega)) := h1
 obtain ⟨s2, A2, D2, l2, m2, c2, e2, q0, q1, q2, hl2, hm2⟩ := frac_of_trod f1
 subst q0 q1 q2
 have f2 : DataW.trod enc Tryz.prog W 0 (fun _ => true) true m 24 [x6, x7, x8] = some (xs[2]'(by omega)) := h2
 obtain ⟨s3, A3, D3, l3, m3, c3, e3, q0, q1, q2, hl3, hm3⟩ := frac_of_trod f2
 subst q0 q1 q2
 exact ⟨s1, s2, s3, A1, D1, A2, D2, A3, D3, l1, m1, l2, m2, l3, m3, c1, e1, c2, e2, c3, e3, rfl, ⟨hl1, hm1⟩, ⟨hl2, hm2⟩, ⟨hl3, hm3⟩⟩
end Go.Proofs.YtmmcffceeahemaaGreat
