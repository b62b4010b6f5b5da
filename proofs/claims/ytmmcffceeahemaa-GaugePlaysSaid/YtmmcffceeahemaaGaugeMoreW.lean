/-
  The walk of GaugeMore.
-/
import Derived.Test.YtmmcffceeahemaaGaugeWorks
set_option linter.unusedVariables false
set_option linter.unusedSimpArgs false
namespace Ga
theorem bad_iff {L : Int} {ns : List Nat} : bad L ns = ns.length ↔ ∀ n ∈ ns, (n : Int) ≤ L := by
  constructor
  · intro h n hn
    rcases Int.lt_or_le L (n : Int) with hlt | hle
    · exfalso
      have key : ∀ l : List Nat, n ∈ l → bad L l < l.length := by
        intro l
        induction l with
        | nil => intro h; simp at h
        | cons m l ih =>
          intro hm
          unfold bad
          split
          · rename_i hle
            rcases List.mem_cons.1 hm with rfl | hm
            · omega
            · have := ih hm; simp; omega
          · simp
      have := key ns hn
      omega
    · exact hle
  · exact bad_all
theorem pk_mem {p : Int} : ∀ {l : List Nat} {n : Nat}, n ∈ l → (n : Int) ≤ pk p l
  | m :: l, n, h => by
    unfold pk
    rcases List.mem_cons.1 h with rfl | h
    · refine Int.le_trans ?_ (pk_ge _ l)
      unfold mx
      split <;> omega
    · exact pk_mem h
/-- Behind the first that is too long the longest is, too. -/
theorem pk_over {L p : Int} {ns : List Nat} (h : bad L ns ≠ ns.length) : L < pk p (ns.take (bad L ns + 1)) := by
  have hlt : bad L ns < ns.length := by have := bad_le L ns; omega
  have key : ∀ l : List Nat, (h : bad L l < l.length) → L < ((l[bad L l]'h : Nat) : Int) := by
    intro l
    induction l with
    | nil => intro h; simp at h
    | cons m l ih =>
      intro h
      by_cases hm : (m : Int) ≤ L
      · have e : bad L (m :: l) = bad L l + 1 := by conv => lhs; unfold bad; rw [if_pos hm]
        have h2 : bad L l < l.length := by rw [e] at h; simpa using h
        have := ih h2
        simp only [e, List.getElem_cons_succ]
        exact this
      · have e : bad L (m :: l) = 0 := by unfold bad; rw [if_neg hm]
        simp only [e, List.getElem_cons_zero]
        omega
  have h1 := key ns hlt
  have h2 : ns[bad L ns] ∈ ns.take (bad L ns + 1) := by
    rw [List.take_succ_eq_append_getElem hlt]
    exact List.mem_append_right _ (List.mem_singleton.2 rfl)
  exact Int.lt_of_lt_of_le h1 (pk_mem h2)
end Ga
namespace Go.Proofs.Ytmmcffceeahemaa
open Go.RowKit

theorem ref_long_20_200 {v : Value} {rs : List Raw} {w : World} (h : Sq Rw w v rs) : Calls Try.prog 25 #[v, .int .i64 20, .int .i64 200] w (RetLong11 rs 20 200 w) := ref_long11 20 200 h (by omega) (by omega)
theorem RetG.at_ {L : Int} {w w' : World} {e : Ending} (h : RetG L w e w') : ∃ g, e = .returned (.pointer (some ⟨g, 0, none⟩)) ∧ Bx 148 w' g [.int .i64 0, .int .i64 0, .int .i64 L] ∧ w.heap.size ≤ g ∧ g < w'.heap.size ∧ Up w w' := by
  obtain ⟨g, h1, h2, h3, h4⟩ := h
  exact ⟨g, h1, h2, h3, h2.lt, h4⟩
theorem field_count (w : World) (x y : Int) : (Instr.field 52 (.agg #[.int .i64 x, .int .i64 y]) 1).run Try.prog w = .ok (.int .i64 y) w := by kernel_rfl
set_option maxRecDepth 100000 in
set_option maxHeartbeats 6400000 in
theorem gaugeMore_walk {v : Value} {rs : List Raw} {limit more : Int} {w : World} (h : Sq Rw w v rs) (hl : -9223372036854775808 ≤ limit ∧ limit ≤ 9223372036854775807) (hm : -9223372036854775808 ≤ more ∧ more ≤ 9223372036854775807) :
    Calls Try.prog 4 #[.int .i64 limit, .int .i64 more, v] w fun e w' => e = .returned (.bool true) ∧ Up w w' := by
  obtain ⟨A, c, rfl⟩ := h.form
  go_enter Try.func4, Try.ntmps4
  go_wp2_with fail
  ((with_reducible refine (ref_long_20_200 h).mono ?_))
  rintro e W ⟨t, rfl, HT, u1⟩
  cases t with
  | true =>
    clear HT h
    go_wp2_with fail
    ((with_reducible refine (works13 _).mono ?_))
    rintro e W2 ⟨rfl, u2⟩
    go_wp2
    go_ret
    exact ⟨rfl, u1.trans u2⟩
  | false =>
    obtain ⟨hlen, hfew⟩ := HT.out rfl
    have S := (h.up kp_rw u1).szs hfew
    have hns : (rs.map Raw.size).length ≤ 20 := by rw [List.length_map]; exact hlen
    have hnl : (rs.map Raw.size).length = rs.length := List.length_map _
    clear h HT hfew
    by_cases b1 : limit < 0
    · skip
      go_wp2_with fail
      ((with_reducible refine (works13 _).mono ?_))
      rintro e W2 ⟨rfl, u2⟩
      go_wp2
      go_ret
      exact ⟨rfl, u1.trans u2⟩
    by_cases b2 : more < 0
    · skip
      go_wp2_with fail
      ((with_reducible refine (works13 _).mono ?_))
      rintro e W2 ⟨rfl, u2⟩
      go_wp2
      go_ret
      exact ⟨rfl, u1.trans u2⟩
    by_cases b3 : 4096 < limit
    · skip
      go_wp2_with fail
      ((with_reducible refine (works13 _).mono ?_))
      rintro e W2 ⟨rfl, u2⟩
      go_wp2
      go_ret
      exact ⟨rfl, u1.trans u2⟩
    by_cases b4 : 4096 < more
    · skip
      go_wp2_with fail
      ((with_reducible refine (works13 _).mono ?_))
      rintro e W2 ⟨rfl, u2⟩
      go_wp2
      go_ret
      exact ⟨rfl, u1.trans u2⟩
    have HNL := Lib.hid hnl
    generalize rs.map Raw.size = ns at *
    have hlim : 0 ≤ limit := by omega
    have hmore : 0 ≤ more := by omega
    have hlim2 : limit ≤ 4096 := by omega
    have hmore2 : more ≤ 4096 := by omega
    have e1 : decide (limit < 0) = false := decide_eq_false b1
    have e2 : decide (more < 0) = false := decide_eq_false b2
    have e3 : decide (4096 < limit) = false := decide_eq_false b3
    have e4 : decide (4096 < more) = false := decide_eq_false b4
    clear b1 b2 b3 b4 hnl
    go_wp2_with fail
    ((with_reducible refine (gauge_new hl _).mono ?_))
    intro e W1 RG
    obtain ⟨g1, rfl, x1, hg1, lt1, v1⟩ := RG.at_
    clear RG
    go_wp2_with fail
    ((with_reducible refine (gauge_new (n := limit + more) (by omega) _).mono ?_))
    intro e W2 RG
    obtain ⟨g2, rfl, x2, hg2, lt2, v2⟩ := RG.at_
    clear RG
    replace x1 := x1.up v2
    go_wp2_with fail
    ((with_reducible refine (gauge_new (n := 4096) (by omega) _).mono ?_))
    intro e W3 RG
    obtain ⟨g3, rfl, x3, hg3, lt3, v3⟩ := RG.at_
    clear RG
    replace x1 := x1.up v3
    replace x2 := x2.up v3
    have hg := u1.size
    have S3 := S.up (kp_sz 200) ((v1.trans v2).trans v3)
    have U3 := u1.trans ((v1.trans v2).trans v3)
    rw [Ga.lim_of hlim hlim2] at x1
    rw [show Ga.lim 4096 = 4096 from rfl] at x3
    obtain ⟨L2, HL2⟩ : ∃ L, Hid (Ga.lim (limit + more) = L) := ⟨_, Lib.hid rfl⟩
    rw [HL2.out] at x2
    have HLE : Hid (limit ≤ L2) := Lib.hid (by rw [← HL2.out]; unfold Ga.lim; split <;> split <;> omega)
    clear S u1 v1 v2 v3
    go_wp2_with fail
    ((with_reducible refine (law_to11 (kp_sz 200) S3 (by omega)).mono ?_))
    rintro e W4 ⟨X, rfl, OX, v4⟩
    replace x1 := x1.up v4
    replace x2 := x2.up v4
    replace x3 := x3.up v4
    replace U3 := U3.trans v4
    have SX := OX.sq
    have hX : ∀ g, g < W3.heap.size → X.ownBlock ≠ some g := fun g hg e => by have := (OX.lt g e).1; omega
    have n1 := hX g1 (by omega)
    have n2 := hX g2 (by omega)
    have n3 := hX g3 (by omega)
    clear OX S3 hX v4
    obtain ⟨A3, c3, rfl⟩ := SX.form
    by_cases hok : Ga.bad limit ns = ns.length
    · have hall := Ga.bad_iff.1 hok
      have HOK : Hid (decide (Ga.bad limit ns = ns.length) = true) := Lib.hid (decide_eq_true hok)
      have HYES : Hid (decide (Ga.bad L2 ns = ns.length) = true) := Lib.hid (decide_eq_true (Ga.bad_iff.2 fun n hn => Int.le_trans (hall n hn) HLE.out))
      have h4 : Ga.bad 4096 ns = ns.length := Ga.bad_iff.2 fun n hn => Int.le_trans (hall n hn) hlim2
      have HALL : Hid (decide (Ga.bad 4096 ns = ns.length) = true) := Lib.hid (decide_eq_true h4)
      have hpc : Ga.pk 0 (ns.take (Ga.bad 4096 ns + 1)) ≤ limit := by rw [h4, List.take_of_length_le (by omega)]; exact Ga.pk_bd hlim hall
      have hpa : Ga.pk 0 (ns.take (Ga.bad limit ns + 1)) ≤ limit := by rw [hok, List.take_of_length_le (by omega)]; exact Ga.pk_bd hlim hall
      have HOV : Hid (decide (limit < Ga.pk 0 (ns.take (Ga.bad limit ns + 1))) = false) := Lib.hid (decide_eq_false (by omega))
      clear hok hall h4 hpa
      go_wp2_with fail
      ((with_reducible refine (gauge_row x1 SX n1 (by omega) (by omega) (by omega)).mono ?_))
      rintro e W5 ⟨rfl, y1, G1⟩
      rw [HOK.out]
      replace x2 := G1.bx x2 (by omega)
      replace x3 := G1.bx x3 (by omega)
      replace SX := G1.sq (kp_sz 200) SX n1
      replace U3 := G1.above U3 (by omega)
      clear G1
      go_wp2_with fail
      ((with_reducible refine (gauge_row x2 SX n2 (by omega) (by omega) (by omega)).mono ?_))
      rintro e W6 ⟨rfl, y2, G2⟩
      rw [HYES.out]
      replace y1 := G2.bx y1 (by omega)
      replace x3 := G2.bx x3 (by omega)
      replace SX := G2.sq (kp_sz 200) SX n2
      replace U3 := G2.above U3 (by omega)
      clear G2 y2
      go_wp2_with fail
      ((with_reducible refine (gauge_row x3 SX n3 (by omega) (by omega) (by omega)).mono ?_))
      rintro e W7 ⟨rfl, y3, G3⟩
      rw [HALL.out]
      replace y1 := G3.bx y1 (by omega)
      replace U3 := G3.above U3 (by omega)
      clear G3 SX
      generalize Ga.pk 0 (ns.take (Ga.bad limit ns + 1)) = PA at *
      generalize Ga.pk 0 (ns.take (Ga.bad 4096 ns + 1)) = PC at *
      go_wp2_with fail
      ((with_reducible refine (gauge_tells y3).mono ?_))
      rintro e W8 ⟨rfl, u8⟩
      replace y1 := y1.up u8
      replace U3 := U3.trans u8
      clear u8 y3
      have hfield := field_count
      go_wp2_with fail
      ((with_reducible refine (gauge_over y1).mono ?_))
      rintro e W9 ⟨rfl, u9⟩
      rw [HOV.out]
      replace U3 := U3.trans u9
      clear u9
      go_wp2_with fail
      ((with_reducible refine (works13 _).mono ?_))
      rintro e W2 ⟨rfl, u2⟩
      go_wp2
      go_ret
      exact ⟨rfl, U3.trans u2⟩
    · have HOK : Hid (decide (Ga.bad limit ns = ns.length) = false) := Lib.hid (decide_eq_false hok)
      obtain ⟨yes, HYES⟩ : ∃ y, Hid (decide (Ga.bad L2 ns = ns.length) = y) := ⟨_, Lib.hid rfl⟩
      have HOV : Hid (decide (limit < Ga.pk 0 (ns.take (Ga.bad limit ns + 1))) = true) := Lib.hid (decide_eq_true (Ga.pk_over hok))
      by_cases h4 : Ga.bad 4096 ns = ns.length
      · have HALL : Hid (decide (Ga.bad 4096 ns = ns.length) = true) := Lib.hid (decide_eq_true h4)
        have hpc : decide (Ga.pk 0 (ns.take (Ga.bad 4096 ns + 1)) ≤ limit) = false := decide_eq_false (fun hle => hok (Ga.bad_iff.2 fun n hn => by
          rw [h4, List.take_of_length_le (by omega)] at hle
          exact Int.le_trans (Ga.pk_mem hn) hle))
        clear hok h4
        go_wp2_with fail
        ((with_reducible refine (gauge_row x1 SX n1 (by omega) (by omega) (by omega)).mono ?_))
        rintro e W5 ⟨rfl, y1, G1⟩
        rw [HOK.out]
        replace x2 := G1.bx x2 (by omega)
        replace x3 := G1.bx x3 (by omega)
        replace SX := G1.sq (kp_sz 200) SX n1
        replace U3 := G1.above U3 (by omega)
        clear G1
        go_wp2_with fail
        ((with_reducible refine (gauge_row x2 SX n2 (by omega) (by omega) (by omega)).mono ?_))
        rintro e W6 ⟨rfl, y2, G2⟩
        rw [HYES.out]
        replace y1 := G2.bx y1 (by omega)
        replace x3 := G2.bx x3 (by omega)
        replace SX := G2.sq (kp_sz 200) SX n2
        replace U3 := G2.above U3 (by omega)
        clear G2 y2
        go_wp2_with fail
        ((with_reducible refine (gauge_row x3 SX n3 (by omega) (by omega) (by omega)).mono ?_))
        rintro e W7 ⟨rfl, y3, G3⟩
        rw [HALL.out]
        replace y1 := G3.bx y1 (by omega)
        replace U3 := G3.above U3 (by omega)
        clear G3 SX
        generalize Ga.pk 0 (ns.take (Ga.bad limit ns + 1)) = PA at *
        generalize Ga.pk 0 (ns.take (Ga.bad 4096 ns + 1)) = PC at *
        go_wp2_with fail
        ((with_reducible refine (gauge_tells y3).mono ?_))
        rintro e W8 ⟨rfl, u8⟩
        replace y1 := y1.up u8
        replace U3 := U3.trans u8
        clear u8 y3
        have hfield := field_count
        go_wp2_with fail
        ((with_reducible refine (gauge_over y1).mono ?_))
        rintro e W9 ⟨rfl, u9⟩
        rw [HOV.out]
        replace U3 := U3.trans u9
        clear u9
        go_wp2_with fail
        ((with_reducible refine (works13 _).mono ?_))
        rintro e W2 ⟨rfl, u2⟩
        go_wp2
        go_ret
        exact ⟨rfl, U3.trans u2⟩
      · have HALL : Hid (decide (Ga.bad 4096 ns = ns.length) = false) := Lib.hid (decide_eq_false h4)
        clear hok h4
        go_wp2_with fail
        ((with_reducible refine (gauge_row x1 SX n1 (by omega) (by omega) (by omega)).mono ?_))
        rintro e W5 ⟨rfl, y1, G1⟩
        rw [HOK.out]
        replace x2 := G1.bx x2 (by omega)
        replace x3 := G1.bx x3 (by omega)
        replace SX := G1.sq (kp_sz 200) SX n1
        replace U3 := G1.above U3 (by omega)
        clear G1
        go_wp2_with fail
        ((with_reducible refine (gauge_row x2 SX n2 (by omega) (by omega) (by omega)).mono ?_))
        rintro e W6 ⟨rfl, y2, G2⟩
        rw [HYES.out]
        replace y1 := G2.bx y1 (by omega)
        replace x3 := G2.bx x3 (by omega)
        replace SX := G2.sq (kp_sz 200) SX n2
        replace U3 := G2.above U3 (by omega)
        clear G2 y2
        go_wp2_with fail
        ((with_reducible refine (gauge_row x3 SX n3 (by omega) (by omega) (by omega)).mono ?_))
        rintro e W7 ⟨rfl, y3, G3⟩
        rw [HALL.out]
        replace y1 := G3.bx y1 (by omega)
        replace U3 := G3.above U3 (by omega)
        clear G3 SX
        generalize Ga.pk 0 (ns.take (Ga.bad limit ns + 1)) = PA at *
        generalize Ga.pk 0 (ns.take (Ga.bad 4096 ns + 1)) = PC at *
        clear y3
        go_wp2_with fail
        ((with_reducible refine (gauge_over y1).mono ?_))
        rintro e W9 ⟨rfl, u9⟩
        rw [HOV.out]
        replace U3 := U3.trans u9
        clear u9
        go_wp2_with fail
        ((with_reducible refine (works13 _).mono ?_))
        rintro e W2 ⟨rfl, u2⟩
        go_wp2
        go_ret
        exact ⟨rfl, U3.trans u2⟩
end Go.Proofs.Ytmmcffceeahemaa
