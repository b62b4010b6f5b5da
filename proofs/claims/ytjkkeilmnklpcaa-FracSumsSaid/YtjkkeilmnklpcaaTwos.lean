/-
  The walks of layer 3 that tell of bits.
-/
import Derived.Test.YtjkkeilmnklpcaaNat
import Derived.Test.YtjkkeilmnklpcaaTwosMath
set_option linter.unusedVariables false
set_option linter.unusedSimpArgs false
namespace Go.Proofs.Ytjkkeilmnklpcaa
open Go.RowKit

/-- What comes back: a number of the machine. -/
def RetI (i : Int) (w : World) (e : Ending) (w' : World) : Prop := e = .returned (.int .i64 i) ∧ Up w w'
theorem ret_i {i j : Int} {w w' : World} (h : i = j) (hu : Up w w') : RetI j w (.returned (.int .i64 i)) w' := ⟨by rw [h], hu⟩

set_option maxHeartbeats 800000 in
theorem twos_len {v : Value} {l : List Nat} {w : World} (h : Ws w v l) (hl : l.length ≤ 100000000) :
    Calls Try.prog 113 #[v] w (RetI (Wd.bl (Wd.val l) : Nat) w) := by
  go_enter Try.func113, Try.ntmps113
  go_wp2_with fail
  refine (nat_norm h (by omega)).mono ?_
  intro e w1 hret
  obtain ⟨v1, rfl, h1, h2, h3⟩ := hret
  have h1 := Ws.of_own h1 h2
  have el := len_words_val h.ok hl
  have HB := @Wd.bl_words (Wd.val l)
  have HB := Lib.hid HB
  have hz : (Wd.words (Wd.val l)).length = 0 → Wd.bl (Wd.val l) = 0 := fun h0 => by rw [Wd.words_length_zero.1 h0, Wd.bl_zero]
  have HZ := Lib.hid hz
  clear hz
  generalize Wd.bl (Wd.val l) = R at *
  generalize Wd.words (Wd.val l) = lw at *
  clear h hl
  have HU := Lib.hid h3
  clear h3
  obtain ⟨A, c, rfl, p2, p3, p4, p5⟩ := h1
  have P4 := Lib.hid p4
  clear p3 p4 h2
  by_cases h0 : lw.length = 0
  · have E := Lib.hid (HZ.out h0)
    clear HB HZ
    go_wp2
    go_ret
    exact ret_i (by rw [E.out]; rfl) HU.out
  · have E := Lib.hid (HB.out (by omega))
    have hk : lw.length - 1 < lw.length := by omega
    obtain ⟨b, o, rfl, hb, hc⟩ := rd_word_D p5 hk
    have hx := Wd.ok_getD P4.out (lw.length - 1)
    have hbl := (Wd.bl_le_iff 32 (lw.getD (lw.length - 1) 0)).2 (by rw [← Wd.B_two]; exact hx)
    generalize lw.getD (lw.length - 1) 0 = x at *
    obtain ⟨n, hn⟩ : ∃ n, lw.length = n + 1 := ⟨lw.length - 1, by omega⟩
    rw [hn] at E el p2 hc ⊢
    rw [Nat.add_sub_cancel] at E hc
    clear HB HZ hk hn p5
    have hx2 : x < 4294967296 := by rw [Wd.B_eq] at hx; exact hx
    go_wp2_with fail
    refine (limb_len x rfl hx _).mono ?_
    rintro e w2 ⟨rfl, rfl⟩
    go_wp2
    go_ret
    exact ret_i (by rw [E.out]; omega) HU.out


/-- The bit at any place. -/
def bitZ (N : Nat) (n : Int) : Bool := if n < 0 then false else Wd.bitN N n.toNat
theorem bit_far {l : List Nat} (h : Wd.Ok l) {i : Nat} (hi : l.length ≤ i / 32) : Wd.bitN (Wd.val l) i = false := by
  unfold Wd.bitN
  rw [Wd.bit_word l h, getD_ge l hi]
  simp

theorem and_one_eq {y : Nat} {z : Int} (h : y < 4294967296) (hz : z = y) : (bits BinOp.and IntKind.u32 z 1 == 1) = decide (y % 2 = 1) := by
  have e := u32_and_nat y 1 h (by omega)
  rw [nat_mask1] at e
  rw [hz]
  have e2 : bits BinOp.and IntKind.u32 (y : Int) 1 = ((y % 2 : Nat) : Int) := e
  rw [e2, Bool.eq_iff_iff]
  simp
  omega


end Go.Proofs.Ytjkkeilmnklpcaa
