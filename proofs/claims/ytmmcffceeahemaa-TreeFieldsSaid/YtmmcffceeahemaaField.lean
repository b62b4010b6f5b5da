/-
  Layer 17: fields, read; whether one is too long.
-/
import Derived.Test.YtmmcffceeahemaaFieldSame
set_option linter.unusedVariables false
set_option linter.unusedSimpArgs false
namespace Tr
/-- A field: named expressions, and expressions. -/
structure Fd where
  lets : List (ByteArray × List Nd)
  outs : List (List Nd)
def Fd.codes (F : Fd) : List (List Nd) := F.lets.map (·.2) ++ F.outs
/-- No expression longer than m, no number longer than q. -/
def Short (m q : Nat) (l : List Nd) : Prop := l.length ≤ m ∧ ∀ x ∈ l, x.n.length ≤ q
def Fd.Small (F : Fd) (p m q : Nat) : Prop := F.lets.length ≤ p ∧ F.outs.length ≤ p ∧ (∀ x ∈ F.lets, x.1.size ≤ 100 ∧ Short m q x.2) ∧ ∀ l ∈ F.outs, Short m q l
end Tr
namespace Go.Proofs.Ytmmcffceeahemaa
open Go.RowKit

/-- A named expression at a place. -/
def LtAt (w : World) (b o : Nat) (x : ByteArray × List Tr.Nd) : Prop := w.cell? ⟨b, o, none⟩ = some (.string x.1) ∧ ∃ u, w.cell? ⟨b, o + 1, none⟩ = some u ∧ Nds w u x.2
theorem LtAt.up {w w' : World} {b o : Nat} {x : ByteArray × List Tr.Nd} (h : LtAt w b o x) (hu : Up w w') : LtAt w' b o x := by
  obtain ⟨h1, u, h3, h4⟩ := h
  have hb := World.block_lt_of_cell? w _ h1
  exact ⟨(hu.cell (p := ⟨b, o, none⟩) hb).trans h1, u, (hu.cell (p := ⟨b, o + 1, none⟩) hb).trans h3, h4.up hu⟩
/-- Named expressions. -/
def Lts (w : World) (v : Value) (ls : List (ByteArray × List Tr.Nd)) : Prop :=
  ∃ A c, v = .slice A ls.length c ∧ ls.length ≤ c ∧ c ≤ maxLen ∧ (0 < ls.length → ∃ b o, A = some ⟨b, o, none⟩ ∧ b < w.heap.size ∧ ∀ (j : Nat) x, ls[j]? = some x → LtAt w b (o + j * 2) x)
theorem Lts.form {w : World} {v : Value} {ls : List (ByteArray × List Tr.Nd)} (h : Lts w v ls) : ∃ A c, v = .slice A ls.length c := by obtain ⟨A, c, h, _⟩ := h; exact ⟨A, c, h⟩
theorem Lts.up {w w' : World} {v : Value} {ls : List (ByteArray × List Tr.Nd)} (h : Lts w v ls) (hu : Up w w') : Lts w' v ls := by
  obtain ⟨A, c, h1, h2, h3, h4⟩ := h
  refine ⟨A, c, h1, h2, h3, fun hl => ?_⟩
  obtain ⟨b, o, e, hb, hat⟩ := h4 hl
  exact ⟨b, o, e, Nat.lt_of_lt_of_le hb hu.size, fun j x hj => (hat j x hj).up hu⟩
theorem Lts.at_ {w : World} {A : Option Addr} {n c : Nat} {ls : List (ByteArray × List Tr.Nd)} (h : Lts w (.slice A n c) ls) {k : Nat} (hk : k < ls.length) :
    ∃ b o u, A = some ⟨b, o, none⟩ ∧ b < w.heap.size ∧ w.cell? ⟨b, o + k * 2, none⟩ = some (.string ls[k].1) ∧ w.cell? ⟨b, o + k * 2 + 1, none⟩ = some u ∧ Nds w u ls[k].2 := by
  obtain ⟨A', c', e, _, _, h4⟩ := h
  cases e
  obtain ⟨b, o, e, hb, hat⟩ := h4 (by omega)
  obtain ⟨h1, u, h2, h3⟩ := hat k _ (List.getElem?_eq_getElem hk)
  exact ⟨b, o, u, e, hb, h1, h2, h3⟩
theorem Lts.cap {w : World} {A : Option Addr} {n c : Nat} {ls : List (ByteArray × List Tr.Nd)} (h : Lts w (.slice A n c) ls) : ls.length ≤ maxLen := by
  obtain ⟨A', c', e, h2, h3, _⟩ := h
  exact Nat.le_trans h2 h3
theorem Ndss.cap {w : World} {A : Option Addr} {n c : Nat} {ls : List (List Tr.Nd)} (h : Ndss w (.slice A n c) ls) : ls.length ≤ maxLen := by
  obtain ⟨A', c', _, e, h2, h3, _⟩ := h
  exact Nat.le_trans h2 h3
/-- A field. -/
def Fld (w : World) (v : Value) (F : Tr.Fd) : Prop := ∃ a b, v = .agg #[a, b] ∧ Lts w a F.lets ∧ Ndss w b F.outs
theorem Fld.up {w w' : World} {v : Value} {F : Tr.Fd} (h : Fld w v F) (hu : Up w w') : Fld w' v F := by
  obtain ⟨a, b, e, h1, h2⟩ := h
  exact ⟨a, b, e, h1.up hu, h2.up hu⟩

/-- What comes back: whether a field is too long. -/
def RetLF (F : Tr.Fd) (p m q : Nat) (w : World) (e : Ending) (w' : World) : Prop := ∃ t : Bool, e = .returned (.bool t) ∧ (t = false → F.Small p m q) ∧ Up w w'

set_option maxRecDepth 100000 in
set_option maxHeartbeats 6400000 in
theorem ref_longField {v : Value} {F : Tr.Fd} {w : World} (h : Fld w v F) {p m q : Nat} (hp : p ≤ 1000000) (hm : m ≤ 1000000) (hq : q ≤ 1000000) :
    Calls Try.prog 14 #[v, .int .i64 p, .int .i64 m, .int .i64 q] w (RetLF F p m q w) := by
  obtain ⟨a, b, rfl, ha, hb⟩ := h
  obtain ⟨A, c, rfl⟩ := ha.form
  obtain ⟨B, d, rfl⟩ := hb.form
  have ca := ha.cap
  have cb := hb.cap
  unfold maxLen at ca cb
  obtain ⟨L, O⟩ := F
  simp only at ha hb ca cb ⊢
  by_cases h1 : p < L.length
  · go_enter Try.func14, Try.ntmps14
    go_wp2
    go_ret
    exact ⟨_, rfl, (by simp), (Up.refl _).alloc _⟩
  by_cases h2 : p < O.length
  · go_enter Try.func14, Try.ntmps14
    go_wp2
    go_ret
    exact ⟨_, rfl, (by simp), (Up.refl _).alloc _⟩
  have hA := Lib.hid (ha.up ((Up.refl w).alloc (.cells #[.slice A L.length c, .slice B O.length d] 25)))
  have hB := Lib.hid (hb.up ((Up.refl w).alloc (.cells #[.slice A L.length c, .slice B O.length d] 25)))
  have u0 : Up w (w.alloc (.cells #[.slice A L.length c, .slice B O.length d] 25)) := (Up.refl w).alloc _
  have c0 : (w.alloc (.cells #[.slice A L.length c, .slice B O.length d] 25)).cell? ⟨w.heap.size, 0, none⟩ = some (.slice A L.length c) := by rw [cell_of_row _ _ _ _ _ (0, 0) (heap_alloc_new w _)]; rfl
  have c1 : (w.alloc (.cells #[.slice A L.length c, .slice B O.length d] 25)).cell? ⟨w.heap.size, 1, none⟩ = some (.slice B O.length d) := by rw [cell_of_row _ _ _ _ _ (0, 0) (heap_alloc_new w _)]; rfl
  clear ha hb
  go_enter Try.func14, Try.ntmps14
  go_wp2
  generalize w.alloc (.cells #[.slice A L.length c, .slice B O.length d] 25) = W at *
  go_loop [9] (fun s9 => ∃ (k : Nat), s9 = .int .i64 k ∧ k ≤ L.length ∧ Hid (∀ j x, j < k → L[j]? = some x → x.1.size ≤ 100 ∧ Tr.Short m q x.2)) (fun s9 => L.length - (intOf s9).toNat)
  case atStart => exact ⟨0, rfl, Nat.zero_le _, Lib.hid (fun j x hj => by omega)⟩
  case round =>
    obtain ⟨k, rfl, hk, HG⟩ := hrel
    by_cases hlt : k < L.length
    · obtain ⟨b, o, u, rfl, hb, g1, g2, g3⟩ := hA.out.at_ hlt
      have HX : Hid (L[k]? = some L[k]) := Lib.hid (List.getElem?_eq_getElem hlt)
      generalize L[k] = x at *
      obtain ⟨C, e, rfl⟩ := g3.form
      by_cases hbig : 100 < x.1.size
      · go_wp2
        go_ret
        exact ⟨_, rfl, (by simp), u0⟩
      · go_wp2_with fail
        refine (nodes_long g3 hm hq).mono ?_
        rintro e2 W2 ⟨t, rfl, ht, rfl⟩
        cases t with
        | true =>
          clear ht
          go_wp2
          go_ret
          exact ⟨_, rfl, (by simp), u0⟩
        | false =>
          have HT := Lib.hid (ht rfl)
          clear ht
          go_wp2
          go_round
          case rel =>
            refine ⟨k + 1, by go_num, by omega, Lib.hid (fun j y hj hy => ?_)⟩
            by_cases hjk : j = k
            · subst hjk
              rw [HX.out] at hy
              cases hy
              exact ⟨by omega, HT.out⟩
            · exact HG.out j y (by omega) hy
          case measure => simp [intOf]; omega
    · obtain rfl : k = L.length := by omega
      have HLS : Hid (∀ x ∈ L, x.1.size ≤ 100 ∧ Tr.Short m q x.2) := Lib.hid (fun x hx => by
        obtain ⟨j, hj⟩ := List.getElem?_of_mem hx
        exact HG.out j x (List.getElem?_eq_some_iff.1 hj).1 hj)
      clear HG
      go_wp2
      go_loop [10] (fun s10 => ∃ (k : Nat), s10 = .int .i64 k ∧ k ≤ O.length ∧ Hid (∀ j x, j < k → O[j]? = some x → Tr.Short m q x)) (fun s10 => O.length - (intOf s10).toNat)
      case atStart => exact ⟨0, rfl, Nat.zero_le _, Lib.hid (fun j x hj => by omega)⟩
      case round =>
        obtain ⟨k, rfl, hk, HG⟩ := hrel
        by_cases hlt : k < O.length
        · obtain ⟨b, o, u, rfl, hb, g1, g3⟩ := hB.out.at_ hlt
          have HX : Hid (O[k]? = some O[k]) := Lib.hid (List.getElem?_eq_getElem hlt)
          generalize O[k] = x at *
          obtain ⟨C, e, rfl⟩ := g3.form
          go_wp2_with fail
          refine (nodes_long g3 hm hq).mono ?_
          rintro e2 W2 ⟨t, rfl, ht, rfl⟩
          cases t with
          | true =>
            clear ht
            go_wp2
            go_ret
            exact ⟨_, rfl, (by simp), u0⟩
          | false =>
            have HT := Lib.hid (ht rfl)
            clear ht
            go_wp2
            go_round
            case rel =>
              refine ⟨k + 1, by go_num, by omega, Lib.hid (fun j y hj hy => ?_)⟩
              by_cases hjk : j = k
              · subst hjk
                rw [HX.out] at hy
                cases hy
                exact HT.out
              · exact HG.out j y (by omega) hy
            case measure => simp [intOf]; omega
        · obtain rfl : k = O.length := by omega
          have HOS : Hid (∀ x ∈ O, Tr.Short m q x) := Lib.hid (fun x hx => by
            obtain ⟨j, hj⟩ := List.getElem?_of_mem hx
            exact HG.out j x (List.getElem?_eq_some_iff.1 hj).1 hj)
          clear HG
          go_wp2
          go_ret
          exact ⟨_, rfl, (fun _ => ⟨Nat.le_of_not_lt h1, Nat.le_of_not_lt h2, HLS.out, HOS.out⟩), u0⟩
end Go.Proofs.Ytmmcffceeahemaa
