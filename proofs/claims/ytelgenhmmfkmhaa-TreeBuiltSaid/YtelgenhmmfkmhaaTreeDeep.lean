/-
  The walks of layer 17: where an expression begins, how deep it is.
-/
import Derived.Test.YtelgenhmmfkmhaaTree
import Derived.Test.YtelgenhmmfkmhaaShift
set_option linter.unusedVariables false
set_option linter.unusedSimpArgs false
namespace Go.Proofs.Ytelgenhmmfkmhaa
open Go.RowKit

set_option maxRecDepth 100000 in
set_option maxHeartbeats 1600000 in
theorem tree_begin {v : Value} {l p e r : List Tr.Nd} {d : Nat} {w : World} {n : Int} (hl : l = p ++ (e ++ r)) (he : Tr.Ex e d) (hn : n = ((p.length + e.length : Nat) : Int)) (h : Nds w v l) (hb : l.length ≤ 1000000) :
    Calls Try.prog 120 #[v, .int .i64 n] w fun e w' => e = .returned (.int .i64 ((p.length : Nat) : Int)) ∧ w = w' := by
  subst hn
  obtain ⟨A, c, rfl, h1, h2, h3, h4⟩ := h
  have H3 := Lib.hid h3
  have HL := Lib.hid hl
  have hle : p.length + e.length ≤ l.length := by rw [hl, List.length_append, List.length_append]; omega
  have hsl : 1 ≤ 1000000 := by omega
  have HST : Hid (∃ q ds, q.length = e.length ∧ ds.length = 1 ∧ Tr.St q ds ∧ ∃ r', l = p ++ (q ++ r')) := Lib.hid ⟨e, [d], rfl, rfl, he.st, r, hl⟩
  clear h2 h3 hl hsl
  go_enter Try.func120, Try.ntmps120
  go_wp2
  go_loop [1, 5] (fun s1 s5 => ∃ (k o : Nat), s1 = .int .i64 ((p.length + k : Nat) : Int) ∧ s5 = .int .i64 o ∧ k ≤ e.length ∧ o ≤ 1000000 ∧ Hid (∃ q ds, q.length = k ∧ ds.length = o ∧ Tr.St q ds ∧ ∃ r', l = p ++ (q ++ r'))) (fun s1 _ => (intOf s1).toNat)
  case atStart => exact ⟨e.length, 1, by go_num, rfl, Nat.le_refl _, by omega, HST⟩
  case round =>
    obtain ⟨k, o, rfl, rfl, hk, ho, HS⟩ := hrel
    match o, ho, HS with
    | 0, ho, HS =>
      have hk0 : k = 0 := by
        obtain ⟨q, ds, h1, h2, h3, _⟩ := HS.out
        obtain rfl := List.eq_nil_of_length_eq_zero h2
        rw [h3.of_nil] at h1
        exact h1.symm
      subst hk0
      go_wp2
      go_ret
      exact ⟨by simp, rfl⟩
    | o + 1, ho, HS =>
      obtain ⟨k', x, m, hkk, hx, hm, hm2, HN⟩ : ∃ (k' : Nat) (x : Tr.Nd) (m : Nat), k = k' + 1 ∧ l[p.length + k']? = some x ∧ Tr.arN x.op = m ∧ m ≤ 2 ∧ Hid (∃ q ds, q.length = k' ∧ ds.length = o + m ∧ Tr.St q ds ∧ ∃ r', l = p ++ (q ++ r')) := by
        obtain ⟨q, ds, h1, h2, h3, r', h4⟩ := HS.out
        match ds, h2 with
        | d :: ds, h2 =>
          obtain ⟨q', x, es, rfl, h5, h6, h7, h8⟩ := h3.back
          simp only [List.length_append, List.length_cons, List.length_nil] at h1 h2
          refine ⟨q'.length, x, (Tr.arN x.op).toNat, by omega, ?_, by omega, by omega, Lib.hid ⟨q', es, rfl, by omega, h5, [x] ++ r', by rw [h4]; simp⟩⟩
          rw [h4]
          exact Tr.cut_at rfl
      subst hkk
      have hkl : p.length + k' < l.length := by omega
      obtain ⟨b, q, rfl, hb1, g1, g2, u, g3, g4⟩ := h4.at_ hkl
      have hxe : l[p.length + k'] = x := by
        rw [List.getElem?_eq_getElem hkl] at hx
        exact Option.some.inj hx
      rw [hxe] at g1
      have hxo := H3.out l[p.length + k'] (List.getElem_mem hkl)
      rw [hxe] at hxo
      have hop := hxo.1
      have HM := Lib.hid hm
      have hlt : o + m ≤ 1000000 := by
        obtain ⟨q', es, h1, h2, h3, _⟩ := HN.out
        have := h3.len_le
        omega
      clear hx hxe g2 g3 g4 hm hxo
      go_wp2_with fail
      refine (tree_arity hop _).mono ?_
      rintro e w2 ⟨rfl, rfl⟩
      rw [HM.out]
      go_wp2
      go_round
      case rel => exact ⟨k', o + m, by go_num, by go_num, by omega, hlt, HN⟩
      case measure => simp [intOf]; omega

/-- A depth, and where it begins. -/
def RetDeep (d n : Nat) (w : World) (e : Ending) (w' : World) : Prop := e = .returned (.tuple #[.int .i64 (d : Int), .int .i64 (n : Int)]) ∧ w = w'

set_option maxRecDepth 100000 in
set_option maxHeartbeats 3200000 in
theorem ref_deep {e : List Tr.Nd} {d : Nat} (he : Tr.Ex e d) : ∀ {v : Value} {l p r : List Tr.Nd} {w : World} {n : Int} (hl : l = p ++ (e ++ r)) (hn : n = ((p.length + e.length : Nat) : Int) - 1) (h : Nds w v l) (hb : l.length ≤ 1000000),
    Calls Try.prog 122 #[v, .int .i64 n] w (RetDeep d p.length w) := by
  induction he with
  | leaf x hx =>
    intro v l p r w n hl hn h hb
    have hk : p.length < l.length := by rw [hl]; simp
    have hx2 : l[p.length]? = some x := by rw [hl]; exact Tr.cut_at (q := []) rfl
    obtain ⟨A, c, rfl, h1, h2, h3, h4⟩ := h
    obtain ⟨b, q, rfl, hb1, g1, g2, u, g3, g4⟩ := h4.at_ hk
    have hxe : l[p.length] = x := by rw [List.getElem?_eq_getElem hk] at hx2; exact Option.some.inj hx2
    have hop := (h3 _ (List.getElem_mem hk)).1
    rw [hxe] at g1 hop
    obtain rfl : n = (p.length : Int) := by rw [hn]; simp
    have HX := Lib.hid hx
    clear hl hx2 g2 g3 g4 hxe hn h3 hx
    generalize p.length = k at *
    go_enter Try.func122, Try.ntmps122
    go_wp2_with fail
    refine (ref_arity hop _).mono ?_
    rintro e w2 ⟨rfl, rfl⟩
    rw [HX.out]
    go_wp2_with fail
    go_loop [6, 7, 8] (fun s6 s7 s8 => s6 = .int .i64 0 ∧ s7 = .int .i64 k ∧ s8 = .int .i64 0) (fun _ _ _ => 0)
    case atStart => exact ⟨rfl, rfl, rfl⟩
    case round =>
      obtain ⟨rfl, rfl, rfl⟩ := hrel
      go_wp2_with fail
      go_ret2
      exact ⟨rfl, rfl⟩
  | one x a d hx ha ih =>
    intro v l p r w n hl hn h hb
    have hal := ha.len
    have hk : p.length + a.length < l.length := by rw [hl]; simp <;> omega
    have hx2 : l[p.length + a.length]? = some x := by rw [hl]; exact Tr.cut_at rfl
    have IH := Lib.hid (@ih v l p ([x] ++ r) w (((p.length + a.length : Nat) : Int) - 1) (by rw [hl]; simp) rfl h hb)
    obtain ⟨A, c, rfl, h1, h2, h3, h4⟩ := h
    obtain ⟨b, q, rfl, hb1, g1, g2, u, g3, g4⟩ := h4.at_ hk
    have hxe : l[p.length + a.length] = x := by rw [List.getElem?_eq_getElem hk] at hx2; exact Option.some.inj hx2
    have hop := (h3 _ (List.getElem_mem hk)).1
    rw [hxe] at g1 hop
    obtain ⟨k, hkk⟩ : ∃ k, k = p.length + a.length := ⟨_, rfl⟩
    obtain rfl : n = (k : Int) := by rw [hn, hkk]; simp; omega
    rw [← hkk] at IH g1 hk
    have hk1 : 1 ≤ k := by omega
    have hd1 : d ≤ 1000000 := by omega
    have HX := Lib.hid hx
    have HMX : Hid ((d : Int) = if (d : Int) > 0 then (d : Int) else 0) := Lib.hid (by split <;> omega)
    clear hl hx2 g2 g3 g4 hxe hn h3 hx ih ha hal hkk
    generalize p.length = j at *
    go_enter Try.func122, Try.ntmps122
    go_wp2_with fail
    refine (ref_arity hop _).mono ?_
    rintro e w2 ⟨rfl, rfl⟩
    rw [HX.out]
    go_wp2_with fail
    go_loop [6, 7, 8, 9, 10] (fun s6 s7 s8 _ _ => (s6 = .int .i64 0 ∧ s7 = .int .i64 k ∧ s8 = .int .i64 1) ∨ (s6 = .int .i64 d ∧ s7 = .int .i64 j ∧ s8 = .int .i64 0)) (fun _ _ s8 _ _ => (intOf s8).toNat)
    case atStart => exact .inl ⟨rfl, rfl, rfl⟩
    case round =>
      rcases hrel with ⟨rfl, rfl, rfl⟩ | ⟨rfl, rfl, rfl⟩
      · go_wp2_with fail
        refine IH.out.mono ?_
        rintro e w2 ⟨rfl, rfl⟩
        go_wp2_with (with_reducible show wpList _ _ _ _ _ _; refine wl_max (o := ⟨some 31, _, _, _, _, _⟩) rfl _ _ _ _ rfl rfl rfl HMX.out ?_)
        go_round
        case rel => exact .inr ⟨rfl, rfl, rfl⟩
        case measure => simp [intOf]
      · go_wp2_with fail
        go_ret2
        exact ⟨rfl, rfl⟩
  | two x a b d e hx ha hb2 iha ihb =>
    intro v l p r w n hl hn h hb
    have hal := ha.len
    have hbl := hb2.len
    have hk : p.length + (a.length + b.length) < l.length := by rw [hl]; simp <;> omega
    have hx2 : l[p.length + (a.length + b.length)]? = some x := by rw [hl]; exact Tr.cut_at (by simp)
    have IHB := Lib.hid (@ihb v l (p ++ a) ([x] ++ r) w (((p.length + (a.length + b.length) : Nat) : Int) - 1) (by rw [hl]; simp) (by simp; omega) h hb)
    have IHA := Lib.hid (@iha v l p (b ++ ([x] ++ r)) w (((p.length + a.length : Nat) : Int) - 1) (by rw [hl]; simp) rfl h hb)
    obtain ⟨A, c, rfl, h1, h2, h3, h4⟩ := h
    obtain ⟨bk, q, rfl, hb1, g1, g2, u, g3, g4⟩ := h4.at_ hk
    have hxe : l[p.length + (a.length + b.length)] = x := by rw [List.getElem?_eq_getElem hk] at hx2; exact Option.some.inj hx2
    have hop := (h3 _ (List.getElem_mem hk)).1
    rw [hxe] at g1 hop
    rw [List.length_append] at IHB
    obtain ⟨k, hkk⟩ : ∃ k, k = p.length + (a.length + b.length) := ⟨_, rfl⟩
    obtain ⟨i, hii⟩ : ∃ i, i = p.length + a.length := ⟨_, rfl⟩
    obtain rfl : n = (k : Int) := by rw [hn, hkk]; simp; omega
    rw [← hkk] at IHB g1 hk
    rw [← hii] at IHA IHB
    have hk1 : 1 ≤ k := by omega
    have hi1 : 1 ≤ i := by omega
    have hik : i ≤ k := by omega
    have hd1 : d ≤ 1000000 := by omega
    have he1 : e ≤ 1000000 := by omega
    have HX := Lib.hid hx
    have HMX : Hid ((e : Int) = if (e : Int) > 0 then (e : Int) else 0) := Lib.hid (by split <;> omega)
    have HMY : Hid (((max d e : Nat) : Int) = if (d : Int) > (e : Int) then (d : Int) else (e : Int)) := Lib.hid (by split <;> omega)
    have hde : max d e ≤ 1000000 := by omega
    clear hl hx2 g2 g3 g4 hxe hn h3 hx iha ihb ha hb2 hal hbl hkk hii
    generalize p.length = j at *
    generalize max d e = t at *
    go_enter Try.func122, Try.ntmps122
    go_wp2_with fail
    refine (ref_arity hop _).mono ?_
    rintro e' w2 ⟨rfl, rfl⟩
    rw [HX.out]
    go_wp2_with fail
    go_loop [6, 7, 8, 9, 10] (fun s6 s7 s8 _ _ => (s6 = .int .i64 0 ∧ s7 = .int .i64 k ∧ s8 = .int .i64 2) ∨ (s6 = .int .i64 e ∧ s7 = .int .i64 i ∧ s8 = .int .i64 1) ∨ (s6 = .int .i64 t ∧ s7 = .int .i64 j ∧ s8 = .int .i64 0)) (fun _ _ s8 _ _ => (intOf s8).toNat)
    case atStart => exact .inl ⟨rfl, rfl, rfl⟩
    case round =>
      rcases hrel with ⟨rfl, rfl, rfl⟩ | ⟨rfl, rfl, rfl⟩ | ⟨rfl, rfl, rfl⟩
      · go_wp2_with fail
        refine IHB.out.mono ?_
        rintro e' w2 ⟨rfl, rfl⟩
        go_wp2_with (with_reducible show wpList _ _ _ _ _ _; refine wl_max (o := ⟨some 31, _, _, _, _, _⟩) rfl _ _ _ _ rfl rfl rfl HMX.out ?_)
        go_round
        case rel => exact .inr (.inl ⟨rfl, rfl, rfl⟩)
        case measure => simp [intOf]
      · go_wp2_with fail
        refine IHA.out.mono ?_
        rintro e' w2 ⟨rfl, rfl⟩
        go_wp2_with (with_reducible show wpList _ _ _ _ _ _; refine wl_max (o := ⟨some 31, _, _, _, _, _⟩) rfl _ _ _ _ rfl rfl rfl HMY.out ?_)
        go_round
        case rel => exact .inr (.inr ⟨rfl, rfl, rfl⟩)
        case measure => simp [intOf]
      · go_wp2_with fail
        go_ret2
        exact ⟨rfl, rfl⟩
end Go.Proofs.Ytelgenhmmfkmhaa
