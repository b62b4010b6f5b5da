/-
  No cell of these rows narrows 'for every input' (looked for: loops, veiled, ifaces, maps, wideKeys, modest, calm, conditions, laid).
  DERIVED. THE GIVEN ROWS OF THIS SEAT. 11 by the template 'for every input the law returns true; each argument reads behind the call as it read before'; 0 by the template 'total and deterministic' (their statements: YtmmcffceeahemaaTotals.lean).
  GIVEN WITH THE SEED: the statements are not yours to turn. If you find one false, say at which input.
  Laid BY PROGRAM, IN A SANDBOX (cutbox-rows.mjs): the forced cells as the released guide's own fill.sh prints them over the translation 5e6df56979bb7044… (all of the seat's roots in one cut). By AI agents, Wed Nov 11 2026. No macro, syntax, notation, axiom, sorry.
-/
import Derived.Test.YtmmcffceeahemaaChecked
import GoSem.Claim
import GoSem.ClaimJoined
import GoSem.ClaimMapViews
import Derived.JoinedTies
import Derived.KernelRfl
namespace Go.Proofs.Ytmmcffceeahemaa
/- THE CELL 'sum', in the pinned program and in every row, IS THE sha256 OF THE DUMP (.gsa) THAT YtmmcffceeahemaaProg.lean LOADS. Nothing in Lean hashes anything: it is a label: what it is worth is what the hold of that sum in a sandbox is worth. -/
noncomputable def Try.pinned : Pinned := { name := "ytmmcffceeahemaa", sum := "5e6df56979bb70447f37c677d28d79121c05c1400b4f1ddb2a39d8ad3d7162b2", checked := Try.checked }
namespace Rows
def none {H : Type} : Left H := { results := [], args := [] }

/-- 'retrospectlaw17.TreeFields': WHATEVER THE INPUT: true; the input reads as it did. -/
def treeFieldsSpec : ChangeSpec := { name := "treeFields", fn := fun _ => fun
  | [d1, d2] => { results := [.lit (.bool true)], args := [d1, d2] }
  | _ => none }
def treeFieldsRow : OpenClaim := { program := "ytmmcffceeahemaa", sum := "5e6df56979bb70447f37c677d28d79121c05c1400b4f1ddb2a39d8ad3d7162b2", func := "retrospect/retrospectlaw17.TreeFields", spec := "treeFields", apart := false }
def TreeFieldsSaid : Prop := treeFieldsRow.holds Try.pinned (OpenSpec.ofChange treeFieldsSpec)

/-- ITS FALSE NEIGHBOUR: 'it returns false'. Refute it at one input. -/
def treeFieldsWrong : ChangeSpec := { name := "treeFields", fn := fun _ => fun
  | [d1, d2] => { results := [.lit (.bool false)], args := [d1, d2] }
  | _ => none }
def TreeFieldsWrongFalsely : Prop := treeFieldsRow.holds Try.pinned (OpenSpec.ofChange treeFieldsWrong)

/-- 'retrospectlaw13.GaugeMore': WHATEVER THE INPUT: true; the input reads as it did. -/
def gaugeMoreSpec : ChangeSpec := { name := "gaugeMore", fn := fun _ => fun
  | [d1, d2, d3] => { results := [.lit (.bool true)], args := [d1, d2, d3] }
  | _ => none }
def gaugeMoreRow : OpenClaim := { program := "ytmmcffceeahemaa", sum := "5e6df56979bb70447f37c677d28d79121c05c1400b4f1ddb2a39d8ad3d7162b2", func := "retrospect/retrospectlaw13.GaugeMore", spec := "gaugeMore", apart := false }
def GaugeMoreSaid : Prop := gaugeMoreRow.holds Try.pinned (OpenSpec.ofChange gaugeMoreSpec)

/-- ITS FALSE NEIGHBOUR: 'it returns false'. Refute it at one input. -/
def gaugeMoreWrong : ChangeSpec := { name := "gaugeMore", fn := fun _ => fun
  | [d1, d2, d3] => { results := [.lit (.bool false)], args := [d1, d2, d3] }
  | _ => none }
def GaugeMoreWrongFalsely : Prop := gaugeMoreRow.holds Try.pinned (OpenSpec.ofChange gaugeMoreWrong)

/-- 'retrospectlaw13.GaugePlays': WHATEVER THE INPUT: true; the input reads as it did. -/
def gaugePlaysSpec : ChangeSpec := { name := "gaugePlays", fn := fun _ => fun
  | [d1, d2] => { results := [.lit (.bool true)], args := [d1, d2] }
  | _ => none }
def gaugePlaysRow : OpenClaim := { program := "ytmmcffceeahemaa", sum := "5e6df56979bb70447f37c677d28d79121c05c1400b4f1ddb2a39d8ad3d7162b2", func := "retrospect/retrospectlaw13.GaugePlays", spec := "gaugePlays", apart := false }
def GaugePlaysSaid : Prop := gaugePlaysRow.holds Try.pinned (OpenSpec.ofChange gaugePlaysSpec)

/-- ITS FALSE NEIGHBOUR: 'it returns false'. Refute it at one input. -/
def gaugePlaysWrong : ChangeSpec := { name := "gaugePlays", fn := fun _ => fun
  | [d1, d2] => { results := [.lit (.bool false)], args := [d1, d2] }
  | _ => none }
def GaugePlaysWrongFalsely : Prop := gaugePlaysRow.holds Try.pinned (OpenSpec.ofChange gaugePlaysWrong)

/-- 'retrospectlaw09.FracMakes': WHATEVER THE INPUT: true; the input reads as it did. -/
def fracMakesSpec : ChangeSpec := { name := "fracMakes", fn := fun _ => fun
  | [d1, d2, d3] => { results := [.lit (.bool true)], args := [d1, d2, d3] }
  | _ => none }
def fracMakesRow : OpenClaim := { program := "ytmmcffceeahemaa", sum := "5e6df56979bb70447f37c677d28d79121c05c1400b4f1ddb2a39d8ad3d7162b2", func := "retrospect/retrospectlaw09.FracMakes", spec := "fracMakes", apart := false }
def FracMakesSaid : Prop := fracMakesRow.holds Try.pinned (OpenSpec.ofChange fracMakesSpec)

/-- ITS FALSE NEIGHBOUR: 'it returns false'. Refute it at one input. -/
def fracMakesWrong : ChangeSpec := { name := "fracMakes", fn := fun _ => fun
  | [d1, d2, d3] => { results := [.lit (.bool false)], args := [d1, d2, d3] }
  | _ => none }
def FracMakesWrongFalsely : Prop := fracMakesRow.holds Try.pinned (OpenSpec.ofChange fracMakesWrong)

/-- 'retrospectlaw09.FracField': WHATEVER THE INPUT: true; the input reads as it did. -/
def fracFieldSpec : ChangeSpec := { name := "fracField", fn := fun _ => fun
  | [d1, d2, d3] => { results := [.lit (.bool true)], args := [d1, d2, d3] }
  | _ => none }
def fracFieldRow : OpenClaim := { program := "ytmmcffceeahemaa", sum := "5e6df56979bb70447f37c677d28d79121c05c1400b4f1ddb2a39d8ad3d7162b2", func := "retrospect/retrospectlaw09.FracField", spec := "fracField", apart := false }
def FracFieldSaid : Prop := fracFieldRow.holds Try.pinned (OpenSpec.ofChange fracFieldSpec)

/-- ITS FALSE NEIGHBOUR: 'it returns false'. Refute it at one input. -/
def fracFieldWrong : ChangeSpec := { name := "fracField", fn := fun _ => fun
  | [d1, d2, d3] => { results := [.lit (.bool false)], args := [d1, d2, d3] }
  | _ => none }
def FracFieldWrongFalsely : Prop := fracFieldRow.holds Try.pinned (OpenSpec.ofChange fracFieldWrong)

/-- 'retrospectlaw09.FracTells': WHATEVER THE INPUT: true; the input reads as it did. -/
def fracTellsSpec : ChangeSpec := { name := "fracTells", fn := fun _ => fun
  | [d1, d2] => { results := [.lit (.bool true)], args := [d1, d2] }
  | _ => none }
def fracTellsRow : OpenClaim := { program := "ytmmcffceeahemaa", sum := "5e6df56979bb70447f37c677d28d79121c05c1400b4f1ddb2a39d8ad3d7162b2", func := "retrospect/retrospectlaw09.FracTells", spec := "fracTells", apart := false }
def FracTellsSaid : Prop := fracTellsRow.holds Try.pinned (OpenSpec.ofChange fracTellsSpec)

/-- ITS FALSE NEIGHBOUR: 'it returns false'. Refute it at one input. -/
def fracTellsWrong : ChangeSpec := { name := "fracTells", fn := fun _ => fun
  | [d1, d2] => { results := [.lit (.bool false)], args := [d1, d2] }
  | _ => none }
def FracTellsWrongFalsely : Prop := fracTellsRow.holds Try.pinned (OpenSpec.ofChange fracTellsWrong)

/-- 'retrospectlaw14.PolyValues': WHATEVER THE INPUT: true; the input reads as it did. -/
def polyValuesSpec : ChangeSpec := { name := "polyValues", fn := fun _ => fun
  | [d1, d2, d3] => { results := [.lit (.bool true)], args := [d1, d2, d3] }
  | _ => none }
def polyValuesRow : OpenClaim := { program := "ytmmcffceeahemaa", sum := "5e6df56979bb70447f37c677d28d79121c05c1400b4f1ddb2a39d8ad3d7162b2", func := "retrospect/retrospectlaw14.PolyValues", spec := "polyValues", apart := false }
def PolyValuesSaid : Prop := polyValuesRow.holds Try.pinned (OpenSpec.ofChange polyValuesSpec)

/-- ITS FALSE NEIGHBOUR: 'it returns false'. Refute it at one input. -/
def polyValuesWrong : ChangeSpec := { name := "polyValues", fn := fun _ => fun
  | [d1, d2, d3] => { results := [.lit (.bool false)], args := [d1, d2, d3] }
  | _ => none }
def PolyValuesWrongFalsely : Prop := polyValuesRow.holds Try.pinned (OpenSpec.ofChange polyValuesWrong)

/-- 'retrospectlaw36.PaceBounds': WHATEVER THE INPUT: true; the input reads as it did. -/
def paceBoundsSpec : ChangeSpec := { name := "paceBounds", fn := fun _ => fun
  | [d1, d2, d3] => { results := [.lit (.bool true)], args := [d1, d2, d3] }
  | _ => none }
def paceBoundsRow : OpenClaim := { program := "ytmmcffceeahemaa", sum := "5e6df56979bb70447f37c677d28d79121c05c1400b4f1ddb2a39d8ad3d7162b2", func := "retrospect/retrospectlaw36.PaceBounds", spec := "paceBounds", apart := false }
def PaceBoundsSaid : Prop := paceBoundsRow.holds Try.pinned (OpenSpec.ofChange paceBoundsSpec)

/-- ITS FALSE NEIGHBOUR: 'it returns false'. Refute it at one input. -/
def paceBoundsWrong : ChangeSpec := { name := "paceBounds", fn := fun _ => fun
  | [d1, d2, d3] => { results := [.lit (.bool false)], args := [d1, d2, d3] }
  | _ => none }
def PaceBoundsWrongFalsely : Prop := paceBoundsRow.holds Try.pinned (OpenSpec.ofChange paceBoundsWrong)

/-- 'retrospectlaw14.PolyCommon': WHATEVER THE INPUT: true; the input reads as it did. -/
def polyCommonSpec : ChangeSpec := { name := "polyCommon", fn := fun _ => fun
  | [d1, d2, d3] => { results := [.lit (.bool true)], args := [d1, d2, d3] }
  | _ => none }
def polyCommonRow : OpenClaim := { program := "ytmmcffceeahemaa", sum := "5e6df56979bb70447f37c677d28d79121c05c1400b4f1ddb2a39d8ad3d7162b2", func := "retrospect/retrospectlaw14.PolyCommon", spec := "polyCommon", apart := false }
def PolyCommonSaid : Prop := polyCommonRow.holds Try.pinned (OpenSpec.ofChange polyCommonSpec)

/-- ITS FALSE NEIGHBOUR: 'it returns false'. Refute it at one input. -/
def polyCommonWrong : ChangeSpec := { name := "polyCommon", fn := fun _ => fun
  | [d1, d2, d3] => { results := [.lit (.bool false)], args := [d1, d2, d3] }
  | _ => none }
def PolyCommonWrongFalsely : Prop := polyCommonRow.holds Try.pinned (OpenSpec.ofChange polyCommonWrong)

/-- 'retrospectlaw15.RatfValues': WHATEVER THE INPUT: true; the input reads as it did. -/
def ratfValuesSpec : ChangeSpec := { name := "ratfValues", fn := fun _ => fun
  | [d1, d2, d3] => { results := [.lit (.bool true)], args := [d1, d2, d3] }
  | _ => none }
def ratfValuesRow : OpenClaim := { program := "ytmmcffceeahemaa", sum := "5e6df56979bb70447f37c677d28d79121c05c1400b4f1ddb2a39d8ad3d7162b2", func := "retrospect/retrospectlaw15.RatfValues", spec := "ratfValues", apart := false }
def RatfValuesSaid : Prop := ratfValuesRow.holds Try.pinned (OpenSpec.ofChange ratfValuesSpec)

/-- ITS FALSE NEIGHBOUR: 'it returns false'. Refute it at one input. -/
def ratfValuesWrong : ChangeSpec := { name := "ratfValues", fn := fun _ => fun
  | [d1, d2, d3] => { results := [.lit (.bool false)], args := [d1, d2, d3] }
  | _ => none }
def RatfValuesWrongFalsely : Prop := ratfValuesRow.holds Try.pinned (OpenSpec.ofChange ratfValuesWrong)

/-- 'retrospectlaw15.RatfLeibniz': WHATEVER THE INPUT: true; the input reads as it did. -/
def ratfLeibnizSpec : ChangeSpec := { name := "ratfLeibniz", fn := fun _ => fun
  | [d1, d2, d3] => { results := [.lit (.bool true)], args := [d1, d2, d3] }
  | _ => none }
def ratfLeibnizRow : OpenClaim := { program := "ytmmcffceeahemaa", sum := "5e6df56979bb70447f37c677d28d79121c05c1400b4f1ddb2a39d8ad3d7162b2", func := "retrospect/retrospectlaw15.RatfLeibniz", spec := "ratfLeibniz", apart := false }
def RatfLeibnizSaid : Prop := ratfLeibnizRow.holds Try.pinned (OpenSpec.ofChange ratfLeibnizSpec)

/-- ITS FALSE NEIGHBOUR: 'it returns false'. Refute it at one input. -/
def ratfLeibnizWrong : ChangeSpec := { name := "ratfLeibniz", fn := fun _ => fun
  | [d1, d2, d3] => { results := [.lit (.bool false)], args := [d1, d2, d3] }
  | _ => none }
def RatfLeibnizWrongFalsely : Prop := ratfLeibnizRow.holds Try.pinned (OpenSpec.ofChange ratfLeibnizWrong)

/- THE SECOND FORM. 'bulk': how many values and letters a reading holds, each counted each time it is reached (what is shared counts as often as it is met; a slice's spare places count too). A statement '..UptoSaid' is the law's where the arguments, and the package variables that the reading takes, are together of bulk at most 1048576: NARROWER than '..Said'. Prove '..Said' where nothing that the law and all that it calls make is longer than what came in: it says more and counts as full. Else prove '..UptoSaid'. A law counts once. -/
mutual
def uptoBulk {H : Type} : DataW H → Nat
  | .lit (.string bytes) => bytes.length + 1
  | .lit _ => 1
  | .nil => 1
  | .ptr d => uptoBulk d + 1
  | .slice elems spare => uptoBulkAll elems + uptoBulkAll spare + 1
  | .agg parts => uptoBulkAll parts + 1
  | .iface _ d => uptoBulk d + 1
  | .map entries => uptoBulkEntries entries + 1
  | .held _ => 1
def uptoBulkAll {H : Type} : List (DataW H) → Nat
  | [] => 0
  | d :: r => uptoBulk d + uptoBulkAll r
def uptoBulkEntries {H : Type} : List (Lit × DataW H) → Nat
  | [] => 0
  | x :: r => uptoBulkEntry x + uptoBulkEntries r
def uptoBulkEntry {H : Type} : Lit × DataW H → Nat
  | (.string bytes, d) => bytes.length + uptoBulk d + 1
  | (_, d) => uptoBulk d + 1
 end
def uptoSmall : (H : Type) → List (DataW H) → Bool := fun _ ds => decide (uptoBulkAll ds ≤ 1048576)
def OpenSpec.upto (s : _root_.Go.ChangeSpec) : _root_.Go.OpenSpec := { _root_.Go.OpenSpec.ofChange s with cond := some uptoSmall }

/-- 'retrospectlaw17.TreeFields', WHERE WHAT IT READS IS OF BULK AT MOST 1048576: true; the input reads as it did. -/
def treeFieldsUptoRow : OpenClaim := { program := "ytmmcffceeahemaa", sum := "5e6df56979bb70447f37c677d28d79121c05c1400b4f1ddb2a39d8ad3d7162b2", func := "retrospect/retrospectlaw17.TreeFields", spec := "treeFields", apart := false, narrowed := true }
def TreeFieldsUptoSaid : Prop := treeFieldsUptoRow.holds Try.pinned (OpenSpec.upto treeFieldsSpec)

/-- 'retrospectlaw13.GaugeMore', WHERE WHAT IT READS IS OF BULK AT MOST 1048576: true; the input reads as it did. -/
def gaugeMoreUptoRow : OpenClaim := { program := "ytmmcffceeahemaa", sum := "5e6df56979bb70447f37c677d28d79121c05c1400b4f1ddb2a39d8ad3d7162b2", func := "retrospect/retrospectlaw13.GaugeMore", spec := "gaugeMore", apart := false, narrowed := true }
def GaugeMoreUptoSaid : Prop := gaugeMoreUptoRow.holds Try.pinned (OpenSpec.upto gaugeMoreSpec)

/-- 'retrospectlaw13.GaugePlays', WHERE WHAT IT READS IS OF BULK AT MOST 1048576: true; the input reads as it did. -/
def gaugePlaysUptoRow : OpenClaim := { program := "ytmmcffceeahemaa", sum := "5e6df56979bb70447f37c677d28d79121c05c1400b4f1ddb2a39d8ad3d7162b2", func := "retrospect/retrospectlaw13.GaugePlays", spec := "gaugePlays", apart := false, narrowed := true }
def GaugePlaysUptoSaid : Prop := gaugePlaysUptoRow.holds Try.pinned (OpenSpec.upto gaugePlaysSpec)

/-- 'retrospectlaw09.FracMakes', WHERE WHAT IT READS IS OF BULK AT MOST 1048576: true; the input reads as it did. -/
def fracMakesUptoRow : OpenClaim := { program := "ytmmcffceeahemaa", sum := "5e6df56979bb70447f37c677d28d79121c05c1400b4f1ddb2a39d8ad3d7162b2", func := "retrospect/retrospectlaw09.FracMakes", spec := "fracMakes", apart := false, narrowed := true }
def FracMakesUptoSaid : Prop := fracMakesUptoRow.holds Try.pinned (OpenSpec.upto fracMakesSpec)

/-- 'retrospectlaw09.FracField', WHERE WHAT IT READS IS OF BULK AT MOST 1048576: true; the input reads as it did. -/
def fracFieldUptoRow : OpenClaim := { program := "ytmmcffceeahemaa", sum := "5e6df56979bb70447f37c677d28d79121c05c1400b4f1ddb2a39d8ad3d7162b2", func := "retrospect/retrospectlaw09.FracField", spec := "fracField", apart := false, narrowed := true }
def FracFieldUptoSaid : Prop := fracFieldUptoRow.holds Try.pinned (OpenSpec.upto fracFieldSpec)

/-- 'retrospectlaw09.FracTells', WHERE WHAT IT READS IS OF BULK AT MOST 1048576: true; the input reads as it did. -/
def fracTellsUptoRow : OpenClaim := { program := "ytmmcffceeahemaa", sum := "5e6df56979bb70447f37c677d28d79121c05c1400b4f1ddb2a39d8ad3d7162b2", func := "retrospect/retrospectlaw09.FracTells", spec := "fracTells", apart := false, narrowed := true }
def FracTellsUptoSaid : Prop := fracTellsUptoRow.holds Try.pinned (OpenSpec.upto fracTellsSpec)

/-- 'retrospectlaw14.PolyValues', WHERE WHAT IT READS IS OF BULK AT MOST 1048576: true; the input reads as it did. -/
def polyValuesUptoRow : OpenClaim := { program := "ytmmcffceeahemaa", sum := "5e6df56979bb70447f37c677d28d79121c05c1400b4f1ddb2a39d8ad3d7162b2", func := "retrospect/retrospectlaw14.PolyValues", spec := "polyValues", apart := false, narrowed := true }
def PolyValuesUptoSaid : Prop := polyValuesUptoRow.holds Try.pinned (OpenSpec.upto polyValuesSpec)

/-- 'retrospectlaw36.PaceBounds', WHERE WHAT IT READS IS OF BULK AT MOST 1048576: true; the input reads as it did. -/
def paceBoundsUptoRow : OpenClaim := { program := "ytmmcffceeahemaa", sum := "5e6df56979bb70447f37c677d28d79121c05c1400b4f1ddb2a39d8ad3d7162b2", func := "retrospect/retrospectlaw36.PaceBounds", spec := "paceBounds", apart := false, narrowed := true }
def PaceBoundsUptoSaid : Prop := paceBoundsUptoRow.holds Try.pinned (OpenSpec.upto paceBoundsSpec)

/-- 'retrospectlaw14.PolyCommon', WHERE WHAT IT READS IS OF BULK AT MOST 1048576: true; the input reads as it did. -/
def polyCommonUptoRow : OpenClaim := { program := "ytmmcffceeahemaa", sum := "5e6df56979bb70447f37c677d28d79121c05c1400b4f1ddb2a39d8ad3d7162b2", func := "retrospect/retrospectlaw14.PolyCommon", spec := "polyCommon", apart := false, narrowed := true }
def PolyCommonUptoSaid : Prop := polyCommonUptoRow.holds Try.pinned (OpenSpec.upto polyCommonSpec)

/-- 'retrospectlaw15.RatfValues', WHERE WHAT IT READS IS OF BULK AT MOST 1048576: true; the input reads as it did. -/
def ratfValuesUptoRow : OpenClaim := { program := "ytmmcffceeahemaa", sum := "5e6df56979bb70447f37c677d28d79121c05c1400b4f1ddb2a39d8ad3d7162b2", func := "retrospect/retrospectlaw15.RatfValues", spec := "ratfValues", apart := false, narrowed := true }
def RatfValuesUptoSaid : Prop := ratfValuesUptoRow.holds Try.pinned (OpenSpec.upto ratfValuesSpec)

/-- 'retrospectlaw15.RatfLeibniz', WHERE WHAT IT READS IS OF BULK AT MOST 1048576: true; the input reads as it did. -/
def ratfLeibnizUptoRow : OpenClaim := { program := "ytmmcffceeahemaa", sum := "5e6df56979bb70447f37c677d28d79121c05c1400b4f1ddb2a39d8ad3d7162b2", func := "retrospect/retrospectlaw15.RatfLeibniz", spec := "ratfLeibniz", apart := false, narrowed := true }
def RatfLeibnizUptoSaid : Prop := ratfLeibnizUptoRow.holds Try.pinned (OpenSpec.upto ratfLeibnizSpec)

end Rows
end Go.Proofs.Ytmmcffceeahemaa
