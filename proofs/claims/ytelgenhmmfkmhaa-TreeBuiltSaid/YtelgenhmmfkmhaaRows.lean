/-
  No cell of these rows narrows 'for every input' (looked for: loops, veiled, ifaces, maps, wideKeys, modest, calm, conditions, laid).
  DERIVED. THE GIVEN ROWS OF THIS SEAT. 28 by the template 'for every input the law returns true; each argument reads behind the call as it read before'; 0 by the template 'total and deterministic' (their statements: YtelgenhmmfkmhaaTotals.lean).
  GIVEN WITH THE SEED: the statements are not yours to turn. If you find one false, say at which input.
  Laid BY PROGRAM, IN A SANDBOX (cutbox-rows.mjs): the forced cells as the released guide's own fill.sh prints them over the translation 3e2230bb8dc64b91… (all of the seat's roots in one cut). By AI agents, Wed Nov 11 2026. No macro, syntax, notation, axiom, sorry.
-/
import Derived.Test.YtelgenhmmfkmhaaChecked
import GoSem.Claim
import GoSem.ClaimJoined
import GoSem.ClaimMapViews
import Derived.JoinedTies
import Derived.KernelRfl
namespace Go.Proofs.Ytelgenhmmfkmhaa
/- THE CELL 'sum', in the pinned program and in every row, IS THE sha256 OF THE DUMP (.gsa) THAT YtelgenhmmfkmhaaProg.lean LOADS. Nothing in Lean hashes anything: it is a label: what it is worth is what the hold of that sum in a sandbox is worth. -/
noncomputable def Try.pinned : Pinned := { name := "ytelgenhmmfkmhaa", sum := "3e2230bb8dc64b9107325aaaa0534f6eb1f42c77ad790b8ac44c4d56c9fb6662", checked := Try.checked }
namespace Rows
def none {H : Type} : Left H := { results := [], args := [] }

/-- 'retrospectlaw01.LimbBits': WHATEVER THE INPUT: true; the input reads as it did. -/
def limbBitsSpec : ChangeSpec := { name := "limbBits", fn := fun _ => fun
  | [d] => { results := [.lit (.bool true)], args := [d] }
  | _ => none }
def limbBitsRow : OpenClaim := { program := "ytelgenhmmfkmhaa", sum := "3e2230bb8dc64b9107325aaaa0534f6eb1f42c77ad790b8ac44c4d56c9fb6662", func := "retrospect/retrospectlaw01.LimbBits", spec := "limbBits", apart := false }
def LimbBitsSaid : Prop := limbBitsRow.holds Try.pinned (OpenSpec.ofChange limbBitsSpec)

/-- ITS FALSE NEIGHBOUR: 'it returns false'. Refute it at one input. -/
def limbBitsWrong : ChangeSpec := { name := "limbBits", fn := fun _ => fun
  | [d] => { results := [.lit (.bool false)], args := [d] }
  | _ => none }
def LimbBitsWrongFalsely : Prop := limbBitsRow.holds Try.pinned (OpenSpec.ofChange limbBitsWrong)

/-- 'retrospectlaw01.LimbAdds': WHATEVER THE INPUT: true; the input reads as it did. -/
def limbAddsSpec : ChangeSpec := { name := "limbAdds", fn := fun _ => fun
  | [d1, d2, d3] => { results := [.lit (.bool true)], args := [d1, d2, d3] }
  | _ => none }
def limbAddsRow : OpenClaim := { program := "ytelgenhmmfkmhaa", sum := "3e2230bb8dc64b9107325aaaa0534f6eb1f42c77ad790b8ac44c4d56c9fb6662", func := "retrospect/retrospectlaw01.LimbAdds", spec := "limbAdds", apart := false }
def LimbAddsSaid : Prop := limbAddsRow.holds Try.pinned (OpenSpec.ofChange limbAddsSpec)

/-- ITS FALSE NEIGHBOUR: 'it returns false'. Refute it at one input. -/
def limbAddsWrong : ChangeSpec := { name := "limbAdds", fn := fun _ => fun
  | [d1, d2, d3] => { results := [.lit (.bool false)], args := [d1, d2, d3] }
  | _ => none }
def LimbAddsWrongFalsely : Prop := limbAddsRow.holds Try.pinned (OpenSpec.ofChange limbAddsWrong)

/-- 'retrospectlaw01.LimbTimes': WHATEVER THE INPUT: true; the input reads as it did. -/
def limbTimesSpec : ChangeSpec := { name := "limbTimes", fn := fun _ => fun
  | [d] => { results := [.lit (.bool true)], args := [d] }
  | _ => none }
def limbTimesRow : OpenClaim := { program := "ytelgenhmmfkmhaa", sum := "3e2230bb8dc64b9107325aaaa0534f6eb1f42c77ad790b8ac44c4d56c9fb6662", func := "retrospect/retrospectlaw01.LimbTimes", spec := "limbTimes", apart := false }
def LimbTimesSaid : Prop := limbTimesRow.holds Try.pinned (OpenSpec.ofChange limbTimesSpec)

/-- ITS FALSE NEIGHBOUR: 'it returns false'. Refute it at one input. -/
def limbTimesWrong : ChangeSpec := { name := "limbTimes", fn := fun _ => fun
  | [d] => { results := [.lit (.bool false)], args := [d] }
  | _ => none }
def LimbTimesWrongFalsely : Prop := limbTimesRow.holds Try.pinned (OpenSpec.ofChange limbTimesWrong)

/-- 'retrospectlaw01.LimbBack': WHATEVER THE INPUT: true; the input reads as it did. -/
def limbBackSpec : ChangeSpec := { name := "limbBack", fn := fun _ => fun
  | [d] => { results := [.lit (.bool true)], args := [d] }
  | _ => none }
def limbBackRow : OpenClaim := { program := "ytelgenhmmfkmhaa", sum := "3e2230bb8dc64b9107325aaaa0534f6eb1f42c77ad790b8ac44c4d56c9fb6662", func := "retrospect/retrospectlaw01.LimbBack", spec := "limbBack", apart := false }
def LimbBackSaid : Prop := limbBackRow.holds Try.pinned (OpenSpec.ofChange limbBackSpec)

/-- ITS FALSE NEIGHBOUR: 'it returns false'. Refute it at one input. -/
def limbBackWrong : ChangeSpec := { name := "limbBack", fn := fun _ => fun
  | [d] => { results := [.lit (.bool false)], args := [d] }
  | _ => none }
def LimbBackWrongFalsely : Prop := limbBackRow.holds Try.pinned (OpenSpec.ofChange limbBackWrong)

/-- 'retrospectlaw17.TreeTells': WHATEVER THE INPUT: true; the input reads as it did. -/
def treeTellsSpec : ChangeSpec := { name := "treeTells", fn := fun _ => fun
  | [d1, d2] => { results := [.lit (.bool true)], args := [d1, d2] }
  | _ => none }
def treeTellsRow : OpenClaim := { program := "ytelgenhmmfkmhaa", sum := "3e2230bb8dc64b9107325aaaa0534f6eb1f42c77ad790b8ac44c4d56c9fb6662", func := "retrospect/retrospectlaw17.TreeTells", spec := "treeTells", recurses := true, apart := false }
def TreeTellsSaid : Prop := treeTellsRow.holds Try.pinned (OpenSpec.ofChange treeTellsSpec)

/-- ITS FALSE NEIGHBOUR: 'it returns false'. Refute it at one input. -/
def treeTellsWrong : ChangeSpec := { name := "treeTells", fn := fun _ => fun
  | [d1, d2] => { results := [.lit (.bool false)], args := [d1, d2] }
  | _ => none }
def TreeTellsWrongFalsely : Prop := treeTellsRow.holds Try.pinned (OpenSpec.ofChange treeTellsWrong)

/-- 'retrospectlaw02.NatAdds': WHATEVER THE INPUT: true; the input reads as it did. -/
def natAddsSpec : ChangeSpec := { name := "natAdds", fn := fun _ => fun
  | [d] => { results := [.lit (.bool true)], args := [d] }
  | _ => none }
def natAddsRow : OpenClaim := { program := "ytelgenhmmfkmhaa", sum := "3e2230bb8dc64b9107325aaaa0534f6eb1f42c77ad790b8ac44c4d56c9fb6662", func := "retrospect/retrospectlaw02.NatAdds", spec := "natAdds", apart := false }
def NatAddsSaid : Prop := natAddsRow.holds Try.pinned (OpenSpec.ofChange natAddsSpec)

/-- ITS FALSE NEIGHBOUR: 'it returns false'. Refute it at one input. -/
def natAddsWrong : ChangeSpec := { name := "natAdds", fn := fun _ => fun
  | [d] => { results := [.lit (.bool false)], args := [d] }
  | _ => none }
def NatAddsWrongFalsely : Prop := natAddsRow.holds Try.pinned (OpenSpec.ofChange natAddsWrong)

/-- 'retrospectlaw02.NatBack': WHATEVER THE INPUT: true; the input reads as it did. -/
def natBackSpec : ChangeSpec := { name := "natBack", fn := fun _ => fun
  | [d1, d2, d3] => { results := [.lit (.bool true)], args := [d1, d2, d3] }
  | _ => none }
def natBackRow : OpenClaim := { program := "ytelgenhmmfkmhaa", sum := "3e2230bb8dc64b9107325aaaa0534f6eb1f42c77ad790b8ac44c4d56c9fb6662", func := "retrospect/retrospectlaw02.NatBack", spec := "natBack", apart := false }
def NatBackSaid : Prop := natBackRow.holds Try.pinned (OpenSpec.ofChange natBackSpec)

/-- ITS FALSE NEIGHBOUR: 'it returns false'. Refute it at one input. -/
def natBackWrong : ChangeSpec := { name := "natBack", fn := fun _ => fun
  | [d1, d2, d3] => { results := [.lit (.bool false)], args := [d1, d2, d3] }
  | _ => none }
def NatBackWrongFalsely : Prop := natBackRow.holds Try.pinned (OpenSpec.ofChange natBackWrong)

/-- 'retrospectlaw03.TwosTells': WHATEVER THE INPUT: true; the input reads as it did. -/
def twosTellsSpec : ChangeSpec := { name := "twosTells", fn := fun _ => fun
  | [d1, d2] => { results := [.lit (.bool true)], args := [d1, d2] }
  | _ => none }
def twosTellsRow : OpenClaim := { program := "ytelgenhmmfkmhaa", sum := "3e2230bb8dc64b9107325aaaa0534f6eb1f42c77ad790b8ac44c4d56c9fb6662", func := "retrospect/retrospectlaw03.TwosTells", spec := "twosTells", apart := false }
def TwosTellsSaid : Prop := twosTellsRow.holds Try.pinned (OpenSpec.ofChange twosTellsSpec)

/-- ITS FALSE NEIGHBOUR: 'it returns false'. Refute it at one input. -/
def twosTellsWrong : ChangeSpec := { name := "twosTells", fn := fun _ => fun
  | [d1, d2] => { results := [.lit (.bool false)], args := [d1, d2] }
  | _ => none }
def TwosTellsWrongFalsely : Prop := twosTellsRow.holds Try.pinned (OpenSpec.ofChange twosTellsWrong)

/-- 'retrospectlaw02.NatTakes': WHATEVER THE INPUT: true; the input reads as it did. -/
def natTakesSpec : ChangeSpec := { name := "natTakes", fn := fun _ => fun
  | [d1, d2] => { results := [.lit (.bool true)], args := [d1, d2] }
  | _ => none }
def natTakesRow : OpenClaim := { program := "ytelgenhmmfkmhaa", sum := "3e2230bb8dc64b9107325aaaa0534f6eb1f42c77ad790b8ac44c4d56c9fb6662", func := "retrospect/retrospectlaw02.NatTakes", spec := "natTakes", apart := false }
def NatTakesSaid : Prop := natTakesRow.holds Try.pinned (OpenSpec.ofChange natTakesSpec)

/-- ITS FALSE NEIGHBOUR: 'it returns false'. Refute it at one input. -/
def natTakesWrong : ChangeSpec := { name := "natTakes", fn := fun _ => fun
  | [d1, d2] => { results := [.lit (.bool false)], args := [d1, d2] }
  | _ => none }
def NatTakesWrongFalsely : Prop := natTakesRow.holds Try.pinned (OpenSpec.ofChange natTakesWrong)

/-- 'retrospectlaw02.NatTells': WHATEVER THE INPUT: true; the input reads as it did. -/
def natTellsSpec : ChangeSpec := { name := "natTells", fn := fun _ => fun
  | [d1, d2, d3] => { results := [.lit (.bool true)], args := [d1, d2, d3] }
  | _ => none }
def natTellsRow : OpenClaim := { program := "ytelgenhmmfkmhaa", sum := "3e2230bb8dc64b9107325aaaa0534f6eb1f42c77ad790b8ac44c4d56c9fb6662", func := "retrospect/retrospectlaw02.NatTells", spec := "natTells", apart := false }
def NatTellsSaid : Prop := natTellsRow.holds Try.pinned (OpenSpec.ofChange natTellsSpec)

/-- ITS FALSE NEIGHBOUR: 'it returns false'. Refute it at one input. -/
def natTellsWrong : ChangeSpec := { name := "natTells", fn := fun _ => fun
  | [d1, d2, d3] => { results := [.lit (.bool false)], args := [d1, d2, d3] }
  | _ => none }
def NatTellsWrongFalsely : Prop := natTellsRow.holds Try.pinned (OpenSpec.ofChange natTellsWrong)

/-- 'retrospectlaw17.TreeWhole': WHATEVER THE INPUT: true; the input reads as it did. -/
def treeWholeSpec : ChangeSpec := { name := "treeWhole", fn := fun _ => fun
  | [d] => { results := [.lit (.bool true)], args := [d] }
  | _ => none }
def treeWholeRow : OpenClaim := { program := "ytelgenhmmfkmhaa", sum := "3e2230bb8dc64b9107325aaaa0534f6eb1f42c77ad790b8ac44c4d56c9fb6662", func := "retrospect/retrospectlaw17.TreeWhole", spec := "treeWhole", apart := false }
def TreeWholeSaid : Prop := treeWholeRow.holds Try.pinned (OpenSpec.ofChange treeWholeSpec)

/-- ITS FALSE NEIGHBOUR: 'it returns false'. Refute it at one input. -/
def treeWholeWrong : ChangeSpec := { name := "treeWhole", fn := fun _ => fun
  | [d] => { results := [.lit (.bool false)], args := [d] }
  | _ => none }
def TreeWholeWrongFalsely : Prop := treeWholeRow.holds Try.pinned (OpenSpec.ofChange treeWholeWrong)

/-- 'retrospectlaw17.TreeBuilt': WHATEVER THE INPUT: true; the input reads as it did. -/
def treeBuiltSpec : ChangeSpec := { name := "treeBuilt", fn := fun _ => fun
  | [d1, d2, d3] => { results := [.lit (.bool true)], args := [d1, d2, d3] }
  | _ => none }
def treeBuiltRow : OpenClaim := { program := "ytelgenhmmfkmhaa", sum := "3e2230bb8dc64b9107325aaaa0534f6eb1f42c77ad790b8ac44c4d56c9fb6662", func := "retrospect/retrospectlaw17.TreeBuilt", spec := "treeBuilt", apart := false }
def TreeBuiltSaid : Prop := treeBuiltRow.holds Try.pinned (OpenSpec.ofChange treeBuiltSpec)

/-- ITS FALSE NEIGHBOUR: 'it returns false'. Refute it at one input. -/
def treeBuiltWrong : ChangeSpec := { name := "treeBuilt", fn := fun _ => fun
  | [d1, d2, d3] => { results := [.lit (.bool false)], args := [d1, d2, d3] }
  | _ => none }
def TreeBuiltWrongFalsely : Prop := treeBuiltRow.holds Try.pinned (OpenSpec.ofChange treeBuiltWrong)

/-- 'retrospecttop.TopNames': WHATEVER THE INPUT: true; the input reads as it did. -/
def topNamesSpec : ChangeSpec := { name := "topNames", fn := fun _ => fun
  | [] => { results := [.lit (.bool true)], args := [] }
  | _ => none }
def topNamesRow : OpenClaim := { program := "ytelgenhmmfkmhaa", sum := "3e2230bb8dc64b9107325aaaa0534f6eb1f42c77ad790b8ac44c4d56c9fb6662", func := "retrospect/retrospecttop.TopNames", spec := "topNames", apart := false }
def TopNamesSaid : Prop := topNamesRow.holds Try.pinned (OpenSpec.ofChange topNamesSpec)

/-- ITS FALSE NEIGHBOUR: 'it returns false'. Refute it at one input. -/
def topNamesWrong : ChangeSpec := { name := "topNames", fn := fun _ => fun
  | [] => { results := [.lit (.bool false)], args := [] }
  | _ => none }
def TopNamesWrongFalsely : Prop := topNamesRow.holds Try.pinned (OpenSpec.ofChange topNamesWrong)

/-- 'retrospectlaw03.TwosShifts': WHATEVER THE INPUT: true; the input reads as it did. -/
def twosShiftsSpec : ChangeSpec := { name := "twosShifts", fn := fun _ => fun
  | [d1, d2] => { results := [.lit (.bool true)], args := [d1, d2] }
  | _ => none }
def twosShiftsRow : OpenClaim := { program := "ytelgenhmmfkmhaa", sum := "3e2230bb8dc64b9107325aaaa0534f6eb1f42c77ad790b8ac44c4d56c9fb6662", func := "retrospect/retrospectlaw03.TwosShifts", spec := "twosShifts", apart := false }
def TwosShiftsSaid : Prop := twosShiftsRow.holds Try.pinned (OpenSpec.ofChange twosShiftsSpec)

/-- ITS FALSE NEIGHBOUR: 'it returns false'. Refute it at one input. -/
def twosShiftsWrong : ChangeSpec := { name := "twosShifts", fn := fun _ => fun
  | [d1, d2] => { results := [.lit (.bool false)], args := [d1, d2] }
  | _ => none }
def TwosShiftsWrongFalsely : Prop := twosShiftsRow.holds Try.pinned (OpenSpec.ofChange twosShiftsWrong)

/-- 'retrospectlaw04.ProdPowers': WHATEVER THE INPUT: true; the input reads as it did. -/
def prodPowersSpec : ChangeSpec := { name := "prodPowers", fn := fun _ => fun
  | [d1, d2] => { results := [.lit (.bool true)], args := [d1, d2] }
  | _ => none }
def prodPowersRow : OpenClaim := { program := "ytelgenhmmfkmhaa", sum := "3e2230bb8dc64b9107325aaaa0534f6eb1f42c77ad790b8ac44c4d56c9fb6662", func := "retrospect/retrospectlaw04.ProdPowers", spec := "prodPowers", apart := false }
def ProdPowersSaid : Prop := prodPowersRow.holds Try.pinned (OpenSpec.ofChange prodPowersSpec)

/-- ITS FALSE NEIGHBOUR: 'it returns false'. Refute it at one input. -/
def prodPowersWrong : ChangeSpec := { name := "prodPowers", fn := fun _ => fun
  | [d1, d2] => { results := [.lit (.bool false)], args := [d1, d2] }
  | _ => none }
def ProdPowersWrongFalsely : Prop := prodPowersRow.holds Try.pinned (OpenSpec.ofChange prodPowersWrong)

/-- 'retrospectlaw04.ProdShares': WHATEVER THE INPUT: true; the input reads as it did. -/
def prodSharesSpec : ChangeSpec := { name := "prodShares", fn := fun _ => fun
  | [d1, d2, d3] => { results := [.lit (.bool true)], args := [d1, d2, d3] }
  | _ => none }
def prodSharesRow : OpenClaim := { program := "ytelgenhmmfkmhaa", sum := "3e2230bb8dc64b9107325aaaa0534f6eb1f42c77ad790b8ac44c4d56c9fb6662", func := "retrospect/retrospectlaw04.ProdShares", spec := "prodShares", apart := false }
def ProdSharesSaid : Prop := prodSharesRow.holds Try.pinned (OpenSpec.ofChange prodSharesSpec)

/-- ITS FALSE NEIGHBOUR: 'it returns false'. Refute it at one input. -/
def prodSharesWrong : ChangeSpec := { name := "prodShares", fn := fun _ => fun
  | [d1, d2, d3] => { results := [.lit (.bool false)], args := [d1, d2, d3] }
  | _ => none }
def ProdSharesWrongFalsely : Prop := prodSharesRow.holds Try.pinned (OpenSpec.ofChange prodSharesWrong)

/-- 'retrospectlaw04.ProdExponents': WHATEVER THE INPUT: true; the input reads as it did. -/
def prodExponentsSpec : ChangeSpec := { name := "prodExponents", fn := fun _ => fun
  | [d1, d2, d3] => { results := [.lit (.bool true)], args := [d1, d2, d3] }
  | _ => none }
def prodExponentsRow : OpenClaim := { program := "ytelgenhmmfkmhaa", sum := "3e2230bb8dc64b9107325aaaa0534f6eb1f42c77ad790b8ac44c4d56c9fb6662", func := "retrospect/retrospectlaw04.ProdExponents", spec := "prodExponents", apart := false }
def ProdExponentsSaid : Prop := prodExponentsRow.holds Try.pinned (OpenSpec.ofChange prodExponentsSpec)

/-- ITS FALSE NEIGHBOUR: 'it returns false'. Refute it at one input. -/
def prodExponentsWrong : ChangeSpec := { name := "prodExponents", fn := fun _ => fun
  | [d1, d2, d3] => { results := [.lit (.bool false)], args := [d1, d2, d3] }
  | _ => none }
def ProdExponentsWrongFalsely : Prop := prodExponentsRow.holds Try.pinned (OpenSpec.ofChange prodExponentsWrong)

/-- 'retrospectlaw04.ProdTimes': WHATEVER THE INPUT: true; the input reads as it did. -/
def prodTimesSpec : ChangeSpec := { name := "prodTimes", fn := fun _ => fun
  | [d1, d2, d3] => { results := [.lit (.bool true)], args := [d1, d2, d3] }
  | _ => none }
def prodTimesRow : OpenClaim := { program := "ytelgenhmmfkmhaa", sum := "3e2230bb8dc64b9107325aaaa0534f6eb1f42c77ad790b8ac44c4d56c9fb6662", func := "retrospect/retrospectlaw04.ProdTimes", spec := "prodTimes", apart := false }
def ProdTimesSaid : Prop := prodTimesRow.holds Try.pinned (OpenSpec.ofChange prodTimesSpec)

/-- ITS FALSE NEIGHBOUR: 'it returns false'. Refute it at one input. -/
def prodTimesWrong : ChangeSpec := { name := "prodTimes", fn := fun _ => fun
  | [d1, d2, d3] => { results := [.lit (.bool false)], args := [d1, d2, d3] }
  | _ => none }
def ProdTimesWrongFalsely : Prop := prodTimesRow.holds Try.pinned (OpenSpec.ofChange prodTimesWrong)

/-- 'retrospectlaw04.ProdAll': WHATEVER THE INPUT: true; the input reads as it did. -/
def prodAllSpec : ChangeSpec := { name := "prodAll", fn := fun _ => fun
  | [d] => { results := [.lit (.bool true)], args := [d] }
  | _ => none }
def prodAllRow : OpenClaim := { program := "ytelgenhmmfkmhaa", sum := "3e2230bb8dc64b9107325aaaa0534f6eb1f42c77ad790b8ac44c4d56c9fb6662", func := "retrospect/retrospectlaw04.ProdAll", spec := "prodAll", apart := false }
def ProdAllSaid : Prop := prodAllRow.holds Try.pinned (OpenSpec.ofChange prodAllSpec)

/-- ITS FALSE NEIGHBOUR: 'it returns false'. Refute it at one input. -/
def prodAllWrong : ChangeSpec := { name := "prodAll", fn := fun _ => fun
  | [d] => { results := [.lit (.bool false)], args := [d] }
  | _ => none }
def ProdAllWrongFalsely : Prop := prodAllRow.holds Try.pinned (OpenSpec.ofChange prodAllWrong)

/-- 'retrospectlaw17.TreeFields': WHATEVER THE INPUT: true; the input reads as it did. -/
def treeFieldsSpec : ChangeSpec := { name := "treeFields", fn := fun _ => fun
  | [d1, d2] => { results := [.lit (.bool true)], args := [d1, d2] }
  | _ => none }
def treeFieldsRow : OpenClaim := { program := "ytelgenhmmfkmhaa", sum := "3e2230bb8dc64b9107325aaaa0534f6eb1f42c77ad790b8ac44c4d56c9fb6662", func := "retrospect/retrospectlaw17.TreeFields", spec := "treeFields", apart := false }
def TreeFieldsSaid : Prop := treeFieldsRow.holds Try.pinned (OpenSpec.ofChange treeFieldsSpec)

/-- ITS FALSE NEIGHBOUR: 'it returns false'. Refute it at one input. -/
def treeFieldsWrong : ChangeSpec := { name := "treeFields", fn := fun _ => fun
  | [d1, d2] => { results := [.lit (.bool false)], args := [d1, d2] }
  | _ => none }
def TreeFieldsWrongFalsely : Prop := treeFieldsRow.holds Try.pinned (OpenSpec.ofChange treeFieldsWrong)

/-- 'retrospectlaw03.TwosBack': WHATEVER THE INPUT: true; the input reads as it did. -/
def twosBackSpec : ChangeSpec := { name := "twosBack", fn := fun _ => fun
  | [d1, d2] => { results := [.lit (.bool true)], args := [d1, d2] }
  | _ => none }
def twosBackRow : OpenClaim := { program := "ytelgenhmmfkmhaa", sum := "3e2230bb8dc64b9107325aaaa0534f6eb1f42c77ad790b8ac44c4d56c9fb6662", func := "retrospect/retrospectlaw03.TwosBack", spec := "twosBack", apart := false }
def TwosBackSaid : Prop := twosBackRow.holds Try.pinned (OpenSpec.ofChange twosBackSpec)

/-- ITS FALSE NEIGHBOUR: 'it returns false'. Refute it at one input. -/
def twosBackWrong : ChangeSpec := { name := "twosBack", fn := fun _ => fun
  | [d1, d2] => { results := [.lit (.bool false)], args := [d1, d2] }
  | _ => none }
def TwosBackWrongFalsely : Prop := twosBackRow.holds Try.pinned (OpenSpec.ofChange twosBackWrong)

/-- 'retrospectlaw05.QuotDivides': WHATEVER THE INPUT: true; the input reads as it did. -/
def quotDividesSpec : ChangeSpec := { name := "quotDivides", fn := fun _ => fun
  | [d1, d2] => { results := [.lit (.bool true)], args := [d1, d2] }
  | _ => none }
def quotDividesRow : OpenClaim := { program := "ytelgenhmmfkmhaa", sum := "3e2230bb8dc64b9107325aaaa0534f6eb1f42c77ad790b8ac44c4d56c9fb6662", func := "retrospect/retrospectlaw05.QuotDivides", spec := "quotDivides", apart := false }
def QuotDividesSaid : Prop := quotDividesRow.holds Try.pinned (OpenSpec.ofChange quotDividesSpec)

/-- ITS FALSE NEIGHBOUR: 'it returns false'. Refute it at one input. -/
def quotDividesWrong : ChangeSpec := { name := "quotDivides", fn := fun _ => fun
  | [d1, d2] => { results := [.lit (.bool false)], args := [d1, d2] }
  | _ => none }
def QuotDividesWrongFalsely : Prop := quotDividesRow.holds Try.pinned (OpenSpec.ofChange quotDividesWrong)

/-- 'retrospectlaw05.QuotWords': WHATEVER THE INPUT: true; the input reads as it did. -/
def quotWordsSpec : ChangeSpec := { name := "quotWords", fn := fun _ => fun
  | [d1, d2] => { results := [.lit (.bool true)], args := [d1, d2] }
  | _ => none }
def quotWordsRow : OpenClaim := { program := "ytelgenhmmfkmhaa", sum := "3e2230bb8dc64b9107325aaaa0534f6eb1f42c77ad790b8ac44c4d56c9fb6662", func := "retrospect/retrospectlaw05.QuotWords", spec := "quotWords", apart := false }
def QuotWordsSaid : Prop := quotWordsRow.holds Try.pinned (OpenSpec.ofChange quotWordsSpec)

/-- ITS FALSE NEIGHBOUR: 'it returns false'. Refute it at one input. -/
def quotWordsWrong : ChangeSpec := { name := "quotWords", fn := fun _ => fun
  | [d1, d2] => { results := [.lit (.bool false)], args := [d1, d2] }
  | _ => none }
def QuotWordsWrongFalsely : Prop := quotWordsRow.holds Try.pinned (OpenSpec.ofChange quotWordsWrong)

/-- 'retrospectlaw05.QuotBack': WHATEVER THE INPUT: true; the input reads as it did. -/
def quotBackSpec : ChangeSpec := { name := "quotBack", fn := fun _ => fun
  | [d1, d2, d3] => { results := [.lit (.bool true)], args := [d1, d2, d3] }
  | _ => none }
def quotBackRow : OpenClaim := { program := "ytelgenhmmfkmhaa", sum := "3e2230bb8dc64b9107325aaaa0534f6eb1f42c77ad790b8ac44c4d56c9fb6662", func := "retrospect/retrospectlaw05.QuotBack", spec := "quotBack", apart := false }
def QuotBackSaid : Prop := quotBackRow.holds Try.pinned (OpenSpec.ofChange quotBackSpec)

/-- ITS FALSE NEIGHBOUR: 'it returns false'. Refute it at one input. -/
def quotBackWrong : ChangeSpec := { name := "quotBack", fn := fun _ => fun
  | [d1, d2, d3] => { results := [.lit (.bool false)], args := [d1, d2, d3] }
  | _ => none }
def QuotBackWrongFalsely : Prop := quotBackRow.holds Try.pinned (OpenSpec.ofChange quotBackWrong)

/-- 'retrospectlaw06.CommonTells': WHATEVER THE INPUT: true; the input reads as it did. -/
def commonTellsSpec : ChangeSpec := { name := "commonTells", fn := fun _ => fun
  | [d1, d2] => { results := [.lit (.bool true)], args := [d1, d2] }
  | _ => none }
def commonTellsRow : OpenClaim := { program := "ytelgenhmmfkmhaa", sum := "3e2230bb8dc64b9107325aaaa0534f6eb1f42c77ad790b8ac44c4d56c9fb6662", func := "retrospect/retrospectlaw06.CommonTells", spec := "commonTells", apart := false }
def CommonTellsSaid : Prop := commonTellsRow.holds Try.pinned (OpenSpec.ofChange commonTellsSpec)

/-- ITS FALSE NEIGHBOUR: 'it returns false'. Refute it at one input. -/
def commonTellsWrong : ChangeSpec := { name := "commonTells", fn := fun _ => fun
  | [d1, d2] => { results := [.lit (.bool false)], args := [d1, d2] }
  | _ => none }
def CommonTellsWrongFalsely : Prop := commonTellsRow.holds Try.pinned (OpenSpec.ofChange commonTellsWrong)

/-- 'retrospectlaw06.CommonAll': WHATEVER THE INPUT: true; the input reads as it did. -/
def commonAllSpec : ChangeSpec := { name := "commonAll", fn := fun _ => fun
  | [d] => { results := [.lit (.bool true)], args := [d] }
  | _ => none }
def commonAllRow : OpenClaim := { program := "ytelgenhmmfkmhaa", sum := "3e2230bb8dc64b9107325aaaa0534f6eb1f42c77ad790b8ac44c4d56c9fb6662", func := "retrospect/retrospectlaw06.CommonAll", spec := "commonAll", apart := false }
def CommonAllSaid : Prop := commonAllRow.holds Try.pinned (OpenSpec.ofChange commonAllSpec)

/-- ITS FALSE NEIGHBOUR: 'it returns false'. Refute it at one input. -/
def commonAllWrong : ChangeSpec := { name := "commonAll", fn := fun _ => fun
  | [d] => { results := [.lit (.bool false)], args := [d] }
  | _ => none }
def CommonAllWrongFalsely : Prop := commonAllRow.holds Try.pinned (OpenSpec.ofChange commonAllWrong)

/-- 'retrospectlaw06.CommonBoth': WHATEVER THE INPUT: true; the input reads as it did. -/
def commonBothSpec : ChangeSpec := { name := "commonBoth", fn := fun _ => fun
  | [d1, d2] => { results := [.lit (.bool true)], args := [d1, d2] }
  | _ => none }
def commonBothRow : OpenClaim := { program := "ytelgenhmmfkmhaa", sum := "3e2230bb8dc64b9107325aaaa0534f6eb1f42c77ad790b8ac44c4d56c9fb6662", func := "retrospect/retrospectlaw06.CommonBoth", spec := "commonBoth", apart := false }
def CommonBothSaid : Prop := commonBothRow.holds Try.pinned (OpenSpec.ofChange commonBothSpec)

/-- ITS FALSE NEIGHBOUR: 'it returns false'. Refute it at one input. -/
def commonBothWrong : ChangeSpec := { name := "commonBoth", fn := fun _ => fun
  | [d1, d2] => { results := [.lit (.bool false)], args := [d1, d2] }
  | _ => none }
def CommonBothWrongFalsely : Prop := commonBothRow.holds Try.pinned (OpenSpec.ofChange commonBothWrong)

/-- 'retrospectlaw06.CommonDivides': WHATEVER THE INPUT: true; the input reads as it did. -/
def commonDividesSpec : ChangeSpec := { name := "commonDivides", fn := fun _ => fun
  | [d1, d2, d3] => { results := [.lit (.bool true)], args := [d1, d2, d3] }
  | _ => none }
def commonDividesRow : OpenClaim := { program := "ytelgenhmmfkmhaa", sum := "3e2230bb8dc64b9107325aaaa0534f6eb1f42c77ad790b8ac44c4d56c9fb6662", func := "retrospect/retrospectlaw06.CommonDivides", spec := "commonDivides", apart := false }
def CommonDividesSaid : Prop := commonDividesRow.holds Try.pinned (OpenSpec.ofChange commonDividesSpec)

/-- ITS FALSE NEIGHBOUR: 'it returns false'. Refute it at one input. -/
def commonDividesWrong : ChangeSpec := { name := "commonDivides", fn := fun _ => fun
  | [d1, d2, d3] => { results := [.lit (.bool false)], args := [d1, d2, d3] }
  | _ => none }
def CommonDividesWrongFalsely : Prop := commonDividesRow.holds Try.pinned (OpenSpec.ofChange commonDividesWrong)

/- THE SECOND FORM. 'bulk': how many values and letters a reading holds, each counted each time it is reached (what is shared counts as often as it is met; a slice's spare places count too). A statement '..UptoSaid' is the law's where the arguments, and the package variables that the reading takes, are together of bulk at most 1048576: NARROWER than '..Said'. Prove '..Said' where nothing that the law and all that it calls make is longer than what came in: it says more and counts as full. Else prove '..UptoSaid'. A law counts once. -/
mutual
def uptoBulk {H : Type} : DataW H → Nat
  | .lit (.string bytes) => bytes.length + 1
  | .lit _ => 1
  | .nil => 1
  | .ptr d => uptoBulk d + 1
  | .slice elems spare => uptoBulkAll elems + uptoBulkAll spare + 1
  | .agg parts => uptoBulkAll parts + 1
  | .iface _ d => uptoBulk d + 1
  | .map entries => uptoBulkEntries entries + 1
  | .held _ => 1
def uptoBulkAll {H : Type} : List (DataW H) → Nat
  | [] => 0
  | d :: r => uptoBulk d + uptoBulkAll r
def uptoBulkEntries {H : Type} : List (Lit × DataW H) → Nat
  | [] => 0
  | x :: r => uptoBulkEntry x + uptoBulkEntries r
def uptoBulkEntry {H : Type} : Lit × DataW H → Nat
  | (.string bytes, d) => bytes.length + uptoBulk d + 1
  | (_, d) => uptoBulk d + 1
 end
def uptoSmall : (H : Type) → List (DataW H) → Bool := fun _ ds => decide (uptoBulkAll ds ≤ 1048576)
def OpenSpec.upto (s : _root_.Go.ChangeSpec) : _root_.Go.OpenSpec := { _root_.Go.OpenSpec.ofChange s with cond := some uptoSmall }

/-- 'retrospectlaw01.LimbBits', WHERE WHAT IT READS IS OF BULK AT MOST 1048576: true; the input reads as it did. -/
def limbBitsUptoRow : OpenClaim := { program := "ytelgenhmmfkmhaa", sum := "3e2230bb8dc64b9107325aaaa0534f6eb1f42c77ad790b8ac44c4d56c9fb6662", func := "retrospect/retrospectlaw01.LimbBits", spec := "limbBits", apart := false, narrowed := true }
def LimbBitsUptoSaid : Prop := limbBitsUptoRow.holds Try.pinned (OpenSpec.upto limbBitsSpec)

/-- 'retrospectlaw01.LimbAdds', WHERE WHAT IT READS IS OF BULK AT MOST 1048576: true; the input reads as it did. -/
def limbAddsUptoRow : OpenClaim := { program := "ytelgenhmmfkmhaa", sum := "3e2230bb8dc64b9107325aaaa0534f6eb1f42c77ad790b8ac44c4d56c9fb6662", func := "retrospect/retrospectlaw01.LimbAdds", spec := "limbAdds", apart := false, narrowed := true }
def LimbAddsUptoSaid : Prop := limbAddsUptoRow.holds Try.pinned (OpenSpec.upto limbAddsSpec)

/-- 'retrospectlaw01.LimbTimes', WHERE WHAT IT READS IS OF BULK AT MOST 1048576: true; the input reads as it did. -/
def limbTimesUptoRow : OpenClaim := { program := "ytelgenhmmfkmhaa", sum := "3e2230bb8dc64b9107325aaaa0534f6eb1f42c77ad790b8ac44c4d56c9fb6662", func := "retrospect/retrospectlaw01.LimbTimes", spec := "limbTimes", apart := false, narrowed := true }
def LimbTimesUptoSaid : Prop := limbTimesUptoRow.holds Try.pinned (OpenSpec.upto limbTimesSpec)

/-- 'retrospectlaw01.LimbBack', WHERE WHAT IT READS IS OF BULK AT MOST 1048576: true; the input reads as it did. -/
def limbBackUptoRow : OpenClaim := { program := "ytelgenhmmfkmhaa", sum := "3e2230bb8dc64b9107325aaaa0534f6eb1f42c77ad790b8ac44c4d56c9fb6662", func := "retrospect/retrospectlaw01.LimbBack", spec := "limbBack", apart := false, narrowed := true }
def LimbBackUptoSaid : Prop := limbBackUptoRow.holds Try.pinned (OpenSpec.upto limbBackSpec)

/-- 'retrospectlaw17.TreeTells', WHERE WHAT IT READS IS OF BULK AT MOST 1048576: true; the input reads as it did. -/
def treeTellsUptoRow : OpenClaim := { program := "ytelgenhmmfkmhaa", sum := "3e2230bb8dc64b9107325aaaa0534f6eb1f42c77ad790b8ac44c4d56c9fb6662", func := "retrospect/retrospectlaw17.TreeTells", spec := "treeTells", recurses := true, apart := false, narrowed := true }
def TreeTellsUptoSaid : Prop := treeTellsUptoRow.holds Try.pinned (OpenSpec.upto treeTellsSpec)

/-- 'retrospectlaw02.NatAdds', WHERE WHAT IT READS IS OF BULK AT MOST 1048576: true; the input reads as it did. -/
def natAddsUptoRow : OpenClaim := { program := "ytelgenhmmfkmhaa", sum := "3e2230bb8dc64b9107325aaaa0534f6eb1f42c77ad790b8ac44c4d56c9fb6662", func := "retrospect/retrospectlaw02.NatAdds", spec := "natAdds", apart := false, narrowed := true }
def NatAddsUptoSaid : Prop := natAddsUptoRow.holds Try.pinned (OpenSpec.upto natAddsSpec)

/-- 'retrospectlaw02.NatBack', WHERE WHAT IT READS IS OF BULK AT MOST 1048576: true; the input reads as it did. -/
def natBackUptoRow : OpenClaim := { program := "ytelgenhmmfkmhaa", sum := "3e2230bb8dc64b9107325aaaa0534f6eb1f42c77ad790b8ac44c4d56c9fb6662", func := "retrospect/retrospectlaw02.NatBack", spec := "natBack", apart := false, narrowed := true }
def NatBackUptoSaid : Prop := natBackUptoRow.holds Try.pinned (OpenSpec.upto natBackSpec)

/-- 'retrospectlaw03.TwosTells', WHERE WHAT IT READS IS OF BULK AT MOST 1048576: true; the input reads as it did. -/
def twosTellsUptoRow : OpenClaim := { program := "ytelgenhmmfkmhaa", sum := "3e2230bb8dc64b9107325aaaa0534f6eb1f42c77ad790b8ac44c4d56c9fb6662", func := "retrospect/retrospectlaw03.TwosTells", spec := "twosTells", apart := false, narrowed := true }
def TwosTellsUptoSaid : Prop := twosTellsUptoRow.holds Try.pinned (OpenSpec.upto twosTellsSpec)

/-- 'retrospectlaw02.NatTakes', WHERE WHAT IT READS IS OF BULK AT MOST 1048576: true; the input reads as it did. -/
def natTakesUptoRow : OpenClaim := { program := "ytelgenhmmfkmhaa", sum := "3e2230bb8dc64b9107325aaaa0534f6eb1f42c77ad790b8ac44c4d56c9fb6662", func := "retrospect/retrospectlaw02.NatTakes", spec := "natTakes", apart := false, narrowed := true }
def NatTakesUptoSaid : Prop := natTakesUptoRow.holds Try.pinned (OpenSpec.upto natTakesSpec)

/-- 'retrospectlaw02.NatTells', WHERE WHAT IT READS IS OF BULK AT MOST 1048576: true; the input reads as it did. -/
def natTellsUptoRow : OpenClaim := { program := "ytelgenhmmfkmhaa", sum := "3e2230bb8dc64b9107325aaaa0534f6eb1f42c77ad790b8ac44c4d56c9fb6662", func := "retrospect/retrospectlaw02.NatTells", spec := "natTells", apart := false, narrowed := true }
def NatTellsUptoSaid : Prop := natTellsUptoRow.holds Try.pinned (OpenSpec.upto natTellsSpec)

/-- 'retrospectlaw17.TreeWhole', WHERE WHAT IT READS IS OF BULK AT MOST 1048576: true; the input reads as it did. -/
def treeWholeUptoRow : OpenClaim := { program := "ytelgenhmmfkmhaa", sum := "3e2230bb8dc64b9107325aaaa0534f6eb1f42c77ad790b8ac44c4d56c9fb6662", func := "retrospect/retrospectlaw17.TreeWhole", spec := "treeWhole", apart := false, narrowed := true }
def TreeWholeUptoSaid : Prop := treeWholeUptoRow.holds Try.pinned (OpenSpec.upto treeWholeSpec)

/-- 'retrospectlaw17.TreeBuilt', WHERE WHAT IT READS IS OF BULK AT MOST 1048576: true; the input reads as it did. -/
def treeBuiltUptoRow : OpenClaim := { program := "ytelgenhmmfkmhaa", sum := "3e2230bb8dc64b9107325aaaa0534f6eb1f42c77ad790b8ac44c4d56c9fb6662", func := "retrospect/retrospectlaw17.TreeBuilt", spec := "treeBuilt", apart := false, narrowed := true }
def TreeBuiltUptoSaid : Prop := treeBuiltUptoRow.holds Try.pinned (OpenSpec.upto treeBuiltSpec)

/-- 'retrospecttop.TopNames', WHERE WHAT IT READS IS OF BULK AT MOST 1048576: true; the input reads as it did. -/
def topNamesUptoRow : OpenClaim := { program := "ytelgenhmmfkmhaa", sum := "3e2230bb8dc64b9107325aaaa0534f6eb1f42c77ad790b8ac44c4d56c9fb6662", func := "retrospect/retrospecttop.TopNames", spec := "topNames", apart := false, narrowed := true }
def TopNamesUptoSaid : Prop := topNamesUptoRow.holds Try.pinned (OpenSpec.upto topNamesSpec)

/-- 'retrospectlaw03.TwosShifts', WHERE WHAT IT READS IS OF BULK AT MOST 1048576: true; the input reads as it did. -/
def twosShiftsUptoRow : OpenClaim := { program := "ytelgenhmmfkmhaa", sum := "3e2230bb8dc64b9107325aaaa0534f6eb1f42c77ad790b8ac44c4d56c9fb6662", func := "retrospect/retrospectlaw03.TwosShifts", spec := "twosShifts", apart := false, narrowed := true }
def TwosShiftsUptoSaid : Prop := twosShiftsUptoRow.holds Try.pinned (OpenSpec.upto twosShiftsSpec)

/-- 'retrospectlaw04.ProdPowers', WHERE WHAT IT READS IS OF BULK AT MOST 1048576: true; the input reads as it did. -/
def prodPowersUptoRow : OpenClaim := { program := "ytelgenhmmfkmhaa", sum := "3e2230bb8dc64b9107325aaaa0534f6eb1f42c77ad790b8ac44c4d56c9fb6662", func := "retrospect/retrospectlaw04.ProdPowers", spec := "prodPowers", apart := false, narrowed := true }
def ProdPowersUptoSaid : Prop := prodPowersUptoRow.holds Try.pinned (OpenSpec.upto prodPowersSpec)

/-- 'retrospectlaw04.ProdShares', WHERE WHAT IT READS IS OF BULK AT MOST 1048576: true; the input reads as it did. -/
def prodSharesUptoRow : OpenClaim := { program := "ytelgenhmmfkmhaa", sum := "3e2230bb8dc64b9107325aaaa0534f6eb1f42c77ad790b8ac44c4d56c9fb6662", func := "retrospect/retrospectlaw04.ProdShares", spec := "prodShares", apart := false, narrowed := true }
def ProdSharesUptoSaid : Prop := prodSharesUptoRow.holds Try.pinned (OpenSpec.upto prodSharesSpec)

/-- 'retrospectlaw04.ProdExponents', WHERE WHAT IT READS IS OF BULK AT MOST 1048576: true; the input reads as it did. -/
def prodExponentsUptoRow : OpenClaim := { program := "ytelgenhmmfkmhaa", sum := "3e2230bb8dc64b9107325aaaa0534f6eb1f42c77ad790b8ac44c4d56c9fb6662", func := "retrospect/retrospectlaw04.ProdExponents", spec := "prodExponents", apart := false, narrowed := true }
def ProdExponentsUptoSaid : Prop := prodExponentsUptoRow.holds Try.pinned (OpenSpec.upto prodExponentsSpec)

/-- 'retrospectlaw04.ProdTimes', WHERE WHAT IT READS IS OF BULK AT MOST 1048576: true; the input reads as it did. -/
def prodTimesUptoRow : OpenClaim := { program := "ytelgenhmmfkmhaa", sum := "3e2230bb8dc64b9107325aaaa0534f6eb1f42c77ad790b8ac44c4d56c9fb6662", func := "retrospect/retrospectlaw04.ProdTimes", spec := "prodTimes", apart := false, narrowed := true }
def ProdTimesUptoSaid : Prop := prodTimesUptoRow.holds Try.pinned (OpenSpec.upto prodTimesSpec)

/-- 'retrospectlaw04.ProdAll', WHERE WHAT IT READS IS OF BULK AT MOST 1048576: true; the input reads as it did. -/
def prodAllUptoRow : OpenClaim := { program := "ytelgenhmmfkmhaa", sum := "3e2230bb8dc64b9107325aaaa0534f6eb1f42c77ad790b8ac44c4d56c9fb6662", func := "retrospect/retrospectlaw04.ProdAll", spec := "prodAll", apart := false, narrowed := true }
def ProdAllUptoSaid : Prop := prodAllUptoRow.holds Try.pinned (OpenSpec.upto prodAllSpec)

/-- 'retrospectlaw17.TreeFields', WHERE WHAT IT READS IS OF BULK AT MOST 1048576: true; the input reads as it did. -/
def treeFieldsUptoRow : OpenClaim := { program := "ytelgenhmmfkmhaa", sum := "3e2230bb8dc64b9107325aaaa0534f6eb1f42c77ad790b8ac44c4d56c9fb6662", func := "retrospect/retrospectlaw17.TreeFields", spec := "treeFields", apart := false, narrowed := true }
def TreeFieldsUptoSaid : Prop := treeFieldsUptoRow.holds Try.pinned (OpenSpec.upto treeFieldsSpec)

/-- 'retrospectlaw03.TwosBack', WHERE WHAT IT READS IS OF BULK AT MOST 1048576: true; the input reads as it did. -/
def twosBackUptoRow : OpenClaim := { program := "ytelgenhmmfkmhaa", sum := "3e2230bb8dc64b9107325aaaa0534f6eb1f42c77ad790b8ac44c4d56c9fb6662", func := "retrospect/retrospectlaw03.TwosBack", spec := "twosBack", apart := false, narrowed := true }
def TwosBackUptoSaid : Prop := twosBackUptoRow.holds Try.pinned (OpenSpec.upto twosBackSpec)

/-- 'retrospectlaw05.QuotDivides', WHERE WHAT IT READS IS OF BULK AT MOST 1048576: true; the input reads as it did. -/
def quotDividesUptoRow : OpenClaim := { program := "ytelgenhmmfkmhaa", sum := "3e2230bb8dc64b9107325aaaa0534f6eb1f42c77ad790b8ac44c4d56c9fb6662", func := "retrospect/retrospectlaw05.QuotDivides", spec := "quotDivides", apart := false, narrowed := true }
def QuotDividesUptoSaid : Prop := quotDividesUptoRow.holds Try.pinned (OpenSpec.upto quotDividesSpec)

/-- 'retrospectlaw05.QuotWords', WHERE WHAT IT READS IS OF BULK AT MOST 1048576: true; the input reads as it did. -/
def quotWordsUptoRow : OpenClaim := { program := "ytelgenhmmfkmhaa", sum := "3e2230bb8dc64b9107325aaaa0534f6eb1f42c77ad790b8ac44c4d56c9fb6662", func := "retrospect/retrospectlaw05.QuotWords", spec := "quotWords", apart := false, narrowed := true }
def QuotWordsUptoSaid : Prop := quotWordsUptoRow.holds Try.pinned (OpenSpec.upto quotWordsSpec)

/-- 'retrospectlaw05.QuotBack', WHERE WHAT IT READS IS OF BULK AT MOST 1048576: true; the input reads as it did. -/
def quotBackUptoRow : OpenClaim := { program := "ytelgenhmmfkmhaa", sum := "3e2230bb8dc64b9107325aaaa0534f6eb1f42c77ad790b8ac44c4d56c9fb6662", func := "retrospect/retrospectlaw05.QuotBack", spec := "quotBack", apart := false, narrowed := true }
def QuotBackUptoSaid : Prop := quotBackUptoRow.holds Try.pinned (OpenSpec.upto quotBackSpec)

/-- 'retrospectlaw06.CommonTells', WHERE WHAT IT READS IS OF BULK AT MOST 1048576: true; the input reads as it did. -/
def commonTellsUptoRow : OpenClaim := { program := "ytelgenhmmfkmhaa", sum := "3e2230bb8dc64b9107325aaaa0534f6eb1f42c77ad790b8ac44c4d56c9fb6662", func := "retrospect/retrospectlaw06.CommonTells", spec := "commonTells", apart := false, narrowed := true }
def CommonTellsUptoSaid : Prop := commonTellsUptoRow.holds Try.pinned (OpenSpec.upto commonTellsSpec)

/-- 'retrospectlaw06.CommonAll', WHERE WHAT IT READS IS OF BULK AT MOST 1048576: true; the input reads as it did. -/
def commonAllUptoRow : OpenClaim := { program := "ytelgenhmmfkmhaa", sum := "3e2230bb8dc64b9107325aaaa0534f6eb1f42c77ad790b8ac44c4d56c9fb6662", func := "retrospect/retrospectlaw06.CommonAll", spec := "commonAll", apart := false, narrowed := true }
def CommonAllUptoSaid : Prop := commonAllUptoRow.holds Try.pinned (OpenSpec.upto commonAllSpec)

/-- 'retrospectlaw06.CommonBoth', WHERE WHAT IT READS IS OF BULK AT MOST 1048576: true; the input reads as it did. -/
def commonBothUptoRow : OpenClaim := { program := "ytelgenhmmfkmhaa", sum := "3e2230bb8dc64b9107325aaaa0534f6eb1f42c77ad790b8ac44c4d56c9fb6662", func := "retrospect/retrospectlaw06.CommonBoth", spec := "commonBoth", apart := false, narrowed := true }
def CommonBothUptoSaid : Prop := commonBothUptoRow.holds Try.pinned (OpenSpec.upto commonBothSpec)

/-- 'retrospectlaw06.CommonDivides', WHERE WHAT IT READS IS OF BULK AT MOST 1048576: true; the input reads as it did. -/
def commonDividesUptoRow : OpenClaim := { program := "ytelgenhmmfkmhaa", sum := "3e2230bb8dc64b9107325aaaa0534f6eb1f42c77ad790b8ac44c4d56c9fb6662", func := "retrospect/retrospectlaw06.CommonDivides", spec := "commonDivides", apart := false, narrowed := true }
def CommonDividesUptoSaid : Prop := commonDividesUptoRow.holds Try.pinned (OpenSpec.upto commonDividesSpec)

end Rows
end Go.Proofs.Ytelgenhmmfkmhaa
