/-
  The load of a whole block.
-/
import Derived.Test.YtmmcffceeahemaaGreatZsPace1
set_option linter.unusedVariables false
set_option linter.unusedSimpArgs false
namespace Go.Proofs.YtmmcffceeahemaaGreat
open Go.RowKit
set_option maxRecDepth 100000 in
theorem wl_load_box {w : World} {ops : Array Oper} {rest : List Oper} {o : Oper} {a : Act} {Q : Exit → Act → World → Prop} {T S : TypeId} {g n : Nat} {cs : List Value} (hg : o.guard = none) (x : Operand) (ho : o.op = Op.load T x) (hx : a.eval x = .pointer (some ⟨g, 0, none⟩))
 (hT : ∀ w : World, (isAgg T).run Tryz.prog w = .ok true w) (hS : ∀ w : World, (sizeOf T).run Tryz.prog w = .ok n w) (hb : Bx S w g cs) (hn : cs.length = n)
 (h : wpList Tryz.prog ops Q rest (a.put o.dst (.agg cs.toArray)) w) : wpList Tryz.prog ops Q (o :: rest) a w := by
 have hl := run_load_agg hT hS hb hn
 refine wpList_plain hg fun K hK => ?_
 unfold Oper.wp execOp
 simp only [ho, hx, asAddr, Instr.loadAt, Instr.sureAddr, Oper.upon, Sem.run_bind, Sem.run_pure, Result.andThen_ok, hl]
 exact hK _ _ h
theorem exec_load_box {w : World} {o : Oper} {a : Act} {x : Operand} {T S : TypeId} {g n : Nat} {cs : List Value} (ho : o.op = Op.load T x) (hx : a.eval x = .pointer (some ⟨g, 0, none⟩))
 (hT : ∀ w : World, (isAgg T).run Tryz.prog w = .ok true w) (hS : ∀ w : World, (sizeOf T).run Tryz.prog w = .ok n w) (hb : Bx S w g cs) (hn : cs.length = n) :
 (execOp a.eval o).run Tryz.prog w = .ok (.value (.agg cs.toArray)) w := by
 have hl := run_load_agg hT hS hb hn
 unfold execOp
 simp only [ho, hx, asAddr, Instr.loadAt, Instr.sureAddr, Oper.upon, Sem.run_bind, Sem.run_pure, Result.andThen_ok, hl]
end Go.Proofs.YtmmcffceeahemaaGreat
