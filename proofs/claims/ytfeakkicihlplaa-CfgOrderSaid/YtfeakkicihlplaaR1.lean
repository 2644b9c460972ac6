/- Walk of the reference of layer 9: which opcodes open a block. -/
import Derived.Test.YtfeakkicihlplaaG
namespace Go.Proofs.Ytfeakkicihlplaa
open Go.RowKit

def opensB (op : Int) : Bool := op == 2 || op == 3 || op == 4

theorem ref09_begins (op : Int) (w : World) : Calls G.P 51 #[.int .i64 op] w fun e w' => e = .returned (.bool (opensB op)) ∧ w = w' := by
  by_cases h1 : op = 2
  · refine enter (G := G) Try.func51 rfl Try.ntmps51 rfl ?_
    refine wgo ?_
    refine Fin.ret1 rfl rfl ⟨?_, rfl⟩
    simp [opensB, h1]
  · by_cases h2 : op = 3
    · refine enter (G := G) Try.func51 rfl Try.ntmps51 rfl ?_
      refine wgo ?_
      refine Fin.ret1 rfl rfl ⟨?_, rfl⟩
      simp [opensB, h2]
    · by_cases h3 : op = 4
      all_goals
        refine enter (G := G) Try.func51 rfl Try.ntmps51 rfl ?_
        refine wgo ?_
        refine Fin.ret1 rfl rfl ⟨?_, rfl⟩
        simp [opensB, h1, h2, h3]
end Go.Proofs.Ytfeakkicihlplaa
