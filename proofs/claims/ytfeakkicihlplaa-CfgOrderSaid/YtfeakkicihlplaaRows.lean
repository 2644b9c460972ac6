/-
  No cell of these rows narrows 'for every input' (looked for: loops, veiled, ifaces, maps, wideKeys, modest, calm, conditions, laid).
  DERIVED. THE GIVEN ROWS OF THIS SEAT. 5 by the template 'for every input the law returns true; each argument reads behind the call as it read before'; 0 by the template 'total and deterministic' (their statements: YtfeakkicihlplaaTotals.lean).
  GIVEN WITH THE SEED: the statements are not yours to turn. If you find one false, say at which input.
  Laid BY PROGRAM, IN A SANDBOX (cutbox-rows.mjs): the forced cells as the released guide's own fill.sh prints them over the translation 7551d3e83ad79bfd… (all of the seat's roots in one cut). By AI agents, Wed Nov 11 2026. No macro, syntax, notation, axiom, sorry.
-/
import Derived.Test.YtfeakkicihlplaaChecked
import GoSem.Claim
import GoSem.ClaimJoined
import GoSem.ClaimMapViews
import Derived.JoinedTies
import Derived.KernelRfl
namespace Go.Proofs.Ytfeakkicihlplaa
/- THE CELL 'sum', in the pinned program and in every row, IS THE sha256 OF THE DUMP (.gsa) THAT YtfeakkicihlplaaProg.lean LOADS. Nothing in Lean hashes anything: it is a label: what it is worth is what the hold of that sum in a sandbox is worth. -/
noncomputable def Try.pinned : Pinned := { name := "ytfeakkicihlplaa", sum := "7551d3e83ad79bfdb0ed5296945e1dba0b43de3d9cad3d1e700bf9c619345a96", checked := Try.checked }
namespace Rows
def none {H : Type} : Left H := { results := [], args := [] }

/-- 'millwrightlaw36.CfgBlocks': WHATEVER THE INPUT: true; the input reads as it did. -/
def cfgBlocksSpec : ChangeSpec := { name := "cfgBlocks", fn := fun _ => fun
  | [d] => { results := [.lit (.bool true)], args := [d] }
  | _ => none }
def cfgBlocksRow : OpenClaim := { program := "ytfeakkicihlplaa", sum := "7551d3e83ad79bfdb0ed5296945e1dba0b43de3d9cad3d1e700bf9c619345a96", func := "millwright/millwrightlaw36.CfgBlocks", spec := "cfgBlocks", unfollowed := true, recurses := true, apart := false }
def CfgBlocksSaid : Prop := cfgBlocksRow.holds Try.pinned (OpenSpec.ofChange cfgBlocksSpec)

/-- ITS FALSE NEIGHBOUR: 'it returns false'. Refute it at one input. -/
def cfgBlocksWrong : ChangeSpec := { name := "cfgBlocks", fn := fun _ => fun
  | [d] => { results := [.lit (.bool false)], args := [d] }
  | _ => none }
def CfgBlocksWrongFalsely : Prop := cfgBlocksRow.holds Try.pinned (OpenSpec.ofChange cfgBlocksWrong)

/-- 'millwrightlaw36.CfgParts': WHATEVER THE INPUT: true; the input reads as it did. -/
def cfgPartsSpec : ChangeSpec := { name := "cfgParts", fn := fun _ => fun
  | [d] => { results := [.lit (.bool true)], args := [d] }
  | _ => none }
def cfgPartsRow : OpenClaim := { program := "ytfeakkicihlplaa", sum := "7551d3e83ad79bfdb0ed5296945e1dba0b43de3d9cad3d1e700bf9c619345a96", func := "millwright/millwrightlaw36.CfgParts", spec := "cfgParts", unfollowed := true, recurses := true, apart := false }
def CfgPartsSaid : Prop := cfgPartsRow.holds Try.pinned (OpenSpec.ofChange cfgPartsSpec)

/-- ITS FALSE NEIGHBOUR: 'it returns false'. Refute it at one input. -/
def cfgPartsWrong : ChangeSpec := { name := "cfgParts", fn := fun _ => fun
  | [d] => { results := [.lit (.bool false)], args := [d] }
  | _ => none }
def CfgPartsWrongFalsely : Prop := cfgPartsRow.holds Try.pinned (OpenSpec.ofChange cfgPartsWrong)

/-- 'millwrightlaw36.CfgLive': WHATEVER THE INPUT: true; the input reads as it did. -/
def cfgLiveSpec : ChangeSpec := { name := "cfgLive", fn := fun _ => fun
  | [d] => { results := [.lit (.bool true)], args := [d] }
  | _ => none }
def cfgLiveRow : OpenClaim := { program := "ytfeakkicihlplaa", sum := "7551d3e83ad79bfdb0ed5296945e1dba0b43de3d9cad3d1e700bf9c619345a96", func := "millwright/millwrightlaw36.CfgLive", spec := "cfgLive", unfollowed := true, recurses := true, apart := false }
def CfgLiveSaid : Prop := cfgLiveRow.holds Try.pinned (OpenSpec.ofChange cfgLiveSpec)

/-- ITS FALSE NEIGHBOUR: 'it returns false'. Refute it at one input. -/
def cfgLiveWrong : ChangeSpec := { name := "cfgLive", fn := fun _ => fun
  | [d] => { results := [.lit (.bool false)], args := [d] }
  | _ => none }
def CfgLiveWrongFalsely : Prop := cfgLiveRow.holds Try.pinned (OpenSpec.ofChange cfgLiveWrong)

/-- 'millwrightlaw36.CfgGraphs': WHATEVER THE INPUT: true; the input reads as it did. -/
def cfgGraphsSpec : ChangeSpec := { name := "cfgGraphs", fn := fun _ => fun
  | [d1, d2] => { results := [.lit (.bool true)], args := [d1, d2] }
  | _ => none }
def cfgGraphsRow : OpenClaim := { program := "ytfeakkicihlplaa", sum := "7551d3e83ad79bfdb0ed5296945e1dba0b43de3d9cad3d1e700bf9c619345a96", func := "millwright/millwrightlaw36.CfgGraphs", spec := "cfgGraphs", unfollowed := true, recurses := true, apart := false }
def CfgGraphsSaid : Prop := cfgGraphsRow.holds Try.pinned (OpenSpec.ofChange cfgGraphsSpec)

/-- ITS FALSE NEIGHBOUR: 'it returns false'. Refute it at one input. -/
def cfgGraphsWrong : ChangeSpec := { name := "cfgGraphs", fn := fun _ => fun
  | [d1, d2] => { results := [.lit (.bool false)], args := [d1, d2] }
  | _ => none }
def CfgGraphsWrongFalsely : Prop := cfgGraphsRow.holds Try.pinned (OpenSpec.ofChange cfgGraphsWrong)

/-- 'millwrightlaw36.CfgOrder': WHATEVER THE INPUT: true; the input reads as it did. -/
def cfgOrderSpec : ChangeSpec := { name := "cfgOrder", fn := fun _ => fun
  | [d] => { results := [.lit (.bool true)], args := [d] }
  | _ => none }
def cfgOrderRow : OpenClaim := { program := "ytfeakkicihlplaa", sum := "7551d3e83ad79bfdb0ed5296945e1dba0b43de3d9cad3d1e700bf9c619345a96", func := "millwright/millwrightlaw36.CfgOrder", spec := "cfgOrder", unfollowed := true, recurses := true, apart := false }
def CfgOrderSaid : Prop := cfgOrderRow.holds Try.pinned (OpenSpec.ofChange cfgOrderSpec)

/-- ITS FALSE NEIGHBOUR: 'it returns false'. Refute it at one input. -/
def cfgOrderWrong : ChangeSpec := { name := "cfgOrder", fn := fun _ => fun
  | [d] => { results := [.lit (.bool false)], args := [d] }
  | _ => none }
def CfgOrderWrongFalsely : Prop := cfgOrderRow.holds Try.pinned (OpenSpec.ofChange cfgOrderWrong)

/- THE SECOND FORM. 'bulk': how many values and letters a reading holds, each counted each time it is reached (what is shared counts as often as it is met; a slice's spare places count too). A statement '..UptoSaid' is the law's where the arguments, and the package variables that the reading takes, are together of bulk at most 1048576: NARROWER than '..Said'. Prove '..Said' where nothing that the law and all that it calls make is longer than what came in: it says more and counts as full. Else prove '..UptoSaid'. A law counts once. -/
mutual
def uptoBulk {H : Type} : DataW H → Nat
  | .lit (.string bytes) => bytes.length + 1
  | .lit _ => 1
  | .nil => 1
  | .ptr d => uptoBulk d + 1
  | .slice elems spare => uptoBulkAll elems + uptoBulkAll spare + 1
  | .agg parts => uptoBulkAll parts + 1
  | .iface _ d => uptoBulk d + 1
  | .map entries => uptoBulkEntries entries + 1
  | .held _ => 1
def uptoBulkAll {H : Type} : List (DataW H) → Nat
  | [] => 0
  | d :: r => uptoBulk d + uptoBulkAll r
def uptoBulkEntries {H : Type} : List (Lit × DataW H) → Nat
  | [] => 0
  | x :: r => uptoBulkEntry x + uptoBulkEntries r
def uptoBulkEntry {H : Type} : Lit × DataW H → Nat
  | (.string bytes, d) => bytes.length + uptoBulk d + 1
  | (_, d) => uptoBulk d + 1
 end
def uptoSmall : (H : Type) → List (DataW H) → Bool := fun _ ds => decide (uptoBulkAll ds ≤ 1048576)
def OpenSpec.upto (s : _root_.Go.ChangeSpec) : _root_.Go.OpenSpec := { _root_.Go.OpenSpec.ofChange s with cond := some uptoSmall }

/-- 'millwrightlaw36.CfgBlocks', WHERE WHAT IT READS IS OF BULK AT MOST 1048576: true; the input reads as it did. -/
def cfgBlocksUptoRow : OpenClaim := { program := "ytfeakkicihlplaa", sum := "7551d3e83ad79bfdb0ed5296945e1dba0b43de3d9cad3d1e700bf9c619345a96", func := "millwright/millwrightlaw36.CfgBlocks", spec := "cfgBlocks", unfollowed := true, recurses := true, apart := false, narrowed := true }
def CfgBlocksUptoSaid : Prop := cfgBlocksUptoRow.holds Try.pinned (OpenSpec.upto cfgBlocksSpec)

/-- 'millwrightlaw36.CfgParts', WHERE WHAT IT READS IS OF BULK AT MOST 1048576: true; the input reads as it did. -/
def cfgPartsUptoRow : OpenClaim := { program := "ytfeakkicihlplaa", sum := "7551d3e83ad79bfdb0ed5296945e1dba0b43de3d9cad3d1e700bf9c619345a96", func := "millwright/millwrightlaw36.CfgParts", spec := "cfgParts", unfollowed := true, recurses := true, apart := false, narrowed := true }
def CfgPartsUptoSaid : Prop := cfgPartsUptoRow.holds Try.pinned (OpenSpec.upto cfgPartsSpec)

/-- 'millwrightlaw36.CfgLive', WHERE WHAT IT READS IS OF BULK AT MOST 1048576: true; the input reads as it did. -/
def cfgLiveUptoRow : OpenClaim := { program := "ytfeakkicihlplaa", sum := "7551d3e83ad79bfdb0ed5296945e1dba0b43de3d9cad3d1e700bf9c619345a96", func := "millwright/millwrightlaw36.CfgLive", spec := "cfgLive", unfollowed := true, recurses := true, apart := false, narrowed := true }
def CfgLiveUptoSaid : Prop := cfgLiveUptoRow.holds Try.pinned (OpenSpec.upto cfgLiveSpec)

/-- 'millwrightlaw36.CfgGraphs', WHERE WHAT IT READS IS OF BULK AT MOST 1048576: true; the input reads as it did. -/
def cfgGraphsUptoRow : OpenClaim := { program := "ytfeakkicihlplaa", sum := "7551d3e83ad79bfdb0ed5296945e1dba0b43de3d9cad3d1e700bf9c619345a96", func := "millwright/millwrightlaw36.CfgGraphs", spec := "cfgGraphs", unfollowed := true, recurses := true, apart := false, narrowed := true }
def CfgGraphsUptoSaid : Prop := cfgGraphsUptoRow.holds Try.pinned (OpenSpec.upto cfgGraphsSpec)

/-- 'millwrightlaw36.CfgOrder', WHERE WHAT IT READS IS OF BULK AT MOST 1048576: true; the input reads as it did. -/
def cfgOrderUptoRow : OpenClaim := { program := "ytfeakkicihlplaa", sum := "7551d3e83ad79bfdb0ed5296945e1dba0b43de3d9cad3d1e700bf9c619345a96", func := "millwright/millwrightlaw36.CfgOrder", spec := "cfgOrder", unfollowed := true, recurses := true, apart := false, narrowed := true }
def CfgOrderUptoSaid : Prop := cfgOrderUptoRow.holds Try.pinned (OpenSpec.upto cfgOrderSpec)

end Rows
end Go.Proofs.Ytfeakkicihlplaa
