/- How 'build' lays out each struct of the type table; printed by gen_bt2.py. -/
import Derived.Test.YtgbgnipidakdhaaGreatDoorJG
namespace Go.Proofs.YtgbgnipidakdhaaGreatDoor
set_option maxRecDepth 100000

/-- offset and size of each field -/
def oN (nA:List Nat) (size:Nat):List (Nat×Nat):=(List.range nA.length).map fun k=>(nA.getD k 0,(nA++[size]).getD (k+1) 0 - nA.getD k 0)
def Ht (i:TI) (parts:Array (Nat×Value)):Sem Value:=do
 let some cells:=Instr.fill ((oN i.nA i.size).toArray[·]?) i.zero.cells parts.toList|stuck "build: no such field, or a part of the wrong size"
 pure (.agg cells)
theorem Hu {i:TI} {parts:Array (Nat×Value)} {c:Array Value} (h:Instr.fill ((oN i.nA i.size).toArray[·]?) i.zero.cells parts.toList=some c) (P:Program) (w:World):(Ht i parts).run P w=.ok (.agg c) w:=by
 unfold Ht;rw[h];rfl

def HT (P:Program) (t:Nat) (i:TI):Prop:=i.agg=true→i.nA≠[]→∀parts w,(Instr.build t parts).run P w=(Ht i parts).run P w
def rD (P:Program):List (Option TI)→Nat→Prop
 |[],_=>True
 |none::r,k=>rD P r (k+1)
 |some i::r,k=>HT P k i∧rD P r (k+1)
theorem rD.get {P:Program}:∀(l:List (Option TI)) (k:Nat),rD P l k→∀t i,(l[t]?).bind id=some i→HT P (k+t) i
 |[],_,_,t,i,h=>by simp at h
 |none::r,k,ha,t,i,h=>by
  cases t with
  |zero=>simp at h
  |succ t=>
   have:=rD.get r (k+1) ha t i LY
   rwa[show k+(t+1)=k+1+t by omega]
 |some j::r,k,ha,t,i,h=>by
  cases t with
  |zero=>simp at h;subst h;exact ha.1
  |succ t=>
   have:=rD.get r (k+1) ha.2 t i LY
   rwa[show k+(t+1)=k+1+t by omega]
theorem rD.skip {P:Program} {r:List (Option TI)} {k:Nat} (h:rD P r (k+1)):rD P (none::r) k:=h
theorem HM:rD Tryz.prog H4 0:=by
 repeat(first|exact trivial|refine⟨fun a b=>(by first|(exact absurd rfl b)|(cases a;done)|(intro parts w;kernel_rfl)),?_⟩|refine rD.skip ?_)
theorem HD (t:Nat) (i:TI) (h:G.ty t=some i) (ha:i.agg=true) (ho:i.nA≠[]) (parts:Array (Nat×Value)) (w:World):(Instr.build t parts).run G.P w=(Ht i parts).run G.P w:=by
 have:=rD.get H4 0 HM t i h
 rw[Nat.zero_add]at this
 exact this ha ho parts w
end Go.Proofs.YtgbgnipidakdhaaGreatDoor
