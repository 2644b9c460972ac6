/- How 'build' lays out each struct of the type table; printed by gen_bt2.py. -/
import Derived.Test.YtdkcljdfbemnbaaGreatDoorJG
namespace Go.Proofs.YtdkcljdfbemnbaaGreatDoor
set_option maxRecDepth 100000

/-- offset and size of each field -/
def qJ (oW:List Nat) (size:Nat):List (Nat×Nat):=(List.range oW.length).map fun k=>(oW.getD k 0,(oW++[size]).getD (k+1) 0 - oW.getD k 0)
def Gs (i:TI) (parts:Array (Nat×Value)):Sem Value:=do
 let some cells:=Instr.fill ((qJ i.oW i.size).toArray[·]?) i.zero.cells parts.toList|stuck "build: no such field, or a part of the wrong size"
 pure (.agg cells)
theorem Gt {i:TI} {parts:Array (Nat×Value)} {c:Array Value} (h:Instr.fill ((qJ i.oW i.size).toArray[·]?) i.zero.cells parts.toList=some c) (P:Program) (w:World):(Gs i parts).run P w=.ok (.agg c) w:=by
 unfold Gs;rw[h];rfl

def IL (P:Program) (t:Nat) (i:TI):Prop:=i.agg=true→i.oW≠[]→∀parts w,(Instr.build t parts).run P w=(Gs i parts).run P w
def nD (P:Program):List (Option TI)→Nat→Prop
 |[],_=>True
 |none::r,k=>nD P r (k+1)
 |some i::r,k=>IL P k i∧nD P r (k+1)
theorem nD.get {P:Program}:∀(l:List (Option TI)) (k:Nat),nD P l k→∀t i,(l[t]?).bind id=some i→IL P (k+t) i
 |[],_,_,t,i,h=>by simp at h
 |none::r,k,ha,t,i,h=>by
  cases t with
  |zero=>simp at h
  |succ t=>
   have:=nD.get r (k+1) ha t i O4
   rwa[show k+(t+1)=k+1+t by omega]
 |some j::r,k,ha,t,i,h=>by
  cases t with
  |zero=>simp at h;subst h;exact ha.1
  |succ t=>
   have:=nD.get r (k+1) ha.2 t i O4
   rwa[show k+(t+1)=k+1+t by omega]
theorem nD.skip {P:Program} {r:List (Option TI)} {k:Nat} (h:nD P r (k+1)):nD P (none::r) k:=h
theorem Im:nD Tryz.prog Jm 0:=by
 repeat(first|exact trivial|refine⟨fun a b=>(by first|(exact absurd rfl b)|(cases a;done)|(intro parts w;kernel_rfl)),?_⟩|refine nD.skip ?_)
theorem HP (t:Nat) (i:TI) (h:G.ty t=some i) (ha:i.agg=true) (ho:i.oW≠[]) (parts:Array (Nat×Value)) (w:World):(Instr.build t parts).run G.P w=(Gs i parts).run G.P w:=by
 have:=nD.get Jm 0 Im t i h
 rw[Nat.zero_add]at this
 exact this ha ho parts w
end Go.Proofs.YtdkcljdfbemnbaaGreatDoor
