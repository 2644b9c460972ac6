/- How 'build' lays out each struct of the type table; printed by gen_bt2.py. -/
import Derived.Test.YtceedealggognaaGreatDoorJG
namespace Go.Proofs.YtceedealggognaaGreatDoor
set_option maxRecDepth 100000

/-- offset and size of each field -/
def lY (kL:List Nat) (size:Nat):List (Nat×Nat):=(List.range kL.length).map fun k=>(kL.getD k 0,(kL++[size]).getD (k+1) 0 - kL.getD k 0)
def yG (i:TI) (parts:Array (Nat×Value)):Sem Value:=do
 let some cells:=Instr.fill ((lY i.kL i.size).toArray[·]?) i.zero.cells parts.toList|stuck "build: no such field, or a part of the wrong size"
 pure (.agg cells)
theorem yH {i:TI} {parts:Array (Nat×Value)} {c:Array Value} (h:Instr.fill ((lY i.kL i.size).toArray[·]?) i.zero.cells parts.toList=some c) (P:Program) (w:World):(yG i parts).run P w=.ok (.agg c) w:=by
 unfold yG;rw[h];rfl

def Be (P:Program) (t:Nat) (i:TI):Prop:=i.agg=true→i.kL≠[]→∀parts w,(Instr.build t parts).run P w=(yG i parts).run P w
def jW (P:Program):List (Option TI)→Nat→Prop
 |[],_=>True
 |none::r,k=>jW P r (k+1)
 |some i::r,k=>Be P k i∧jW P r (k+1)
theorem jW.get {P:Program}:∀(l:List (Option TI)) (k:Nat),jW P l k→∀t i,(l[t]?).bind id=some i→Be P (k+t) i
 |[],_,_,t,i,h=>by simp at h
 |none::r,k,ha,t,i,h=>by
  cases t with
  |zero=>simp at h
  |succ t=>
   have:=jW.get r (k+1) ha t i FS
   rwa[show k+(t+1)=k+1+t by omega]
 |some j::r,k,ha,t,i,h=>by
  cases t with
  |zero=>simp at h;subst h;exact ha.1
  |succ t=>
   have:=jW.get r (k+1) ha.2 t i FS
   rwa[show k+(t+1)=k+1+t by omega]
theorem jW.skip {P:Program} {r:List (Option TI)} {k:Nat} (h:jW P r (k+1)):jW P (none::r) k:=h
theorem AY:jW Tryz.prog BI 0:=by
 repeat(first|exact trivial|refine⟨fun a b=>(by first|(exact absurd rfl b)|(cases a;done)|(intro parts w;kernel_rfl)),?_⟩|refine jW.skip ?_)
theorem Ar (t:Nat) (i:TI) (h:G.ty t=some i) (ha:i.agg=true) (ho:i.kL≠[]) (parts:Array (Nat×Value)) (w:World):(Instr.build t parts).run G.P w=(yG i parts).run G.P w:=by
 have:=jW.get BI 0 AY t i h
 rw[Nat.zero_add]at this
 exact this ha ho parts w
end Go.Proofs.YtceedealggognaaGreatDoor
