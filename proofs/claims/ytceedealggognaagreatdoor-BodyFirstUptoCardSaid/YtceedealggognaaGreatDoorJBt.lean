/- How 'build' lays out each struct of the type table; printed by gen_bt2.py. -/
import Derived.Test.YtceedealggognaaGreatDoorJG
namespace Go.Proofs.YtceedealggognaaGreatDoor
set_option maxRecDepth 100000

/-- offset and size of each field -/
def mQ (ly:List Nat) (size:Nat):List (Nat×Nat):=(List.range ly.length).map fun k=>(ly.getD k 0,(ly++[size]).getD (k+1) 0 - ly.getD k 0)
def zT (i:TI) (parts:Array (Nat×Value)):Sem Value:=do
 let some cells:=Instr.fill ((mQ i.ly i.size).toArray[·]?) i.zero.cells parts.toList|stuck "build: no such field, or a part of the wrong size"
 pure (.agg cells)
theorem zU {i:TI} {parts:Array (Nat×Value)} {c:Array Value} (h:Instr.fill ((mQ i.ly i.size).toArray[·]?) i.zero.cells parts.toList=some c) (P:Program) (w:World):(zT i parts).run P w=.ok (.agg c) w:=by
 unfold zT;rw[h];rfl

def Cv (P:Program) (t:Nat) (i:TI):Prop:=i.agg=true→i.ly≠[]→∀parts w,(Instr.build t parts).run P w=(zT i parts).run P w
def kl (P:Program):List (Option TI)→Nat→Prop
 |[],_=>True
 |none::r,k=>kl P r (k+1)
 |some i::r,k=>Cv P k i∧kl P r (k+1)
theorem kl.get {P:Program}:∀(l:List (Option TI)) (k:Nat),kl P l k→∀t i,(l[t]?).bind id=some i→Cv P (k+t) i
 |[],_,_,t,i,h=>by simp at h
 |none::r,k,ha,t,i,h=>by
  cases t with
  |zero=>simp at h
  |succ t=>
   have:=kl.get r (k+1) ha t i G5
   rwa[show k+(t+1)=k+1+t by omega]
 |some j::r,k,ha,t,i,h=>by
  cases t with
  |zero=>simp at h;subst h;exact ha.1
  |succ t=>
   have:=kl.get r (k+1) ha.2 t i G5
   rwa[show k+(t+1)=k+1+t by omega]
theorem kl.skip {P:Program} {r:List (Option TI)} {k:Nat} (h:kl P r (k+1)):kl P (none::r) k:=h
theorem Cb:kl Tryz.prog CU 0:=by
 repeat(first|exact trivial|refine⟨fun a b=>(by first|(exact absurd rfl b)|(cases a;done)|(intro parts w;kernel_rfl)),?_⟩|refine kl.skip ?_)
theorem Bs (t:Nat) (i:TI) (h:G.ty t=some i) (ha:i.agg=true) (ho:i.ly≠[]) (parts:Array (Nat×Value)) (w:World):(Instr.build t parts).run G.P w=(zT i parts).run G.P w:=by
 have:=kl.get CU 0 Cb t i h
 rw[Nat.zero_add]at this
 exact this ha ho parts w
end Go.Proofs.YtceedealggognaaGreatDoor
