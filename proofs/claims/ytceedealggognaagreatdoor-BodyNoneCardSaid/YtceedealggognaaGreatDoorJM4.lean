/- The reference's table of opcodes: ref05.rows, find, Known, Name, Of, All, within, Width. Printed by gen_b1.py. -/
import Derived.Test.YtceedealggognaaGreatDoorJW1
import Derived.Test.YtceedealggognaaGreatDoorJIn
namespace Go.Proofs.YtceedealggognaaGreatDoor
open Go.RowKit
set_option maxRecDepth 100000
abbrev qx:=Int×List UInt8×Int
def xu:List qx:=[(0,[117,110,114,101,97,99,104,97,98,108,101],0),(1,[110,111,112],0),(2,[98,108,111,99,107],1),(3,[108,111,111,112],1),(4,[105,102],1),(5,[101,108,115,101],0),(11,[101,110,100],0),(12,[98,114],2),(13,[98,114,95,105,102],2),(14,[98,114,95,116,97,98,108,101],3),(15,[114,101,116,117,114,110],0),(16,[99,97,108,108],4),(17,[99,97,108,108,95,105,110,100,105,114,101,99,116],5),(26,[100,114,111,112],0),(27,[115,101,108,101,99,116],0),(28,[115,101,108,101,99,116],6),(32,[108,111,99,97,108,46,103,101,116],7),(33,[108,111,99,97,108,46,115,101,116],7),(34,[108,111,99,97,108,46,116,101,101],7),(35,[103,108,111,98,97,108,46,103,101,116],8),(36,[103,108,111,98,97,108,46,115,101,116],8),(37,[116,97,98,108,101,46,103,101,116],9),(38,[116,97,98,108,101,46,115,101,116],9)]
def yE:List qx:=[(40,[105,51,50,46,108,111,97,100],17),(41,[105,54,52,46,108,111,97,100],17),(44,[105,51,50,46,108,111,97,100,56,95,115],17),(45,[105,51,50,46,108,111,97,100,56,95,117],17),(46,[105,51,50,46,108,111,97,100,49,54,95,115],17),(47,[105,51,50,46,108,111,97,100,49,54,95,117],17),(48,[105,54,52,46,108,111,97,100,56,95,115],17),(49,[105,54,52,46,108,111,97,100,56,95,117],17),(50,[105,54,52,46,108,111,97,100,49,54,95,115],17),(51,[105,54,52,46,108,111,97,100,49,54,95,117],17),(52,[105,54,52,46,108,111,97,100,51,50,95,115],17),(53,[105,54,52,46,108,111,97,100,51,50,95,117],17),(54,[105,51,50,46,115,116,111,114,101],17),(55,[105,54,52,46,115,116,111,114,101],17),(58,[105,51,50,46,115,116,111,114,101,56],17),(59,[105,51,50,46,115,116,111,114,101,49,54],17),(60,[105,54,52,46,115,116,111,114,101,56],17),(61,[105,54,52,46,115,116,111,114,101,49,54],17),(62,[105,54,52,46,115,116,111,114,101,51,50],17),(63,[109,101,109,111,114,121,46,115,105,122,101],13),(64,[109,101,109,111,114,121,46,103,114,111,119],13),(65,[105,51,50,46,99,111,110,115,116],18),(66,[105,54,52,46,99,111,110,115,116],19)]
def Ca:List qx:=[(208,[114,101,102,46,110,117,108,108],20),(209,[114,101,102,46,105,115,95,110,117,108,108],0),(210,[114,101,102,46,102,117,110,99],4),(64520,[109,101,109,111,114,121,46,105,110,105,116],15),(64521,[100,97,116,97,46,100,114,111,112],16),(64522,[109,101,109,111,114,121,46,99,111,112,121],14),(64523,[109,101,109,111,114,121,46,102,105,108,108],13),(64524,[116,97,98,108,101,46,105,110,105,116],11),(64525,[101,108,101,109,46,100,114,111,112],12),(64526,[116,97,98,108,101,46,99,111,112,121],10),(64527,[116,97,98,108,101,46,103,114,111,119],9),(64528,[116,97,98,108,101,46,115,105,122,101],9),(64529,[116,97,98,108,101,46,102,105,108,108],9)]
def Cr:List qx:=[(167,[105,51,50,46,119,114,97,112,95,105,54,52],0),(172,[105,54,52,46,101,120,116,101,110,100,95,105,51,50,95,115],0),(173,[105,54,52,46,101,120,116,101,110,100,95,105,51,50,95,117],0)]
def pW:List (List UInt8):=[[101,113,122],[101,113],[110,101],[108,116,95,115],[108,116,95,117],[103,116,95,115],[103,116,95,117],[108,101,95,115],[108,101,95,117],[103,101,95,115],[103,101,95,117]]
def Af:List (List UInt8):=[[99,108,122],[99,116,122],[112,111,112,99,110,116],[97,100,100],[115,117,98],[109,117,108],[100,105,118,95,115],[100,105,118,95,117],[114,101,109,95,115],[114,101,109,95,117],[97,110,100],[111,114],[120,111,114],[115,104,108],[115,104,114,95,115],[115,104,114,95,117],[114,111,116,108],[114,111,116,114]]
def qi (f:Int) (t:List UInt8) (l:List (List UInt8)):List qx:=l.zipIdx.map fun p=>(f+p.2,t++[46]++p.1,0)
def Cc:List (List UInt8):=[[101,120,116,101,110,100,56,95,115],[101,120,116,101,110,100,49,54,95,115]]
def Cf:List (List UInt8):=[[101,120,116,101,110,100,56,95,115],[101,120,116,101,110,100,49,54,95,115],[101,120,116,101,110,100,51,50,95,115]]
def zm:List qx:=((((((((xu++yE)++qi 69 [105,51,50] pW)++qi 80 [105,54,52] pW)++qi 103 [105,51,50] Af)++qi 121 [105,54,52] Af)++Cr)++qi 192 [105,51,50] Cc)++qi 194 [105,54,52] Cf)++Ca
def gN (op:Int):Option qx:=zm.find? fun r=>decide (r.1=op)
def mK (op:Int):qx:=(gN op).getD (0,[],0)
def DB (s p:List UInt8) (i:Nat):Bool:=(s.drop i).take p.length==p
def vi (s p:List UInt8):Bool:=(List.range (s.length+1)).any fun i=>decide (i+p.length≤s.length) && DB s p i
def AE (s:List UInt8) (d e:List UInt8):Bool:=vi s d || vi s e
def gL (op:Int):Int:=
 if(mK op).2.2≠17 then 0 else
 let s:=(mK op).2.1
 if AE s [100,56] [101,56]=true then 1 else if AE s [100,49,54] [101,49,54]=true then 2 else if AE s [100,51,50] [101,51,50]=true then 4 else if((s.drop 1).take 2==[51,50])=true then 4 else 8
theorem tables:rI=zm.map fun r=>(r.1,⟨r.2.1.toArray⟩):=by decide+kernel
theorem qc (op:Int):∀l:List qx,iM op (l.map fun r=>(r.1,⟨r.2.1.toArray⟩))=(l.find? fun r=>decide (r.1=op)).map fun r=>⟨r.2.1.toArray⟩
 |[]=>rfl
 |a::r=>by
  rw[List.map_cons,iM,List.find?_cons]
  by_cases h:a.1=op
  ·simp[h]
  ·simp[h,qc op r]
theorem yR (op:Int):iM op rI=(gN op).map fun r=>⟨r.2.1.toArray⟩:=by rw[tables,qc];rfl
theorem zd (op:Int):eF (eG op)=(mK op).2.1:=by
 unfold eG mK;rw[yR]
 cases gN op<;>rfl
theorem vO:(zm.all fun r=>!(r.2.1==[]))=true:=by decide+kernel
theorem sD (op:Int):tO op=(gN op).isSome:=by
 unfold tO;rw[zd];unfold mK
 cases h:gN op with
 |none=>rfl
 |some r=>
  have:=List.all_eq_true.1 vO r (List.mem_of_find?_eq_some h)
  simpa using this
theorem wN:(zm.all fun r=>gL r.1==fD r.1)=true:=by decide+kernel
theorem tm (op:Int):fD op=gL op:=by
 cases h:gN op with
 |none=>
  have h1:=sD op
  rw[h]at h1
  have h2:gQ op=false:=by unfold gQ;rw[h1];simp
  unfold fD gL mK
  rw[h2,h];rfl
 |some r=>
  have:=List.all_eq_true.1 wN r (List.mem_of_find?_eq_some h)
  have e:r.1=op:=by have:=List.find?_some h;simpa using this
  rw[e]at this
  exact(beq_iff_eq.1 this).symm
def Bd (b:Bool):Int:=if b then 1 else 0
theorem fc.el {α:Type} [Inhabited α] {s N:Nat} {R:ph α} {F:Nat→Prop} {w:World} {p:Option Addr} {n cap:Nat} {xs:List α} (h:fc s N R F w (.slice p n cap) xs) {i:Nat} (hi:i<xs.length):∃b off,p=some ⟨b,off,none⟩∧F b∧R F w b (off+i*s) (ix xs i):=by
 obtain⟨b,off,e,hF,hall⟩:=h.at hi
 exact⟨b,off,e,hF,hall i hi⟩
def tM (l:List cB) (k:Int) (n:Nat):Nat:=((l.take n).filter fun x=>decide (x.kind=k)).length
theorem vJ {l:List cB} {k:Int} {n:Nat} (h:n<l.length):tM l k (n+1)=tM l k n+if(ix l n).kind=k then 1 else 0:=by
 unfold tM
 rw[bu h,List.filter_append,List.length_append]
 by_cases e:(ix l n).kind=k<;>simp[e]
theorem yV (l:List cB) (k:Int) (n:Nat):tM l k n≤n:=by
 unfold tM
 exact Nat.le_trans (List.length_filter_le _ _) FJ
abbrev jD:Nat:=33
theorem jm {α:Type} [Inhabited α] {a b:List α} {i:Nat} (h:i<a.length):ix (a++b) i=ix a i:=by simp[ix,List.getElem?_append_left h]
theorem h9 {α:Type} [Inhabited α] {a b:List α} {i:Nat} (h:a.length≤i):ix (a++b) i=ix b (i - a.length):=by simp[ix,List.getElem?_append_right h]
def pN (P:Prop) (w:World) (e:Ending) (w':World):Prop:=(∃b:Bool,e=.returned (.bool b)∧(b=true→P))∧Ext w w'
section
variable {n:Nat} {E:Env} {M:List aU} {R:List (World→Prop)}
theorem HE.Bf {f:Nat} {args:List Operand} {tys:Array TypeId} {vs:List Value} {P:Prop} (hf:G.fb[f]?=some true) (ha:ji E args=some vs) (hc:∀w,Ok M R w→Calls G.P f vs.toArray w (pN P w)):
  HE n (.call ⟨.value (.func f),args.toArray,tys⟩) E M R (fun b:Bool=>b=true→P) (fun b=>.bool b) (fun _=>M) (fun _=>R):=
 HE.call (fun b:Bool=>.bool b) hf ha fun w hw=>(hc w hw).mono fun _e _w' ⟨⟨b,e1,h1⟩,hx⟩=>⟨b,e1,h1,hw.ext hx⟩
end
end Go.Proofs.YtceedealggognaaGreatDoor
