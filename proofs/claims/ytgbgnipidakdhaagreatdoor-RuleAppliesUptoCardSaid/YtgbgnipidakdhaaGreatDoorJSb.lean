/- Walks of the reference of layer 36: deep, Order, Preds. -/
import Derived.Test.YtgbgnipidakdhaaGreatDoorJF2
import Derived.Test.YtgbgnipidakdhaaGreatDoorJIn
import Derived.Test.YtgbgnipidakdhaaGreatDoorJSh
import Derived.Scope
import Derived.Test.YtgbgnipidakdhaaGreatDoorJM2
import Derived.Test.YtgbgnipidakdhaaGreatDoorJA
namespace Go.Proofs.YtgbgnipidakdhaaGreatDoor
open Go.RowKit
def Hv (seen:List Bool):Nat:=seen.countP (fun b=>!b)
def EA (bs:List Bk):Nat→Int→List Bool×List Int→List Bool×List Int
 |0,_,s=>s
 |f+1,a,s=>
  if a<0∨(bs.length:Int)≤a∨ix s.1 a.toNat=true then s
  else
   let t:=(ix bs a.toNat).next.foldl (fun s b=>EA bs f b s) (s.1.set a.toNat true,s.2)
   (t.1,t.2++[a])
def FI (bs:List Bk):List Int:=(EA bs (bs.length+1) 0 (List.replicate bs.length false,[])).2.reverse
def zJ (xs:List cJ):Nat→List (Nat×Nat)
 |0=>[]
 |k+1=>
  let l:=if Fq xs k then zJ xs k++[(k,0)]else zJ xs k
  l.set (l.length - 1) ((ix l (l.length - 1)).1,k+1)
def He (fb:List (Nat×Nat)) (nx:Nat→List Int) (lv:Nat→Bool):List Bk:=(List.range fb.length).map (fun j=>⟨(ix fb j).1,(ix fb j).2,nx j,lv j⟩)
def GR (fb:List (Nat×Nat)) (q:Int):Int:=IB (He fb (fun _=>[]) (fun _=>false)) q
def Hn (xs:List cJ) (j:Nat):List Int:=Fo xs ((ix (zJ xs xs.length) j).2 - 1)
def EH (xs:List cJ) (j:Nat):List Int:=(Hn xs j).map (GR (zJ xs xs.length))
def G0 (xs:List cJ):Prop:=∃j,j<(zJ xs xs.length).length∧∃a∈Hn xs j,a<0
def Du (xs:List cJ):List Bk:=
 let g:=He (zJ xs xs.length) (EH xs) (fun _=>false)
 He (zJ xs xs.length) (EH xs) (fun j=>(FI g).contains (j:Int))
def c0 (p:Nat×Nat) (nv:Value):List Value:=[.int .i64 p.1,.int .i64 p.2,nv,.bool false]
theorem pz {α β:Type} [Inhabited α] [Inhabited β] {l:List α} {f:α→β} {i:Nat} (h:i<l.length):ix (l.map f) i=f (ix l i):=by
 rw[cD LY,cD h,List.getElem_map]
structure bP where
 ts:List Int
 ps:List (Int×Bool)
 bH:Nat
 deriving Inhabited
def bP.at_ (s:bP):Int:=(ix s.ps (s.ps.length - 1)).1
def bP.loose (s:bP):Bool:=(ix s.ps (s.ps.length - 1)).2
structure bP.Ok (s:bP):Prop where
 some:0<s.ps.length
 le:∀i,i<s.ps.length→0≤(ix s.ps i).1∧(ix s.ps i).1≤s.ts.length
def aU (s:bP):bP×Int×Int:=if s.at_<s.ts.length then({s with ts:=s.ts.take (s.ts.length - 1)},ix s.ts (s.ts.length - 1),0)else if s.loose then(s,0,0)else(s,0,13)
def ew (s:bP):List Int→Nat→Nat×Int
 |[],n=>(n,0)
 |x::r,n=>if(n:Int)=s.at_ then(if s.loose then ew s r n else(0,13))else
   if ix s.ts (n - 1)≠x∧ix s.ts (n - 1)≠0∧x≠0 then(0,12)else ew s r (n - 1)
def aE (s:bP) (l:List Int):bP×Int:=
 let r:=ew s l.reverse s.ts.length
 if r.2=0 then({s with ts:=s.ts.take r.1},0)else(s,r.2)
def aJ (s:bP) (l:List Int):bP:={s with ts:=s.ts++l,bH:=max s.bH (s.ts.length+l.length)}
def aR (s:bP):bP:={s with ps:=s.ps++[((s.ts.length:Int),false)]}
def dq (s:bP):bP:={s with ts:=s.ts.take s.at_.toNat,ps:=s.ps.set (s.ps.length - 1) (s.at_,true)}
def cw (s:bP) (l:List Int):bP×Int:=
 let r:=ew s l.reverse s.ts.length
 if r.2≠0 then(s,r.2)else if s.at_<r.1 then(s,14)else
  ({s with ts:=s.ts.take r.1,ps:=if s.ps.length=1 then[(0,false)]else s.ps.take (s.ps.length - 1)},0)
theorem iX {s:bP}:∀(l:List Int) (n:Nat),s.at_≤n→(ew s l n).2=0→s.at_≤(ew s l n).1∧(ew s l n).1≤n
 |[],n,h,_=>⟨h,Nat.le_refl _⟩
 |x::r,n,h,he=>by
  rw[ew]at he ⊢
  split at he
  ·split at he
   ·rename_i h1 h2
    rw[if_pos h1,if_pos h2];exact iX r n h he
   ·cases he
  ·rename_i h1
   split at he
   ·cases he
   ·rename_i h2
    rw[if_neg h1,if_neg h2]
    have:=iX r (n - 1) Mj he
    omega
theorem Bx {s:bP} {x:Int} {r:List Int} {n:Nat} (h:s.at_≤n) (hn:n≤s.ts.length) (h0:0≤s.at_):
  ew s (x::r) n=(let p:=aU {s with ts:=s.ts.take n}
   if p.2.2≠0 then(0,p.2.2)else if p.2.1≠x∧p.2.1≠0∧x≠0 then(0,12)else ew s r p.1.ts.length):=by
 have e1:(s.ts.take n).length=n:=by rw[List.length_take];omega
 have e2:({s with ts:=s.ts.take n}:bP).at_=s.at_:=rfl
 have e3:({s with ts:=s.ts.take n}:bP).loose=s.loose:=rfl
 have hp:aU {s with ts:=s.ts.take n}=if s.at_<(n:Int)then(⟨(s.ts.take n).take (n - 1),s.ps,s.bH⟩,ix (s.ts.take n) (n - 1),0)else if s.loose then(⟨s.ts.take n,s.ps,s.bH⟩,0,0)else(⟨s.ts.take n,s.ps,s.bH⟩,0,13):=by
  unfold aU;rw[e2,e3];dsimp only;rw[e1]
 rw[hp,ew]
 by_cases hat:(n:Int)=s.at_
 ·have h1:¬s.at_<(n:Int):=by omega
  simp only[if_pos hat,if_neg h1]
  cases hl:s.loose with
  |true=>simp[e1]
  |false=>simp
 ·have h1:s.at_<(n:Int):=by omega
  have e4:ix (s.ts.take n) (n - 1)=ix s.ts (n - 1):=by
   rw[cD (by rw[e1];omega),cD Mj];simp
  have e5:((s.ts.take n).take (n - 1)).length=n - 1:=by rw[List.take_take,List.length_take];omega
  simp only[if_neg hat,if_pos h1,e4,e5,ne_eq,not_true_eq_false,if_false]
structure mK where
 kind:Int
 par:List Int
 res:List Int
 other:Bool
 kf:Bool
 deriving Inhabited
structure di where
 ao:bP
 fs:List mK
 results:List Int
 live:Bool
 broken:Int
def di.top (c:di):mK:=ix c.fs (c.fs.length - 1)
def jd (results:List Int):di:=⟨⟨[],[(0,false),(0,false)],0⟩,[⟨0,[],results,false,true⟩],results,true,0⟩
def gw (c:di) (s:bP) (fs:List mK) (f:mK):di:={c with ao:=aJ (aR s) f.par,fs:=fs++[f],live:=f.kf}
def fL (c:di) (op:Int) (par res:List Int):di×Int:=
 if c.broken≠0 then(c,c.broken)else if op≠2∧op≠3∧op≠4 then(c,1)else if c.fs.length=0 then(c,16)else
  let a:=if op=4 then aE c.ao [1]else(c.ao,0)
  if a.2≠0 then({c with broken:=a.2},a.2)else
   let b:=aE a.1 par
   if b.2≠0 then({c with ao:=a.1,broken:=b.2},b.2)else(gw c b.1 c.fs ⟨op,par,res,false,c.live⟩,0)
def lF (c:di):di×Int:=
 if c.broken≠0 then(c,c.broken)else if c.fs.length=0∨c.top.kind≠4∨c.top.other=true then(c,16)else
  let a:=cw c.ao c.top.res
  if a.2≠0 then({c with broken:=a.2},a.2)else(gw c a.1 (c.fs.take (c.fs.length - 1)) {c.top with other:=true},0)
def jj (c:di):di×Int:=
 if c.broken≠0 then(c,c.broken)else if c.fs.length=0 then(c,16)else
  let a:=cw c.ao c.top.res
  if a.2≠0 then({c with broken:=a.2},a.2)else
   if c.top.kind=4∧c.top.other=false∧c.top.par≠c.top.res then({c with ao:=a.1,fs:=c.fs.take (c.fs.length - 1),broken:=12},12)else
    ({c with ao:=aJ a.1 c.top.res,fs:=c.fs.take (c.fs.length - 1),live:=c.top.kf},0)
def cy (c:di) (n:Int):List Int×Int:=
 if c.broken≠0 then([],c.broken)else if n<0∨c.fs.length≤n then([],15)else
  let f:=ix c.fs (c.fs.length - 1 - n.toNat)
  (if f.kind=3 then f.par else f.res,0)
def oC (c:di):List Int:=if c.broken≠0 then[]else c.results
def gi (c:di):di:=if c.broken≠0∨c.fs.length=0 then c else{c with ao:=dq c.ao,live:=false}
def mK.op (f:mK):Int:=if f.kind=0 then 11 else if f.other=true then 5 else f.kind
def di.gK (c:di) (i:Nat):Bool:=if i+1<c.fs.length then(ix c.fs (i+1)).kf else c.live
structure di.Ok (c:di):Prop where
 ao:c.ao.Ok
 many:c.ao.ps.length=c.fs.length+1
 kinds:∀i,i<c.fs.length→(ix c.fs i).kind=0∨(ix c.fs i).kind=2∨(ix c.fs i).kind=3∨(ix c.fs i).kind=4
 other:∀i,i<c.fs.length→(ix c.fs i).other=true→(ix c.fs i).kind=4
 ended:c.fs.length=0→c.live=true
 first:0<c.fs.length→(ix c.fs 0).kf=true
end Go.Proofs.YtgbgnipidakdhaaGreatDoor
