/- Plain laws (no program in sight): every successor's place is where a block begins; the two searches agree; when a body has blocks. -/
import Derived.Test.YtdkcljdfbemnbaaGreatDoorJM2
import Derived.Test.YtdkcljdfbemnbaaGreatDoorJN3
import Derived.Test.YtdkcljdfbemnbaaGreatDoorJF2
namespace Go.Proofs.YtdkcljdfbemnbaaGreatDoor
open Go.RowKit
theorem rm {α β:Type} [Inhabited α] [Inhabited β] {l:List α} {f:α→β} {i:Nat} (h:i<l.length):ix (l.map f) i=f (ix l i):=by
 rw[cz O4,cz h,List.getElem_map]
section parts
variable {xs:List cv}
end parts
structure DS (bs:List Bk) (roots:List Int) (s t:List Bool×List Int) (new:List Int):Prop where
 out:t.2=s.2++new
 len:t.1.length=bs.length
 cn:Jw t.1≤Jw s.1
 seen:∀k:Nat,k<bs.length→(ix t.1 k=true↔ix s.1 k=true∨(k:Int)∈new)
 fresh:∀b∈new,0≤b∧b<bs.length∧ix s.1 b.toNat=false
 nodup:new.Nodup
 closed:∀b∈new,∀n∈(ix bs b.toNat).next,0≤n→n<bs.length→ix t.1 n.toNat=true
 LW:∀r∈roots,0≤r→r<bs.length→ix t.1 r.toNat=true
 up:∀k,k<new.length→ix new k∈roots∨∃k',k<k'∧k'<new.length∧ix new k∈(ix bs (ix new k').toNat).next
theorem H4 {α:Type} [Inhabited α] {l:List α} {i:Nat} (h:i<l.length):ix l i∈l:=by rw[cz h];exact List.getElem_mem h
structure ck where
 ts:List Int
 ps:List (Int×Bool)
 bQ:Nat
 deriving Inhabited
def ck.at_ (s:ck):Int:=(ix s.ps (s.ps.length - 1)).1
def ck.loose (s:ck):Bool:=(ix s.ps (s.ps.length - 1)).2
structure ck.Ok (s:ck):Prop where
 some:0<s.ps.length
 le:∀i,i<s.ps.length→0≤(ix s.ps i).1∧(ix s.ps i).1≤s.ts.length
def aY (s:ck):ck×Int×Int:=if s.at_<s.ts.length then({s with ts:=s.ts.take (s.ts.length - 1)},ix s.ts (s.ts.length - 1),0)else if s.loose then(s,0,0)else(s,0,13)
def eU (s:ck):List Int→Nat→Nat×Int
 |[],n=>(n,0)
 |x::r,n=>if(n:Int)=s.at_ then(if s.loose then eU s r n else(0,13))else
   if ix s.ts (n - 1)≠x∧ix s.ts (n - 1)≠0∧x≠0 then(0,12)else eU s r (n - 1)
def aK (s:ck) (l:List Int):ck×Int:=
 let r:=eU s l.reverse s.ts.length
 if r.2=0 then({s with ts:=s.ts.take r.1},0)else(s,r.2)
def aS (s:ck) (l:List Int):ck:={s with ts:=s.ts++l,bQ:=max s.bQ (s.ts.length+l.length)}
def aW (s:ck):ck:={s with ps:=s.ps++[((s.ts.length:Int),false)]}
def dG (s:ck):ck:={s with ts:=s.ts.take s.at_.toNat,ps:=s.ps.set (s.ps.length - 1) (s.at_,true)}
def cP (s:ck) (l:List Int):ck×Int:=
 let r:=eU s l.reverse s.ts.length
 if r.2≠0 then(s,r.2)else if s.at_<r.1 then(s,14)else
  ({s with ts:=s.ts.take r.1,ps:=if s.ps.length=1 then[(0,false)]else s.ps.take (s.ps.length - 1)},0)
theorem jM {s:ck}:∀(l:List Int) (n:Nat),s.at_≤n→(eU s l n).2=0→s.at_≤(eU s l n).1∧(eU s l n).1≤n
 |[],n,h,_=>⟨h,Nat.le_refl _⟩
 |x::r,n,h,he=>by
  rw[eU]at he ⊢
  split at he
  ·split at he
   ·rename_i h1 h2
    rw[if_pos h1,if_pos h2];exact jM r n h he
   ·cases he
  ·rename_i h1
   split at he
   ·cases he
   ·rename_i h2
    rw[if_neg h1,if_neg h2]
    have:=jM r (n - 1) Pc he
    omega
theorem DE {s:ck} {x:Int} {r:List Int} {n:Nat} (h:s.at_≤n) (hn:n≤s.ts.length) (h0:0≤s.at_):
  eU s (x::r) n=(let p:=aY {s with ts:=s.ts.take n}
   if p.2.2≠0 then(0,p.2.2)else if p.2.1≠x∧p.2.1≠0∧x≠0 then(0,12)else eU s r p.1.ts.length):=by
 have e1:(s.ts.take n).length=n:=by rw[List.length_take];omega
 have e2:({s with ts:=s.ts.take n}:ck).at_=s.at_:=rfl
 have e3:({s with ts:=s.ts.take n}:ck).loose=s.loose:=rfl
 have hp:aY {s with ts:=s.ts.take n}=if s.at_<(n:Int)then(⟨(s.ts.take n).take (n - 1),s.ps,s.bQ⟩,ix (s.ts.take n) (n - 1),0)else if s.loose then(⟨s.ts.take n,s.ps,s.bQ⟩,0,0)else(⟨s.ts.take n,s.ps,s.bQ⟩,0,13):=by
  unfold aY;rw[e2,e3];dsimp only;rw[e1]
 rw[hp,eU]
 by_cases hat:(n:Int)=s.at_
 ·have h1:¬s.at_<(n:Int):=by omega
  simp only[if_pos hat,if_neg h1]
  cases hl:s.loose with
  |true=>simp[e1]
  |false=>simp
 ·have h1:s.at_<(n:Int):=by omega
  have e4:ix (s.ts.take n) (n - 1)=ix s.ts (n - 1):=by
   rw[cz (by rw[e1];omega),cz Pc];simp
  have e5:((s.ts.take n).take (n - 1)).length=n - 1:=by rw[List.take_take,List.length_take];omega
  simp only[if_neg hat,if_pos h1,e4,e5,ne_eq,not_true_eq_false,if_false]
structure nS where
 kind:Int
 par:List Int
 res:List Int
 other:Bool
 lq:Bool
 deriving Inhabited
structure dv where
 ao:ck
 fs:List nS
 results:List Int
 live:Bool
 broken:Int
def dv.top (c:dv):nS:=ix c.fs (c.fs.length - 1)
def jR (results:List Int):dv:=⟨⟨[],[(0,false),(0,false)],0⟩,[⟨0,[],results,false,true⟩],results,true,0⟩
def gW (c:dv) (s:ck) (fs:List nS) (f:nS):dv:={c with ao:=aS (aW s) f.par,fs:=fs++[f],live:=f.lq}
def jv (c:dv) (op:Int) (par res:List Int):dv×Int:=
 if c.broken≠0 then(c,c.broken)else if op≠2∧op≠3∧op≠4 then(c,1)else if c.fs.length=0 then(c,16)else
  let a:=if op=4 then aK c.ao [1]else(c.ao,0)
  if a.2≠0 then({c with broken:=a.2},a.2)else
   let b:=aK a.1 par
   if b.2≠0 then({c with ao:=a.1,broken:=b.2},b.2)else(gW c b.1 c.fs ⟨op,par,res,false,c.live⟩,0)
def my (c:dv):dv×Int:=
 if c.broken≠0 then(c,c.broken)else if c.fs.length=0∨c.top.kind≠4∨c.top.other=true then(c,16)else
  let a:=cP c.ao c.top.res
  if a.2≠0 then({c with broken:=a.2},a.2)else(gW c a.1 (c.fs.take (c.fs.length - 1)) {c.top with other:=true},0)
def ke (c:dv):dv×Int:=
 if c.broken≠0 then(c,c.broken)else if c.fs.length=0 then(c,16)else
  let a:=cP c.ao c.top.res
  if a.2≠0 then({c with broken:=a.2},a.2)else
   if c.top.kind=4∧c.top.other=false∧c.top.par≠c.top.res then({c with ao:=a.1,fs:=c.fs.take (c.fs.length - 1),broken:=12},12)else
    ({c with ao:=aS a.1 c.top.res,fs:=c.fs.take (c.fs.length - 1),live:=c.top.lq},0)
def cT (c:dv) (n:Int):List Int×Int:=
 if c.broken≠0 then([],c.broken)else if n<0∨c.fs.length≤n then([],15)else
  let f:=ix c.fs (c.fs.length - 1 - n.toNat)
  (if f.kind=3 then f.par else f.res,0)
def qS (c:dv):List Int:=if c.broken≠0 then[]else c.results
def iE (c:dv):dv:=if c.broken≠0∨c.fs.length=0 then c else{c with ao:=dG c.ao,live:=false}
def nS.op (f:nS):Int:=if f.kind=0 then 11 else if f.other=true then 5 else f.kind
def dv.il (c:dv) (i:Nat):Bool:=if i+1<c.fs.length then(ix c.fs (i+1)).lq else c.live
structure dv.Ok (c:dv):Prop where
 ao:c.ao.Ok
 many:c.ao.ps.length=c.fs.length+1
 kinds:∀i,i<c.fs.length→(ix c.fs i).kind=0∨(ix c.fs i).kind=2∨(ix c.fs i).kind=3∨(ix c.fs i).kind=4
 other:∀i,i<c.fs.length→(ix c.fs i).other=true→(ix c.fs i).kind=4
 ended:c.fs.length=0→c.live=true
 first:0<c.fs.length→(ix c.fs 0).lq=true
end Go.Proofs.YtdkcljdfbemnbaaGreatDoor
