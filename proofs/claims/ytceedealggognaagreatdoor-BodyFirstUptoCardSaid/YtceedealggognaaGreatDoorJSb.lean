/- Plain laws (no program in sight): the blocks partition the body; how many successors a block has; the search's order. -/
import Derived.Test.YtceedealggognaaGreatDoorJM2
import Derived.Test.YtceedealggognaaGreatDoorJN1
import Derived.Test.YtceedealggognaaGreatDoorJR7
import Derived.Test.YtceedealggognaaGreatDoorJN3
namespace Go.Proofs.YtceedealggognaaGreatDoor
open Go.RowKit
section parts
variable {xs:List bP}
end parts
theorem BL {α:Type} [Inhabited α] {l:List α} {i:Nat} (h:i<l.length):ix l i∈l:=by rw[cw h];exact List.getElem_mem h
structure cZ where
 ts:List Int
 ps:List (Int×Bool)
 mK:Nat
 deriving Inhabited
def cZ.at_ (s:cZ):Int:=(ix s.ps (s.ps.length - 1)).1
def cZ.loose (s:cZ):Bool:=(ix s.ps (s.ps.length - 1)).2
structure cZ.Ok (s:cZ):Prop where
 some:0<s.ps.length
 le:∀i,i<s.ps.length→0≤(ix s.ps i).1∧(ix s.ps i).1≤s.ts.length
def aZ (s:cZ):cZ×Int×Int:=if s.at_<s.ts.length then({s with ts:=s.ts.take (s.ts.length - 1)},ix s.ts (s.ts.length - 1),0)else if s.loose then(s,0,0)else(s,0,13)
def gq (s:cZ):List Int→Nat→Nat×Int
 |[],n=>(n,0)
 |x::r,n=>if(n:Int)=s.at_ then(if s.loose then gq s r n else(0,13))else
   if ix s.ts (n - 1)≠x∧ix s.ts (n - 1)≠0∧x≠0 then(0,12)else gq s r (n - 1)
def aT (s:cZ) (l:List Int):cZ×Int:=
 let r:=gq s l.reverse s.ts.length
 if r.2=0 then({s with ts:=s.ts.take r.1},0)else(s,r.2)
def gg (s:cZ) (l:List Int):cZ:={s with ts:=s.ts++l,mK:=max s.mK (s.ts.length+l.length)}
def eX (s:cZ):cZ:={s with ps:=s.ps++[((s.ts.length:Int),false)]}
def gA (s:cZ):cZ:={s with ts:=s.ts.take s.at_.toNat,ps:=s.ps.set (s.ps.length - 1) (s.at_,true)}
def dA (s:cZ) (l:List Int):cZ×Int:=
 let r:=gq s l.reverse s.ts.length
 if r.2≠0 then(s,r.2)else if s.at_<r.1 then(s,14)else
  ({s with ts:=s.ts.take r.1,ps:=if s.ps.length=1 then[(0,false)]else s.ps.take (s.ps.length - 1)},0)
theorem jz {s:cZ}:∀(l:List Int) (n:Nat),s.at_≤n→(gq s l n).2=0→s.at_≤(gq s l n).1∧(gq s l n).1≤n
 |[],n,h,_=>⟨h,Nat.le_refl _⟩
 |x::r,n,h,he=>by
  rw[gq]at he ⊢
  split at he
  ·split at he
   ·rename_i h1 h2
    rw[if_pos h1,if_pos h2];exact jz r n h he
   ·cases he
  ·rename_i h1
   split at he
   ·cases he
   ·rename_i h2
    rw[if_neg h1,if_neg h2]
    have:=jz r (n - 1) Hb he
    omega
structure nw where
 kind:Int
 par:List Int
 res:List Int
 other:Bool
 zD:Bool
 deriving Inhabited
structure dq where
 aG:cZ
 fs:List nw
 results:List Int
 live:Bool
 broken:Int
def dq.top (c:dq):nw:=ix c.fs (c.fs.length - 1)
def iB (results:List Int):dq:=⟨⟨[],[(0,false),(0,false)],0⟩,[⟨0,[],results,false,true⟩],results,true,0⟩
def lS (c:dq) (s:cZ) (fs:List nw) (f:nw):dq:={c with aG:=gg (eX s) f.par,fs:=fs++[f],live:=f.zD}
def iu (c:dq) (op:Int) (par res:List Int):dq×Int:=
 if c.broken≠0 then(c,c.broken)else if op≠2∧op≠3∧op≠4 then(c,1)else if c.fs.length=0 then(c,16)else
  let a:=if op=4 then aT c.aG [1]else(c.aG,0)
  if a.2≠0 then({c with broken:=a.2},a.2)else
   let b:=aT a.1 par
   if b.2≠0 then({c with aG:=a.1,broken:=b.2},b.2)else(lS c b.1 c.fs ⟨op,par,res,false,c.live⟩,0)
def mH (c:dq):dq×Int:=
 if c.broken≠0 then(c,c.broken)else if c.fs.length=0∨c.top.kind≠4∨c.top.other=true then(c,16)else
  let a:=dA c.aG c.top.res
  if a.2≠0 then({c with broken:=a.2},a.2)else(lS c a.1 (c.fs.take (c.fs.length - 1)) {c.top with other:=true},0)
def jY (c:dq):dq×Int:=
 if c.broken≠0 then(c,c.broken)else if c.fs.length=0 then(c,16)else
  let a:=dA c.aG c.top.res
  if a.2≠0 then({c with broken:=a.2},a.2)else
   if c.top.kind=4∧c.top.other=false∧c.top.par≠c.top.res then({c with aG:=a.1,fs:=c.fs.take (c.fs.length - 1),broken:=12},12)else
    ({c with aG:=gg a.1 c.top.res,fs:=c.fs.take (c.fs.length - 1),live:=c.top.zD},0)
def bU (c:dq) (n:Int):List Int×Int:=
 if c.broken≠0 then([],c.broken)else if n<0∨c.fs.length≤n then([],15)else
  let f:=ix c.fs (c.fs.length - 1 - n.toNat)
  (if f.kind=3 then f.par else f.res,0)
def sq (c:dq):List Int:=if c.broken≠0 then[]else c.results
def fD (c:dq):dq:=if c.broken≠0∨c.fs.length=0 then c else{c with aG:=gA c.aG,live:=false}
end Go.Proofs.YtceedealggognaaGreatDoor
