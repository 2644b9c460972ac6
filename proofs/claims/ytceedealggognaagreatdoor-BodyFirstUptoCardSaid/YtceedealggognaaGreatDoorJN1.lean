/- Walks of the reference of layer 36: begins, to, done, after. -/
import Derived.Test.YtceedealggognaaGreatDoorJIo
import Derived.Test.YtceedealggognaaGreatDoorJR7
import Derived.Test.YtceedealggognaaGreatDoorJK2
namespace Go.Proofs.YtceedealggognaaGreatDoor
open Go.RowKit
def B8 (xs:List bP) (p:Nat):Bool:=p==0 || (ix xs p).op==11 || CC (ix xs (p - 1)).op
def C5 (xs:List bP) (p:Nat) (l:Int):Int:=(AJ xs p l).getD (-1)
def tt (xs:List bP) (p:Int):Nat→Nat→Int
 |0,_=>-1
 |f+1,i=>if ix (rQ xs) i=p then ix (vO xs) i else tt xs p f (i+1)
def CB (xs:List bP) (p:Nat):Int:=tt xs p xs.length 0
def wV (x:bP) (tv lv:Value):List Value:=[.int .i64 x.op,.int .i64 x.a,.int .i64 x.b,.int .u64 x.n,.int .i64 x.kind,.int .i64 x.val,.int .i64 x.index,tv,lv]
theorem kv.cells {F:Nat→Prop} {w:World} {b o:Nat} {x:bP} (h:kv F w b o x):∃pt ct pl cl,af F w (.slice pt x.types.length ct) x.types∧af F w (.slice pl x.labels.length cl) x.labels∧
  ∀j,j<9→w.cell? ⟨b,o+j,none⟩=(wV x (.slice pt x.types.length ct) (.slice pl x.labels.length cl))[j]?:=by
 obtain⟨tv,h1,h2⟩:=h.types
 obtain⟨lv,h3,h4⟩:=h.labels
 obtain⟨pt,ct,rfl,_⟩:=h2.slice
 obtain⟨pl,cl,rfl,_⟩:=h4.slice
 refine⟨pt,ct,pl,cl,h2,h4,fun j hj=>?_⟩
 match j,hj with
 |0,_=>exact h.op
 |1,_=>exact h.a
 |2,_=>exact h.b
 |3,_=>exact h.n
 |4,_=>exact h.kind
 |5,_=>exact h.val
 |6,_=>exact h.index
 |7,_=>exact h1
 |8,_=>exact h3
def Bo (xs:List bP) (p:Nat):List Int:=
 let x:=ix xs p
 if x.op=4 then(if 0≤ix (rQ xs) p then[(p:Int)+1,ix (rQ xs) p+1]else[(p:Int)+1,ix (vO xs) p])
 else if x.op=5 then[CB xs p]
 else if x.op=12 then[C5 xs p x.a]
 else if x.op=13 then[C5 xs p x.a,(p:Int)+1]
 else if x.op=14 then x.labels.map (C5 xs p)++[C5 xs p x.a]
 else if x.op=15∨x.op=0 then[]
 else if xs.length≤p+1 then[]else[(p:Int)+1]
def uL (xs:List bP):Nat→List (Nat×Nat)
 |0=>[]
 |k+1=>
  let l:=if B8 xs k then uL xs k++[(k,0)]else uL xs k
  l.set (l.length - 1) ((ix l (l.length - 1)).1,k+1)
def DB (fb:List (Nat×Nat)) (nx:Nat→List Int) (lv:Nat→Bool):List Bk:=(List.range fb.length).map (fun j=>⟨(ix fb j).1,(ix fb j).2,nx j,lv j⟩)
def ER (fb:List (Nat×Nat)) (q:Int):Int:=EP (DB fb (fun _=>[]) (fun _=>false)) q
def D7 (xs:List bP) (j:Nat):List Int:=Bo xs ((ix (uL xs xs.length) j).2 - 1)
def A6 (xs:List bP) (j:Nat):List Int:=(D7 xs j).map (ER (uL xs xs.length))
def Dg (xs:List bP):Prop:=∃j,j<(uL xs xs.length).length∧∃a∈D7 xs j,a<0
def zV (xs:List bP):List Bk:=
 let g:=DB (uL xs xs.length) (A6 xs) (fun _=>false)
 DB (uL xs xs.length) (A6 xs) (fun j=>(BV g).contains (j:Int))
def c0 (p:Nat×Nat) (nv:Value):List Value:=[.int .i64 p.1,.int .i64 p.2,nv,.bool false]
abbrev sl (g n:Nat):Value:=.slice (some ⟨g,0,none⟩) n n
theorem lh (n:Nat) (w:World) (hn:n≤1000000000000):
  Calls G.P 82 #[.int .i64 n] w fun e w'=>e=.returned (sl w.heap.size n)∧js w.heap.size w' (sl w.heap.size n) (List.replicate n (-1))∧Ext w w'∧w.heap.size<w'.heap.size:=by
 refine enter (G:=G) Tryz.func82 rfl Tryz.ntmps82 rfl ?_
 refine Bg ?_
 refine ah.e (bB.make (base:=w.heap.size) rfl rfl rfl rfl (by show 8*n≤_;omega) G0 (Nat.le_refl _)) rfl ?_
 rintro _ w1 ⟨rfl,hm1,hx1,hsz1⟩
 have hm2:js w.heap.size w1 (sl w.heap.size n) (List.replicate n 0):=by
  have h3:w1.ownsRow w.heap.size 3 1 (sl w.heap.size n) n (madeCells #[.int .i64 0] (n*1)).toList:=hm1
  rw[Nat.mul_one,toList_madeCells_one]at h3
  unfold js;simpa using h3
 refine Bg ?_
 refine Cd.loop (σ:=Nat) (fun s=>[(3,sl w.heap.size n),(8,.int .i64 n),(9,.int .i64 s)]) (fun s wr=>s≤n∧js w.heap.size wr (sl w.heap.size n) (List.replicate s (-1)++List.replicate (n - s) 0)∧Ext w wr∧w.heap.size<wr.heap.size) (fun s=>n - s) 0 bR ⟨Nat.zero_le _,by simpa using hm2,hx1,hsz1⟩ ?_
 rintro s wr ⟨hs,hown,hext,hsz⟩
 by_cases hlt:s<n
 ·have hcl:=hown.get (i:=s) (by simp;omega)
  refine Bg ?_
  refine ah.e0 (bB.store rfl rfl rfl rfl rfl hcl (hown.free _)) ?_
  rintro _ _ rfl
  obtain⟨hs1,hs2⟩:=hown.set s (-1)
  refine Bg ?_
  refine Fin.next (s+1) bR ⟨by omega,?_,hext.trans' hs2 (fun i hi e=>by omega),by simpa[World.setCell]using hsz⟩ Hb
  have e:(List.replicate s (-1:Int)++List.replicate (n - s) 0).set s (-1)=List.replicate (s+1) (-1)++List.replicate (n - (s+1)) 0:=by
   rw[List.set_append_right _ _ Hc,show n - s=(n - (s+1))+1 by omega,List.replicate_succ,List.length_replicate,Nat.sub_self,List.set_cons_zero,List.replicate_succ' (n:=s)]
   simp
  rw[e]at hs1;exact hs1
 ·obtain rfl:s=n:=by omega
  refine Bg ?_
  refine Fin.aA rfl rfl ⟨rfl,by simpa using hown,hext,hsz⟩
structure LS (w0 wr:World) (rb e1 e2 e3 e4 sb n:Nat) (E1 E2 E3 E4:List Int) (ov:Value) (m:Nat) (f:Nat→List Value):Prop where
 ext:Ext w0 wr
 ord:w0.heap.size≤rb∧rb<e1∧e1<e2∧e2<e3∧e3<e4∧e4<sb∧sb<wr.heap.size
 res:dZ wr rb [.slice none 0 0,.slice none 0 0,.slice none 0 0,.slice none 0 0] 139
 sh:dZ wr sb [sl e1 n,sl e2 n,sl e3 n,sl e4 n] 139
 o1:js w0.heap.size wr (sl e1 n) E1
 o2:js w0.heap.size wr (sl e2 n) E2
 o3:js w0.heap.size wr (sl e3 n) E3
 o4:js w0.heap.size wr (sl e4 n) E4
 op:eQ w0.heap.size 176 2 wr ov m f
 ob:∀k,ov.ownBlock=some k→sb<k
theorem LS.aD {S:Nat→Prop} {w0 wr w':World} {rb e1 e2 e3 e4 sb n:Nat} {E1 E2 E3 E4:List Int} {ov:Value} {m:Nat} {f:Nat→List Value} (h:LS w0 wr rb e1 e2 e3 e4 sb n E1 E2 E3 E4 ov m f) (hc:bA S wr w') (hS:∀k,S k→sb<k∧ov.ownBlock≠some k):LS w0 w' rb e1 e2 e3 e4 sb n E1 E2 E3 E4 ov m f:=by
 have ho:=h.ord
 have key:∀e,e≤sb→∀k,(sl e n).ownBlock=some k→¬S k:=fun e he k hk hs=>by
  have e2:e=k:=Option.some.inj hk
  have:=(hS k hs).1;omega
 exact⟨h.ext.trans' hc (fun i hi hs=>by have:=(hS i hs).1;omega),by have:=hc.size;omega,h.res.aD hc (fun hs=>by have:=(hS _ hs).1;omega),h.sh.aD hc (fun hs=>by have:=(hS _ hs).1;omega),
  bC h.o1 hc (key e1 Hb),bC h.o2 hc (key e2 Hb),bC h.o3 hc (key e3 Hb),bC h.o4 hc (key e4 Hb),h.op.aD hc (fun k hk hs=>(hS k hs).2 hk),h.ob⟩
theorem LS.DN {w0 wr:World} {rb e1 e2 e3 e4 sb n:Nat} {E1 E2 E3 E4:List Int} {ov:Value} {m:Nat} {f:Nat→List Value} (h:LS w0 wr rb e1 e2 e3 e4 sb n E1 E2 E3 E4 ov m f) (i:Nat) (a:Int):
  LS w0 (wr.setCell ⟨e1,0+i,none⟩ (.int .i64 a)) rb e1 e2 e3 e4 sb n (E1.set i a) E2 E3 E4 ov m f:=by
 obtain⟨hs1,hs2⟩:=h.o1.set i a
 have hz:(wr.setCell ⟨e1,0+i,none⟩ (.int .i64 a)).heap.size=wr.heap.size:=by simp[World.setCell]
 have ho:=h.ord
 exact⟨h.ext.trans' hs2 (fun q hq e=>by omega),by rw[hz];exact ho,h.res.aD hs2 (fun e=>by omega),h.sh.aD hs2 (fun e=>by omega),hs1,bC h.o2 hs2 (fun q hq e=>by have e2:e2=q:=Option.some.inj hq;have:=h.ord;omega),bC h.o3 hs2 (fun q hq e=>by have e2:e3=q:=Option.some.inj hq;have:=h.ord;omega),bC h.o4 hs2 (fun q hq e=>by have e2:e4=q:=Option.some.inj hq;have:=h.ord;omega),h.op.aD hs2 (fun q hq e=>by have:=h.ob q hq;omega),h.ob⟩
theorem LS.DO {w0 wr:World} {rb e1 e2 e3 e4 sb n:Nat} {E1 E2 E3 E4:List Int} {ov:Value} {m:Nat} {f:Nat→List Value} (h:LS w0 wr rb e1 e2 e3 e4 sb n E1 E2 E3 E4 ov m f) (i:Nat) (a:Int):
  LS w0 (wr.setCell ⟨e2,0+i,none⟩ (.int .i64 a)) rb e1 e2 e3 e4 sb n E1 (E2.set i a) E3 E4 ov m f:=by
 obtain⟨hs1,hs2⟩:=h.o2.set i a
 have hz:(wr.setCell ⟨e2,0+i,none⟩ (.int .i64 a)).heap.size=wr.heap.size:=by simp[World.setCell]
 have ho:=h.ord
 exact⟨h.ext.trans' hs2 (fun q hq e=>by omega),by rw[hz];exact ho,h.res.aD hs2 (fun e=>by omega),h.sh.aD hs2 (fun e=>by omega),bC h.o1 hs2 (fun q hq e=>by have e2:e1=q:=Option.some.inj hq;have:=h.ord;omega),hs1,bC h.o3 hs2 (fun q hq e=>by have e2:e3=q:=Option.some.inj hq;have:=h.ord;omega),bC h.o4 hs2 (fun q hq e=>by have e2:e4=q:=Option.some.inj hq;have:=h.ord;omega),h.op.aD hs2 (fun q hq e=>by have:=h.ob q hq;omega),h.ob⟩
theorem LS.DP {w0 wr:World} {rb e1 e2 e3 e4 sb n:Nat} {E1 E2 E3 E4:List Int} {ov:Value} {m:Nat} {f:Nat→List Value} (h:LS w0 wr rb e1 e2 e3 e4 sb n E1 E2 E3 E4 ov m f) (i:Nat) (a:Int):
  LS w0 (wr.setCell ⟨e3,0+i,none⟩ (.int .i64 a)) rb e1 e2 e3 e4 sb n E1 E2 (E3.set i a) E4 ov m f:=by
 obtain⟨hs1,hs2⟩:=h.o3.set i a
 have hz:(wr.setCell ⟨e3,0+i,none⟩ (.int .i64 a)).heap.size=wr.heap.size:=by simp[World.setCell]
 have ho:=h.ord
 exact⟨h.ext.trans' hs2 (fun q hq e=>by omega),by rw[hz];exact ho,h.res.aD hs2 (fun e=>by omega),h.sh.aD hs2 (fun e=>by omega),bC h.o1 hs2 (fun q hq e=>by have e2:e1=q:=Option.some.inj hq;have:=h.ord;omega),bC h.o2 hs2 (fun q hq e=>by have e2:e2=q:=Option.some.inj hq;have:=h.ord;omega),hs1,bC h.o4 hs2 (fun q hq e=>by have e2:e4=q:=Option.some.inj hq;have:=h.ord;omega),h.op.aD hs2 (fun q hq e=>by have:=h.ob q hq;omega),h.ob⟩
theorem LS.DQ {w0 wr:World} {rb e1 e2 e3 e4 sb n:Nat} {E1 E2 E3 E4:List Int} {ov:Value} {m:Nat} {f:Nat→List Value} (h:LS w0 wr rb e1 e2 e3 e4 sb n E1 E2 E3 E4 ov m f) (i:Nat) (a:Int):
  LS w0 (wr.setCell ⟨e4,0+i,none⟩ (.int .i64 a)) rb e1 e2 e3 e4 sb n E1 E2 E3 (E4.set i a) ov m f:=by
 obtain⟨hs1,hs2⟩:=h.o4.set i a
 have hz:(wr.setCell ⟨e4,0+i,none⟩ (.int .i64 a)).heap.size=wr.heap.size:=by simp[World.setCell]
 have ho:=h.ord
 exact⟨h.ext.trans' hs2 (fun q hq e=>by omega),by rw[hz];exact ho,h.res.aD hs2 (fun e=>by omega),h.sh.aD hs2 (fun e=>by omega),bC h.o1 hs2 (fun q hq e=>by have e2:e1=q:=Option.some.inj hq;have:=h.ord;omega),bC h.o2 hs2 (fun q hq e=>by have e2:e2=q:=Option.some.inj hq;have:=h.ord;omega),bC h.o3 hs2 (fun q hq e=>by have e2:e3=q:=Option.some.inj hq;have:=h.ord;omega),hs1,h.op.aD hs2 (fun q hq e=>by have:=h.ob q hq;omega),h.ob⟩
theorem LS.DR {w0 wr:World} {rb e1 e2 e3 e4 sb n:Nat} {E1 E2 E3 E4:List Int} {g cap m:Nat} {f:Nat→List Value} (h:LS w0 wr rb e1 e2 e3 e4 sb n E1 E2 E3 E4 (.slice (some ⟨g,0,none⟩) m cap) m f) {i j:Nat} (hi:i<m) (hj:j<2) (u:Value):
  LS w0 (wr.setCell ⟨g,0+i*2+j,none⟩ u) rb e1 e2 e3 e4 sb n E1 E2 E3 E4 (.slice (some ⟨g,0,none⟩) m cap) m (nL f i ((f i).set j u)):=by
 obtain⟨hs1,hs2⟩:=h.op.set hi hj u
 have hz:(wr.setCell ⟨g,0+i*2+j,none⟩ u).heap.size=wr.heap.size:=by simp[World.setCell]
 have ho:=h.ord
 have hg:=h.ob g rfl
 have key:∀e,e≤sb→∀k,(sl e n).ownBlock=some k→¬k=g:=fun e he k hk hs=>by
  have e2:e=k:=Option.some.inj hk
  omega
 exact⟨h.ext.trans' hs2 (fun q hq e=>by omega),by rw[hz];exact ho,h.res.aD hs2 (fun e=>by omega),h.sh.aD hs2 (fun e=>by omega),
  bC h.o1 hs2 (key e1 Hb),bC h.o2 hs2 (key e2 Hb),bC h.o3 hs2 (key e3 Hb),bC h.o4 hs2 (key e4 Hb),hs1,h.ob⟩
theorem LS.app {w0 wr w':World} {rb e1 e2 e3 e4 sb n:Nat} {E1 E2 E3 E4:List Int} {ov v':Value} {m:Nat} {f f':Nat→List Value} (h:LS w0 wr rb e1 e2 e3 e4 sb n E1 E2 E3 E4 ov m f) (ho:eQ w0.heap.size 176 2 w' v' (m+1) f') (hc:bA (fun k=>ov.ownBlock=some k) wr w') (hb:v'.ownBlock=ov.ownBlock∨v'.ownBlock=some wr.heap.size):
  LS w0 w' rb e1 e2 e3 e4 sb n E1 E2 E3 E4 v' (m+1) f':=by
 have hor:=h.ord
 have hn:∀k,k≤sb→ov.ownBlock≠some k:=fun k hk e=>by have:=h.ob k e;omega
 have key:∀e,e≤sb→∀k,(sl e n).ownBlock=some k→¬ov.ownBlock=some k:=fun e he k hk=>by
  have e2:e=k:=Option.some.inj hk
  exact hn k Hb
 refine⟨h.ext.trans' hc (fun i hi hs=>by have:=h.ob i hs;omega),by have:=hc.size;omega,h.res.aD hc (hn _ Hb),h.sh.aD hc (hn _ Hb),
  bC h.o1 hc (key e1 Hb),bC h.o2 hc (key e2 Hb),bC h.o3 hc (key e3 Hb),bC h.o4 hc (key e4 Hb),ho,fun k hk=>?_⟩
 rcases hb with e|e
 ·rw[e]at hk;exact h.ob k hk
 ·rw[e]at hk;cases hk;omega
theorem LS.pop {w0 wr:World} {rb e1 e2 e3 e4 sb n:Nat} {E1 E2 E3 E4:List Int} {g cap m:Nat} {f:Nat→List Value} (h:LS w0 wr rb e1 e2 e3 e4 sb n E1 E2 E3 E4 (.slice (some ⟨g,0,none⟩) (m+1) cap) (m+1) f):LS w0 wr rb e1 e2 e3 e4 sb n E1 E2 E3 E4 (.slice (some ⟨g,0,none⟩) m cap) m f:=
 ⟨h.ext,h.ord,h.res,h.sh,h.o1,h.o2,h.o3,h.o4,h.op.pop,h.ob⟩
theorem LS.congr {w0 wr:World} {rb e1 e2 e3 e4 sb n:Nat} {E1 E2 E3 E4:List Int} {ov:Value} {m:Nat} {f g:Nat→List Value} (h:LS w0 wr rb e1 e2 e3 e4 sb n E1 E2 E3 E4 ov m f) (e:∀i,i<m→f i=g i):LS w0 wr rb e1 e2 e3 e4 sb n E1 E2 E3 E4 ov m g:=
 ⟨h.ext,h.ord,h.res,h.sh,h.o1,h.o2,h.o3,h.o4,h.op.congr e,h.ob⟩
def qX (xs:List bP) (i:Nat) (j:Nat):List Value:=[.int .i64 (ix (au xs i) j),.bool (ja xs (ix (au xs i) j) i)]
def x9 (w:World) (xs:List bP) (e:Ending) (w':World):Prop:=
  Ext w w'∧(((du xs).2≠0∧e=.returned (.tuple #[.agg #[.slice none 0 0,.slice none 0 0,.slice none 0 0,.slice none 0 0],.int .i64 (du xs).1,.int .i64 (du xs).2]))∨
   ((du xs).2=0∧∃v1 v2 v3 v4,e=.returned (.tuple #[.agg #[v1,v2,v3,v4],.int .i64 (du xs).1,.int .i64 (du xs).2])∧js w.heap.size w' v1 (vO xs)∧js w.heap.size w' v2 (rQ xs)∧js w.heap.size w' v3 (zZ xs)∧js w.heap.size w' v4 (BJ xs)))
end Go.Proofs.YtceedealggognaaGreatDoor
