/- Rows: out of the laws' walks; what every seat needs. -/
import Derived.Test.YtceedealggognaaGreatDoorRows
import Derived.Test.YtceedealggognaaGreatDoorJR7
import Derived.ProofKit
import Derived.OpenShut
import Derived.Test.YtceedealggognaaGreatDoorJIn
import Derived.Test.YtceedealggognaaGreatDoorJSh
namespace Go.Proofs.YtceedealggognaaGreatDoor
open Go.ChangeShapes Go.WideShapes Go.ChangeAt Go.RowKit
theorem own:ownKnob Tryz.prog.godebug=none:=by kernel_rfl
theorem laidOut:laidOutB Tryz.prog=true:=by kernel_rfl
section
variable {H:Type} {enc:TypeId×Value→H} {P:Program}
def vc (P:Program) (ts:List TypeId):Bool:=ts.all fun t=>P.readableRec t && decide (t<P.types.size)
theorem kX (hl:laidOutB P=true) {W W':World} (hb:Below W.heap.size W W') {sp:Nat→Bool}:∀{ts:List TypeId} {vs:List Value} {ds:List (DataW H)} {ps:List MemPlace},vc P ts=true→
  DataW.TrodAll enc P W 0 (fun _=>true) true ts vs ds ps→(∀x∈ps,x.block<W.heap.size)→(∀x∈ps,sp x.block=true)→DataW.TrodAll enc P W' 0 sp true ts vs ds ps
 |[],_,_,_,_,h,_,_=>by
  obtain⟨rfl,rfl,rfl⟩:=trodAll_nil h
  exact trodAll_mk0
 |t::ts,_,_,_,hr,h,h1,h2=>by
  obtain⟨v,vs,d,ds,p,q,rfl,rfl,rfl,ht,hts⟩:=trodAll_cons h
  simp only[vc,List.all_cons,Bool.and_eq_true,decide_eq_true_eq]at hr
  refine trodAll_cons_mk (Go.WideElems.Trod_stays hl hr.1.1 hr.1.2 ht (fun x hx=>hb.same (h1 x (by simp[hx]))) (fun x hx=>h2 x (by simp[hx]))) (kX hl hb (by simpa[vc]using hr.2) hts (fun x hx=>h1 x (by simp[hx])) (fun x hx=>h2 x (by simp[hx])))
theorem rh {f:Func} {s:ChangeSpec} {apart fresh handsOn again:Bool} {W W':World} {args:Array Value} {ds gs:List (DataW H)} {before:List MemPlace} {tb:TypeId}
  (hl:laidOutB P=true) (hv:s.vars=[]) (hr:f.resultTypes=#[tb]) (hb:P.underlying tb=some .bool) (hp:vc P f.params.toList=true)
  (hW:DataW.Whole enc P f.params.toList s.vars apart W args.toList ds gs before) (hfn:gs=[]→s.fn H ds={results:=[.lit (.bool true)],args:=ds}) (hx:Below W.heap.size W W'):
  s.post enc P f apart fresh handsOn again W args (.bool true) W':=by
 have hlt:=hW.lt
 have hW':=hW
 obtain⟨pa,pv,hA,hV,rfl,hz,hn⟩:=hW
 rw[hv]at hV
 obtain⟨rfl,rfl⟩:=trodVars_none hV
 have e:s.fn H (ds++[])={results:=[.lit (.bool true)],args:=ds}:=by rw[List.append_nil];exact hfn rfl
 simp only[List.append_nil]at hlt hz hn hW'
 have hres:∀b sp hd,DataW.TrodAll enc P W' b sp hd f.resultTypes.toList ((Value.bool true).resultList f.resultTypes.size) [.lit (.bool true)] []:=fun b sp hd=>by
  rw[hr];exact trodAll_cons_mk (shut_bool hb _) trodAll_mk0
 have hargs:∀sp:Nat→Bool,(∀p∈pa,sp p.block=true)→DataW.TrodAll enc P W' 0 sp true f.params.toList args.toList ds pa:=fun sp hsp=>kX hl hx hp hA hlt hsp
 have hvars:∀sp:Nat→Bool,DataW.TrodVars enc P W' sp s.vars [] []:=fun sp=>by rw[hv];rfl
 refine⟨ds,[],pa,[],pa,[],hW',by rw[e];exact hres _ _ _,by rw[e];exact hargs _ (fun p hp=>by simpa using hlt p hp),by rw[e];exact hvars _,hx.frame _,fun _=>⟨?_,[.lit (.bool true)]++ds,[],([]++pa)++[],⟨[]++pa,[],?_,hvars _,rfl,?_,?_⟩,?_⟩⟩
 ·exact ok_one hr rfl (okWide_bool_mk hb _)
 ·exact trodAll_append (hargs _ (fun _ _=>rfl)) (hres _ _ _)
 ·intro b off hp
  have hp':MemPlace.cell b off∈pa:=by simpa using hp
  rw[hx.frozen (hlt _ hp')]
  exact hz b off hp'
 ·intro ha
  simpa using hn ha
 ·intro p hp _
  simpa using hp
theorem m7 {P:Program}:∀(ts us:List TypeId) (ds:List (DataW H)),∀n∈DataW.weightsEach P ts ds,n∈DataW.weightsEach P (ts++us) ds
 |[],_,_,n,h=>by simp[DataW.weightsEach]at h
 |_::_,_,[],n,h=>by simp[DataW.weightsEach]at h
 |t::ts,us,d::ds,n,h=>by
  simp only[DataW.weightsEach,List.cons_append,List.mem_append]at h ⊢
  rcases h with h|h
  ·exact .inl h
  ·exact .inr (m7 ts us ds n h)
end
section
variable {H:Type} {enc:TypeId×Value→H} {w:World} {t:TypeId} {v:Value} {d:DataW H} {ps:List MemPlace}
set_option maxRecDepth 100000
theorem Ap (h:DataW.Trod enc G.P w 0 (fun _=>true) true t v d ps) (hw:∀n∈d.weights G.P t,n≤reachBytes):Tr w t v.cells.toList:=by
 obtain⟨fuel,h⟩:=h
 exact⟨H,enc,_,_,fuel,_,h,hw⟩
theorem tC {bs:Nat} {fs:Array Field} (ht:G.P.underlying t=some (.struct fs)) (ho:Value.okWide G.P w .any bs t v) (h:DataW.Trod enc G.P w 0 (fun _=>true) true t v d ps) (hw:∀n∈d.weights G.P t,n≤reachBytes):∃cs:List Value,v=.agg cs.toArray∧cs.length=G.P.cellsOf t∧Tr w t cs:=by
 obtain⟨cs,rfl,hcl⟩:=okWide_struct ht ho
 exact⟨cs.toList,by simp,by simpa using hcl,Ap h hw⟩
end
open Go.RowKit
def AX (xs:List bZ) (p:Nat):Bool:=p==0 || (ix xs p).op==11 || Bm (ix xs (p - 1)).op
def BU (xs:List bZ) (p:Nat) (l:Int):Int:=(zx xs p l).getD (-1)
def sn (xs:List bZ) (p:Int):Nat→Nat→Int
 |0,_=>-1
 |f+1,i=>if ix (qN xs) i=p then ix (uO xs) i else sn xs p f (i+1)
def Bl (xs:List bZ) (p:Nat):Int:=sn xs p xs.length 0
def AG (x:bZ) (tv lv:Value):List Value:=[.int .i64 x.op,.int .i64 x.a,.int .i64 x.b,.int .u64 x.n,.int .i64 x.kind,.int .i64 x.val,.int .i64 x.index,tv,lv]
theorem kb.cells {F:Nat→Prop} {w:World} {b o:Nat} {x:bZ} (h:kb F w b o x):∃pt ct pl cl,af F w (.slice pt x.types.length ct) x.types∧af F w (.slice pl x.labels.length cl) x.labels∧
  ∀j,j<9→w.cell? ⟨b,o+j,none⟩=(AG x (.slice pt x.types.length ct) (.slice pl x.labels.length cl))[j]?:=by
 obtain⟨tv,h1,h2⟩:=h.types
 obtain⟨lv,h3,h4⟩:=h.labels
 obtain⟨pt,ct,rfl,_⟩:=h2.slice
 obtain⟨pl,cl,rfl,_⟩:=h4.slice
 refine⟨pt,ct,pl,cl,h2,h4,fun j hj=>?_⟩
 match j,hj with
 |0,_=>exact h.op
 |1,_=>exact h.a
 |2,_=>exact h.b
 |3,_=>exact h.n
 |4,_=>exact h.kind
 |5,_=>exact h.val
 |6,_=>exact h.index
 |7,_=>exact h1
 |8,_=>exact h3
def An (xs:List bZ) (p:Nat):List Int:=
 let x:=ix xs p
 if x.op=4 then(if 0≤ix (qN xs) p then[(p:Int)+1,ix (qN xs) p+1]else[(p:Int)+1,ix (uO xs) p])
 else if x.op=5 then[Bl xs p]
 else if x.op=12 then[BU xs p x.a]
 else if x.op=13 then[BU xs p x.a,(p:Int)+1]
 else if x.op=14 then x.labels.map (BU xs p)++[BU xs p x.a]
 else if x.op=15∨x.op=0 then[]
 else if xs.length≤p+1 then[]else[(p:Int)+1]
def tJ (xs:List bZ):Nat→List (Nat×Nat)
 |0=>[]
 |k+1=>
  let l:=if AX xs k then tJ xs k++[(k,0)]else tJ xs k
  l.set (l.length - 1) ((ix l (l.length - 1)).1,k+1)
def Ct (fb:List (Nat×Nat)) (nx:Nat→List Int) (lv:Nat→Bool):List Bk:=(List.range fb.length).map (fun j=>⟨(ix fb j).1,(ix fb j).2,nx j,lv j⟩)
def DF (fb:List (Nat×Nat)) (q:Int):Int:=DE (Ct fb (fun _=>[]) (fun _=>false)) q
def CQ (xs:List bZ) (j:Nat):List Int:=An xs ((ix (tJ xs xs.length) j).2 - 1)
def zW (xs:List bZ) (j:Nat):List Int:=(CQ xs j).map (DF (tJ xs xs.length))
def B8 (xs:List bZ):Prop:=∃j,j<(tJ xs xs.length).length∧∃a∈CQ xs j,a<0
def yI (xs:List bZ):List Bk:=
 let g:=Ct (tJ xs xs.length) (zW xs) (fun _=>false)
 Ct (tJ xs xs.length) (zW xs) (fun j=>(AQ g).contains (j:Int))
def c0 (p:Nat×Nat) (nv:Value):List Value:=[.int .i64 p.1,.int .i64 p.2,nv,.bool false]
theorem rk (xs:List bZ) (k:Nat):(av xs k).Pairwise (·< ·):=by
 induction k with
 |zero=>simp[av]
 |succ k ih=>
  have h1:∀l:List Int,l=av xs k→((if dY (ix xs k).op then l++[(k:Int)]else l):List Int).Pairwise (·< ·):=by
   rintro l rfl
   split
   ·rw[List.pairwise_append]
    refine⟨ih,by simp,fun a ha b hb=>?_⟩
    simp at hb;subst hb;exact(oJ ha).2
   ·exact ih
  have h2:∀l:List Int,l.Pairwise (·< ·)→(if(ix xs k).op=11∧0<l.length then l.dropLast else l).Pairwise (·< ·):=by
   intro l hl
   split
   ·exact hl.sublist (List.dropLast_sublist _)
   ·exact hl
  exact h2 _ (h1 _ rfl)
theorem wo {xs:List bZ} {k i j:Nat} (hi:i<(av xs k).length) (hj:j<(av xs k).length) (h:ix (av xs k) i=ix (av xs k) j):i=j:=by
 rw[cI hi,cI hj]at h
 have hs:=rk xs k
 rw[List.pairwise_iff_getElem]at hs
 rcases Nat.lt_trichotomy i j with h1|h1|h1
 ·have:=hs i j hi hj h1;omega
 ·exact h1
 ·have:=hs j i hj hi h1;omega
theorem mU (xs:List bZ) (h i:Nat):gK xs h (i+1)=(gK xs h i || ja xs h i):=by
 unfold gK;rw[List.range_succ,List.any_append];simp
def iN (xs:List bZ) (a:Int) (i:Nat):Bool:=decide (0≤a) && gK xs a.toNat i
theorem kn {xs:List bZ} {a:Int} {i:Nat} (h:(ix xs i).op≠5):iN xs a (i+1)=iN xs a i:=by
 unfold iN;rw[mU]
 have:ja xs a.toNat i=false:=by simp[ja,h]
 rw[this,Bool.or_false]
theorem vI {xs:List bZ} {i:Nat}:iN xs (i:Int) (i+1)=false:=by
 unfold iN
 rw[qM (fun j hj=>by simp only[ja,decide_eq_false_iff_not,Int.toNat_natCast];omega)]
 simp
theorem tL {xs:List bZ} {i h:Nat} (h5:(ix xs i).op=5) (hz:0<(av xs i).length) (hl:eX (av xs i)=h) (hi:h<i):iN xs (h:Int) (i+1)=true:=by
 unfold iN
 rw[so (i:=i) FY (by simp[ja,h5,hz,hl,hi])]
 simp
theorem n7 {xs:List bZ} {i:Nat} {a:Int} (hl:eX (av xs i)≠a):iN xs a (i+1)=iN xs a i:=by
 unfold iN
 by_cases h0:0≤a
 ·rw[mU]
  have:ja xs a.toNat i=false:=by
   simp only[ja,decide_eq_false_iff_not]
   rintro⟨_,_,_,h⟩
   rw[Int.toNat_of_nonneg h0]at h;exact hl h
  rw[this,Bool.or_false]
 ·simp[h0]
theorem lA {xs:List bZ} {i:Nat} (h:dY (ix xs i).op=true):av xs (i+1)=av xs i++[(i:Int)]:=by
 have h11:(ix xs i).op≠11:=by simp[dY]at h;omega
 show jy _ _ _=_
 unfold jy;simp[h,h11]
theorem mJ {xs:List bZ} {i:Nat} (h:(ix xs i).op=11) (hz:0<(av xs i).length):av xs (i+1)=(av xs i).dropLast:=by
 show jy _ _ _=_
 unfold jy;simp[h,dY]
 intro h0;simp[h0]at hz
theorem gF {xs:List bZ} {i:Nat} (h:dY (ix xs i).op=false) (h11:(ix xs i).op≠11):av xs (i+1)=av xs i:=by
 show jy _ _ _=_
 unfold jy;simp[h,h11]
theorem sN {xs:List bZ}:∀(i:Nat),(∀j,j<i→gj xs j=none)→(av xs i).length≤32
 |0,_=>by simp[av]
 |i+1,h=>by
  have ih:=sN i (fun j hj=>h j FY)
  have hc:=h i FY
  cases ho:dY (ix xs i).op with
  |true=>
   rw[lA ho,List.length_append]
   unfold gj at hc
   dsimp only at hc
   split at hc
   ·cases hc
   ·split at hc
    ·cases hc
    ·split at hc
     ·cases hc
     ·rename_i h32;simp only[ho,true_and]at h32;simp;omega
  |false=>
   by_cases h11:(ix xs i).op=11
   ·by_cases hz:0<(av xs i).length
    ·rw[mJ h11 hz];simp;omega
    ·have:av xs (i+1)=av xs i:=by
      show jy _ _ _=_
      unfold jy;simp[ho];intro _ h;simp[h]at hz
     rw[this];exact ih
   ·rw[gF ho h11];exact ih
def ft (xs:List bZ):Nat→List Int
 |0=>List.replicate xs.length (-1)
 |k+1=>(ft xs k).set k (av xs k).length
def gl (xs:List bZ):Nat→List Int
 |0=>List.replicate xs.length (-1)
 |k+1=>(gl xs k).set k (eX (av xs k))
theorem qL (xs:List bZ) (k:Nat):(ft xs k).length=xs.length:=by induction k with
 |zero=>simp[ft]
 |succ k ih=>simp[ft,ih]
theorem sx (xs:List bZ) (k:Nat):(gl xs k).length=xs.length:=by induction k with
 |zero=>simp[gl]
 |succ k ih=>simp[gl,ih]
def yM (xs:List bZ):List Int:=ft xs xs.length
def AF (xs:List bZ):List Int:=gl xs xs.length
theorem Fin.mf {fn:Func} {R:Ending→World→Prop} {n:Nat} {E:Env} {w:World} {a T t u b Tb s:Nat} {ti:TI} {v x:Value} {cs:List Value} (hr:fn.results=#[.cell a T,.tmp t,.tmp u]) (ha:lk E a=some (.pointer (some ⟨b,0,none⟩))) (hT:G.ty T=some ti) (hag:ti.agg=true) (hsz:ti.size=s) (hb:eA w b cs Tb) (hl:cs.length=s)
  (hv:lk E t=some v) (hx:lk E u=some x) (hR:R (.returned (.tuple #[.agg cs.toArray,v,x])) w):Fin (bodyPost G.P fn R) n .ret E w:=
 Fin.mY (.inl rfl) (fun ac hac=>by
  have h1:=(G.fx T ti hT).agg w
  have h2:=(G.fx T ti hT).size w
  rw[hag]at h1
  subst hl
  have h3:=run_loadCells (P:=G.P) (w:=w) (bk:=b) cs 0 0 #[] (fun j hj=>by
   have:=hb.cell (j:=j) (List.getElem?_eq_getElem hj)
   rw[List.getElem?_eq_getElem hj,←this];simp)
  have g1:ac.tmps[a]?.getD undef=.pointer (some ⟨b,0,none⟩):=by have:=(hac.eq a _ ha).2;simpa using this
  have g2:ac.tmps[t]?.getD undef=v:=by have:=(hac.eq t _ hv).2;simpa using this
  have g3:ac.tmps[u]?.getD undef=x:=by have:=(hac.eq u _ hx).2;simpa using this
  simp[results,hr,g1,g2,g3,asAddr,loadVar,h1,h2,hsz,loadCells,h3]) hR
abbrev sl (g n:Nat):Value:=.slice (some ⟨g,0,none⟩) n n
theorem kG (n:Nat) (w:World) (hn:n≤1000000000000):
  Calls G.P 82 #[.int .i64 n] w fun e w'=>e=.returned (sl w.heap.size n)∧jf w.heap.size w' (sl w.heap.size n) (List.replicate n (-1))∧Ext w w'∧w.heap.size<w'.heap.size:=by
 refine enter (G:=G) Tryz.func82 rfl Tryz.ntmps82 rfl ?_
 refine Ah ?_
 refine ah.e (bC.make (base:=w.heap.size) rfl rfl rfl rfl (by show 8*n≤_;omega) FN (Nat.le_refl _)) rfl ?_
 rintro _ w1 ⟨rfl,hm1,hx1,hsz1⟩
 have hm2:jf w.heap.size w1 (sl w.heap.size n) (List.replicate n 0):=by
  have h3:w1.ownsRow w.heap.size 3 1 (sl w.heap.size n) n (madeCells #[.int .i64 0] (n*1)).toList:=hm1
  rw[Nat.mul_one,toList_madeCells_one]at h3
  unfold jf;simpa using h3
 refine Ah ?_
 refine Cd.loop (σ:=Nat) (fun s=>[(3,sl w.heap.size n),(8,.int .i64 n),(9,.int .i64 s)]) (fun s wr=>s≤n∧jf w.heap.size wr (sl w.heap.size n) (List.replicate s (-1)++List.replicate (n - s) 0)∧Ext w wr∧w.heap.size<wr.heap.size) (fun s=>n - s) 0 bP ⟨Nat.zero_le _,by simpa using hm2,hx1,hsz1⟩ ?_
 rintro s wr ⟨hs,hown,hext,hsz⟩
 by_cases hlt:s<n
 ·have hcl:=hown.get (i:=s) (by simp;omega)
  refine Ah ?_
  refine ah.e0 (bC.store rfl rfl rfl rfl rfl hcl (hown.free _)) ?_
  rintro _ _ rfl
  obtain⟨hs1,hs2⟩:=hown.set s (-1)
  refine Ah ?_
  refine Fin.next (s+1) bP ⟨by omega,?_,hext.trans' hs2 (fun i hi e=>by omega),by simpa[World.setCell]using hsz⟩ FY
  have e:(List.replicate s (-1:Int)++List.replicate (n - s) 0).set s (-1)=List.replicate (s+1) (-1)++List.replicate (n - (s+1)) 0:=by
   rw[List.set_append_right _ _ FZ,show n - s=(n - (s+1))+1 by omega,List.replicate_succ,List.length_replicate,Nat.sub_self,List.set_cons_zero,List.replicate_succ' (n:=s)]
   simp
  rw[e]at hs1;exact hs1
 ·obtain rfl:s=n:=by omega
  refine Ah ?_
  refine Fin.aA rfl rfl ⟨rfl,by simpa using hown,hext,hsz⟩
structure LS (w0 wr:World) (rb e1 e2 e3 e4 sb n:Nat) (E1 E2 E3 E4:List Int) (ov:Value) (m:Nat) (f:Nat→List Value):Prop where
 ext:Ext w0 wr
 ord:w0.heap.size≤rb∧rb<e1∧e1<e2∧e2<e3∧e3<e4∧e4<sb∧sb<wr.heap.size
 res:eA wr rb [.slice none 0 0,.slice none 0 0,.slice none 0 0,.slice none 0 0] 139
 sh:eA wr sb [sl e1 n,sl e2 n,sl e3 n,sl e4 n] 139
 o1:jf w0.heap.size wr (sl e1 n) E1
 o2:jf w0.heap.size wr (sl e2 n) E2
 o3:jf w0.heap.size wr (sl e3 n) E3
 o4:jf w0.heap.size wr (sl e4 n) E4
 op:eJ w0.heap.size 176 2 wr ov m f
 ob:∀k,ov.ownBlock=some k→sb<k
theorem LS.aB {S:Nat→Prop} {w0 wr w':World} {rb e1 e2 e3 e4 sb n:Nat} {E1 E2 E3 E4:List Int} {ov:Value} {m:Nat} {f:Nat→List Value} (h:LS w0 wr rb e1 e2 e3 e4 sb n E1 E2 E3 E4 ov m f) (hc:bz S wr w') (hS:∀k,S k→sb<k∧ov.ownBlock≠some k):LS w0 w' rb e1 e2 e3 e4 sb n E1 E2 E3 E4 ov m f:=by
 have ho:=h.ord
 have key:∀e,e≤sb→∀k,(sl e n).ownBlock=some k→¬S k:=fun e he k hk hs=>by
  have e2:e=k:=Option.some.inj hk
  have:=(hS k hs).1;omega
 exact⟨h.ext.trans' hc (fun i hi hs=>by have:=(hS i hs).1;omega),by have:=hc.size;omega,h.res.aB hc (fun hs=>by have:=(hS _ hs).1;omega),h.sh.aB hc (fun hs=>by have:=(hS _ hs).1;omega),
  bA h.o1 hc (key e1 FY),bA h.o2 hc (key e2 FY),bA h.o3 hc (key e3 FY),bA h.o4 hc (key e4 FY),h.op.aB hc (fun k hk hs=>(hS k hs).2 hk),h.ob⟩
theorem LS.CB {w0 wr:World} {rb e1 e2 e3 e4 sb n:Nat} {E1 E2 E3 E4:List Int} {ov:Value} {m:Nat} {f:Nat→List Value} (h:LS w0 wr rb e1 e2 e3 e4 sb n E1 E2 E3 E4 ov m f) (i:Nat) (a:Int):
  LS w0 (wr.setCell ⟨e1,0+i,none⟩ (.int .i64 a)) rb e1 e2 e3 e4 sb n (E1.set i a) E2 E3 E4 ov m f:=by
 obtain⟨hs1,hs2⟩:=h.o1.set i a
 have hz:(wr.setCell ⟨e1,0+i,none⟩ (.int .i64 a)).heap.size=wr.heap.size:=by simp[World.setCell]
 have ho:=h.ord
 exact⟨h.ext.trans' hs2 (fun q hq e=>by omega),by rw[hz];exact ho,h.res.aB hs2 (fun e=>by omega),h.sh.aB hs2 (fun e=>by omega),hs1,bA h.o2 hs2 (fun q hq e=>by have e2:e2=q:=Option.some.inj hq;have:=h.ord;omega),bA h.o3 hs2 (fun q hq e=>by have e2:e3=q:=Option.some.inj hq;have:=h.ord;omega),bA h.o4 hs2 (fun q hq e=>by have e2:e4=q:=Option.some.inj hq;have:=h.ord;omega),h.op.aB hs2 (fun q hq e=>by have:=h.ob q hq;omega),h.ob⟩
theorem LS.CC {w0 wr:World} {rb e1 e2 e3 e4 sb n:Nat} {E1 E2 E3 E4:List Int} {ov:Value} {m:Nat} {f:Nat→List Value} (h:LS w0 wr rb e1 e2 e3 e4 sb n E1 E2 E3 E4 ov m f) (i:Nat) (a:Int):
  LS w0 (wr.setCell ⟨e2,0+i,none⟩ (.int .i64 a)) rb e1 e2 e3 e4 sb n E1 (E2.set i a) E3 E4 ov m f:=by
 obtain⟨hs1,hs2⟩:=h.o2.set i a
 have hz:(wr.setCell ⟨e2,0+i,none⟩ (.int .i64 a)).heap.size=wr.heap.size:=by simp[World.setCell]
 have ho:=h.ord
 exact⟨h.ext.trans' hs2 (fun q hq e=>by omega),by rw[hz];exact ho,h.res.aB hs2 (fun e=>by omega),h.sh.aB hs2 (fun e=>by omega),bA h.o1 hs2 (fun q hq e=>by have e2:e1=q:=Option.some.inj hq;have:=h.ord;omega),hs1,bA h.o3 hs2 (fun q hq e=>by have e2:e3=q:=Option.some.inj hq;have:=h.ord;omega),bA h.o4 hs2 (fun q hq e=>by have e2:e4=q:=Option.some.inj hq;have:=h.ord;omega),h.op.aB hs2 (fun q hq e=>by have:=h.ob q hq;omega),h.ob⟩
theorem LS.CD {w0 wr:World} {rb e1 e2 e3 e4 sb n:Nat} {E1 E2 E3 E4:List Int} {ov:Value} {m:Nat} {f:Nat→List Value} (h:LS w0 wr rb e1 e2 e3 e4 sb n E1 E2 E3 E4 ov m f) (i:Nat) (a:Int):
  LS w0 (wr.setCell ⟨e3,0+i,none⟩ (.int .i64 a)) rb e1 e2 e3 e4 sb n E1 E2 (E3.set i a) E4 ov m f:=by
 obtain⟨hs1,hs2⟩:=h.o3.set i a
 have hz:(wr.setCell ⟨e3,0+i,none⟩ (.int .i64 a)).heap.size=wr.heap.size:=by simp[World.setCell]
 have ho:=h.ord
 exact⟨h.ext.trans' hs2 (fun q hq e=>by omega),by rw[hz];exact ho,h.res.aB hs2 (fun e=>by omega),h.sh.aB hs2 (fun e=>by omega),bA h.o1 hs2 (fun q hq e=>by have e2:e1=q:=Option.some.inj hq;have:=h.ord;omega),bA h.o2 hs2 (fun q hq e=>by have e2:e2=q:=Option.some.inj hq;have:=h.ord;omega),hs1,bA h.o4 hs2 (fun q hq e=>by have e2:e4=q:=Option.some.inj hq;have:=h.ord;omega),h.op.aB hs2 (fun q hq e=>by have:=h.ob q hq;omega),h.ob⟩
theorem LS.CE {w0 wr:World} {rb e1 e2 e3 e4 sb n:Nat} {E1 E2 E3 E4:List Int} {ov:Value} {m:Nat} {f:Nat→List Value} (h:LS w0 wr rb e1 e2 e3 e4 sb n E1 E2 E3 E4 ov m f) (i:Nat) (a:Int):
  LS w0 (wr.setCell ⟨e4,0+i,none⟩ (.int .i64 a)) rb e1 e2 e3 e4 sb n E1 E2 E3 (E4.set i a) ov m f:=by
 obtain⟨hs1,hs2⟩:=h.o4.set i a
 have hz:(wr.setCell ⟨e4,0+i,none⟩ (.int .i64 a)).heap.size=wr.heap.size:=by simp[World.setCell]
 have ho:=h.ord
 exact⟨h.ext.trans' hs2 (fun q hq e=>by omega),by rw[hz];exact ho,h.res.aB hs2 (fun e=>by omega),h.sh.aB hs2 (fun e=>by omega),bA h.o1 hs2 (fun q hq e=>by have e2:e1=q:=Option.some.inj hq;have:=h.ord;omega),bA h.o2 hs2 (fun q hq e=>by have e2:e2=q:=Option.some.inj hq;have:=h.ord;omega),bA h.o3 hs2 (fun q hq e=>by have e2:e3=q:=Option.some.inj hq;have:=h.ord;omega),hs1,h.op.aB hs2 (fun q hq e=>by have:=h.ob q hq;omega),h.ob⟩
theorem LS.CF {w0 wr:World} {rb e1 e2 e3 e4 sb n:Nat} {E1 E2 E3 E4:List Int} {g cap m:Nat} {f:Nat→List Value} (h:LS w0 wr rb e1 e2 e3 e4 sb n E1 E2 E3 E4 (.slice (some ⟨g,0,none⟩) m cap) m f) {i j:Nat} (hi:i<m) (hj:j<2) (u:Value):
  LS w0 (wr.setCell ⟨g,0+i*2+j,none⟩ u) rb e1 e2 e3 e4 sb n E1 E2 E3 E4 (.slice (some ⟨g,0,none⟩) m cap) m (nA f i ((f i).set j u)):=by
 obtain⟨hs1,hs2⟩:=h.op.set hi hj u
 have hz:(wr.setCell ⟨g,0+i*2+j,none⟩ u).heap.size=wr.heap.size:=by simp[World.setCell]
 have ho:=h.ord
 have hg:=h.ob g rfl
 have key:∀e,e≤sb→∀k,(sl e n).ownBlock=some k→¬k=g:=fun e he k hk hs=>by
  have e2:e=k:=Option.some.inj hk
  omega
 exact⟨h.ext.trans' hs2 (fun q hq e=>by omega),by rw[hz];exact ho,h.res.aB hs2 (fun e=>by omega),h.sh.aB hs2 (fun e=>by omega),
  bA h.o1 hs2 (key e1 FY),bA h.o2 hs2 (key e2 FY),bA h.o3 hs2 (key e3 FY),bA h.o4 hs2 (key e4 FY),hs1,h.ob⟩
theorem LS.app {w0 wr w':World} {rb e1 e2 e3 e4 sb n:Nat} {E1 E2 E3 E4:List Int} {ov v':Value} {m:Nat} {f f':Nat→List Value} (h:LS w0 wr rb e1 e2 e3 e4 sb n E1 E2 E3 E4 ov m f) (ho:eJ w0.heap.size 176 2 w' v' (m+1) f') (hc:bz (fun k=>ov.ownBlock=some k) wr w') (hb:v'.ownBlock=ov.ownBlock∨v'.ownBlock=some wr.heap.size):
  LS w0 w' rb e1 e2 e3 e4 sb n E1 E2 E3 E4 v' (m+1) f':=by
 have hor:=h.ord
 have hn:∀k,k≤sb→ov.ownBlock≠some k:=fun k hk e=>by have:=h.ob k e;omega
 have key:∀e,e≤sb→∀k,(sl e n).ownBlock=some k→¬ov.ownBlock=some k:=fun e he k hk=>by
  have e2:e=k:=Option.some.inj hk
  exact hn k FY
 refine⟨h.ext.trans' hc (fun i hi hs=>by have:=h.ob i hs;omega),by have:=hc.size;omega,h.res.aB hc (hn _ FY),h.sh.aB hc (hn _ FY),
  bA h.o1 hc (key e1 FY),bA h.o2 hc (key e2 FY),bA h.o3 hc (key e3 FY),bA h.o4 hc (key e4 FY),ho,fun k hk=>?_⟩
 rcases hb with e|e
 ·rw[e]at hk;exact h.ob k hk
 ·rw[e]at hk;cases hk;omega
theorem LS.pop {w0 wr:World} {rb e1 e2 e3 e4 sb n:Nat} {E1 E2 E3 E4:List Int} {g cap m:Nat} {f:Nat→List Value} (h:LS w0 wr rb e1 e2 e3 e4 sb n E1 E2 E3 E4 (.slice (some ⟨g,0,none⟩) (m+1) cap) (m+1) f):LS w0 wr rb e1 e2 e3 e4 sb n E1 E2 E3 E4 (.slice (some ⟨g,0,none⟩) m cap) m f:=
 ⟨h.ext,h.ord,h.res,h.sh,h.o1,h.o2,h.o3,h.o4,h.op.pop,h.ob⟩
theorem LS.congr {w0 wr:World} {rb e1 e2 e3 e4 sb n:Nat} {E1 E2 E3 E4:List Int} {ov:Value} {m:Nat} {f g:Nat→List Value} (h:LS w0 wr rb e1 e2 e3 e4 sb n E1 E2 E3 E4 ov m f) (e:∀i,i<m→f i=g i):LS w0 wr rb e1 e2 e3 e4 sb n E1 E2 E3 E4 ov m g:=
 ⟨h.ext,h.ord,h.res,h.sh,h.o1,h.o2,h.o3,h.o4,h.op.congr e,h.ob⟩
def qj (xs:List bZ) (i:Nat) (j:Nat):List Value:=[.int .i64 (ix (av xs i) j),.bool (iN xs (ix (av xs i) j) i)]
def xa (w:World) (xs:List bZ) (e:Ending) (w':World):Prop:=
  Ext w w'∧(((eK xs).2≠0∧e=.returned (.tuple #[.agg #[.slice none 0 0,.slice none 0 0,.slice none 0 0,.slice none 0 0],.int .i64 (eK xs).1,.int .i64 (eK xs).2]))∨
   ((eK xs).2=0∧∃v1 v2 v3 v4,e=.returned (.tuple #[.agg #[v1,v2,v3,v4],.int .i64 (eK xs).1,.int .i64 (eK xs).2])∧jf w.heap.size w' v1 (uO xs)∧jf w.heap.size w' v2 (qN xs)∧jf w.heap.size w' v3 (yM xs)∧jf w.heap.size w' v4 (AF xs)))
theorem xT {xs:List bZ} {i:Nat} (h:dY (ix xs i).op=true) (j:Nat) (hj:j<(av xs i).length+1):nA (qj xs i) (av xs i).length [.int .i64 (i:Int),.bool false] j=qj xs (i+1) j:=by
 have h5:(ix xs i).op≠5:=by simp[dY]at h;omega
 unfold qj
 rw[lA h]
 by_cases e:j=(av xs i).length
 ·subst e
  rw[kz,oc rfl,vI]
 ·rw[gX _ _ e,od FY,kn h5]
theorem wg {xs:List bZ} {i:Nat} (h:dY (ix xs i).op=false) (h11:(ix xs i).op≠11) (h5:(ix xs i).op≠5) (j:Nat):qj xs i j=qj xs (i+1) j:=by
 unfold qj
 rw[gF h h11,kn h5]
theorem xS {xs:List bZ} {i h:Nat} (h5:(ix xs i).op=5) (hz:0<(av xs i).length) (hl:eX (av xs i)=h) (hi:h<i) (j:Nat) (hj:j<(av xs i).length):
  nA (qj xs i) ((av xs i).length - 1) ((qj xs i ((av xs i).length - 1)).set 1 (.bool true)) j=qj xs (i+1) j:=by
 have hr:av xs (i+1)=av xs i:=gF (by rw[h5];rfl) FY
 have hl':ix (av xs i) ((av xs i).length - 1)=h:=hl
 unfold qj
 rw[hr]
 by_cases e:j=(av xs i).length - 1
 ·subst e
  rw[kz,hl',tL h5 hz hl hi];rfl
 ·rw[gX _ _ e,n7 (fun e2=>e (wo hj FY e2.symm))]
theorem sC {α:Type} [Inhabited α] {l:List α} {j:Nat} (h:j<l.length - 1):ix l.dropLast j=ix l j:=by
 rw[cI FS,cI FY,List.getElem_dropLast]
theorem uV {xs:List bZ} {i:Nat} (h11:(ix xs i).op=11) (hz:0<(av xs i).length) (j:Nat) (hj:j<(av xs i).length - 1):qj xs i j=qj xs (i+1) j:=by
 unfold qj
 rw[mJ h11 hz,kn FY,sC hj]
set_option maxRecDepth 100000 in
set_option maxHeartbeats 4000000 in
theorem wb (xs:List bZ) (v:Value) (w:World) (hb:Body w v xs) (hsm:xs.length≤1000000000):
  Calls G.P 48 #[v] w (xa w xs):=by
 obtain⟨p,cap,rfl,hl⟩:=hb.slice
 refine enter (G:=G) Tryz.func48 rfl Tryz.ntmps48 rfl ?_
 refine cV ?_
 refine rx ?_
 rintro _ wa ⟨rfl,hna⟩
 refine cV ?_
 refine ah.call rfl rfl rfl (kG xs.length wa FY) ?_
 rintro _ w1 ⟨rfl,ho1,hx1,hz1⟩
 refine⟨_,rfl,?_⟩
 refine cV ?_
 refine ah.call rfl rfl rfl (kG xs.length w1 FY) ?_
 rintro _ w2 ⟨rfl,ho2,hx2,hz2⟩
 refine⟨_,rfl,?_⟩
 refine cV ?_
 refine ah.call rfl rfl rfl (kG xs.length w2 FY) ?_
 rintro _ w3 ⟨rfl,ho3,hx3,hz3⟩
 refine⟨_,rfl,?_⟩
 refine cV ?_
 refine ah.call rfl rfl rfl (kG xs.length w3 FY) ?_
 rintro _ w4 ⟨rfl,ho4,hx4,hz4⟩
 refine⟨_,rfl,?_⟩
 refine ah.y (Yl.build (v:=.agg #[sl wa.heap.size xs.length,sl w1.heap.size xs.length,sl w2.heap.size xs.length,sl w3.heap.size xs.length]) rfl (fun _=>by kernel_rfl)) rfl ?_
 refine rx ?_
 rintro _ w5 ⟨rfl,hn5⟩
 refine ah.e0 (bC.aL rfl rfl rfl rfl rfl FM hn5.aH rfl) ?_
 rintro _ w6 ⟨hb6,hc6,hs6⟩
 refine cV ?_
 refine ah.y (Yl.build (v:=.agg #[.int .i64 (-1),.bool false]) rfl (fun _=>by kernel_rfl)) rfl ?_
 refine ah.e (bC.buildSlice (cs:=[.int .i64 (-1),.bool false]) (e:=176) rfl FT) rfl ?_
 rintro _ w7 ⟨rfl,hn7⟩
 have hxa:Ext w wa:=hna.ext
 have hza:=hna.size
 have hz5:=hn5.size
 have hz7:=hn7.size
 have h67:bz (fun k=>k=w4.heap.size) w4 w7:=(hn5.ext.any.trans hc6).trans hn7.ext.any
 have hLS:LS w w7 w.heap.size wa.heap.size w1.heap.size w2.heap.size w3.heap.size w4.heap.size xs.length (dk xs 0) (dI xs 0) (ft xs 0) (gl xs 0) (.slice (some ⟨w6.heap.size,0,none⟩) 1 1) 1 (qj xs 0):=by
  have e17:bz (fun k=>k=w4.heap.size) w1 w7:=(show Ext w1 w4 from(hx2.trans hx3).trans hx4).any.trans h67
  have e27:bz (fun k=>k=w4.heap.size) w2 w7:=(show Ext w2 w4 from hx3.trans hx4).any.trans h67
  have e37:bz (fun k=>k=w4.heap.size) w3 w7:=hx4.any.trans h67
  have key:∀e,e<w4.heap.size→∀k,(sl e xs.length).ownBlock=some k→¬k=w4.heap.size:=fun e he k hk hs=>by
   have e2:e=k:=Option.some.inj hk
   omega
  refine⟨(((((hxa.trans hx1).trans hx2).trans hx3).trans hx4)).trans' h67 (fun q hq e=>by omega),⟨Nat.le_refl _,by omega,by omega,by omega,by omega,by omega,by omega⟩,?_,hb6.aB hn7.ext (fun h=>h),?_,?_,?_,?_,?_,?_⟩
  ·exact(hna.aH.aB hx1 (fun h=>h)).aB e17 (fun e=>by omega)
  ·exact lX (bA ho1 e17 (key _ FY)) (fun k hk=>by have e2:wa.heap.size=k:=Option.some.inj hk;omega)
  ·exact lX (bA ho2 e27 (key _ FY)) (fun k hk=>by have e2:w1.heap.size=k:=Option.some.inj hk;omega)
  ·exact lX (bA ho3 e37 (key _ FY)) (fun k hk=>by have e2:w2.heap.size=k:=Option.some.inj hk;omega)
  ·exact lX (bA ho4 h67 (key _ FY)) (fun k hk=>by have e2:w3.heap.size=k:=Option.some.inj hk;omega)
  ·refine(eJ.cJ hn7 FY).congr (fun i hi=>?_)
   obtain rfl:i=0:=by omega
   rfl
  ·intro k hk
   have e2:w6.heap.size=k:=Option.some.inj hk
   omega
 clear h67 hn7 hn5 hb6 hc6 hna hxa ho1 ho2 ho3 ho4 hx1 hx2 hx3 hx4 hza hz1 hz2 hz3 hz4 hz5 hz7
 generalize w.heap.size=rb at hLS ⊢
 generalize wa.heap.size=e1 at hLS ⊢
 generalize w1.heap.size=e2 at hLS ⊢
 generalize w2.heap.size=e3 at hLS ⊢
 generalize w3.heap.size=e4 at hLS ⊢
 generalize w4.heap.size=sb at hLS ⊢
 refine cV ?_
 refine Cd.loop (σ:=Nat×Value) (fun s=>[(0,.slice p xs.length cap),(2,.pointer (some ⟨rb,0,none⟩)),(5,.int .i64 xs.length),(6,.pointer (some ⟨sb,0,none⟩)),(7,s.2),(24,.slice p xs.length cap),(25,.int .i64 xs.length),(26,.int .i64 s.1)])
  (fun s wr=>s.1≤xs.length∧eK xs=jh xs (xs.length - s.1) s.1∧(∀j,j<s.1→gj xs j=none)∧LS w wr rb e1 e2 e3 e4 sb xs.length (dk xs s.1) (dI xs s.1) (ft xs s.1) (gl xs s.1) s.2 (av xs s.1).length (qj xs s.1)) (fun s=>xs.length - s.1) (0,_) bP ⟨Nat.zero_le _,rfl,fun j hj=>by omega,hLS⟩ ?_
 rintro⟨i,ov⟩ wr ⟨hi,hn,hall,hls⟩
 dsimp only at hi hn hall hls ⊢
 have hord:=hls.ord
 have hlen:=ue xs i
 by_cases hlt:i<xs.length
 ·rw[show xs.length - i=(xs.length - (i+1))+1 by omega,jh]at hn
  obtain⟨b,off,rfl,-,hI0⟩:=hb.at hlt
  have hbr:Body wr _ xs:=hb.ext hls.ext
  obtain⟨b',off',hbb,-,hI⟩:=hbr.at hlt
  cases hbb
  obtain⟨pt,ct,pl,cl,hti,hli,hcells⟩:=(hI i hlt).cells
  refine cV ?_
  refine ah.y (Yl.mW (s:=9) rfl rfl rfl rfl rfl (by intro _ hw_;cases hw_;exact hcells)) rfl ?_
  refine rx ?_
  rintro _ wx ⟨rfl,hnx⟩
  refine cV ?_
  refine ah.e0 (bC.aL rfl rfl rfl rfl rfl (by simp[AG,Value.oneCell']) hnx.aH rfl) ?_
  rintro _ wy ⟨hby,hcy,hsy⟩
  have hxo:ov.ownBlock≠some wr.heap.size:=fun e=>by have:=hls.op.lt _ e;omega
  have hxb:sb<wr.heap.size:=by omega
  have hlsy:=(hls.aB hnx.ext (fun _ h=>h.elim)).aB hcy (fun k hk=>by subst hk;exact⟨hxb,hxo⟩)
  have hordy:=hlsy.ord
  clear hcells hcy hnx hti hli hls
  generalize hxbe:wr.heap.size=xb at*
  obtain⟨po,co,rfl,hco,hcm,hg⟩:=hlsy.op.slice
  by_cases hz:0<(av xs i).length
  ·obtain⟨g,rfl,hg1,hg2⟩:=hg hz
   have hsg:sb<g:=hlsy.ob g rfl
   have hgx:g≠xb:=fun e=>hxo (by rw[e];rfl)
   have hlast:=Bv hz
   have hd3:wy.cell? ⟨sb,0+2,none⟩=some (sl e3 xs.length):=hlsy.sh.cell rfl
   refine cV ?_
   refine ah.y (Yl.idx rfl rfl rfl rfl rfl (i:=(av xs i).length - 1) FY FY) rfl ?_
   refine cV ?_
   refine ah.e0 (bC.store rfl rfl rfl rfl rfl (hlsy.o3.get (by rw[qL];exact hlt)) (hlsy.o3.free _)) ?_
   rintro _ wz hwz
   have hls3:LS w wz rb e1 e2 e3 e4 sb xs.length (dk xs i) (dI xs i) (ft xs (i+1)) (gl xs i) (.slice (some ⟨g,0,none⟩) (av xs i).length co) (av xs i).length (qj xs i):=by rw[hwz];exact hlsy.CD i _
   have hbz:=hby.aB (hlsy.o3.set i ((av xs i).length:Int)).2 (fun e=>by omega)
   rw[←hwz]at hbz
   clear hwz hlsy hby
   have hd4:wz.cell? ⟨sb,0+3,none⟩=some (sl e4 xs.length):=hls3.sh.cell rfl
   have hat:wz.cell? ⟨g,0+((av xs i).length - 1)*2,none⟩=some (.int .i64 (eX (av xs i))):=hls3.op.cell (j:=0) FY rfl
   refine cV ?_
   refine Cd.ri 8 FT ?_
   refine cV ?_
   have hls3d:=hls3.aB (w':=wz.drew) (S:=fun _=>False) (bz.refl _ _).drew (fun _ h=>h.elim)
   refine ah.e0 (bC.store rfl rfl rfl rfl rfl (hls3d.o4.get (by rw[sx];exact hlt)) (hls3d.o4.free _)) ?_
   rintro _ w4 hw4
   have hls4:LS w w4 rb e1 e2 e3 e4 sb xs.length (dk xs i) (dI xs i) (ft xs (i+1)) (gl xs (i+1)) (.slice (some ⟨g,0,none⟩) (av xs i).length co) (av xs i).length (qj xs i):=by rw[hw4];exact hls3d.CE i _
   have hb4:=(hbz.aB (S:=fun _=>False) (w':=wz.drew) (bz.refl _ _).drew (fun h=>h)).aB (hls3d.o4.set i (eX (av xs i))).2 (fun e=>by omega)
   rw[←hw4]at hb4
   clear hw4 hls3d hls3 hbz hat hd4 hd3
   have hop:w4.cell? ⟨xb,0,none⟩=some (.int .i64 (ix xs i).op):=hb4.cell rfl
   have hat:w4.cell? ⟨g,0+((av xs i).length - 1)*2,none⟩=some (.int .i64 (eX (av xs i))):=hls4.op.cell (j:=0) FY rfl
   have hhad:w4.cell? ⟨g,0+((av xs i).length - 1)*2+1,none⟩=some (.bool (iN xs (eX (av xs i)) i)):=hls4.op.cell (j:=1) FY rfl
   have hz':(av xs i).length≠0:=by omega
   have hck:gj xs i=if(ix xs i).op=5∧(eX (av xs i)<0∨(ix xs (eX (av xs i)).toNat).op≠4∨gK xs (eX (av xs i)).toNat i=true)then some ((i:Int),16)
     else if dY (ix xs i).op=true∧32≤(av xs i).length then some ((i:Int),6)else none:=by
    unfold gj;dsimp only;rw[if_neg hz']
   have h32:=sN i hall
   have hr4:=hls4.ext
   have hallS:gj xs i=none→∀j,j<i+1→gj xs j=none:=fun hc j hj=>by
    by_cases e:j=i
    ·subst e;exact hc
    ·exact hall j FY
   refine cV ?_
   by_cases h5:(ix xs i).op=5
   ·have ho:dY (ix xs i).op=false:=by rw[h5];rfl
    by_cases hneg:eX (av xs i)<0
    ·rw[if_pos ⟨h5,.inl hneg⟩]at hck
     refine cV ?_
     refine EW ?_
     refine cV ?_
     refine EX ?_
     rintro _ w9 ⟨hb9,hc9,hs9⟩
     refine cV ?_
     rw[hck]at hn
     refine Fin.mf rfl rfl rfl rfl rfl hb9 rfl rfl rfl ⟨hls4.ext.trans' hc9 (fun q hq e=>by have:=hls4.ord;omega),.inl ⟨by rw[hn];exact(by decide:(16:Int)≠0),by rw[hn]⟩⟩
    ·obtain⟨h,hh⟩:=Int.eq_ofNat_of_zero_le (Int.not_lt.1 hneg)
     rw[hh]at hat hhad hck hlast
     simp only[Int.toNat_natCast]at hck
     have hoph:=hr4.cell (hI0 h FY).op
     by_cases h4:(ix xs h).op=4
     ·have hhe:iN xs (h:Int) i=gK xs h i:=by simp[iN]
      rw[hhe]at hhad
      cases hel:gK xs h i with
      |true=>
       rw[hel]at hhad
       rw[if_pos ⟨h5,.inr (.inr hel)⟩]at hck
       refine cV ?_
       refine EW ?_
       refine cV ?_
       refine EX ?_
       rintro _ w9 ⟨hb9,hc9,hs9⟩
       refine cV ?_
       rw[hck]at hn
       refine Fin.mf rfl rfl rfl rfl rfl hb9 rfl rfl rfl ⟨hls4.ext.trans' hc9 (fun q hq e=>by have:=hls4.ord;omega),.inl ⟨by rw[hn];exact(by decide:(16:Int)≠0),by rw[hn]⟩⟩
      |false=>
       rw[hel]at hhad
       rw[if_neg (by simp[h4,hel]),if_neg (by simp[ho])]at hck
       rw[hck]at hn
       refine cV ?_
       refine ah.e0 (bC.store rfl rfl rfl rfl rfl hhad (hls4.op.free _)) ?_
       rintro _ w5 hw5
       have hls5:=hls4.CF (i:=(av xs i).length - 1) (j:=1) FY FY (.bool true)
       rw[←hw5]at hls5
       clear hw5
       have hd2:w5.cell? ⟨sb,0+1,none⟩=some (sl e2 xs.length):=hls5.sh.cell rfl
       have hat5:w5.cell? ⟨g,0+((av xs i).length - 1)*2,none⟩=some (.int .i64 h):=hls5.op.cell (j:=0) FY (by rw[kz];simp[qj];exact hh)
       refine cV ?_
       refine Cd.ri 8 FT ?_
       refine cV ?_
       have hls5d:=hls5.aB (w':=w5.drew) (S:=fun _=>False) (bz.refl _ _).drew (fun _ h=>h.elim)
       refine ah.e0 (bC.store rfl rfl rfl rfl rfl (hls5d.o2.get (by rw[sq];omega)) (hls5d.o2.free _)) ?_
       rintro _ w6 hw6
       have hls6:=hls5d.CC h (i:Int)
       rw[←hw6]at hls6
       refine cV ?_
       refine Fin.next (i+1,_) bP ⟨by omega,hn,hallS hck,?_⟩ FP
       have q1:dk xs (i+1)=dk xs i:=by simp[dk,h5]
       have q2:dI xs (i+1)=(dI xs i).set h i:=by simp[dI,h5,hh]
       have q3:av xs (i+1)=av xs i:=gF ho FY
       dsimp only
       rw[q1,q2,q3]
       exact hls6.congr (fun j hj=>xS h5 hz hh FY j hj)
     ·rw[if_pos ⟨h5,.inr (.inl h4)⟩]at hck
      refine cV ?_
      refine EW ?_
      refine cV ?_
      refine EX ?_
      rintro _ w9 ⟨hb9,hc9,hs9⟩
      refine cV ?_
      rw[hck]at hn
      refine Fin.mf rfl rfl rfl rfl rfl hb9 rfl rfl rfl ⟨hls4.ext.trans' hc9 (fun q hq e=>by have:=hls4.ord;omega),.inl ⟨by rw[hn];exact(by decide:(16:Int)≠0),by rw[hn]⟩⟩
   ·rw[if_neg (by simp[h5])]at hck
    have q2:dI xs (i+1)=dI xs i:=by simp[dI,h5]
    by_cases ho:dY (ix xs i).op=true
    ·have h11:(ix xs i).op≠11:=by simp[dY]at ho;omega
     have q1:dk xs (i+1)=dk xs i:=by simp[dk,h11]
     have hops:(ix xs i).op=2∨(ix xs i).op=3∨(ix xs i).op=4:=by simp[dY]at ho;omega
     have ho2:=ho
     by_cases hm:32≤(av xs i).length
     ·rw[if_pos ⟨ho,hm⟩]at hck
      have hm':((av xs i).length:Int)=32:=by omega
      rcases hops with hop_|hop_|hop_
      ·refine cV ?_
       refine EW ?_
       refine cV ?_
       refine EX ?_
       rintro _ w9 ⟨hb9,hc9,hs9⟩
       refine cV ?_
       rw[hck]at hn
       refine Fin.mf rfl rfl rfl rfl rfl hb9 rfl rfl rfl ⟨hls4.ext.trans' hc9 (fun q hq e=>by have:=hls4.ord;omega),.inl ⟨by rw[hn];exact(by decide:(6:Int)≠0),by rw[hn]⟩⟩
      ·refine cV ?_
       refine EW ?_
       refine cV ?_
       refine EX ?_
       rintro _ w9 ⟨hb9,hc9,hs9⟩
       refine cV ?_
       rw[hck]at hn
       refine Fin.mf rfl rfl rfl rfl rfl hb9 rfl rfl rfl ⟨hls4.ext.trans' hc9 (fun q hq e=>by have:=hls4.ord;omega),.inl ⟨by rw[hn];exact(by decide:(6:Int)≠0),by rw[hn]⟩⟩
      ·refine cV ?_
       refine EW ?_
       refine cV ?_
       refine EX ?_
       rintro _ w9 ⟨hb9,hc9,hs9⟩
       refine cV ?_
       rw[hck]at hn
       refine Fin.mf rfl rfl rfl rfl rfl hb9 rfl rfl rfl ⟨hls4.ext.trans' hc9 (fun q hq e=>by have:=hls4.ord;omega),.inl ⟨by rw[hn];exact(by decide:(6:Int)≠0),by rw[hn]⟩⟩
     ·rw[if_neg (by simp[hm])]at hck
      rw[hck]at hn
      have hfin:∀(w5 w6:World) (v6:Value),tr w4 w5 [.int .i64 (i:Int),.bool false] 176→eJ w.heap.size 176 2 w6 v6 ((av xs i).length+1) (nA (qj xs i) (av xs i).length [.int .i64 (i:Int),.bool false])→bz (fun k=>(Value.slice (some ⟨g,0,none⟩) (av xs i).length co).ownBlock=some k) w5 w6→(v6.ownBlock=(Value.slice (some ⟨g,0,none⟩) (av xs i).length co).ownBlock∨v6.ownBlock=some w5.heap.size)→
        LS w w6 rb e1 e2 e3 e4 sb xs.length (dk xs (i+1)) (dI xs (i+1)) (ft xs (i+1)) (gl xs (i+1)) v6 (av xs (i+1)).length (qj xs (i+1)):=by
       intro w5 w6 v6 hn5 ho6 hc6 hb6
       have hls6:=((hls4.aB hn5.ext (fun _ h=>h.elim)).app ho6 hc6 hb6).congr (xT ho2)
       rw[q1,q2,lA ho2,List.length_append]
       exact hls6
      have hsz4:w.heap.size≤w4.heap.size:=hr4.size
      rcases hops with hop_|hop_|hop_
      ·refine cV ?_
       refine EY ?_
       refine EZ ?_
       rintro _ w5 ⟨rfl,hn5⟩
       refine ah.e (eJ.Ao (hls4.op.ext hn5.ext) rfl rfl rfl rfl rfl FX FX rfl rfl (by have:=hn5.size;omega) hn5.aH rfl FM FY) rfl ?_
       rintro v6 w6 ⟨ho6,hc6,hb6⟩
       refine cV ?_
       exact pi
      ·refine cV ?_
       refine EY ?_
       refine EZ ?_
       rintro _ w5 ⟨rfl,hn5⟩
       refine ah.e (eJ.Ao (hls4.op.ext hn5.ext) rfl rfl rfl rfl rfl FX FX rfl rfl (by have:=hn5.size;omega) hn5.aH rfl FM FY) rfl ?_
       rintro v6 w6 ⟨ho6,hc6,hb6⟩
       refine cV ?_
       exact pi
      ·refine cV ?_
       refine EY ?_
       refine EZ ?_
       rintro _ w5 ⟨rfl,hn5⟩
       refine ah.e (eJ.Ao (hls4.op.ext hn5.ext) rfl rfl rfl rfl rfl FX FX rfl rfl (by have:=hn5.size;omega) hn5.aH rfl FM FY) rfl ?_
       rintro v6 w6 ⟨ho6,hc6,hb6⟩
       refine cV ?_
       exact pi
    ·have ho':dY (ix xs i).op=false:=by simpa using ho
     have hno:(ix xs i).op≠2∧(ix xs i).op≠3∧(ix xs i).op≠4:=by simp[dY]at ho';omega
     rw[if_neg (by simp[ho'])]at hck
     rw[hck]at hn
     by_cases h11:(ix xs i).op=11
     ·have q3:(av xs (i+1)).length=(av xs i).length - 1:=by rw[mJ h11 hz];simp
      by_cases hneg:eX (av xs i)<0
      ·refine cV ?_
       refine ah.y (Yl.ck rfl rfl rfl rfl rfl (i:=(av xs i).length - 1) FY FY) rfl ?_
       refine cV ?_
       refine Fin.next (i+1,_) bP ⟨by omega,hn,hallS hck,?_⟩ FP
       have q1:dk xs (i+1)=dk xs i:=by simp[dk,h11];omega
       dsimp only
       rw[q1,q2,q3]
       have e9:(av xs i).length=((av xs i).length - 1)+1:=by omega
       rw[e9]at hls4
       exact hls4.pop.congr (uV h11 hz)
      ·obtain⟨h,hh⟩:=Int.eq_ofNat_of_zero_le (Int.not_lt.1 hneg)
       rw[hh]at hat
       have hd1:w4.cell? ⟨sb,0,none⟩=some (sl e1 xs.length):=hls4.sh.cell rfl
       refine cV ?_
       refine Cd.ri 8 FT ?_
       refine cV ?_
       have hls5d:=hls4.aB (w':=w4.drew) (S:=fun _=>False) (bz.refl _ _).drew (fun _ h=>h.elim)
       refine ah.e0 (bC.store rfl rfl rfl rfl rfl (hls5d.o1.get (by rw[tI];omega)) (hls5d.o1.free _)) ?_
       rintro _ w6 hw6
       have hls6:=hls5d.CB h (i:Int)
       rw[←hw6]at hls6
       refine cV ?_
       refine ah.y (Yl.ck rfl rfl rfl rfl rfl (i:=(av xs i).length - 1) FY FY) rfl ?_
       refine cV ?_
       refine Fin.next (i+1,_) bP ⟨by omega,hn,hallS hck,?_⟩ FP
       have q1:dk xs (i+1)=(dk xs i).set h i:=by simp[dk,h11,hh]
       dsimp only
       rw[q1,q2,q3]
       have e9:(av xs i).length=((av xs i).length - 1)+1:=by omega
       rw[e9]at hls6
       exact hls6.pop.congr (uV h11 hz)
     ·refine cV ?_
      refine Fin.next (i+1,_) bP ⟨by omega,hn,hallS hck,?_⟩ FP
      have q1:dk xs (i+1)=dk xs i:=by simp[dk,h11]
      dsimp only
      rw[q1,q2,gF ho' h11]
      exact hls4.congr (fun j _=>wg ho' h11 h5 j)
  ·have hz':(av xs i).length=0:=by omega
   have hck:gj xs i=some ((i:Int),16):=by simp only[gj,hz',if_true]
   refine cV ?_
   refine EW ?_
   refine cV ?_
   refine ah.e0 (bC.aL rfl rfl rfl rfl rfl FM hlsy.res rfl) ?_
   rintro _ w9 ⟨hb9,hc9,hs9⟩
   refine cV ?_
   rw[hck]at hn
   refine Fin.mf rfl rfl rfl rfl rfl hb9 rfl rfl rfl ⟨hlsy.ext.trans' hc9 (fun q hq e=>by have:=hlsy.ord;omega),.inl ⟨by rw[hn];exact(by decide:(16:Int)≠0),by rw[hn]⟩⟩
 ·obtain rfl:i=xs.length:=by omega
  rw[show xs.length - xs.length=0 by omega,jh]at hn
  obtain⟨po,co,rfl,hco,hcm,hg⟩:=hls.op.slice
  by_cases hz:0<(av xs xs.length).length
  ·rw[if_pos hz]at hn
   refine cV ?_
   refine EW ?_
   refine cV ?_
   refine ah.e0 (bC.aL rfl rfl rfl rfl rfl FM hls.res rfl) ?_
   rintro _ w9 ⟨hb9,hc9,hs9⟩
   refine cV ?_
   have:=hn
   refine Fin.mf rfl rfl rfl rfl rfl hb9 rfl rfl rfl ⟨hls.ext.trans' hc9 (fun q hq e=>by have:=hls.ord;omega),.inl ⟨by rw[hn];exact(by decide:(3:Int)≠0),by rw[hn]⟩⟩
  ·rw[if_neg hz]at hn
   refine cV ?_
   refine ah.y (Yl.mW (s:=4) (cs:=[sl e1 xs.length,sl e2 xs.length,sl e3 xs.length,sl e4 xs.length]) rfl rfl rfl rfl rfl (by
    intro _ hw_;cases hw_;intro j hj
    match j,hj with
    |0,_=>exact hls.sh.cell rfl
    |1,_=>exact hls.sh.cell rfl
    |2,_=>exact hls.sh.cell rfl
    |3,_=>exact hls.sh.cell rfl)) rfl ?_
   refine cV ?_
   refine ah.e0 (bC.aL rfl rfl rfl rfl rfl FM hls.res rfl) ?_
   rintro _ w9 ⟨hb9,hc9,hs9⟩
   refine cV ?_
   have key:∀e,rb<e→∀k,(sl e xs.length).ownBlock=some k→¬k=rb:=fun e he k hk hs=>by
    have e2:e=k:=Option.some.inj hk
    omega
   refine Fin.mf rfl rfl rfl rfl rfl hb9 rfl rfl rfl ⟨hls.ext.trans' hc9 (fun q hq e=>by omega),.inr ⟨by rw[hn],_,_,_,_,by rw[hn],bA hls.o1 hc9 (key _ FY),bA hls.o2 hc9 (key _ FY),bA hls.o3 hc9 (key _ FY),bA hls.o4 hc9 (key _ FY)⟩⟩
theorem ou (xs:List bZ) (v:Value) (w:World) (hb:Body w v xs) (hsm:xs.length≤1000000000):
  Calls G.P 33 #[v] w fun e w'=>e=.returned (.tuple #[.int .i64 (eK xs).1,.int .i64 (eK xs).2])∧Ext w w':=by
 obtain⟨p,cap,rfl,hl⟩:=hb.slice
 have hR:Calls G.P 48 #[.slice p xs.length cap] w fun e w'=>∃p1 l1 c1 p2 l2 c2 p3 l3 c3 p4 l4 c4,e=.returned (.tuple #[.agg #[.slice p1 l1 c1,.slice p2 l2 c2,.slice p3 l3 c3,.slice p4 l4 c4],.int .i64 (eK xs).1,.int .i64 (eK xs).2])∧Ext w w':=by
  refine(wb xs _ w hb hsm).mono ?_
  rintro e w' ⟨hx,⟨h,rfl⟩|⟨h,v1,v2,v3,v4,rfl,o1,o2,o3,o4⟩⟩
  ·exact⟨none,0,0,none,0,0,none,0,0,none,0,0,rfl,hx⟩
  ·obtain⟨p1,c1,rfl,_⟩:=au o1
   obtain⟨p2,c2,rfl,_⟩:=au o2
   obtain⟨p3,c3,rfl,_⟩:=au o3
   obtain⟨p4,c4,rfl,_⟩:=au o4
   exact⟨_,_,_,_,_,_,_,_,_,_,_,_,rfl,hx⟩
 refine enter (G:=G) Tryz.func33 rfl Tryz.ntmps33 rfl ?_
 refine Ah ?_
 refine ah.call rfl rfl rfl hR ?_
 rintro _ w1 ⟨p1,l1,c1,p2,l2,c2,p3,l3,c3,p4,l4,c4,rfl,hx1⟩
 refine⟨_,rfl,?_⟩
 refine Ah ?_
 refine rx ?_
 rintro _ w2 ⟨rfl,hn2⟩
 refine ah.e0 (bC.aL rfl rfl rfl rfl rfl FM hn2.aH rfl) ?_
 rintro _ w3 ⟨hb3,hc3,hs3⟩
 have hx3:Ext w1 w3:=hn2.ext.trans' hc3 (fun i hi e=>by omega)
 refine Ah ?_
 exact Fin.gb rfl rfl rfl ⟨rfl,hx1.trans hx3⟩
end Go.Proofs.YtceedealggognaaGreatDoor
