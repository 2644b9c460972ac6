import Derived.Test.YtdkcljdfbemnbaaGreatDoorJW2
import Derived.Test.YtdkcljdfbemnbaaGreatDoorJSb
namespace Go.Proofs.YtdkcljdfbemnbaaGreatDoor
open Go.RowKit _root_.Go.Proofs.Tryz
set_option maxHeartbeats 32000000
open List renaming Sublist→Pv,all_eq_true→PC,any_append→Qi,cons_append→Pq,flatMap_append→PY,flatMap_cons→Qj,getElem?_append_left→P7,getElem?_append_right→P9,getElem?_eq_getElem→Pw,getElem?_eq_some_iff→PR,length_append→Py,mem_cons→PF,mem_of_find?_eq_some→P2,nil_append→Pp,nil_sublist→PN,not_mem_nil→P3,take_length→PA
open Nat renaming blt→Pt,le_trans→PE,succ_mul→Qg,zero_add→Ps
open Value renaming bool→Po,int→Pm,slice→Pn,string→Pr
set_option maxRecDepth 100000
abbrev qu:=Int×List UInt8×Int
def qp (r:qu):List Value:=[.int .i64 r.1,.string ⟨r.2.1.toArray⟩,.int .i64 r.2.2]
def od:List qu:=[(0,[117,110,114,101,97,99,104,97,98,108,101],0),(1,[110,111,112],0),(2,[98,108,111,99,107],1),(3,[108,111,111,112],1),(4,[105,102],1),(5,[101,108,115,101],0),(11,[101,110,100],0),(12,[98,114],2),(13,[98,114,95,105,102],2),(14,[98,114,95,116,97,98,108,101],3),(15,[114,101,116,117,114,110],0),(16,[99,97,108,108],4),(17,[99,97,108,108,95,105,110,100,105,114,101,99,116],5),(26,[100,114,111,112],0),(27,[115,101,108,101,99,116],0),(28,[115,101,108,101,99,116],6),(32,[108,111,99,97,108,46,103,101,116],7),(33,[108,111,99,97,108,46,115,101,116],7),(34,[108,111,99,97,108,46,116,101,101],7),(35,[103,108,111,98,97,108,46,103,101,116],8),(36,[103,108,111,98,97,108,46,115,101,116],8),(37,[116,97,98,108,101,46,103,101,116],9),(38,[116,97,98,108,101,46,115,101,116],9)]
def qz:List qu:=[(40,[105,51,50,46,108,111,97,100],17),(41,[105,54,52,46,108,111,97,100],17),(44,[105,51,50,46,108,111,97,100,56,95,115],17),(45,[105,51,50,46,108,111,97,100,56,95,117],17),(46,[105,51,50,46,108,111,97,100,49,54,95,115],17),(47,[105,51,50,46,108,111,97,100,49,54,95,117],17),(48,[105,54,52,46,108,111,97,100,56,95,115],17),(49,[105,54,52,46,108,111,97,100,56,95,117],17),(50,[105,54,52,46,108,111,97,100,49,54,95,115],17),(51,[105,54,52,46,108,111,97,100,49,54,95,117],17),(52,[105,54,52,46,108,111,97,100,51,50,95,115],17),(53,[105,54,52,46,108,111,97,100,51,50,95,117],17),(54,[105,51,50,46,115,116,111,114,101],17),(55,[105,54,52,46,115,116,111,114,101],17),(58,[105,51,50,46,115,116,111,114,101,56],17),(59,[105,51,50,46,115,116,111,114,101,49,54],17),(60,[105,54,52,46,115,116,111,114,101,56],17),(61,[105,54,52,46,115,116,111,114,101,49,54],17),(62,[105,54,52,46,115,116,111,114,101,51,50],17),(63,[109,101,109,111,114,121,46,115,105,122,101],13),(64,[109,101,109,111,114,121,46,103,114,111,119],13),(65,[105,51,50,46,99,111,110,115,116],18),(66,[105,54,52,46,99,111,110,115,116],19)]
def Fa:List qu:=[(208,[114,101,102,46,110,117,108,108],20),(209,[114,101,102,46,105,115,95,110,117,108,108],0),(210,[114,101,102,46,102,117,110,99],4),(64520,[109,101,109,111,114,121,46,105,110,105,116],15),(64521,[100,97,116,97,46,100,114,111,112],16),(64522,[109,101,109,111,114,121,46,99,111,112,121],14),(64523,[109,101,109,111,114,121,46,102,105,108,108],13),(64524,[116,97,98,108,101,46,105,110,105,116],11),(64525,[101,108,101,109,46,100,114,111,112],12),(64526,[116,97,98,108,101,46,99,111,112,121],10),(64527,[116,97,98,108,101,46,103,114,111,119],9),(64528,[116,97,98,108,101,46,115,105,122,101],9),(64529,[116,97,98,108,101,46,102,105,108,108],9)]
def Jh:List qu:=[(167,[105,51,50,46,119,114,97,112,95,105,54,52],0),(172,[105,54,52,46,101,120,116,101,110,100,95,105,51,50,95,115],0),(173,[105,54,52,46,101,120,116,101,110,100,95,105,51,50,95,117],0)]
def gI:List (List UInt8):=[[101,113,122],[101,113],[110,101],[108,116,95,115],[108,116,95,117],[103,116,95,115],[103,116,95,117],[108,101,95,115],[108,101,95,117],[103,101,95,115],[103,101,95,117]]
def oP:List (List UInt8):=[[99,108,122],[99,116,122],[112,111,112,99,110,116],[97,100,100],[115,117,98],[109,117,108],[100,105,118,95,115],[100,105,118,95,117],[114,101,109,95,115],[114,101,109,95,117],[97,110,100],[111,114],[120,111,114],[115,104,108],[115,104,114,95,115],[115,104,114,95,117],[114,111,116,108],[114,111,116,114]]
def gO (f:Int) (t:List UInt8) (l:List (List UInt8)):List qu:=l.zipIdx.map fun p=>(f+p.2,t++[46]++p.1,0)
def Fe:List (List UInt8):=[[101,120,116,101,110,100,56,95,115],[101,120,116,101,110,100,49,54,95,115]]
def Ff:List (List UInt8):=[[101,120,116,101,110,100,56,95,115],[101,120,116,101,110,100,49,54,95,115],[101,120,116,101,110,100,51,50,95,115]]
def lL:List qu:=((((((((od++qz)++gO 69 [105,51,50] gI)++gO 80 [105,54,52] gI)++gO 103 [105,51,50] oP)++gO 121 [105,54,52] oP)++Jh)++gO 192 [105,51,50] Fe)++gO 194 [105,54,52] Ff)++Fa
theorem Hf (xs:List qu):(xs.flatMap qp).length=xs.length*3:=by
 induction xs with
 |nil=>rfl
 |cons a r ih=>rw[Qj,Py,ih,List.length_cons];simp[qp];omega
theorem mf {xs:List qu}:∀u∈xs.flatMap qp,u.oneCell'=true:=by
 intro u hu
 obtain⟨r,_,hr⟩:=List.mem_flatMap.1 hu
 simp only[qp,PF,P3,or_false]at hr
 rcases hr with rfl|rfl|rfl<;>rfl
abbrev T5:Nat:=234
def EJ (w:World) (xs:List qu) (e:Ending) (w':World):Prop:=(∃v,e=.returned v∧w'.ownsRow w.heap.size T5 3 v xs.length (xs.flatMap qp))∧Ext w w'
theorem wj (w:World):Calls G.P 188 #[] w (EJ w od):=by
 refine enter (G:=G) func188 rfl ntmps188 rfl ?_
 refine cA ?_
 refine aq.e (bU.buildSlice (cs:=od.flatMap qp) (e:=T5) rfl Pb) rfl ?_
 rintro _ w1 ⟨rfl,hn⟩
 refine cA ?_
 exact Mg
theorem yD (w:World):Calls G.P 189 #[] w (EJ w qz):=by
 refine enter (G:=G) func189 rfl ntmps189 rfl ?_
 refine cA ?_
 refine aq.e (bU.buildSlice (cs:=qz.flatMap qp) (e:=T5) rfl Pb) rfl ?_
 rintro _ w1 ⟨rfl,hn⟩
 refine cA ?_
 exact Mg
theorem D8 (w:World):Calls G.P 193 #[] w (EJ w Fa):=by
 refine enter (G:=G) func193 rfl ntmps193 rfl ?_
 refine cA ?_
 refine aq.e (bU.buildSlice (cs:=Fa.flatMap qp) (e:=T5) rfl Pb) rfl ?_
 rintro _ w1 ⟨rfl,hn⟩
 refine cA ?_
 exact Mg
theorem oB (w:World):Calls G.P 191 #[] w fun e w'=>(∃v,e=.returned v∧w'.ownsRow w.heap.size 9 1 v gI.length (gI.map fun l=>Pr ⟨l.toArray⟩))∧Ext w w':=by
 refine enter (G:=G) func191 rfl ntmps191 rfl ?_
 refine cA ?_
 refine aq.e (bU.buildSlice (cs:=gI.map fun l=>Pr ⟨l.toArray⟩) (e:=9) rfl Pb) rfl ?_
 rintro _ w1 ⟨rfl,hn⟩
 refine cA ?_
 exact Mg
theorem uF (w:World):Calls G.P 192 #[] w fun e w'=>(∃v,e=.returned v∧w'.ownsRow w.heap.size 9 1 v oP.length (oP.map fun l=>Pr ⟨l.toArray⟩))∧Ext w w':=by
 refine enter (G:=G) func192 rfl ntmps192 rfl ?_
 refine cA ?_
 refine aq.e (bU.buildSlice (cs:=oP.map fun l=>Pr ⟨l.toArray⟩) (e:=9) rfl Pb) rfl ?_
 rintro _ w1 ⟨rfl,hn⟩
 refine cA ?_
 exact Mg
variable {g:Int→Option Value} {s p:List UInt8} {i:Nat} {α:Type} (f:Int) (t:List UInt8) {F:Nat→Prop} {w:World} {B:Nat} {tc:List Value} {v:Value} (l:List (List UInt8)) {ops:Array Oper} {Q:Exit→Act→World→Prop} {n:Nat} {rest:List Oper} {E:Env} {M:List bu} {R:List (World→Prop)} {d:Nat}
theorem xy:(gO f t l).length=l.length:=by simp[gO]
theorem Bz {f:Int} {t:List UInt8} {l:List (List UInt8)} {k:Nat} (h:k<l.length):(gO f t l).take (k+1)=(gO f t l).take k++[(f+k,t++[46]++ix l k,0)]:=by
 have hl:k<(gO f t l).length:=by rw[xy];exact h
 rw[List.take_succ_eq_append_getElem hl]
 congr 2
 simp only[gO,List.getElem_map,List.getElem_zipIdx,cz h]
 simp
theorem IW (a b:List UInt8):(⟨a.toArray⟩:ByteArray)++⟨b.toArray⟩=⟨(a++b).toArray⟩:=by
 apply ByteArray.ext
 simp
def EK (w:World) (v:Value) (l:List (List UInt8)):Prop:=∃p c,v=.slice p l.length c∧∀i,i<l.length→∃b o,p=some ⟨b,o,none⟩∧w.cell? ⟨b,o+i,none⟩=some (.string ⟨(ix l i).toArray⟩)
theorem mZ {l:List (List UInt8)} (h:w.ownsRow B 9 1 v l.length (l.map fun l=>Pr ⟨l.toArray⟩)):EK w v l:=by
 obtain⟨p,c,rfl,_,_,hg⟩:=aw h
 refine⟨p,c,rfl,fun i hi=>?_⟩
 obtain⟨g,rfl,_,_⟩:=hg Pi
 exact⟨g,0,rfl,by rw[Ps];exact dP h OX⟩
theorem il (v:Value) (w:World) (hv:EK w v l) (_hf:0≤f∧f≤100000) (_ht:t.length≤100) (_hl:l.length≤100) (hs:∀i,i<l.length→(ix l i).length≤100):
  Calls G.P 190 #[.int .i64 f,.string ⟨t.toArray⟩,v] w (EJ w (gO f t l)):=by
 obtain⟨p,c,rfl,hc⟩:=hv
 refine ae (l:=[.int .i64 f,.string ⟨t.toArray⟩,.slice p l.length c]) func190 rfl ntmps190 rfl (Ok.start w) ?_
 refine bh.iP w.heap.size T5 3 ?_
 refine cq ?_
 refine bh.loop (σ:=Nat×Value) (fun s=>[(0,.int .i64 f),(1,.string ⟨t.toArray⟩),(2,.slice p l.length c),(7,s.2),(8,.int .i64 s.1)]) (fun s=>[.own w.heap.size T5 3 s.2 s.1 (((gO f t l).take s.1).flatMap qp)]) (fun _=>[Ext w]) (fun s=>s.1≤l.length) (fun s=>l.length - s.1) (0,.slice none 0 0) bH bz aU O6 ?_
 rintro⟨i,v⟩ hi
 dsimp only at hi ⊢
 by_cases hlt:i<l.length
 ·obtain⟨b,o,rfl,c1⟩:=hc i hlt
  have hsi:=hs i hlt
  have z1:(⟨t.toArray⟩:ByteArray).size=t.length:=rfl
  have z2:(⟨#[46]⟩:ByteArray).size=1:=rfl
  have z3:(⟨(ix l i).toArray⟩:ByteArray).size=(ix l i).length:=rfl
  have z4:((⟨t.toArray⟩:ByteArray)++⟨#[46]⟩).size=t.length+1:=by rw[ByteArray.size_append,z1,z2]
  refine cq ?_
  refine MR ?_
  intro b2 _
  refine aa.he (HE.app rfl rfl (fun _=>aH) aH rfl rfl rfl Pk Pk Pk Pk Pk Pk Pi nW) rfl ?_
  intro v2 _
  refine cq ?_
  refine ah.next (i+1,v2) bH (.cons _ (nC rfl rfl ?_ (PN _))) aU O6 O6
  rw[Bz hlt,PY,show(⟨t.toArray⟩:ByteArray)++⟨#[46]⟩=⟨(t++[46]).toArray⟩from IW t [46],IW]
  rfl
 ·obtain rfl:i=l.length:=by omega
  refine cq ?_
  refine ah.aG rfl rfl fun w' hw'=>?_
  have h1:w'.ownsRow w.heap.size T5 3 v l.length (((gO f t l).take l.length).flatMap qp):=(hw'.m _ (List.mem_singleton.2 rfl)).1
  refine⟨⟨v,rfl,?_⟩,hw'.get ak⟩
  rw[←xy f t l,PA]at h1;exact h1
theorem AS {xs:List Value} (h:w.ownsRow B 9 1 v n xs) (hn:n=l.length) (hx:xs=l.map fun l=>Pr ⟨l.toArray⟩):EK w v l:=by
 subst hn;subst hx;exact mZ h
theorem BL (w:World):Calls G.P 175 #[] w (EJ w lL):=by
 refine ae (l:=[]) func175 rfl ntmps175 rfl (Ok.start w) ?_
 refine cq ?_
 refine aa.he (HE.lQ (B:=w.heap.size) rfl rfl nW (fun w' _=>wj w')) rfl ?_
 intro v1 _
 refine aa.he (HE.lQ (B:=w.heap.size) rfl rfl nW (fun w' _=>yD w')) rfl ?_
 intro v2 _
 refine Nv ?_
 intro v3 _
 refine cq ?_
 refine aa.he (HE.lQ (B:=w.heap.size) rfl rfl nW (fun w' _=>oB w')) rfl ?_
 intro s1 _
 refine aa.he (HE.lQ (B:=w.heap.size) rfl rfl nW (fun w' hw'=>il 69 [105,51,50] gI s1 w' (mZ hw'.own) Pi Ph Ph Ph)) rfl ?_
 intro v4 _
 refine Nv ?_
 intro v5 _
 refine cq ?_
 refine aa.he (HE.lQ (B:=w.heap.size) rfl rfl nW (fun w' _=>oB w')) rfl ?_
 intro s2 _
 refine aa.he (HE.lQ (B:=w.heap.size) rfl rfl nW (fun w' hw'=>il 80 [105,54,52] gI s2 w' (mZ hw'.own) Pi Ph Ph Ph)) rfl ?_
 intro v6 _
 refine Nv ?_
 intro v7 _
 refine cq ?_
 refine aa.he (HE.lQ (B:=w.heap.size) rfl rfl nW (fun w' _=>uF w')) rfl ?_
 intro s3 _
 refine aa.he (HE.lQ (B:=w.heap.size) rfl rfl nW (fun w' hw'=>il 103 [105,51,50] oP s3 w' (mZ hw'.own) Pi Ph Ph Ph)) rfl ?_
 intro v8 _
 refine Nv ?_
 intro v9 _
 refine cq ?_
 refine aa.he (HE.lQ (B:=w.heap.size) rfl rfl nW (fun w' _=>uF w')) rfl ?_
 intro s4 _
 refine aa.he (HE.lQ (B:=w.heap.size) rfl rfl nW (fun w' hw'=>il 121 [105,54,52] oP s4 w' (mZ hw'.own) Pi Ph Ph Ph)) rfl ?_
 intro v10 _
 refine Nv ?_
 intro v11 _
 refine cq ?_
 refine MR ?_
 intro b1 _
 refine aa.jN (b:=b1) (len:=3) 3 aH rfl (by unfold maxLen;decide) ?_
 refine aa.he (HE.nc rfl rfl (fun _=>aH) aH rfl rfl rfl Pk Pk Pk Pk Ph Ph nW) rfl ?_
 intro v12 _
 refine cq ?_
 refine MR ?_
 intro b2 _
 refine aa.jN (b:=b2) (len:=2) 1 aH rfl (by unfold maxLen;decide) ?_
 refine aa.he (HE.lQ (B:=w.heap.size) rfl rfl nW (fun w' hw'=>il 192 [105,51,50] Fe _ w' (AS Fe hw'.own Pk Pk) Pi Ph Ph Ph)) rfl ?_
 intro v13 _
 refine Nv ?_
 intro v14 _
 refine cq ?_
 refine MR ?_
 intro b3 _
 refine aa.jN (b:=b3) (len:=3) 1 aH rfl (by unfold maxLen;decide) ?_
 refine aa.he (HE.lQ (B:=w.heap.size) rfl rfl nW (fun w' hw'=>il 194 [105,54,52] Ff _ w' (AS Ff hw'.own Pk Pk) Pi Ph Ph Ph)) rfl ?_
 intro v15 _
 refine Nv ?_
 intro v16 _
 refine cq ?_
 refine aa.he (HE.lQ (B:=w.heap.size) rfl rfl nW (fun w' _=>D8 w')) rfl ?_
 intro v17 _
 refine Nv ?_
 intro v18 _
 refine cq ?_
 refine ah.aG rfl rfl fun w' hw'=>⟨⟨v18,rfl,?_⟩,hw'.at⟩
 have h1:=(hw'.m (.own w.heap.size T5 3 v18 ((((((((((od.length+qz.length)+(gO 69 [105,51,50] gI).length)+(gO 80 [105,54,52] gI).length)+(gO 103 [105,51,50] oP).length)+(gO 121 [105,54,52] oP).length)+3)+(gO 192 [105,51,50] Fe).length)+(gO 194 [105,54,52] Ff).length)+Fa.length)) _) bO).1
 have e:lL.flatMap qp=(((((((((od.flatMap qp++qz.flatMap qp)++(gO 69 [105,51,50] gI).flatMap qp)++(gO 80 [105,54,52] gI).flatMap qp)++(gO 103 [105,51,50] oP).flatMap qp)++(gO 121 [105,54,52] oP).flatMap qp)++Jh.flatMap qp)++(gO 192 [105,51,50] Fe).flatMap qp)++(gO 194 [105,54,52] Ff).flatMap qp)++Fa.flatMap qp):=by
  unfold lL;simp only[PY]
 rw[e]
 exact h1
def fz (op:Int):Option qu:=lL.find? fun r=>decide (r.1=op)
def eH (op:Int):qu:=(fz op).getD (0,[],0)
theorem CU:∀(xs:List qu) (i j:Nat),i<xs.length→j<3→(xs.flatMap qp)[i*3+j]?=(qp (ix xs i))[j]?
 |[],i,_,h,_=>by simp at h
 |a::r,0,j,_,hj=>by
  rw[Qj,P7 (by simp[qp];omega)]
  simp[ix]
 |a::r,i+1,j,h,hj=>by
  rw[Qj,P9 (by simp[qp];omega)]
  have e:(i+1)*3+j - (qp a).length=i*3+j:=by simp[qp];omega
  rw[e,CU r i j Pa hj]
  simp[ix]
def JB (g:Nat):World→Prop:=fun w=>∀i,i<lL.length→∀j,j<3→w.cell? ⟨g,0+i*3+j,none⟩=(qp (ix lL i))[j]?
theorem Hn {B g cap:Nat} (h:w.ownsRow B T5 3 (.slice (some ⟨g,0,none⟩) lL.length cap) lL.length (lL.flatMap qp)):JB g w:=fun i hi j hj=>by
 rw[←CU lL i j hi hj]
 have hs:∃u,(lL.flatMap qp)[i*3+j]?=some u:=⟨_,Pw (by rw[Hf];omega)⟩
 obtain⟨u,hu⟩:=hs
 rw[hu,Ps]
 exact dP h hu
theorem CQ:lL.length=125:=by decide+kernel
theorem Fh {op:Int} {i:Nat} (hi:i<lL.length) (h:∀j,j<i→(ix lL j).1≠op) (e:(ix lL i).1=op):fz op=some (ix lL i):=by
 unfold fz
 rw[List.find?_eq_some_iff_getElem]
 refine⟨by simpa using e,i,hi,(cz hi).symm,fun j hj=>?_⟩
 have:=h j hj
 rw[cz Pi]at this
 simpa using this
theorem Bi {op:Int} (h:∀j,j<lL.length→(ix lL j).1≠op):fz op=none:=by
 unfold fz
 rw[List.find?_eq_none]
 intro x hx
 obtain⟨j,hj,e⟩:=List.getElem_of_mem hx
 have:=h j hj
 rw[cz hj,e]at this
 simpa using this
def Fi (op:Int):Value:=.tuple #[.agg #[.int .i64 (eH op).1,.string ⟨(eH op).2.1.toArray⟩,.int .i64 (eH op).2.2],.bool (fz op).isSome]
theorem qb (op:Int) (w:World):Calls G.P 149 #[.int .i64 op] w fun e w'=>e=.returned (Fi op)∧Ext w w':=by
 refine ae (l:=[.int .i64 op]) func149 rfl ntmps149 rfl (Ok.start w) ?_
 refine cq ?_
 refine aa.alloc [.int .i64 0,.string ⟨#[]⟩,.int .i64 0] rfl rfl rfl fun b=>?_
 refine cq ?_
 refine aa.he (HE.lQ (B:=w.heap.size) rfl rfl nW (fun w' _=>BL w')) rfl ?_
 intro v1 _
 refine aa.pure (φ:=∃g cap,v1=.slice (some ⟨g,0,none⟩) lL.length cap) (fun w' hw'=>?_) ?_
 ·obtain⟨p,c,rfl,_,_,hg⟩:=aw (hw'.own (v:=v1))
  obtain⟨g,rfl,_⟩:=hg (by rw[CQ];omega)
  exact⟨g,c,rfl⟩
 rintro⟨g,cap,rfl⟩
 refine aa.freeze (JB g) jH (fun w' hq _=>Hn hq) ?_
 have hlen:=CQ
 generalize hn:lL.length=n at*
 refine cq ?_
 refine bh.loop (σ:=Nat) (fun i=>[(0,.int .i64 op),(2,.pointer (some ⟨b,0,none⟩)),(4,.slice (some ⟨g,0,none⟩) n cap),(5,.int .i64 i)]) (fun _=>[.aW b [.int .i64 0,.string ⟨#[]⟩,.int .i64 0] T5]) (fun _=>[JB g,Ext w]) (fun i=>i≤n∧∀j,j<i→(ix lL j).1≠op) (fun i=>n - i) 0 bH bz aU ⟨by omega,fun j hj=>by omega⟩ ?_
 rintro i ⟨hi,hall⟩
 by_cases hlt:i<n
 ·have hlt':i<lL.length:=by omega
  refine bh.lj (Cs g (0+i*3) [.int .i64 (ix lL i).1,.string ⟨(ix lL i).2.1.toArray⟩,.int .i64 (ix lL i).2.2]) (fun w' hw' j hj=>(A6 hw':JB g w') i hlt' j hj) ?_
  by_cases he:(ix lL i).1=op
  ·have hf:=Fh hlt' hall he
   refine cq ?_
   refine ah.aM (cs:=[.int .i64 (ix lL i).1,.string ⟨(ix lL i).2.1.toArray⟩,.int .i64 (ix lL i).2.2]) (.inl rfl) rfl rfl rfl rfl rfl aH rfl rfl fun w' hw'=>⟨?_,hw'.at⟩
   unfold Fi eH;rw[hf];rfl
  ·refine cq ?_
   refine ah.next (i+1) bH bz aU ⟨by omega,fun j hj=>?_⟩ Pi
   by_cases e:j=i
   ·subst e;exact he
   ·exact hall j Pi
 ·obtain rfl:i=n:=by omega
  have hf:=Bi (op:=op) (by rw[hn];exact hall)
  refine cq ?_
  refine ah.aM (.inl rfl) rfl rfl rfl rfl rfl aH rfl rfl fun w' hw'=>⟨?_,hw'.at⟩
  unfold Fi eH;rw[hf];rfl
theorem Ae (op:Int) (w:World):Calls G.P 106 #[.int .i64 op] w fun e w'=>e=.returned (.bool (fz op).isSome)∧Ext w w':=by
 refine ae (l:=[.int .i64 op]) func106 rfl ntmps106 rfl (Ok.start w) ?_
 refine cq ?_
 refine aa.av rfl rfl rfl (fun w' _=>qb op w') ?_
 refine cq ?_
 refine aa.alloc [.int .i64 0,.string ⟨#[]⟩,.int .i64 0] rfl rfl rfl fun b=>?_
 refine cq ?_
 exact gt
theorem uk (op:Int) (w:World):Calls G.P 201 #[.int .i64 op] w fun e w'=>e=.returned (.string ⟨(eH op).2.1.toArray⟩)∧Ext w w':=by
 refine ae (l:=[.int .i64 op]) func201 rfl ntmps201 rfl (Ok.start w) ?_
 refine cq ?_
 refine aa.av rfl rfl rfl (fun w' _=>qb op w') ?_
 refine cq ?_
 refine aa.alloc [.int .i64 0,.string ⟨#[]⟩,.int .i64 0] rfl rfl rfl fun b=>?_
 refine cq ?_
 exact gt
theorem dq (op:Int) (w:World):Calls G.P 105 #[.int .i64 op] w fun e w'=>e=.returned (.int .i64 (eH op).2.2)∧Ext w w':=by
 refine ae (l:=[.int .i64 op]) func105 rfl ntmps105 rfl (Ok.start w) ?_
 refine cq ?_
 refine aa.av rfl rfl rfl (fun w' _=>qb op w') ?_
 refine cq ?_
 refine aa.alloc [.int .i64 0,.string ⟨#[]⟩,.int .i64 0] rfl rfl rfl fun b=>?_
 refine cq ?_
 exact gt
def IE (s p:List UInt8) (i:Nat):Bool:=(s.drop i).take p.length==p
def eT (s p:List UInt8):Bool:=(List.range (s.length+1)).any fun i=>decide (i+p.length≤s.length) && IE s p i
theorem Ew (h:i+p.length≤s.length) (e:IE s p i=true):eT s p=true:=by
 unfold eT;rw[List.any_eq_true];exact⟨i,by simp;omega,by simp[h,e]⟩
theorem Ev (_h:s.length<i+p.length) (hall:∀j,j<i→IE s p j=false):eT s p=false:=by
 unfold eT;rw[List.any_eq_false]
 intro j _
 by_cases hj:j<i
 ·simp[hall j hj]
 ·simp;omega
theorem gi (s p:List UInt8) (w:World) (_hs:s.length≤1000) (_hp:p.length≤1000):Calls G.P 203 #[.string ⟨s.toArray⟩,.string ⟨p.toArray⟩] w fun e w'=>e=.returned (.bool (eT s p))∧Ext w w':=by
 refine ae (l:=[.string ⟨s.toArray⟩,.string ⟨p.toArray⟩]) func203 rfl ntmps203 rfl (Ok.start w) ?_
 have z1:(⟨s.toArray⟩:ByteArray).size=s.length:=rfl
 have z2:(⟨p.toArray⟩:ByteArray).size=p.length:=rfl
 refine cq ?_
 refine bh.loop (σ:=Nat) (fun i=>[(0,.string ⟨s.toArray⟩),(1,.string ⟨p.toArray⟩),(5,.int .i64 i)]) (fun _=>[]) (fun _=>[Ext w]) (fun i=>i≤s.length+1∧∀j,j<i→IE s p j=false) (fun i=>s.length+1 - i) 0 bH bz aU ⟨by omega,fun j hj=>by omega⟩ ?_
 rintro i ⟨hi,hall⟩
 by_cases hlt:i+p.length≤s.length
 ·refine cq ?_
  have e:((ByteArray.mk s.toArray).extract i (i+(⟨p.toArray⟩:ByteArray).size)).data.toList=(s.drop i).take p.length:=by
   show hG _=_
   rw[jZ,List.drop_take,z2]
   have:i+p.length - i=p.length:=by omega
   rw[this]
  refine bh.Cx (b:=IE s p i) (by unfold IE;rw[←e];rfl) (fun h=>?_) (fun h=>?_)
  ·refine cq ?_
   exact ah.aG rfl rfl fun w' hw'=>⟨by rw[Ew hlt h],hw'.at⟩
  ·refine cq ?_
   refine ah.next (i+1) bH bz aU ⟨by omega,fun j hj=>?_⟩ Pi
   by_cases e:j=i
   ·subst e;exact h
   ·exact hall j Pi
 ·refine cq ?_
  exact ah.aG rfl rfl fun w' hw'=>⟨by rw[Ev Pi hall],hw'.at⟩
def tI (s:List UInt8) (d e:List UInt8):Bool:=eT s d || eT s e
def iY (op:Int):Int:=
 if(eH op).2.2≠17 then 0 else
 let s:=(eH op).2.1
 if tI s [100,56] [101,56]=true then 1 else if tI s [100,49,54] [101,49,54]=true then 2 else if tI s [100,51,50] [101,51,50]=true then 4 else if((s.drop 1).take 2==[51,50])=true then 4 else 8
theorem DZ:(lL.all fun r=>decide (r.2.1.length≤100) && (decide (r.2.2≠17) || decide (3≤r.2.1.length)))=true:=by decide+kernel
theorem BV (op:Int):(eH op).2.1.length≤100∧((eH op).2.2=17→3≤(eH op).2.1.length):=by
 unfold eH
 cases h:fz op with
 |none=>simp
 |some r=>
  have:=PC.1 DZ r (P2 h)
  simp only[Bool.and_eq_true,Bool.or_eq_true,decide_eq_true_eq]at this
  exact⟨this.1,fun e=>this.2.resolve_left (fun h=>h e)⟩
theorem Af (op:Int) (w:World):Calls G.P 199 #[.int .i64 op] w fun e w'=>e=.returned (.int .i64 (iY op))∧Ext w w':=by
 obtain⟨q1,q2⟩:=BV op
 have hw5:iY op=iY op:=rfl
 conv at hw5=>rhs;unfold iY
 refine ae (l:=[.int .i64 op]) func199 rfl ntmps199 rfl (Ok.start w) ?_
 refine cq ?_
 refine aa.av rfl rfl rfl (fun w' _=>uk op w') ?_
 refine cq ?_
 refine aa.av rfl rfl rfl (fun w' _=>dq op w') ?_
 by_cases h17:(eH op).2.2=17
 ·rw[if_neg (by simp[h17])]at hw5
  have q3:=q2 h17
  dsimp only at hw5
  generalize (eH op).2.1=s at*
  have z1:(⟨s.toArray⟩:ByteArray).size=s.length:=rfl
  refine cq ?_
  refine aa.av (v:=.bool (eT s [100,56])) rfl rfl rfl (fun w' _=>gi s [100,56] w' Pi Ph) ?_
  cases a0:eT s [100,56]with
  |true=>
   refine cq ?_
   refine ah.aG rfl rfl fun w' hw'=>⟨?_,hw'.at⟩
   rw[hw5];simp[tI,a0]
  |false=>
   refine cq ?_
   refine aa.cB (v:=.bool (eT s [101,56])) rfl rfl rfl rfl (fun w' _=>gi s [101,56] w' Pi Ph) ?_
   cases b0:eT s [101,56]with
   |true=>
    refine cq ?_
    refine ah.aG rfl rfl fun w' hw'=>⟨?_,hw'.at⟩
    rw[hw5];simp[tI,a0,b0]
   |false=>
    refine cq ?_
    refine aa.av (v:=.bool (eT s [100,49,54])) rfl rfl rfl (fun w' _=>gi s [100,49,54] w' Pi Ph) ?_
    cases a1:eT s [100,49,54]with
    |true=>
     refine cq ?_
     refine ah.aG rfl rfl fun w' hw'=>⟨?_,hw'.at⟩
     rw[hw5];simp[tI,a0,b0,a1]
    |false=>
     refine cq ?_
     refine aa.cB (v:=.bool (eT s [101,49,54])) rfl rfl rfl rfl (fun w' _=>gi s [101,49,54] w' Pi Ph) ?_
     cases b1:eT s [101,49,54]with
     |true=>
      refine cq ?_
      refine ah.aG rfl rfl fun w' hw'=>⟨?_,hw'.at⟩
      rw[hw5];simp[tI,a0,b0,a1,b1]
     |false=>
      refine cq ?_
      refine aa.av (v:=.bool (eT s [100,51,50])) rfl rfl rfl (fun w' _=>gi s [100,51,50] w' Pi Ph) ?_
      cases a2:eT s [100,51,50]with
      |true=>
       refine cq ?_
       refine ah.aG rfl rfl fun w' hw'=>⟨?_,hw'.at⟩
       rw[hw5];simp[tI,a0,b0,a1,b1,a2]
      |false=>
       refine cq ?_
       refine aa.cB (v:=.bool (eT s [101,51,50])) rfl rfl rfl rfl (fun w' _=>gi s [101,51,50] w' Pi Ph) ?_
       cases b2:eT s [101,51,50]with
       |true=>
        refine cq ?_
        refine ah.aG rfl rfl fun w' hw'=>⟨?_,hw'.at⟩
        rw[hw5];simp[tI,a0,b0,a1,b1,a2,b2]
       |false=>
        refine cq ?_
        refine aa.y_ (Yl.eW (i:=1) (j:=3) underlying9 rfl rfl rfl rfl rfl Pi Pi) rfl ?_
        have e:((ByteArray.mk s.toArray).extract 1 3).data.toList=(s.drop 1).take 2:=by
         show hG _=_
         rw[jZ,List.drop_take]
        refine cq ?_
        refine bh.Cx (b:=((s.drop 1).take 2==[51,50])) (by rw[←e];rfl) (fun h=>?_) (fun h=>?_)
        ·refine cq ?_
         refine ah.aG rfl rfl fun w' hw'=>⟨?_,hw'.at⟩
         rw[hw5];simp only[tI,a0,b0,a1,b1,a2,b2,h,Bool.or_false,Bool.false_eq_true,if_false,if_true]
        ·refine cq ?_
         refine ah.aG rfl rfl fun w' hw'=>⟨?_,hw'.at⟩
         rw[hw5];simp only[tI,a0,b0,a1,b1,a2,b2,h,Bool.or_false,Bool.false_eq_true,if_false]
 ·rw[if_pos h17]at hw5
  refine cq ?_
  exact ah.aG rfl rfl fun w' hw'=>⟨by rw[hw5],hw'.at⟩
theorem tables:zd=lL.map fun r=>(r.1,⟨r.2.1.toArray⟩):=by decide+kernel
theorem xm (op:Int):∀l:List qu,lT op (l.map fun r=>(r.1,⟨r.2.1.toArray⟩))=(l.find? fun r=>decide (r.1=op)).map fun r=>⟨r.2.1.toArray⟩
 |[]=>rfl
 |a::r=>by
  rw[List.map_cons,lT,List.find?_cons]
  by_cases h:a.1=op
  ·simp[h]
  ·simp[h,xm op r]
theorem GN (op:Int):lT op zd=(fz op).map fun r=>⟨r.2.1.toArray⟩:=by rw[tables,xm];rfl
theorem CJ (op:Int):hG (ia op)=(eH op).2.1:=by
 unfold ia eH;rw[GN]
 cases fz op<;>rfl
theorem Dz:(lL.all fun r=>!(r.2.1==[]))=true:=by decide+kernel
theorem zS (op:Int):Bo op=(fz op).isSome:=by
 unfold Bo;rw[CJ];unfold eH
 cases h:fz op with
 |none=>rfl
 |some r=>
  have:=PC.1 Dz r (P2 h)
  simpa using this
theorem Eu:(lL.all fun r=>iY r.1==iL r.1)=true:=by decide+kernel
theorem vG (op:Int):iL op=iY op:=by
 cases h:fz op with
 |none=>
  have h1:=zS op
  rw[h]at h1
  have h2:kD op=false:=by unfold kD;rw[h1];simp
  unfold iL iY eH
  rw[h2,h];rfl
 |some r=>
  have:=PC.1 Eu r (P2 h)
  have e:r.1=op:=by have:=List.find?_some h;simpa using this
  rw[e]at this
  exact(beq_iff_eq.1 this).symm
theorem gF.el [Inhabited α] {s N:Nat} {R:sY α} {F:Nat→Prop} {w:World} {p:Option Addr} {n cap:Nat} {xs:List α} (h:gF s N R F w (.slice p n cap) xs) {i:Nat} (hi:i<xs.length):∃b off,p=some ⟨b,off,none⟩∧F b∧R F w b (off+i*s) (ix xs i):=by
 obtain⟨b,off,e,hF,hall⟩:=h.at hi
 exact⟨b,off,e,hF,hall i hi⟩
def vR (l:List bY) (k:Int) (n:Nat):Nat:=((l.take n).filter fun x=>decide (x.kind=k)).length
def kT (m:af) (k:Int):Nat:=vR m.imports k m.imports.length
theorem xq {l:List bY} {k:Int} {n:Nat} (h:n<l.length):vR l k (n+1)=vR l k n+if(ix l n).kind=k then 1 else 0:=by
 unfold vR
 rw[bN h,List.filter_append,Py]
 by_cases e:(ix l n).kind=k<;>simp[e]
theorem yd (l:List bY) (k:Int) (n:Nat):vR l k n≤n:=by
 unfold vR
 exact PE (List.length_filter_le _ _) OZ
abbrev jI:Nat:=33
theorem oD (F:Nat→Prop) (m:af) (k:Int) (cs:List Value) (w:World) (hm:au F w cs m):
  Calls G.P 208 #[.agg cs.toArray,.int .i64 k] w fun e w'=>e=.returned (.int .i64 (kT m k))∧Ext w w':=by
 obtain⟨v0,v1,v2,v3,v4,v5,v6,v7,v8,v9,rfl,r0,r1,r2,r3,r4,r5,r6,r7,r8,r9,g0⟩:=hm
 obtain⟨p1,c1,rfl,l1⟩:=r1.slice
 refine ae (l:=[.agg ([v0,.slice p1 m.imports.length c1,v2,v3,v4,v5,v6,.bool m.aI,.int .i64 m.start,v7,v8,v9]).toArray,.int .i64 k]) func208 rfl ntmps208 rfl (Ok.start w) ?_
 refine cq ?_
 refine aa.box [v0,.slice p1 m.imports.length c1,v2,v3,v4,v5,v6,.bool m.aI,.int .i64 m.start,v7,v8,v9] rfl rfl rfl fun b=>?_
 refine cq ?_
 refine bh.loop (σ:=Nat) (fun i=>[(1,.int .i64 k),(2,.pointer (some ⟨b,0,none⟩)),(5,.int .i64 (vR m.imports k i)),(6,.int .i64 i)]) (fun _=>[.aW b [v0,.slice p1 m.imports.length c1,v2,v3,v4,v5,v6,.bool m.aI,.int .i64 m.start,v7,v8,v9] jI]) (fun _=>[Ext w]) (fun i=>i≤m.imports.length) (fun i=>m.imports.length - i) 0 bH bz aU Pi ?_
 intro i hi
 by_cases hlt:i<m.imports.length
 ·obtain⟨b1,o1,rfl,hF,he⟩:=r1.el hlt
  have c:=he.kind
  have hs:=xq (k:=k) hlt
  have hle:=yd m.imports k i
  by_cases hk:(ix m.imports i).kind=k
  ·rw[if_pos hk]at hs
   refine cq ?_
   exact ah.next (i+1) bH bz aU Pi Pi
  ·rw[if_neg hk]at hs
   refine cq ?_
   exact ah.next (i+1) bH bz aU Pi Pi
 ·obtain rfl:i=m.imports.length:=by omega
  refine cq ?_
  exact gt
theorem iH [Inhabited α] {a b:List α} {i:Nat} (h:i<a.length):ix (a++b) i=ix a i:=by simp[ix,List.getElem?_append_left h]
theorem gN [Inhabited α] {a b:List α} {i:Nat} (h:a.length≤i):ix (a++b) i=ix b (i - a.length):=by simp[ix,List.getElem?_append_right h]
def wW (P:Prop) (w:World) (e:Ending) (w':World):Prop:=(∃b:Bool,e=.returned (.bool b)∧(b=true→P))∧Ext w w'
theorem Body.true {x:List cv} (h:fF F w v x):Body w v x:=h.mono (fun _ _ _=>trivial)
section
variable {n:Nat} {E:Env} {M:List bu} {R:List (World→Prop)}
theorem HE.IY {f:Nat} {args:List Operand} {tys:Array TypeId} {vs:List Value} {P:Prop} (hf:G.fb[f]?=some true) (ha:kJ E args=some vs) (hc:∀w,Ok M R w→Calls G.P f vs.toArray w (wW P w)):
  HE n (.call ⟨.value (.func f),args.toArray,tys⟩) E M R (fun b:Bool=>b=true→P) (fun b=>.bool b) (fun _=>M) (fun _=>R):=
 HE.call (fun b:Bool=>.bool b) hf ha fun w hw=>(hc w hw).mono fun _e _w' ⟨⟨b,e1,h1⟩,hx⟩=>⟨b,e1,h1,hw.ext hx⟩
end
section
variable {n:Nat} {E:Env} {M M':List bu} {R:List (World→Prop)}
theorem Hl {b T:Nat} {cs cs':List Value} (h:cs'=cs) (hs:M'.Sublist M):(bu.aW b cs' T::M').Sublist (bu.aW b cs T::M):=by subst h;exact hs.cons_cons _
end
def zC:Hu:=⟨0,0,0,0,0,0,0,0⟩
def JP (a b:Hu):Hu:=⟨a.funcs+b.funcs,a.instrs+b.instrs,a.blocks+b.blocks,a.loops+b.loops,a.calls+b.calls,a.Fv+b.Fv,a.Ca+b.Ca,a.consts+b.consts⟩
def I2 {α:Type} (f:α→Hu):List α→Hu
 |[]=>zC
 |a::r=>JP (f a) (I2 f r)
def Kf (op:Int):Hu:=⟨0,1,0,IU (op==3),IU (op==16 || op==17),IU (decide (0<iY op) && decide (op<54)),IU (decide (0<iY op) && !decide (op<54)),IU (op==65 || op==66)⟩
noncomputable def Lk (xs:List cv):Nat:=open Classical in if(fN xs).2=0∧¬JT xs then(Gz xs).length else 0
abbrev Ct:Nat:=58
theorem oy {ty:TypeId} {pos:String} {aft:Array Edge} (h:∀b:Nat,aa ops Q n rest ((d,.pointer (some ⟨b,0,none⟩))::E) (.aW b [Value.int .i64 0,Value.slice none 0 0,Value.slice none 0 0] Ct::M) R) (hd:Nat.blt d n=true:=by rfl):aa ops Q n (⟨some d,.alloc Ct,ty,pos,aft,none⟩::rest) E M R:=aa.alloc (t:=Ct) [Value.int .i64 0,Value.slice none 0 0,Value.slice none 0 0] rfl rfl hd h
theorem nQ.JQ {b o:Nat} {x:cv} (h:nQ F w b o x):∃tv lv,ai F w tv x.types∧ai F w lv x.labels∧∀j,j<9→w.cell? ⟨b,o+j,none⟩=([Pm .i64 x.op,.int .i64 x.a,.int .i64 x.b,.int .u64 x.n,.int .i64 x.kind,.int .i64 x.val,.int .i64 x.index,tv,lv]:List Value)[j]?:=by
 obtain⟨tv,h1,h2⟩:=h.types
 obtain⟨lv,h3,h4⟩:=h.labels
 refine⟨tv,lv,h2,h4,fun j hj=>?_⟩
 match j,hj with
 |0,_=>exact h.op
 |1,_=>exact h.a
 |2,_=>exact h.b
 |3,_=>exact h.n
 |4,_=>exact h.kind
 |5,_=>exact h.val
 |6,_=>exact h.index
 |7,_=>exact h1
 |8,_=>exact h3
def s5 (xs:List cv) (j:Nat):Hu:=I2 (fun x:cv=>Kf x.op) (xs.take j)
noncomputable def c5 (xs:List cv) (j:Nat):Hu:=⟨1,xs.length,Lk xs,(s5 xs j).loops,(s5 xs j).calls,(s5 xs j).Fv,(s5 xs j).Ca,(s5 xs j).consts⟩
structure pP where
 funcs:List Int
 tables:List fJ
 bQ:List fu
 globals:List iM
 elems:List Int
 bg:Int
 deriving Inhabited
@[simp] def mY (t:fJ):List Value:=[.int .i64 t.elem,.int .i64 t.m9.min,.int .i64 t.m9.max,.bool t.m9.has]
@[simp] def mK (t:fu):List Value:=[.int .i64 t.min,.int .i64 t.max,.bool t.has]
@[simp] def pY (t:iM):List Value:=[.int .i64 t.nY,.bool t.sD]
abbrev zp:Nat:=81
abbrev qv:Nat:=76
abbrev qx:Nat:=87
theorem aA {ty:TypeId} {pos:String} {aft:Array Edge} (h:∀b:Nat,aa ops Q n rest ((d,.pointer (some ⟨b,0,none⟩))::E) (.aW b [Value.int .i64 0,Value.int .i64 0,Value.int .i64 0,Value.bool false] qx::M) R) (hd:Nat.blt d n=true:=by rfl):aa ops Q n (⟨some d,.alloc qx,ty,pos,aft,none⟩::rest) E M R:=aa.alloc (t:=qx) [Value.int .i64 0,Value.int .i64 0,Value.int .i64 0,Value.bool false] rfl rfl hd h
abbrev rk:Nat:=85
theorem aR {ty:TypeId} {pos:String} {aft:Array Edge} (h:∀b:Nat,aa ops Q n rest ((d,.pointer (some ⟨b,0,none⟩))::E) (.aW b [Value.int .i64 0,Value.int .i64 0,Value.bool false] rk::M) R) (hd:Nat.blt d n=true:=by rfl):aa ops Q n (⟨some d,.alloc rk,ty,pos,aft,none⟩::rest) E M R:=aa.alloc (t:=rk) [Value.int .i64 0,Value.int .i64 0,Value.bool false] rfl rfl hd h
abbrev rj:Nat:=89
theorem aQ {ty:TypeId} {pos:String} {aft:Array Edge} (h:∀b:Nat,aa ops Q n rest ((d,.pointer (some ⟨b,0,none⟩))::E) (.aW b [Value.int .i64 0,Value.bool false] rj::M) R) (hd:Nat.blt d n=true:=by rfl):aa ops Q n (⟨some d,.alloc rj,ty,pos,aft,none⟩::rest) E M R:=aa.alloc (t:=rj) [Value.int .i64 0,Value.bool false] rfl rfl hd h
abbrev n8:Nat:=59
abbrev iF:Nat:=91
abbrev sy:Nat:=61
theorem ay {ty:TypeId} {pos:String} {aft:Array Edge} (h:∀b:Nat,aa ops Q n rest ((d,.pointer (some ⟨b,0,none⟩))::E) (.aW b [Value.slice none 0 0,Value.slice none 0 0] sy::M) R) (hd:Nat.blt d n=true:=by rfl):aa ops Q n (⟨some d,.alloc sy,ty,pos,aft,none⟩::rest) E M R:=aa.alloc (t:=sy) [Value.slice none 0 0,Value.slice none 0 0] rfl rfl hd h
structure C5 where
 tv:Value
 fv:Value
 bv:Value
 mv:Value
 gv:Value
 ev:Value
def k9 (B bx sp im dm:Nat) (v:C5) (tn:Nat) (tc:List Value) (X:pP) (ig dg:Int→Option Value):List bu:=
 [.aW bx [.pointer (some ⟨sp,0,none⟩)] qv,.aW sp [v.tv,v.fv,v.bv,v.mv,v.gv,v.ev,.int .i64 X.bg,.map (some im),.map (some dm)] zp,.own B 3 1 v.fv X.funcs.length (X.funcs.map (Pm .i64)),.own B qx 4 v.bv X.tables.length (X.tables.flatMap mY),.own B rk 3 v.mv X.bQ.length (X.bQ.flatMap mK),.own B rj 2 v.gv X.globals.length (X.globals.flatMap pY),.own B n8 1 v.ev X.elems.length (X.elems.map (Pm .i64)),.iv im ig,.iv dm dg,.own B sy 2 v.tv tn tc]
def HS (g:Int→Option Value) (c:Int→Int):Prop:=∀k,(g k).getD (.int .i64 0)=.int .i64 (c k)
def mJ (x:bY):List Value:=[.string x.module,.string x.name,.int .i64 x.kind,.int .i64 x.func,.int .i64 x.table.elem,.int .i64 x.table.m9.min,.int .i64 x.table.m9.max,.bool x.table.m9.has,.int .i64 x.mem.min,.int .i64 x.mem.max,.bool x.mem.has,.int .i64 x.ff.nY,.bool x.ff.sD]
def pP.iU (X:pP) (x:bY):pP:=
 if x.kind=0 then{X with funcs:=X.funcs++[x.func]}else if x.kind=1 then{X with tables:=X.tables++[x.table]}else if x.kind=2 then{X with bQ:=X.bQ++[x.mem]}else if x.kind=3 then{X with globals:=X.globals++[x.ff]}else X
def inc (c:Int→Int) (k:Int):Int→Int:=fun b=>if b=k then c k+1 else c b
theorem HS.put {c:Int→Int} (h:HS g c) (k:Int):HS (put g k (.int .i64 (c k+1))) (inc c k):=fun b=>by
 unfold Go.Proofs.YtdkcljdfbemnbaaGreatDoor.put inc
 by_cases e:b=k
 ·subst e;simp
 ·simp only[if_neg e];exact h b
def pP.ok (X:pP):Prop:=X.funcs.length≤1000000∧X.tables.length≤1000000∧X.bQ.length≤1000000∧X.globals.length≤1000000∧X.elems.length≤1000000
def kI (B bx sp im dm:Nat) (v:C5) (tn:Nat) (tc:List Value) (X:pP) (ig dg:Int→Option Value) (x:bY) (c:Int→Int) (w:World):Ending→World→Prop:=
 aC (k9 B bx sp im dm v tn tc X ig dg) w (fun _:C5×(Int→Option Value)=>.tuple #[]) (fun y=>HS y.2 (inc c x.kind)∧y.1.tv=v.tv) (fun y=>k9 B bx sp im dm y.1 tn tc (X.iU x) y.2 dg)
theorem AO (B bx sp im dm:Nat) (v:C5) (tn:Nat) (tc:List Value) (X:pP) (ig dg:Int→Option Value) (x:bY) (c:Int→Int) (w:World) (hw:Ok (k9 B bx sp im dm v tn tc X ig dg) [] w) (hB:B≤w.heap.size) (hX:X.ok) (hc:HS ig c) (hk:eP x.kind) (_hcx:-1000000≤c x.kind∧c x.kind≤1000000):
  Calls G.P 21 #[.agg (mJ x).toArray,.pointer (some ⟨bx,0,none⟩)] w (kI B bx sp im dm v tn tc X ig dg x c w):=by
 have:=hB;clear this
 obtain⟨tv,fv,bv,mv,gv,ev⟩:=v
 obtain⟨x1,x2,x3,x4,x5⟩:=hX
 refine ae (l:=[.agg (mJ x).toArray,.pointer (some ⟨bx,0,none⟩)]) func21 rfl ntmps21 rfl (Ok.dk hw) ?_
 generalize hS:Mb (k9 B bx sp im dm ⟨tv,fv,bv,mv,gv,ev⟩ tn tc X ig dg)=S0
 unfold k9
 dsimp only
 refine cq ?_
 refine aa.box (mJ x) rfl rfl rfl fun b=>?_
 unfold mJ
 refine cq ?_
 refine bh.dQ [0,1,2,3,4,5,6,7] 8 [.aW b _ iF,.aW bx [.pointer (some ⟨sp,0,none⟩)] qv,.aW sp [tv,fv,bv,mv,gv,ev,.int .i64 X.bg,.map (some im),.map (some dm)] zp,.iv im ig] [] Pb bz aU ?_
 refine m7 ?_
 refine bF.y_ (Yl.GW (zv:=.int .i64 0) underlying77 underlying83 (fun _=>rfl) rfl rfl hk OJ) rfl ?_
 rw[hc x.kind]
 refine m7 ?_
 refine bF.iO (gj.mapUpdate underlying77 underlying83 rfl rfl rfl hk aH) rfl ?_
 rintro⟨⟩ _
 have hcp:=hc.put x.kind
 generalize put ig x.kind (.int .i64 (c x.kind+1))=ig' at*
 generalize hkx:x.kind=kd at*
 rcases(show kd=0∨kd=1∨kd=2∨kd=3∨(kd≠0∧kd≠1∧kd≠2∧kd≠3)from by omega)with hc_|hc_|hc_|hc_|⟨hc0_,hc1_,hc2_,hc3_⟩
 ·have hb:X.iU x={X with funcs:=X.funcs++[x.func]}:=by unfold pP.iU;simp[hkx,hc_]
  refine cq ?_
  refine Nw ?_
  refine m7 ?_
  refine Nd ?_
  intro b3 _
  refine Nx ?_
  intro v2 _
  refine m7 ?_
  refine bF.pure (φ:=v2.oneCell'=true) (fun w' hw'=>jL (hw'.own (v:=v2))) fun hone=>?_
  refine Ny ?_
  rintro⟨⟩ _
  refine cq ?_
  refine ah.oe rfl fun w' hw'=>?_
  unfold kI
  refine aC.of (x:=((⟨tv,v2,bv,mv,gv,ev⟩:C5),ig')) (M:=k9 B bx sp im dm ⟨tv,v2,bv,mv,gv,ev⟩ tn tc {X with funcs:=X.funcs++[x.func]} ig' dg) ⟨by rw[hkx];exact hcp,rfl⟩ (hw'.sub (R':=[bX S0 w]) O5 aU) (by dsimp only;rw[hb]) O7
 ·have hb:X.iU x={X with tables:=X.tables++[x.table]}:=by unfold pP.iU;simp[hkx,hc_]
  refine cq ?_
  refine Nw ?_
  refine m7 ?_
  refine Nd ?_
  intro b3 _
  refine Nx ?_
  intro v2 _
  refine m7 ?_
  refine bF.pure (φ:=v2.oneCell'=true) (fun w' hw'=>jL (hw'.own (v:=v2))) fun hone=>?_
  refine Ny ?_
  rintro⟨⟩ _
  refine cq ?_
  refine ah.oe rfl fun w' hw'=>?_
  unfold kI
  refine aC.of (x:=((⟨tv,fv,v2,mv,gv,ev⟩:C5),ig')) (M:=k9 B bx sp im dm ⟨tv,fv,v2,mv,gv,ev⟩ tn tc {X with tables:=X.tables++[x.table]} ig' dg) ⟨by rw[hkx];exact hcp,rfl⟩ (hw'.sub (R':=[bX S0 w]) O5 aU) (by dsimp only;rw[hb]) O7
 ·have hb:X.iU x={X with bQ:=X.bQ++[x.mem]}:=by unfold pP.iU;simp[hkx,hc_]
  refine cq ?_
  refine Nw ?_
  refine m7 ?_
  refine Nd ?_
  intro b3 _
  refine Nx ?_
  intro v2 _
  refine m7 ?_
  refine bF.pure (φ:=v2.oneCell'=true) (fun w' hw'=>jL (hw'.own (v:=v2))) fun hone=>?_
  refine Ny ?_
  rintro⟨⟩ _
  refine cq ?_
  refine ah.oe rfl fun w' hw'=>?_
  unfold kI
  refine aC.of (x:=((⟨tv,fv,bv,v2,gv,ev⟩:C5),ig')) (M:=k9 B bx sp im dm ⟨tv,fv,bv,v2,gv,ev⟩ tn tc {X with bQ:=X.bQ++[x.mem]} ig' dg) ⟨by rw[hkx];exact hcp,rfl⟩ (hw'.sub (R':=[bX S0 w]) O5 aU) (by dsimp only;rw[hb]) O7
 ·have hb:X.iU x={X with globals:=X.globals++[x.ff]}:=by unfold pP.iU;simp[hkx,hc_]
  refine cq ?_
  refine Nw ?_
  refine m7 ?_
  refine Nd ?_
  intro b3 _
  refine Nx ?_
  intro v2 _
  refine m7 ?_
  refine bF.pure (φ:=v2.oneCell'=true) (fun w' hw'=>jL (hw'.own (v:=v2))) fun hone=>?_
  refine Ny ?_
  rintro⟨⟩ _
  refine cq ?_
  refine ah.oe rfl fun w' hw'=>?_
  unfold kI
  refine aC.of (x:=((⟨tv,fv,bv,mv,v2,ev⟩:C5),ig')) (M:=k9 B bx sp im dm ⟨tv,fv,bv,mv,v2,ev⟩ tn tc {X with globals:=X.globals++[x.ff]} ig' dg) ⟨by rw[hkx];exact hcp,rfl⟩ (hw'.sub (R':=[bX S0 w]) O5 aU) (by dsimp only;rw[hb]) O7
 ·have hb:X.iU x=X:=by unfold pP.iU;simp[hkx,hc0_,hc1_,hc2_,hc3_]
  refine cq ?_
  refine ah.oe rfl fun w' hw'=>?_
  unfold kI
  exact aC.of (x:=((⟨tv,fv,bv,mv,gv,ev⟩:C5),ig')) (M:=k9 B bx sp im dm ⟨tv,fv,bv,mv,gv,ev⟩ tn tc X ig' dg) ⟨by rw[hkx];exact hcp,rfl⟩ (hw'.sub (R':=[bX S0 w]) O5 aU) (by dsimp only;rw[hb]) O7
section
variable {ops:Array Oper} {Q:Exit→Act→World→Prop} {n:Nat} {E:Env} {M M':List bu} {R:List (World→Prop)} {rest l:List Oper} {op:Op} {d:Nat} {ty:TypeId} {pos:String} {aft:Array Edge} {v:Value} {x y z:Operand} {t:TypeId} {C:World→Prop}
theorem HE.gR {Mf:Value→List bu} {ti te:TI} {B T s m k c:Nat} {po:Option Addr} {xs:List Value} (ys:List Value) (hx:ev E x=some v) (hy:ev E y=some (.slice po k c)) (hM:∀v',Up (.own B T s v m xs) (.own B T s v' (m+k) (xs++ys)) M (Mf v'))
  (hrd:k=0∨∃bk o,po=some ⟨bk,o,none⟩∧∀w,Ok M R w→∀j u,ys[j]?=some u→w.cell? ⟨bk,o+j,none⟩=some u) (hys:ys.length=k*s)
  (ht:G.ty t=some ti) (he:ti.elem=some T) (hte:G.ty T=some te) (hs:te.size=s) (hzs:Nat.beq te.zero.cells.size te.size=true) (hsz:Pt 0 te.size=true) (h1:∀u∈ys,u.oneCell'=true) (hby:(m+k)*te.bytes≤140737488355328) (_hml:m+k≤9223372036854775807) (hB:∀w,Ok M R w→B≤w.heap.size):
  HE n (.call ⟨.builtin .append,#[x,y],#[t,t]⟩) E M R (fun _:Value=>True) (fun v'=>v') Mf (fun _=>R):=
 ⟨fun w hw=>by
  subst hs
  have hm:=(hw.m _ (hM undef).mem)
  have ho:w.ownsRow B T te.size v m xs:=hm.1
  have hsz':0<te.size:=by simpa using hsz
  have key:∀v' w',w'.ownsRow B T te.size v' (m+k) (xs++ys)→bX (fun k=>v.ownBlock=some k) w w'→(v'.ownBlock=v.ownBlock∨v'.ownBlock=some w.heap.size)→∃x:Value,True∧v'=x∧Ok (Mf x) R w':=fun v' w' ho' hc hob=>
   ⟨v',trivial,rfl,hw.qj (hM v') hc ho' fun i hi=>⟨(ho'.lt i hi).2,fun hlt=>by
    rcases hob with e|e
    ·show v.ownBlock=some i
     rw[←e];exact hi
    ·have hk':v'.ownBlock=some i:=hi
     rw[e]at hk';cases hk';omega⟩⟩
  by_cases h0:k=0
  ·subst h0
   obtain⟨po,c,rfl,hc,_⟩:=aw ho
   have hy0:ys=[]:=List.eq_nil_of_length_eq_zero (by simpa using hys)
   subst hy0
   refine(bU.xT (G:=G) ht he hte hx hc hy).mono ?_
   rintro _ _ ⟨rfl,rfl⟩
   exact mp
  ·obtain⟨bk,o,rfl,hr⟩:=hrd.resolve_left h0
   refine(bU.oT (G:=G) (news:=ys) ht he hte (Nat.eq_of_beq_eq_true hzs) hsz' hx ho hy hys (fun j u hj=>hr w hw j u hj) h1 O4 hby (hB w hw)).mono fun v' w' ⟨a,b,c⟩=>key v' w' a b c⟩
end
def ED (g:Int→Option Value) (d:Int→Bool):Prop:=∀k,(g k).getD (.bool false)=.bool (d k)
def named (l:List cv) (k:Int):Bool:=l.any fun x=>decide (x.op=210) && decide (x.a=k)
def pz (d:Int→Bool) (l:List cv):Int→Bool:=fun k=>d k || named l k
theorem xx (l r:List cv) (k:Int):named (l++r) k=(named l k || named r k):=by unfold named;rw[List.any_append]
theorem ED.put {d:Int→Bool} (h:ED g d) (a:Int):ED (put g a (.bool true)) (fun k=>d k || decide (a=k)):=fun b=>by
 unfold Go.Proofs.YtdkcljdfbemnbaaGreatDoor.put
 by_cases e:b=a
 ·subst e;simp
 ·have e':¬a=b:=fun h=>e h.symm
  simp only[if_neg e,e',decide_false,Bool.or_false];exact h b
abbrev IN:Nat:=69
def zj (B bx sp im dm:Nat) (v:C5) (tn:Nat) (tc:List Value) (X:pP) (ig dg:Int→Option Value) (d:Int→Bool) (l:List cv) (w:World):Ending→World→Prop:=
 aC (k9 B bx sp im dm v tn tc X ig dg) w (fun _:(Int→Option Value)=>.tuple #[]) (fun g=>ED g (pz d l)) (fun g=>k9 B bx sp im dm v tn tc X ig g)
theorem vv (F:Nat→Prop) (B bx sp im dm:Nat) (v:C5) (tn:Nat) (tc:List Value) (X:pP) (ig dg:Int→Option Value) (d:Int→Bool) (l:List cv) (lv:Value) (w0 w:World) (hw:Ok (k9 B bx sp im dm v tn tc X ig dg) [Ext w0] w) (hl:fF F w0 lv l) (hd:ED dg d):
  Calls G.P 22 #[lv,.pointer (some ⟨bx,0,none⟩)] w (zj B bx sp im dm v tn tc X ig dg d l w):=by
 obtain⟨tv,fv,bv,mv,gv,ev⟩:=v
 obtain⟨p,c,rfl,hll⟩:=hl.slice
 refine ae (l:=[.slice p l.length c,.pointer (some ⟨bx,0,none⟩)]) func22 rfl ntmps22 rfl (Ok.dk hw) ?_
 generalize hS:Mb (k9 B bx sp im dm ⟨tv,fv,bv,mv,gv,ev⟩ tn tc X ig dg)=S0
 refine cq ?_
 refine bh.loop (σ:=Nat×(Int→Option Value)) (fun s=>[(1,.pointer (some ⟨bx,0,none⟩)),(5,.slice p l.length c),(6,.int .i64 l.length),(7,.int .i64 s.1)]) (fun s=>k9 B bx sp im dm ⟨tv,fv,bv,mv,gv,ev⟩ tn tc X ig s.2) (fun _=>[bX S0 w,Ext w0]) (fun s=>s.1≤l.length∧ED s.2 (pz d (l.take s.1))) (fun s=>l.length - s.1) (0,dg) bH bz aU ⟨by dsimp only;omega,by dsimp only;intro k;rw[hd k];simp[pz,named]⟩ ?_
 rintro⟨i,g⟩ ⟨hi,hg⟩
 dsimp only at hi hg ⊢
 by_cases hlt:i<l.length
 ·obtain⟨b6,o6,rfl,-,hall⟩:=hl.at hlt
  have hra:=(hall i hlt).ra
  obtain⟨tv9,lv9,htv,hlv,hc9⟩:=(hall i hlt).JQ
  obtain⟨xt,yt,rfl,-⟩:=htv.slice
  obtain⟨xl,yl,rfl,-⟩:=hlv.slice
  have hnx:∀k,pz d (l.take (i+1)) k=(pz d (l.take i) k || (decide ((ix l i).op=210) && decide ((ix l i).a=k))):=fun k=>by
   unfold pz;rw[bN hlt,xx,Bool.or_assoc];simp[named]
  unfold k9
  dsimp only
  refine cq ?_
  refine aa.y_ (Yl.ji rfl rfl rfl ak Pk Pk hc9) rfl ?_
  refine aa.alloc [Pm .i64 0,Pm .i64 0,Pm .i64 0,Pm .u64 0,Pm .i64 0,Pm .i64 0,Pm .i64 0,Pn none 0 0,Pn none 0 0] rfl rfl rfl fun b9=>?_
  refine cq ?_
  by_cases h210:(ix l i).op=210
  ·refine cq ?_
   refine bh.dQ [0,1,2,3,4,5] 6 [.aW b9 _ IN,.aW bx [.pointer (some ⟨sp,0,none⟩)] qv,.aW sp [tv,fv,bv,mv,gv,ev,.int .i64 X.bg,.map (some im),.map (some dm)] zp] [] Pb bz aU ?_
   refine m7 ?_
   refine bF.iO (gj.mapUpdate underlying78 underlying3 rfl rfl rfl hra aH) rfl ?_
   rintro⟨⟩ _
   refine cq ?_
   refine ah.next (i+1,put g (ix l i).a (.bool true)) bH bz aU ⟨by dsimp only;omega,?_⟩ O6
   dsimp only
   intro k
   rw[hg.put _ k,hnx k];simp[h210]
  ·refine cq ?_
   refine ah.next (i+1,g) bH bz aU ⟨by dsimp only;omega,?_⟩ O6
   dsimp only
   intro k
   rw[hg k,hnx k];simp[h210]
 ·obtain rfl:i=l.length:=by omega
  refine cq ?_
  refine ah.oe rfl fun w' hw'=>?_
  unfold zj
  rw[PA]at hg
  exact aC.of (x:=g) hg hw' rfl O7
theorem jJ {p:Option Addr} {n c:Nat} {xs:List Int} {M:List bu} {R:List (World→Prop)} (h:ai F w (.slice p n c) xs) (hR:Ext w∈R):xs.length=0∨∃bk o,p=some ⟨bk,o,none⟩∧∀w',Ok M R w'→∀j u,(xs.map (Pm .i64))[j]?=some u→w'.cell? ⟨bk,o+j,none⟩=some u:=by
 obtain⟨p',c',e,hl,h⟩:=h
 cases e
 rcases h with h|⟨b,o,rfl,hF,h⟩
 ·exact .inl (by rw[h];rfl)
 ·refine .inr ⟨b,o,rfl,fun w' hw' j u hj=>?_⟩
  rw[List.getElem?_map]at hj
  by_cases hlt:j<xs.length
  ·rw[iz hlt]at hj
   cases hj
   exact(show Ext w w' from hw'.get hR).cell (h j hlt)
  ·rw[List.getElem?_eq_none Pi]at hj;cases hj
theorem fj (xs:List Int):∀u∈xs.map (Pm .i64),u.oneCell'=true:=by
 intro u hu;obtain⟨a,_,rfl⟩:=List.mem_map.1 hu;rfl
theorem kW {B T:Nat} {v:Value} {xs:List Int} (h:w.ownsRow B T 1 v xs.length (xs.map (Pm .i64))) (hl:xs.length≤17592186044416):ai (fun k=>B≤k) w v xs:=by
 obtain⟨p,c,rfl,hn,hc,hg⟩:=aw h
 refine⟨p,c,rfl,hl,?_⟩
 by_cases hx:xs=[]
 ·exact .inl hx
 ·obtain⟨g,rfl,h1,h2⟩:=hg (List.length_pos_iff.2 hx)
  exact .inr ⟨g,0,rfl,h1,fun i hi=>by rw[Ps];exact dP h OX⟩
theorem yV (F:Nat→Prop) (f:aO) (u0 u1:Value) (w:World) (h0:ai F w u0 f.params) (h1:ai F w u1 f.results):Calls G.P 20 #[.agg #[u0,u1]] w fun e w'=>(∃x:Value×Value,e=.returned (.agg #[x.1,x.2])∧ai (fun k=>w.heap.size≤k) w' x.1 f.params∧ai (fun k=>w.heap.size≤k) w' x.2 f.results)∧Ext w w':=by
 obtain⟨p0,c0,rfl,l0⟩:=h0.slice
 obtain⟨p1,c1,rfl,l1⟩:=h1.slice
 refine ae (l:=[.agg #[.slice p0 f.params.length c0,.slice p1 f.results.length c1]]) func20 rfl ntmps20 rfl (Ok.start w) ?_
 refine cq ?_
 refine aa.box [.slice p0 f.params.length c0,.slice p1 f.results.length c1] rfl rfl rfl fun b1=>?_
 refine cq ?_
 refine aa.alloc [Pn none 0 0,Pn none 0 0] rfl rfl rfl fun b2=>?_
 refine cq ?_
 refine bh.iP w.heap.size n8 1 ?_
 refine bh.iP w.heap.size n8 1 ?_
 refine bh.dQ [0,1,3,4,2,5,6] 7 [.aW b1 [.slice p0 f.params.length c0,.slice p1 f.results.length c1] sy] [Ext w] Pb bz aU ?_
 refine m7 ?_
 refine bF.he (HE.gR (f.params.map (Pm .i64)) rfl rfl (fun _=>aH) (jJ h0 ak) Pj rfl rfl rfl Pk Pk Pk (fj _) OW Pi nW) rfl (fun _=>bz) (fun _=>aU) ?_
 intro v1 _
 refine bF.he (HE.gR (f.results.map (Pm .i64)) rfl rfl (fun _=>aH) (jJ h1 ak) Pj rfl rfl rfl Pk Pk Pk (fj _) (by show(0+f.results.length)*8≤_;omega) Pi nW) rfl (fun _=>bz) (fun _=>aU) ?_
 intro v2 _
 refine bF.pure (φ:=(∃p c,v1=.slice p (0+f.params.length) c)∧∃p c,v2=.slice p (0+f.results.length) c) (fun w' hw'=>⟨?_,?_⟩) ?_
 ·obtain⟨p,c,e,_⟩:=aw (hw'.own (v:=v1));exact⟨p,c,e⟩
 ·obtain⟨p,c,e,_⟩:=aw (hw'.own (v:=v2));exact⟨p,c,e⟩
 rintro⟨⟨q1,d1,rfl⟩,⟨q2,d2,rfl⟩⟩
 refine m7 ?_
 refine bF.iO (gj.bn _ rfl rfl rfl rfl rfl rfl aH rfl) rfl ?_
 rintro⟨⟩ _
 refine cq ?_
 refine ah.bB (.inl rfl) rfl rfl rfl rfl rfl aH rfl fun w' hw'=>⟨⟨(_,_),rfl,?_,?_⟩,hw'.at⟩
 ·have:=hw'.own (v:=.slice q1 (0+f.params.length) d1)
  rw[Ps]at this ⊢
  exact kW this l0
 ·have:=hw'.own (v:=.slice q2 (0+f.results.length) d2)
  have e:0+f.results.length=f.results.length:=Ps _
  rw[e]at this
  show ai _ w' (.slice q2 (0+f.results.length) d2) _
  rw[e];exact kW this l1
section
variable {ops:Array Oper} {Q:Exit→Act→World→Prop} {n:Nat} {E:Env} {M M':List bu} {R R':List (World→Prop)} {rest l:List Oper} {op:Op} {d:Nat} {ty:TypeId} {pos:String} {aft:Array Edge} {v:Value} {x y z:Operand} {t:TypeId}
theorem Ok.perm {w:World} (h:Ok M R w) (hp:M.Perm M'):Ok M' R w:=
 h.step (bX.refl _ w) (fun q hq=>h.m q (hp.mem_iff.2 hq)) ((hp.pairwise_iff (fun h k h1 h2=>h k h2 h1)).1 h.d) (fun _k ⟨q,hq,hk⟩ _=>⟨q,hp.mem_iff.2 hq,hk⟩)
theorem ah.lj {e:Exit} (p:World→Prop) (hp:∀w',(∀r,r∈R→r w')→p w') (h:ah Q n e E M (p::R)):ah Q n e E M R:=⟨fun w hw=>h.h w (hw.lj hp)⟩
theorem HE.xZ {β:Type} {B:Nat} {M0 Mr:List bu} {tf:β→Value} {φ:β→Prop} {M1:β→List bu} {f:Nat} {fo:Operand} {cap:List Value} {args:List Operand} {tys:Array TypeId} {vs:List Value} (hfo:ev E fo=some (.func (.func f) #[] cap.toArray)) (hf:G.fb[f]?=some true) (ha:kJ E args=some vs) (hM:M.Perm (M0++Mr))
  (hR':∀p,p∈R'→p∈R) (hc:∀w,Ok M0 R' w→B≤w.heap.size→Calls G.P f (vs++cap).toArray w (aC M0 w tf φ M1)) (hB:∀w,Ok M R w→B≤w.heap.size):HE n (.call ⟨.value fo,args.toArray,tys⟩) E M R φ tf (fun x=>M1 x++Mr) (fun _=>R):=
 ⟨fun w hw0=>by
  have hw:=hw0.perm hM
  refine(bU.eU hfo hf ha (hc w (hw.sub (List.sublist_append_left _ _) hR') (hB w hw0)) (fun e w' h=>by obtain⟨x,e1,_⟩:=h;exact⟨_,e1⟩)).mono fun v w' ⟨x,e1,h1,h2,h3,h4⟩=>?_
  cases e1
  exact⟨x,h1,rfl,hw.frame h2 h3 h4⟩⟩
end
def IB (f:aO) (lo:Nat) (w:World) (x:Value×Value):Prop:=ai (fun k=>lo≤k) w x.1 f.params∧ai (fun k=>lo≤k) w x.2 f.results
theorem IB.fresh (f:aO):Hv (IB f):=fun h hc hS=>⟨h.1.aN hc hS,h.2.aN hc hS⟩
theorem pq {M M':List bu} (h:M'.Sublist M:=by repeat(first|with_reducible exact List.Sublist.refl _|exact List.nil_sublist _|(with_reducible refine List.Sublist.cons_cons _ ?_)|((with_reducible refine nC ?_ ?_ ?_ ?_);rfl;(first|rfl|simp);(first|rfl|simp))|((with_reducible refine Hl ?_ ?_);(first|rfl|simp))|refine List.Sublist.cons _ ?_)):M'.Sublist M:=h
def mE (B:Nat) (tc:List Value) (l:List aO):World→Prop:=fun w=>tc.length=l.length*2∧∀i,i<l.length→∃p r,tc[i*2]?=some p∧tc[i*2+1]?=some r∧ai (fun k=>B≤k) w p (ix l i).params∧ai (fun k=>B≤k) w r (ix l i).results
theorem mE.app {l:List aO} {w:World} (h:mE B tc l w) {p r:Value} {f:aO} (hp:ai (fun k=>B≤k) w p f.params) (hr:ai (fun k=>B≤k) w r f.results):mE B (tc++[p,r]) (l++[f]) w:=by
 obtain⟨h1,h2⟩:=h
 refine⟨by simp[h1];omega,fun i hi=>?_⟩
 by_cases hlt:i<l.length
 ·obtain⟨p',r',e1,e2,e3,e4⟩:=h2 i hlt
  rw[iH hlt]
  exact⟨p',r',by rw[P7 Pi];exact e1,by rw[P7 Pi];exact e2,e3,e4⟩
 ·have e:i=l.length:=by simp at hi;omega
  subst e
  rw[gN (Nat.le_refl _),Nat.sub_self]
  exact⟨p,r,by rw[P9 Pi];simp[h1],by rw[P9 Pi];simp[h1,show l.length*2+1 - l.length*2=1 by omega],hp,hr⟩
theorem mE.aN {l:List aO} {S:Nat→Prop} {w w':World} (h:mE B tc l w) (hc:bX S w w') (hS:∀k,B≤k→¬S k):mE B tc l w':=
 ⟨h.1,fun i hi=>by
  obtain⟨p,r,e1,e2,e3,e4⟩:=h.2 i hi
  exact⟨p,r,e1,e2,e3.aN hc (fun k _ hk=>hS k hk),e4.aN hc (fun k _ hk=>hS k hk)⟩⟩
def Ba (l:List bY) (X:pP):pP:=l.foldl pP.iU X
theorem zA (l:List bY) (X:pP) (x:bY):Ba (l++[x]) X=(Ba l X).iU x:=by unfold Ba;rw[List.foldl_append];rfl
theorem Dk (X:pP) (x:bY):(X.iU x).funcs.length≤X.funcs.length+1∧(X.iU x).tables.length≤X.tables.length+1∧(X.iU x).bQ.length≤X.bQ.length+1∧(X.iU x).globals.length≤X.globals.length+1∧(X.iU x).elems.length≤X.elems.length∧(X.iU x).bg=X.bg:=by
 unfold pP.iU
 split
 ·simp
 ·split
  ·simp
  ·split
   ·simp
   ·split<;>simp
def X0 (m:af):pP:=⟨[],[],[],[],[],m.bg.length⟩
theorem Cw (m:af):∀i,i≤m.imports.length→(Ba (m.imports.take i) (X0 m)).funcs.length≤i∧(Ba (m.imports.take i) (X0 m)).tables.length≤i∧(Ba (m.imports.take i) (X0 m)).bQ.length≤i∧(Ba (m.imports.take i) (X0 m)).globals.length≤i∧(Ba (m.imports.take i) (X0 m)).elems.length≤0∧(Ba (m.imports.take i) (X0 m)).bg=m.bg.length
 |0,_=>by simp[Ba,X0]
 |i+1,h=>by
  have ih:=Cw m i Pi
  rw[bN Pi,zA]
  have:=Dk (Ba (m.imports.take i) (X0 m)) (ix m.imports i)
  omega
def cN (m:af) (i:Nat):Int→Int:=fun k=>vR m.imports k i
theorem GD (m:af) {i:Nat} (h:i<m.imports.length):inc (cN m i) (ix m.imports i).kind=cN m (i+1):=by
 funext b
 unfold inc cN
 rw[xq h]
 by_cases e:b=(ix m.imports i).kind
 ·subst e;simp
 ·have e':¬(ix m.imports i).kind=b:=fun h=>e h.symm
  simp[e,e']
def X1 (m:af):pP:=Ba m.imports (X0 m)
def X2 (m:af) (i:Nat):pP:={X1 m with funcs:=(X1 m).funcs++(m.funcs.take i).map (·.dI)}
def X3 (m:af):pP:={X2 m m.funcs.length with tables:=(X1 m).tables++m.tables,bQ:=(X1 m).bQ++m.bQ}
def X4 (m:af) (i:Nat):pP:={X3 m with globals:=(X1 m).globals++(m.globals.take i).map (·.dI)}
def X5 (m:af) (i:Nat):pP:={X4 m m.globals.length with elems:=(X1 m).elems++(m.elems.take i).map (·.dI)}
theorem jz {α:Type} [Inhabited α] (cf:α→List Value) {s:Nat} (hs:∀x,(cf x).length=s):∀(xs:List α) (i j:Nat),i<xs.length→j<s→(xs.flatMap cf)[i*s+j]?=(cf (ix xs i))[j]?
 |[],i,_,h,_=>by simp at h
 |a::r,0,j,_,hj=>by
  rw[Qj,Nat.zero_mul,Ps,P7 (by rw[hs];exact hj)]
  simp[ix]
 |a::r,i+1,j,h,hj=>by
  rw[Qj,P9 (by rw[hs,Qg];omega)]
  have e:(i+1)*s+j - (cf a).length=i*s+j:=by rw[hs,Qg];omega
  rw[e,jz cf hs r i j Pa hj]
  simp[ix]
theorem kp {α:Type} (cf:α→List Value) {s:Nat} (hs:∀x,(cf x).length=s):∀xs:List α,(xs.flatMap cf).length=xs.length*s
 |[]=>by simp
 |a::r=>by rw[Qj,Py,hs,kp cf hs r,List.length_cons,Qg];omega
theorem CC [Inhabited α] {s N:Nat} {Rd:sY α} (cf:α→List Value) (hs:∀x,(cf x).length=s) (h0:0<s) (hRd:∀{F w b o x},Rd F w b o x→∀j,j<s→w.cell? ⟨b,o+j,none⟩=(cf x)[j]?) {F:Nat→Prop} {w:World} {p:Option Addr} {n c:Nat} {xs:List α} {M:List bu} {R:List (World→Prop)} (h:gF s N Rd F w (.slice p n c) xs) (hR:Ext w∈R):
  xs.length=0∨∃bk o,p=some ⟨bk,o,none⟩∧∀w',Ok M R w'→∀j u,(xs.flatMap cf)[j]?=some u→w'.cell? ⟨bk,o+j,none⟩=some u:=by
 obtain⟨p',c',e,hl,h⟩:=h
 cases e
 rcases h with h|⟨b,o,rfl,hF,h⟩
 ·exact .inl (by rw[h];rfl)
 ·refine .inr ⟨b,o,rfl,fun w' hw' j u hj=>?_⟩
  have hlt:j<xs.length*s:=by rw[←kp cf hs];exact(PR.1 hj).1
  have hi:j / s<xs.length:=Nat.div_lt_of_lt_mul (by rw[Nat.mul_comm];exact hlt)
  have hr:j % s<s:=Nat.mod_lt _ h0
  have ej:j=j / s*s+j % s:=by rw[Nat.mul_comm];exact(Nat.div_add_mod j s).symm
  have h1:=hRd (h (j / s) hi) (j % s) hr
  rw[←jz cf hs xs _ _ hi hr,←ej,hj,Nat.add_assoc,←ej]at h1
  exact(show Ext w w' from hw'.get hR).cell h1
theorem AR {b o:Nat} {x:fJ} (h:fG F w b o x):∀j,j<4→w.cell? ⟨b,o+j,none⟩=(mY x)[j]?:=by
 obtain⟨cs,hV,hc⟩:=h
 obtain⟨rfl,-⟩:=hV
 exact hc
theorem xv {b o:Nat} {x:fu} (h:dS F w b o x):∀j,j<3→w.cell? ⟨b,o+j,none⟩=(mK x)[j]?:=by
 obtain⟨cs,hV,hc⟩:=h
 obtain⟨rfl,-⟩:=hV
 exact hc
theorem Ga (l:List fJ):∀u∈l.flatMap mY,u.oneCell'=true:=by
 intro u hu;obtain⟨a,_,h⟩:=List.mem_flatMap.1 hu
 simp only[mY,PF,P3,or_false]at h
 rcases h with rfl|rfl|rfl|rfl<;>rfl
theorem Fu (l:List fu):∀u∈l.flatMap mK,u.oneCell'=true:=by
 intro u hu;obtain⟨a,_,h⟩:=List.mem_flatMap.1 hu
 simp only[mK,PF,P3,or_false]at h
 rcases h with rfl|rfl|rfl<;>rfl
abbrev Lb:Nat:=95
abbrev La:Nat:=98
abbrev JM:Nat:=100
abbrev xO:Nat:=102
def d4 (m:af) (i:Nat):Int→Bool:=fun k=>(m.globals.take i).any fun g=>named g.nN k
def d5 (m:af) (i j:Nat):Int→Bool:=fun k=>d4 m m.globals.length k || (m.elems.take i).any (fun e=>e.items.any fun l=>named l k) || ((ix m.elems i).items.take j).any fun l=>named l k
def d6 (m:af) (i:Nat):Int→Bool:=fun k=>d4 m m.globals.length k || m.elems.any (fun e=>e.items.any fun l=>named l k) || (m.aJ.take i).any fun x=>decide (x.kind=0) && decide (x.index=k)
def wU (m:af):pP:=X5 m m.elems.length
structure Gs (B bS sp im dm:Nat) (v:C5) (tc:List Value) (ig dg:Int→Option Value) (m:af) (w:World):Prop where
 s:gQ w bS [.pointer (some ⟨sp,0,none⟩)] xO
 x:gQ w sp [v.tv,v.fv,v.bv,v.mv,v.gv,v.ev,.int .i64 (wU m).bg,.map (some im),.map (some dm)] zp
 fs:w.ownsRow B 3 1 v.fv (wU m).funcs.length ((wU m).funcs.map (Pm .i64))
 bs:w.ownsRow B qx 4 v.bv (wU m).tables.length ((wU m).tables.flatMap mY)
 ms:w.ownsRow B rk 3 v.mv (wU m).bQ.length ((wU m).bQ.flatMap mK)
 gs:w.ownsRow B rj 2 v.gv (wU m).globals.length ((wU m).globals.flatMap pY)
 es:w.ownsRow B n8 1 v.ev (wU m).elems.length ((wU m).elems.map (Pm .i64))
 ts:w.ownsRow B sy 2 v.tv m.types.length tc
 im:IV w im ig
 dm:IV w dm dg
 JD:HS ig (cN m m.imports.length)
 dec:ED dg (d6 m m.aJ.length)
 ty:mE B tc m.types w
def bK (B:Nat) (m:af) (w:World) (v:Value):Prop:=∃bS sp im dm vs tc ig dg,v=.pointer (some ⟨bS,0,none⟩)∧(B≤bS∧B≤sp∧B≤im∧B≤dm)∧Gs B bS sp im dm vs tc ig dg m w
def tl (m:af):Prop:=m.types.length≤1000∧m.imports.length≤1000∧m.funcs.length≤1000∧m.tables.length≤1048576∧m.bQ.length≤1048576∧m.globals.length≤1000∧m.aJ.length≤1048576∧m.elems.length≤1000∧m.bg.length≤17592186044416
def wY (m:af) (w:World) (e:Ending) (w':World):Prop:=(∃v,e=.returned v∧bK w.heap.size m w' v)∧Ext w w'
theorem bK.aN {m:af} {S:Nat→Prop} {w w':World} {v:Value} (h:bK B m w v) (hc:bX S w w') (hS:∀k,B≤k→¬S k):bK B m w' v:=by
 obtain⟨bS,sp,im,dm,vs,tc,ig,dg,rfl,⟨g1,g2,g3,g4⟩,h⟩:=h
 exact⟨bS,sp,im,dm,vs,tc,ig,dg,rfl,⟨g1,g2,g3,g4⟩,h.s.aN hc (hS _ g1),h.x.aN hc (hS _ g2),cm h.fs hc (fun k hk=>hS k (h.fs.lt k hk).1),cm h.bs hc (fun k hk=>hS k (h.bs.lt k hk).1),cm h.ms hc (fun k hk=>hS k (h.ms.lt k hk).1),cm h.gs hc (fun k hk=>hS k (h.gs.lt k hk).1),cm h.es hc (fun k hk=>hS k (h.es.lt k hk).1),cm h.ts hc (fun k hk=>hS k (h.ts.lt k hk).1),h.im.aN hc (hS _ g3),h.dm.aN hc (hS _ g4),h.JD,h.dec,h.ty.aN hc hS⟩
theorem oN (F:Nat→Prop) (m:af) (cs:List Value) (w:World) (hm:au F w cs m) (hL:tl m):Calls G.P 8 #[.agg cs.toArray] w (wY m w):=by
 obtain⟨v0,v1,v2,v3,v4,v5,v6,v7,v8,v9,rfl,r0,r1,r2,r3,r4,r5,r6,r7,r8,r9,g0⟩:=hm
 obtain⟨L0,L1,L2,L3,L4,L5,L6,L7,L8⟩:=hL
 obtain⟨p0,c0,rfl,-⟩:=r0.slice
 obtain⟨p1,c1,rfl,-⟩:=r1.slice
 obtain⟨p2,c2,rfl,-⟩:=r2.slice
 obtain⟨p3,c3,rfl,-⟩:=r3.slice
 obtain⟨p4,c4,rfl,-⟩:=r4.slice
 obtain⟨p5,c5,rfl,-⟩:=r5.slice
 obtain⟨p6,c6,rfl,-⟩:=r6.slice
 obtain⟨p7,c7,rfl,-⟩:=r7.slice
 obtain⟨p8,c8,rfl,-⟩:=r8.slice
 refine ae (l:=[.agg (([Pn p0 m.types.length c0,Pn p1 m.imports.length c1,Pn p2 m.funcs.length c2,Pn p3 m.tables.length c3,Pn p4 m.bQ.length c4,Pn p5 m.globals.length c5,Pn p6 m.aJ.length c6,Po m.aI,Pm .i64 m.start,Pn p7 m.elems.length c7,Pn p8 m.bg.length c8,v9]:List Value)).toArray]) func8 rfl ntmps8 rfl (Ok.start w) ?_
 refine cq ?_
 refine aa.box ([Pn p0 m.types.length c0,Pn p1 m.imports.length c1,Pn p2 m.funcs.length c2,Pn p3 m.tables.length c3,Pn p4 m.bQ.length c4,Pn p5 m.globals.length c5,Pn p6 m.aJ.length c6,Po m.aI,Pm .i64 m.start,Pn p7 m.elems.length c7,Pn p8 m.bg.length c8,v9]:List Value) rfl rfl rfl fun b=>?_
 refine cq ?_
 refine aa.he HE.makeMap rfl ?_
 intro im _
 refine aa.he HE.makeMap rfl ?_
 intro dm _
 refine cq ?_
 refine aa.box [Pn none 0 0,Pn none 0 0,Pn none 0 0,Pn none 0 0,Pn none 0 0,Pn none 0 0,Pm .i64 m.bg.length,Value.map (some im),Value.map (some dm)] rfl rfl rfl fun sp=>?_
 refine cq ?_
 refine aa.alloc [Value.pointer none] rfl rfl rfl fun bx=>?_
 refine cq ?_
 refine bh.iP w.heap.size sy 2 ?_
 refine bh.iP w.heap.size n8 1 ?_
 refine bh.iP w.heap.size rj 2 ?_
 refine bh.iP w.heap.size rk 3 ?_
 refine bh.iP w.heap.size qx 4 ?_
 refine bh.iP w.heap.size 3 1 ?_
 refine bh.front (q:=.own w.heap.size sy 2 _ _ _) jH ?_
 refine bh.front (q:=.iv dm _) jH ?_
 refine bh.front (q:=.iv im _) jH ?_
 refine bh.front (q:=.own w.heap.size n8 1 _ _ _) jH ?_
 refine bh.front (q:=.own w.heap.size rj 2 _ _ _) jH ?_
 refine bh.front (q:=.own w.heap.size rk 3 _ _ _) jH ?_
 refine bh.front (q:=.own w.heap.size qx 4 _ _ _) jH ?_
 refine bh.front (q:=.own w.heap.size 3 1 _ _ _) jH ?_
 refine bh.front (q:=.aW sp _ _) jH ?_
 refine bh.front (q:=.aW bx _ _) jH ?_
 refine bh.lj (mE w.heap.size [] (m.types.take 0)) (fun w' _=>⟨rfl,fun i hi=>by simp at hi⟩) ?_
 refine bh.loop (σ:=Nat×Value×List Value) (fun s=>[(1,.pointer (some ⟨b,0,none⟩)),(3,.pointer (some ⟨bx,0,none⟩)),(28,.slice p0 m.types.length c0),(29,.int .i64 m.types.length),(30,.int .i64 s.1)]) (fun s=>k9 w.heap.size bx sp im dm ⟨s.2.1,.slice none 0 0,.slice none 0 0,.slice none 0 0,.slice none 0 0,.slice none 0 0⟩ s.1 s.2.2 (X0 m) (fun _=>none) (fun _=>none)++[.aW b ([Pn p0 m.types.length c0,Pn p1 m.imports.length c1,Pn p2 m.funcs.length c2,Pn p3 m.tables.length c3,Pn p4 m.bQ.length c4,Pn p5 m.globals.length c5,Pn p6 m.aJ.length c6,Po m.aI,Pm .i64 m.start,Pn p7 m.elems.length c7,Pn p8 m.bg.length c8,v9]:List Value) jI]) (fun s=>[mE w.heap.size s.2.2 (m.types.take s.1),Ext w]) (fun s=>s.1≤m.types.length) (fun s=>m.types.length - s.1) (0,.slice none 0 0,[]) bH OM OG O6 ?_
 rintro⟨i,tv,tc⟩ hi
 dsimp only at hi ⊢
 unfold k9
 simp only[Pq,Pp]
 by_cases hlt:i<m.types.length
 ·obtain⟨b1,o1,rfl,hF,cs5,⟨u0,u1,rfl,q0,q1⟩,hc5⟩:=r0.el hlt
  obtain⟨x0,y0,rfl,-⟩:=q0.slice
  obtain⟨x1,y1,rfl,-⟩:=q1.slice
  refine cq ?_
  refine Nz ?_
  refine aa.alloc [Pn none 0 0,Pn none 0 0] rfl rfl rfl fun b5=>?_
  refine cq ?_
  refine bh.dQ [0,1,2,3,4,5,6,7,8,9,10] 11 [.aW b5 _ sy,.aW bx [.pointer (some ⟨sp,0,none⟩)] qv,.aW sp [tv,.slice none 0 0,.slice none 0 0,.slice none 0 0,.slice none 0 0,.slice none 0 0,.int .i64 (X0 m).bg,.map (some im),.map (some dm)] zp] [] Pb bz aU ?_
  refine m7 ?_
  refine bF.he (HE.IZ (V:=IB (ix m.types i)) (fun x=>.agg #[x.1,x.2]) (IB.fresh _) rfl rfl (fun w' hw'=>yV F (ix m.types i) _ _ w' (q0.aN (show Ext w w' from hw'.at) (fun _ _ _ h=>h)) (q1.aN (show Ext w w' from hw'.at) (fun _ _ _ h=>h)))) rfl (fun _=>bz) (fun _=>aU) ?_
  rintro⟨lo,z1,z2⟩ ⟨wx,hwx,hlo⟩
  have hlo':w.heap.size≤lo:=by have h:=nW (w:=w) ak wx hwx;have:lo=wx.heap.size:=hlo;omega
  dsimp only
  refine bF.pure (φ:=(∃p c,z1=.slice p (ix m.types i).params.length c)∧∃p c,z2=.slice p (ix m.types i).results.length c) (fun w' hw'=>?_) ?_
  ·have hv:IB (ix m.types i) lo w' (z1,z2):=hw'.at
   obtain⟨p,c,e,_⟩:=hv.1.slice
   obtain⟨p',c',e',_⟩:=hv.2.slice
   exact⟨⟨p,c,e⟩,⟨p',c',e'⟩⟩
  rintro⟨⟨e1,f1,rfl⟩,⟨e2,f2,rfl⟩⟩
  refine Nd ?_
  intro b3 _
  refine NA ?_
  intro v2 _
  refine m7 ?_
  refine bF.pure (φ:=v2.oneCell'=true) (fun w' hw'=>jL (hw'.own (v:=v2))) fun hone=>?_
  refine Ny ?_
  rintro⟨⟩ _
  refine cq ?_
  refine ah.lj (mE w.heap.size (tc++[.slice e1 (ix m.types i).params.length f1,.slice e2 (ix m.types i).results.length f2]) (m.types.take (i+1))) (fun w' hw'=>?_) ?_
  ·rw[bN hlt]
   have hv:IB (ix m.types i) lo w' (.slice e1 (ix m.types i).params.length f1,.slice e2 (ix m.types i).results.length f2):=A6 hw'
   exact mE.app (A6 hw') (hv.1.mono (fun k _ hk=>PE hlo' hk)) (hv.2.mono (fun k _ hk=>PE hlo' hk))
  exact ah.next (i+1,v2,tc++[.slice e1 (ix m.types i).params.length f1,.slice e2 (ix m.types i).results.length f2]) bH (by dsimp only;exact pq) OG O6 O6
 ·obtain rfl:i=m.types.length:=by omega
  refine cq ?_
  refine bh.loop (σ:=Nat×C5×(Int→Option Value)) (fun s=>[(1,.pointer (some ⟨b,0,none⟩)),(3,.pointer (some ⟨bx,0,none⟩)),(6,.func (.func 21) #[] #[.pointer (some ⟨bx,0,none⟩)]),(48,.slice p1 m.imports.length c1),(49,.int .i64 m.imports.length),(50,.int .i64 s.1)]) (fun s=>k9 w.heap.size bx sp im dm s.2.1 m.types.length tc (Ba (m.imports.take s.1) (X0 m)) s.2.2 (fun _=>none)++[.aW b ([Pn p0 m.types.length c0,Pn p1 m.imports.length c1,Pn p2 m.funcs.length c2,Pn p3 m.tables.length c3,Pn p4 m.bQ.length c4,Pn p5 m.globals.length c5,Pn p6 m.aJ.length c6,Po m.aI,Pm .i64 m.start,Pn p7 m.elems.length c7,Pn p8 m.bg.length c8,v9]:List Value) jI]) (fun s=>[mE w.heap.size tc (m.types.take m.types.length),Ext w]) (fun s=>s.1≤m.imports.length∧s.2.1.tv=tv∧HS s.2.2 (cN m s.1)) (fun s=>m.imports.length - s.1) (0,⟨tv,.slice none 0 0,.slice none 0 0,.slice none 0 0,.slice none 0 0,.slice none 0 0⟩,fun _=>none) bH OM aU ⟨by dsimp only;omega,rfl,fun k=>by simp[cN,vR]⟩ ?_
  rintro⟨i,v,ig⟩ ⟨hi,hvt,hcnt⟩
  dsimp only at hi hvt hcnt ⊢
  have hbl:=Cw m i hi
  by_cases hlt:i<m.imports.length
  ·obtain⟨b1,o1,rfl,hF,he⟩:=r1.el hlt
   have hk9:=he.Bn
   have hcs:=GD m hlt
   have hcl:=yd m.imports (ix m.imports i).kind i
   obtain⟨cs9,hV9,hc9⟩:=he
   obtain⟨rfl,-⟩:=hV9
   refine cq ?_
   refine aa.y_ (Yl.ji rfl rfl rfl ak Pk Pk hc9) rfl ?_
   refine aa.alloc [Pr ⟨#[]⟩,Pr ⟨#[]⟩,Pm .i64 0,Pm .i64 0,Pm .i64 0,Pm .i64 0,Pm .i64 0,Po false,Pm .i64 0,Pm .i64 0,Po false,Pm .i64 0,Po false] rfl rfl rfl fun b8=>?_
   refine cq ?_
   refine aa.he (HE.xZ (B:=w.heap.size) (R':=[]) rfl rfl rfl List.perm_middle.symm (fun p hp=>absurd hp Pj) (fun w' hw' hB=>AO w.heap.size bx sp im dm v m.types.length tc _ ig (fun _=>none) (ix m.imports i) (cN m i) w' hw' hB ⟨by omega,by omega,by omega,by omega,by omega⟩ hcnt hk9 (by unfold cN;omega)) nW) rfl ?_
   rintro⟨v',ig'⟩ ⟨hc',ht'⟩
   dsimp only at hc' ht' ⊢
   rw[hcs]at hc'
   refine cq ?_
   refine ah.next (i+1,v',ig') bH ?_ aU ⟨by dsimp only;omega,by dsimp only;rw[ht',hvt],hc'⟩ O6
   dsimp only
   rw[bN hlt,zA]
   unfold k9;simp only[Pq,Pp];exact pq
  ·obtain rfl:i=m.imports.length:=by omega
   obtain⟨tv',fv0,bv,mv,gv,ev⟩:=v
   dsimp only at hvt
   subst hvt
   have e1:Ba (m.imports.take m.imports.length) (X0 m)=X1 m:=by unfold X1;rw[PA]
   have hlen1:(X1 m).funcs.length≤1000∧(X1 m).tables.length≤1000∧(X1 m).bQ.length≤1000∧(X1 m).globals.length≤1000∧(X1 m).elems.length≤0:=by rw[←e1];omega
   rw[e1]
   unfold k9
   simp only[Pq,Pp]
   refine cq ?_
   have e2:(X2 m 0).funcs=(X1 m).funcs:=by simp[X2]
   refine bh.loop (σ:=Nat×Value) (fun s=>[(1,.pointer (some ⟨b,0,none⟩)),(3,.pointer (some ⟨bx,0,none⟩)),(59,.slice p2 m.funcs.length c2),(60,.int .i64 m.funcs.length),(61,.int .i64 s.1)]) (fun s=>k9 w.heap.size bx sp im dm ⟨tv',s.2,bv,mv,gv,ev⟩ m.types.length tc (X2 m s.1) ig (fun _=>none)++[.aW b ([Pn p0 m.types.length c0,Pn p1 m.imports.length c1,Pn p2 m.funcs.length c2,Pn p3 m.tables.length c3,Pn p4 m.bQ.length c4,Pn p5 m.globals.length c5,Pn p6 m.aJ.length c6,Po m.aI,Pm .i64 m.start,Pn p7 m.elems.length c7,Pn p8 m.bg.length c8,v9]:List Value) jI]) (fun s=>[mE w.heap.size tc (m.types.take m.types.length),Ext w]) (fun s=>s.1≤m.funcs.length) (fun s=>m.funcs.length - s.1) (0,fv0) bH (by unfold k9;dsimp only;simp only[Pq,Pp,e2];exact pq) aU O6 ?_
   rintro⟨i,fv⟩ hi
   dsimp only at hi ⊢
   unfold k9
   simp only[Pq,Pp]
   by_cases hlt:i<m.funcs.length
   ·obtain⟨b1,o1,rfl,hF,cs5,⟨u0,u1,rfl,q0,q1,q2⟩,hc5⟩:=r2.el hlt
    obtain⟨x2,y2,rfl,z2⟩:=q1.slice
    obtain⟨x0,y0,rfl,z0⟩:=q0.slice
    have e3:(X2 m (i+1)).funcs=(X2 m i).funcs++[(ix m.funcs i).dI]:=by simp[X2,bN hlt]
    have l3:(X2 m i).funcs.length≤3000:=by simp[X2];omega
    refine cq ?_
    refine Nz ?_
    refine aa.alloc [Pm .i64 0,Pn none 0 0,Pn none 0 0] rfl rfl rfl fun b10=>?_
    refine cq ?_
    refine bh.dQ [0,1,2,3,4,5,6,7,8,9,10] 11 [.aW b10 _ Ct,.aW bx [.pointer (some ⟨sp,0,none⟩)] qv,.aW sp [tv',fv,bv,mv,gv,ev,.int .i64 (X2 m i).bg,.map (some im),.map (some dm)] zp] [] Pb bz aU ?_
    refine m7 ?_
    refine Nd ?_
    intro b3 _
    refine NA ?_
    intro v2 _
    refine m7 ?_
    refine bF.pure (φ:=v2.oneCell'=true) (fun w' hw'=>jL (hw'.own (v:=v2))) fun hone=>?_
    refine Ny ?_
    rintro⟨⟩ _
    refine cq ?_
    exact ah.next (i+1,v2) bH (by dsimp only;simp only[e3];exact pq) aU O6 O6
   ·obtain rfl:i=m.funcs.length:=by omega
    refine cq ?_
    refine bh.dQ [0,1,2,3,4,5,6,7,8,9] 10 [.aW bx [.pointer (some ⟨sp,0,none⟩)] qv,.aW sp [tv',fv,bv,mv,gv,ev,.int .i64 (X2 m m.funcs.length).bg,.map (some im),.map (some dm)] zp,.aW b ([Pn p0 m.types.length c0,Pn p1 m.imports.length c1,Pn p2 m.funcs.length c2,Pn p3 m.tables.length c3,Pn p4 m.bQ.length c4,Pn p5 m.globals.length c5,Pn p6 m.aJ.length c6,Po m.aI,Pm .i64 m.start,Pn p7 m.elems.length c7,Pn p8 m.bg.length c8,v9]:List Value) jI] [Ext w] Pb bz aU ?_
    refine m7 ?_
    refine bF.he (HE.IQ (m.tables.flatMap mY) rfl rfl (fun _=>aH) (CC mY (fun _=>rfl) Pi (fun h=>AR h) r3 ak) (kp mY (fun _=>rfl) _) rfl rfl rfl Pk Pk Pk Pk (Ga _) (by have:(X2 m m.funcs.length).tables.length=(X1 m).tables.length:=rfl;omega) nW) rfl (fun _=>bz) (fun _=>aU) ?_
    intro v2 _
    refine m7 ?_
    refine bF.pure (φ:=v2.oneCell'=true) (fun w' hw'=>jL (hw'.own (v:=v2))) fun hone=>?_
    refine Ny ?_
    rintro⟨⟩ _
    refine cq ?_
    refine bh.dQ [0,1,2,3,4,5,6,7,8,9] 10 [.aW bx [.pointer (some ⟨sp,0,none⟩)] qv,.aW sp [tv',fv,v2,mv,gv,ev,.int .i64 (X2 m m.funcs.length).bg,.map (some im),.map (some dm)] zp,.aW b ([Pn p0 m.types.length c0,Pn p1 m.imports.length c1,Pn p2 m.funcs.length c2,Pn p3 m.tables.length c3,Pn p4 m.bQ.length c4,Pn p5 m.globals.length c5,Pn p6 m.aJ.length c6,Po m.aI,Pm .i64 m.start,Pn p7 m.elems.length c7,Pn p8 m.bg.length c8,v9]:List Value) jI] [Ext w] Pb bz aU ?_
    refine m7 ?_
    refine bF.he (HE.IQ (m.bQ.flatMap mK) rfl rfl (fun _=>aH) (CC mK (fun _=>rfl) Pi (fun h=>xv h) r4 ak) (kp mK (fun _=>rfl) _) rfl rfl rfl Pk Pk Pk Pk (Fu _) (by have:(X2 m m.funcs.length).bQ.length=(X1 m).bQ.length:=rfl;omega) nW) rfl (fun _=>bz) (fun _=>aU) ?_
    intro v3 _
    refine m7 ?_
    refine bF.pure (φ:=v3.oneCell'=true) (fun w' hw'=>jL (hw'.own (v:=v3))) fun hone3=>?_
    refine bF.iO (gj.gz rfl rfl rfl rfl hone3 aH pn) rfl ?_
    rintro⟨⟩ _
    refine cq ?_
    have e4:(X4 m 0).globals=(X1 m).globals:=by simp[X4]
    have e5:(X4 m 0).tables=(X2 m m.funcs.length).tables++m.tables:=rfl
    have e6:(X4 m 0).bQ=(X2 m m.funcs.length).bQ++m.bQ:=rfl
    refine bh.loop (σ:=Nat×Value×(Int→Option Value)) (fun s=>[(1,.pointer (some ⟨b,0,none⟩)),(3,.pointer (some ⟨bx,0,none⟩)),(11,.func (.func 22) #[] #[.pointer (some ⟨bx,0,none⟩)]),(99,.slice p5 m.globals.length c5),(100,.int .i64 m.globals.length),(101,.int .i64 s.1)]) (fun s=>k9 w.heap.size bx sp im dm ⟨tv',fv,v2,v3,s.2.1,ev⟩ m.types.length tc (X4 m s.1) ig s.2.2++[.aW b ([Pn p0 m.types.length c0,Pn p1 m.imports.length c1,Pn p2 m.funcs.length c2,Pn p3 m.tables.length c3,Pn p4 m.bQ.length c4,Pn p5 m.globals.length c5,Pn p6 m.aJ.length c6,Po m.aI,Pm .i64 m.start,Pn p7 m.elems.length c7,Pn p8 m.bg.length c8,v9]:List Value) jI]) (fun s=>[mE w.heap.size tc (m.types.take m.types.length),Ext w]) (fun s=>s.1≤m.globals.length∧ED s.2.2 (d4 m s.1)) (fun s=>m.globals.length - s.1) (0,gv,fun _=>none) bH (by unfold k9;dsimp only;simp only[Pq,Pp,e4,e5,e6];exact pq) aU ⟨by dsimp only;omega,fun k=>by simp[d4]⟩ ?_
    rintro⟨i,gv4,dg⟩ ⟨hi,hdec⟩
    dsimp only at hi hdec ⊢
    unfold k9
    simp only[Pq,Pp]
    by_cases hlt:i<m.globals.length
    ·obtain⟨b1,o1,rfl,hF,cs5,⟨u0,rfl,q0,q2⟩,hc5⟩:=r5.el hlt
     obtain⟨x2,y2,rfl,z2⟩:=q0.slice
     have e7:(X4 m (i+1)).globals=(X4 m i).globals++[(ix m.globals i).dI]:=by simp[X4,bN hlt]
     have l7:(X4 m i).globals.length≤3000:=by simp[X4];omega
     have d7:pz (d4 m i) (ix m.globals i).nN=d4 m (i+1):=by
      funext k;unfold pz d4;rw[bN hlt,Qi];simp
     refine cq ?_
     refine Nz ?_
     refine aa.alloc [Pm .i64 0,Po false,Pn none 0 0] rfl rfl rfl fun b13=>?_
     refine cq ?_
     refine bh.dQ [0,1,2,3,4,5,6,7,8,9,10] 11 [.aW b13 _ Lb,.aW bx [.pointer (some ⟨sp,0,none⟩)] qv,.aW sp [tv',fv,v2,v3,gv4,ev,.int .i64 (X4 m i).bg,.map (some im),.map (some dm)] zp] [] Pb bz aU ?_
     refine m7 ?_
     refine Nd ?_
     intro b3 _
     refine NA ?_
     intro v4 _
     refine m7 ?_
     refine bF.pure (φ:=v4.oneCell'=true) (fun w' hw'=>jL (hw'.own (v:=v4))) fun hone=>?_
     refine Ny ?_
     rintro⟨⟩ _
     refine cq ?_
     refine aa.sub (E':=[(1,.pointer (some ⟨b,0,none⟩)),(3,.pointer (some ⟨bx,0,none⟩)),(11,.func (.func 22) #[] #[.pointer (some ⟨bx,0,none⟩)]),(116,.func (.func 22) #[] #[.pointer (some ⟨bx,0,none⟩)]),(118,.slice x2 (ix m.globals i).nN.length y2),(99,.slice (some ⟨b1,o1,none⟩) m.globals.length c5),(100,.int .i64 m.globals.length),(101,.int .i64 i)]) bH (M':=(k9 w.heap.size bx sp im dm ⟨tv',fv,v2,v3,v4,ev⟩ m.types.length tc (X4 m (i+1)) ig dg++[.aW b ([Pn p0 m.types.length c0,Pn p1 m.imports.length c1,Pn p2 m.funcs.length c2,Pn p3 m.tables.length c3,Pn p4 m.bQ.length c4,Pn (some ⟨b1,o1,none⟩) m.globals.length c5,Pn p6 m.aJ.length c6,Po m.aI,Pm .i64 m.start,Pn p7 m.elems.length c7,Pn p8 m.bg.length c8,v9]:List Value) jI])) (R':=[mE w.heap.size tc (m.types.take m.types.length),Ext w]) (by unfold k9;simp only[Pq,Pp,e7];exact pq) aU ?_
     refine aa.he (HE.xZ (B:=w.heap.size) (R':=[Ext w]) rfl rfl rfl (List.Perm.refl _) aU (fun w' hw' _=>vv F w.heap.size bx sp im dm _ m.types.length tc _ ig dg (d4 m i) (ix m.globals i).nN _ w w' hw' q0 hdec) nW) rfl ?_
     intro dg' hdec'
     rw[d7]at hdec'
     refine cq ?_
     refine ah.next (i+1,v4,dg') bH ?_ aU ⟨by dsimp only;omega,hdec'⟩ O6
     unfold k9;simp only[Pq,Pp];exact pq
    ·obtain rfl:i=m.globals.length:=by omega
     refine cq ?_
     have e8:(X5 m 0).elems=(X4 m m.globals.length).elems:=by simp only[X5,List.take_zero,List.map_nil,List.append_nil];rfl
     refine bh.loop (σ:=Nat×Value×(Int→Option Value)) (fun s=>[(1,.pointer (some ⟨b,0,none⟩)),(3,.pointer (some ⟨bx,0,none⟩)),(11,.func (.func 22) #[] #[.pointer (some ⟨bx,0,none⟩)]),(122,.slice p7 m.elems.length c7),(123,.int .i64 m.elems.length),(124,.int .i64 s.1)]) (fun s=>k9 w.heap.size bx sp im dm ⟨tv',fv,v2,v3,gv4,s.2.1⟩ m.types.length tc (X5 m s.1) ig s.2.2++[.aW b ([Pn p0 m.types.length c0,Pn p1 m.imports.length c1,Pn p2 m.funcs.length c2,Pn p3 m.tables.length c3,Pn p4 m.bQ.length c4,Pn p5 m.globals.length c5,Pn p6 m.aJ.length c6,Po m.aI,Pm .i64 m.start,Pn p7 m.elems.length c7,Pn p8 m.bg.length c8,v9]:List Value) jI]) (fun s=>[mE w.heap.size tc (m.types.take m.types.length),Ext w]) (fun s=>s.1≤m.elems.length∧ED s.2.2 (d5 m s.1 0)) (fun s=>m.elems.length - s.1) (0,ev,dg) bH (by unfold k9;dsimp only;simp only[Pq,Pp,e8];exact pq) aU ⟨by dsimp only;omega,fun k=>by rw[hdec k];simp[d5]⟩ ?_
     rintro⟨i,ev5,dg⟩ ⟨hi,hdec⟩
     dsimp only at hi hdec ⊢
     unfold k9
     simp only[Pq,Pp]
     by_cases hlt:i<m.elems.length
     ·obtain⟨b1,o1,rfl,hF,cs5,⟨u0,u1,rfl,q0,q1,q2⟩,hc5⟩:=r7.el hlt
      obtain⟨x2,y2,rfl,z2⟩:=q0.slice
      obtain⟨x4,y4,rfl,z4⟩:=q1.slice
      have e9:(X5 m (i+1)).elems=(X5 m i).elems++[(ix m.elems i).dI]:=by simp[X5,bN hlt]
      have l9:(X5 m i).elems.length≤3000:=by simp[X5];omega
      refine cq ?_
      refine Nz ?_
      refine aa.alloc [Pm .i64 0,Pm .i64 0,Pn none 0 0,Pm .i64 0,Pn none 0 0] rfl rfl rfl fun b15=>?_
      refine cq ?_
      refine bh.dQ [0,1,2,3,4,5,6,7,8,9,10] 11 [.aW b15 _ La,.aW bx [.pointer (some ⟨sp,0,none⟩)] qv,.aW sp [tv',fv,v2,v3,gv4,ev5,.int .i64 (X5 m i).bg,.map (some im),.map (some dm)] zp] [] Pb bz aU ?_
      refine m7 ?_
      refine Nd ?_
      intro b3 _
      refine NA ?_
      intro v5 _
      refine m7 ?_
      refine bF.pure (φ:=v5.oneCell'=true) (fun w' hw'=>jL (hw'.own (v:=v5))) fun hone=>?_
      refine Ny ?_
      rintro⟨⟩ _
      refine cq ?_
      refine bh.loop (σ:=Nat×(Int→Option Value)) (fun s=>[(1,.pointer (some ⟨b,0,none⟩)),(3,.pointer (some ⟨bx,0,none⟩)),(11,.func (.func 22) #[] #[.pointer (some ⟨bx,0,none⟩)]),(122,.slice (some ⟨b1,o1,none⟩) m.elems.length c7),(123,.int .i64 m.elems.length),(124,.int .i64 i),(140,.slice x4 (ix m.elems i).items.length y4),(141,.int .i64 (ix m.elems i).items.length),(142,.int .i64 s.1)]) (fun s=>k9 w.heap.size bx sp im dm ⟨tv',fv,v2,v3,gv4,v5⟩ m.types.length tc (X5 m (i+1)) ig s.2++[.aW b ([Pn p0 m.types.length c0,Pn p1 m.imports.length c1,Pn p2 m.funcs.length c2,Pn p3 m.tables.length c3,Pn p4 m.bQ.length c4,Pn p5 m.globals.length c5,Pn p6 m.aJ.length c6,Po m.aI,Pm .i64 m.start,Pn (some ⟨b1,o1,none⟩) m.elems.length c7,Pn p8 m.bg.length c8,v9]:List Value) jI]) (fun s=>[mE w.heap.size tc (m.types.take m.types.length),Ext w]) (fun s=>s.1≤(ix m.elems i).items.length∧ED s.2 (d5 m i s.1)) (fun s=>(ix m.elems i).items.length - s.1) (0,dg) bH (by unfold k9;dsimp only;simp only[Pq,Pp,e9];exact pq) aU ⟨by dsimp only;omega,hdec⟩ ?_
      rintro⟨j,dg6⟩ ⟨hj,hdec6⟩
      dsimp only at hj hdec6 ⊢
      by_cases hjl:j<(ix m.elems i).items.length
      ·obtain⟨b7,o7,rfl,-,u7,c7_,hu7⟩:=q1.el hjl
       rw[Nat.mul_one]at c7_
       obtain⟨x8,y8,rfl,-⟩:=hu7.slice
       have d8:pz (d5 m i j) (ix (ix m.elems i).items j)=d5 m i (j+1):=by
        funext k;unfold pz d5;rw[bN hjl,Qi,Bool.or_assoc];simp
       refine cq ?_
       refine aa.he (HE.xZ (B:=w.heap.size) (R':=[Ext w]) rfl rfl rfl (List.Perm.refl _) aU (fun w' hw' _=>vv F w.heap.size bx sp im dm _ m.types.length tc _ ig dg6 (d5 m i j) (ix (ix m.elems i).items j) _ w w' hw' hu7 hdec6) nW) rfl ?_
       intro dg' hdec'
       rw[d8]at hdec'
       refine cq ?_
       exact ah.next (j+1,dg') bH OM aU ⟨by dsimp only;omega,hdec'⟩ O6
      ·obtain rfl:j=(ix m.elems i).items.length:=by omega
       have d9:d5 m i (ix m.elems i).items.length=d5 m (i+1) 0:=by
        funext k;unfold d5;rw[PA,bN hlt,Qi];simp[Bool.or_assoc]
       rw[d9]at hdec6
       refine cq ?_
       exact ah.next (i+1,v5,dg6) bH (by unfold k9;dsimp only;simp only[Pq,Pp];exact pq) aU ⟨by dsimp only;omega,hdec6⟩ O6
     ·obtain rfl:i=m.elems.length:=by omega
      refine cq ?_
      refine bh.loop (σ:=Nat×(Int→Option Value)) (fun s=>[(1,.pointer (some ⟨b,0,none⟩)),(3,.pointer (some ⟨bx,0,none⟩)),(11,.func (.func 22) #[] #[.pointer (some ⟨bx,0,none⟩)]),(152,.slice p6 m.aJ.length c6),(153,.int .i64 m.aJ.length),(154,.int .i64 s.1)]) (fun s=>k9 w.heap.size bx sp im dm ⟨tv',fv,v2,v3,gv4,ev5⟩ m.types.length tc (X5 m m.elems.length) ig s.2++[.aW b ([Pn p0 m.types.length c0,Pn p1 m.imports.length c1,Pn p2 m.funcs.length c2,Pn p3 m.tables.length c3,Pn p4 m.bQ.length c4,Pn p5 m.globals.length c5,Pn p6 m.aJ.length c6,Po m.aI,Pm .i64 m.start,Pn p7 m.elems.length c7,Pn p8 m.bg.length c8,v9]:List Value) jI]) (fun s=>[mE w.heap.size tc (m.types.take m.types.length),Ext w]) (fun s=>s.1≤m.aJ.length∧ED s.2 (d6 m s.1)) (fun s=>m.aJ.length - s.1) (0,dg) bH (by unfold k9;dsimp only;simp only[Pq,Pp];exact pq) aU ⟨by dsimp only;omega,fun k=>by rw[hdec k];simp[d5,d6]⟩ ?_
      rintro⟨i,dg⟩ ⟨hi,hdec⟩
      dsimp only at hi hdec ⊢
      unfold k9
      simp only[Pq,Pp]
      by_cases hlt:i<m.aJ.length
      ·obtain⟨b1,o1,rfl,hF,he⟩:=r6.el hlt
       have hri:=he.ye
       obtain⟨cs9,hV9,hc9⟩:=he
       obtain⟨rfl,-⟩:=hV9
       have hnx:∀k,d6 m (i+1) k=(d6 m i k || (decide ((ix m.aJ i).kind=0) && decide ((ix m.aJ i).index=k))):=fun k=>by
        unfold d6;rw[bN hlt,Qi];simp[Bool.or_assoc]
       refine cq ?_
       refine aa.y_ (Yl.ji rfl rfl rfl ak Pk Pk hc9) rfl ?_
       refine aa.alloc [Pr ⟨#[]⟩,Pm .i64 0,Pm .i64 0] rfl rfl rfl fun b19=>?_
       refine cq ?_
       by_cases hk0:(ix m.aJ i).kind=0
       ·refine cq ?_
        refine bh.dQ [0,1,2,3,4,5] 6 [.aW b19 _ JM,.aW bx [.pointer (some ⟨sp,0,none⟩)] qv,.aW sp [tv',fv,v2,v3,gv4,ev5,.int .i64 (X5 m m.elems.length).bg,.map (some im),.map (some dm)] zp] [] Pb bz aU ?_
        refine m7 ?_
        refine bF.iO (gj.mapUpdate underlying78 underlying3 rfl rfl rfl hri aH) rfl ?_
        rintro⟨⟩ _
        refine cq ?_
        refine ah.next (i+1,put dg (ix m.aJ i).index (.bool true)) bH (by dsimp only;exact pq) aU ⟨by dsimp only;omega,fun k=>?_⟩ O6
        dsimp only
        rw[hdec.put _ k,hnx k];simp[hk0]
       ·refine cq ?_
        refine ah.next (i+1,dg) bH (by dsimp only;exact pq) aU ⟨by dsimp only;omega,fun k=>?_⟩ O6
        dsimp only
        rw[hdec k,hnx k];simp[hk0]
      ·obtain rfl:i=m.aJ.length:=by omega
       refine cq ?_
       refine aa.box [Value.pointer (some ⟨sp,0,none⟩)] rfl rfl rfl fun bS=>?_
       refine cq ?_
       refine ah.aG rfl rfl fun w' hw'=>?_
       have hbig:∀k,Mb _ k→k<w.heap.size→False:=hw'.origin (S:=fun _=>False) (w0:=w) ak
       have hx:Ext w w':=hw'.at
       have hty:mE w.heap.size tc (m.types.take m.types.length) w':=hw'.at
       rw[PA]at hty
       have o1:=hw'.own (v:=fv)
       have o2:=hw'.own (v:=v2)
       have o3:=hw'.own (v:=v3)
       have o4:=hw'.own (v:=gv4)
       have o5:=hw'.own (v:=ev5)
       have o6:=hw'.own (v:=tv')
       have hge:∀q:bu,q∈_→∀k,q.F k→w.heap.size≤k:=fun q hq k hk=>by
        rcases Nat.lt_or_ge k w.heap.size with h|h
        ·exact(hbig k ⟨q,hq,hk⟩ h).elim
        ·exact h
       refine⟨⟨_,rfl,bS,sp,im,dm,⟨tv',fv,v2,v3,gv4,ev5⟩,tc,ig,dg,rfl,⟨hge (.aW bS [.pointer (some ⟨sp,0,none⟩)] xO) bO bS rfl,hge (.aW sp [tv',fv,v2,v3,gv4,ev5,.int .i64 (X5 m m.elems.length).bg,.map (some im),.map (some dm)] zp) bO sp rfl,hge (.iv im ig) bO im rfl,hge (.iv dm dg) bO dm rfl⟩,⟨(hw'.m (.aW bS [.pointer (some ⟨sp,0,none⟩)] xO) bO).1,(hw'.m (.aW sp [tv',fv,v2,v3,gv4,ev5,.int .i64 (X5 m m.elems.length).bg,.map (some im),.map (some dm)] zp) bO).1,o1,o2,o3,o4,o5,o6,(hw'.m (.iv im ig) bO).1,(hw'.m (.iv dm dg) bO).1,hcnt,hdec,hty⟩⟩,hx⟩
def ry (m:af) (k:Int):List bY:=m.imports.filter fun x=>decide (x.kind=k)
def gL (m:af):List Int:=(ry m 0).map (·.func)++m.funcs.map (·.dI)
def bM (m:af):List fJ:=(ry m 1).map (·.table)++m.tables
def ec (m:af):List fu:=(ry m 2).map (·.mem)++m.bQ
def gg (m:af):List iM:=(ry m 3).map (·.ff)++m.globals.map (·.dI)
def dO (m:af):List Int:=m.elems.map (·.dI)
theorem Dj (l:List bY) (X:pP):l.foldl pP.iU X={X with funcs:=X.funcs++(l.filter fun x=>decide (x.kind=0)).map (·.func),tables:=X.tables++(l.filter fun x=>decide (x.kind=1)).map (·.table),bQ:=X.bQ++(l.filter fun x=>decide (x.kind=2)).map (·.mem),globals:=X.globals++(l.filter fun x=>decide (x.kind=3)).map (·.ff)}:=by
 induction l generalizing X with
 |nil=>simp
 |cons a r ih=>
  rw[List.foldl_cons,ih]
  unfold pP.iU
  by_cases h0:a.kind=0
  ·simp[h0]
  by_cases h1:a.kind=1
  ·simp[h1]
  by_cases h2:a.kind=2
  ·simp[h2]
  by_cases h3:a.kind=3
  ·simp[h3]
  simp[h0,h1,h2,h3]
theorem qg (m:af):wU m=⟨gL m,bM m,ec m,gg m,dO m,m.bg.length⟩:=by
 unfold wU X5 X4 X3 X2 X1 Ba
 rw[Dj]
 simp[X0,gL,bM,ec,gg,dO,ry]
def cJ {α:Type} [Inhabited α] (l:List α) (i:Int):Option α:=if 0≤i∧i<l.length then some (ix l i.toNat)else none
def kV (l:List bY) (k:Int):Int→Option bY:=match l with
 |[]=>fun _=>none
 |a::r=>fun i=>if a.kind≠k then kV r k i else if i=0 then some a else kV r k (i - 1)
theorem tU (k:Int):∀(l:List bY) (i:Int),i<0→kV l k i=none
 |[],_,_=>rfl
 |a::r,i,h=>by
  unfold kV
  split
  ·exact tU k r i h
  ·rw[if_neg Pi];exact tU k r (i - 1) Pi
theorem yu (k:Int):∀(l:List bY) (i:Nat),kV l k i=(l.filter fun x=>decide (x.kind=k))[i]?
 |[],i=>by simp[kV]
 |a::r,i=>by
  unfold kV
  by_cases h:a.kind=k
  ·rw[if_neg (by simp[h]),List.filter_cons_of_pos Pa]
   cases i with
   |zero=>simp
   |succ i=>rw[if_neg Pi,show((i+1:Nat):Int) - 1=(i:Int)by omega,yu k r i];simp
  ·rw[if_pos h,List.filter_cons_of_neg Pa];exact yu k r i
theorem Gv [Inhabited α] (f:bY→α) (l:List bY) (k:Int) (own:List α) (i:Int):
  cJ ((l.filter fun x=>decide (x.kind=k)).map f++own) i=match kV l k i with
   |some x=>some (f x)
   |none=>if 0≤i then cJ own (i - (l.filter fun x=>decide (x.kind=k)).length)else none:=by
 generalize hf:l.filter (fun x=>decide (x.kind=k))=fl
 by_cases h0:0≤i
 ·obtain⟨j,rfl⟩:=Int.eq_ofNat_of_zero_le h0
  rw[yu,hf]
  by_cases hj:j<fl.length
  ·rw[Pw hj]
   unfold cJ
   rw[if_pos ⟨h0,by simp;omega⟩]
   congr 1
   rw[Int.toNat_natCast,cz Pe,List.getElem_append_left (by simpa using hj)]
   simp
  ·rw[List.getElem?_eq_none Pi,if_pos h0]
   unfold cJ
   by_cases h1:j<fl.length+own.length
   ·rw[if_pos ⟨h0,by simp;omega⟩,if_pos ⟨by omega,by omega⟩]
    congr 1
    rw[Int.toNat_natCast,gN Pe]
    congr 1
    simp
   ·rw[if_neg Pe,if_neg Pi]
 ·rw[tU k l i Pi,if_neg h0]
  unfold cJ
  rw[if_neg Pi]
section
variable {ops:Array Oper} {Q:Exit→Act→World→Prop} {n:Nat} {E:Env} {M M':List bu} {R R':List (World→Prop)} {v:Value} {x y z:Operand} {t t2:TypeId} {C:World→Prop}
theorem Yl.pf {ti:TypeId} {ad:Addr} (ht:G.P.underlying t=some (.pointer ti)) (hx:ev E x=some (.pointer (some ad))) (hy:ev E y=some (.pointer none)):Yl G n (.binOp .eql t x y t2) E C (.bool false):=
 ⟨fun w _ a ha d ty pos aft gd=>by
  have h2:∀m,(Op.equalIn (m+1) t (.pointer (some ad)) (.pointer none)).run G.P w=.ok false w:=by
   intro m;simp[Op.equalIn,run_underlying ht]
  have h3:(Op.equal t (.pointer (some ad)) (.pointer none)).run G.P w=.ok false w:=h2 9999
  simp[execOp,ha.eval hx,ha.eval hy,eqGuard,binOp,h3]⟩
theorem Yl.GV {k e:TypeId} {zv:Value} {bm:Nat} {g:Int→Option Value} {a:Int} {w0:World} (ht:G.P.underlying t=some (.map k e)) (hk:G.P.underlying k=some (.int .i64)) (hzv:∀w,(zeroValue e).run G.P w=.ok zv w) (hx:ev E x=some (.map (some bm))) (hy:ev E y=some (.int .i64 a)) (ha:eP a)
  (hM:IV w0 bm g) (hR:Ext w0∈R):Yl G n (.lookup t x y false) E (Ok M R) ((g a).getD zv):=
 ⟨fun w hw ac hac d ty pos aft gd=>by
  have:=xr (t:=t) ht hk hzv (hM.aN (show Ext w0 w from hw.get hR) (fun h=>h)) (A3 ha)
  simp[execOp,hac.eval hx,hac.eval hy,this]⟩
end
theorem mg (bS sp:Nat) (w:World) (hb:gQ w bS [.pointer (some ⟨sp,0,none⟩)] xO):Calls G.P 78 #[.pointer (some ⟨bS,0,none⟩)] w fun e w'=>e=.returned (.pointer (some ⟨sp,0,none⟩))∧Ext w w':=by
 have c0:w.cell? ⟨bS,0,none⟩=some (.pointer (some ⟨sp,0,none⟩)):=hb.cell rfl
 refine ae (l:=[.pointer (some ⟨bS,0,none⟩)]) func78 rfl ntmps78 rfl (Ok.start w) ?_
 refine cq ?_
 refine aa.y_ (Yl.pf underlying39 rfl rfl) rfl ?_
 refine cq ?_
 refine aa.yg rfl (Yl.pf underlying76 rfl rfl) rfl ?_
 refine cq ?_
 exact gt
structure aP (l:List Oper) (Q:Exit→Act→World→Prop) (Mc:List bu) (Rc:List (World→Prop)) (n fuel:Nat) (listed:Array Bool) (E:Env) (M:List bu) (R:List (World→Prop)):Prop where
 h:∀w,Ok M R w→Ok Mc Rc w→zg .any l.toArray listed→∀a,Ag n a E→nD G.P .any l.toArray (Ok Mc Rc) l.length (Q .normal) fuel listed a w
structure ax (l:List Oper) (Q:Exit→Act→World→Prop) (Mc:List bu) (Rc:List (World→Prop)) (n fuel:Nat) (listed:Array Bool) (i:Nat) (E:Env) (M:List bu) (R:List (World→Prop)):Prop where
 h:∀w,Ok M R w→Ok Mc Rc w→zg .any l.toArray listed→i∈Region.ready .any l.toArray listed→∀a,Ag n a E→vS G.P l.toArray (Ok Mc Rc) l.length i (nD G.P .any l.toArray (Ok Mc Rc) l.length (Q .normal) fuel (listed.setIfInBounds i true)) a w
section
variable {l:List Oper} {Q:Exit→Act→World→Prop} {Mc:List bu} {Rc:List (World→Prop)} {n fuel:Nat} {listed:Array Bool} {E:Env} {M:List bu} {R:List (World→Prop)} {d:Nat} {op:Op} {ty:TypeId} {pos:String} {aft:Array Edge} {v:Value} {β:Type} {φ:β→Prop} {vf:β→Value} {Mf:β→List bu} {Rf:β→List (World→Prop)}
theorem bh.cI {id:Nat} (Mc:List bu) (Rc:List (World→Prop)) (hM:Mc.Sublist M) (hR:∀p,p∈Rc→p∈R) (h:aP l Q Mc Rc n l.length (Array.replicate l.length false) E M R):bh Q n (.region id l.toArray true) E M R:=
 ⟨fun w hw=>⟨fun a ha=>wp_region_any G.mixed (nG (C:=Ok Mc Rc) (z:=l.length) (K:=Q .normal) (fun _ _ h=>h) _ _ _ _ (by
  have:=h.h w.drew hw.drew (hw.drew.sub hM hR) (zg.start _) a ha
  simpa using this))⟩⟩
theorem aP.q (k:Nat) (hk:l[k]?=some ⟨some d,op,ty,pos,aft,none⟩) (hc:(Region.noSelect l.toArray && (Region.ready .any l.toArray listed).contains k && Region.free .any l.toArray listed k && qo op && Pt d n)=true) (hy:Yl G n op E (Ok Mc Rc) v)
  (h:aP l Q Mc Rc n fuel (listed.setIfInBounds k true) ((d,v)::E) M R):aP l Q Mc Rc n (fuel+1) listed E M R:=⟨fun w hw hC hcl a ha=>by
 simp only[Bool.and_eq_true]at hc
 obtain⟨⟨⟨⟨h1,h2⟩,h3⟩,h4⟩,h5⟩:=hc
 have hkl:k<l.length:=(PR.1 hk).1
 have ho:l.toArray[k]?=some ⟨some d,op,ty,pos,aft,none⟩:=by simpa using hk
 have hkr:k∈Region.ready .any l.toArray listed:=by simpa using h2
 exact nE ho (Region.noSelect_spec h1) (fun _ _ _ _=>Kd) Pi fuel listed a w hC hcl (Region.free_spec ho h3) hkr (.inl ⟨by simp[Region.wanted],fun w hw=>hy.h w hw a ha _ _ _ _ _⟩) (h.h w hw hC (hcl.set hkr) _ (ha.put (by simpa using h5) v))⟩
theorem aP.nil (hr:Region.ready .any l.toArray listed=[]) (h:ah Q n .normal E M R):aP l Q Mc Rc n fuel listed E M R:=⟨fun w hw hC hcl a ha=>by
 cases fuel with
 |zero=>exact⟨hr,(h.h w hw).h a ha⟩
 |succ f=>exact⟨fun _=>(h.h w hw).h a ha,fun i hi=>by rw[hr]at hi;cases hi⟩⟩
theorem ax.he {i:Nat} (hi:l[i]?=some ⟨some d,op,ty,pos,aft,none⟩) (hd:Pt d n=true) (he:HE n op E M R φ vf Mf Rf) (hM:∀x,Mc.Sublist (Mf x)) (hR:∀x p,p∈Rc→p∈Rf x) (h:∀x,φ x→aP l Q Mc Rc n fuel (listed.setIfInBounds i true) ((d,vf x)::E) (Mf x) (Rf x)):ax l Q Mc Rc n fuel listed i E M R:=⟨fun w hw hC hcl hr a ha=>by
 have ho:l.toArray[i]?=some ⟨some d,op,ty,pos,aft,none⟩:=by simpa using hi
 unfold vS
 simp only[ho]
 have hw':Region.wanted ⟨some d,op,ty,pos,aft,none⟩ (yielded l.toArray a.tmps)=true:=by simp[Region.wanted]
 simp only[hw',if_true]
 exact dx ((he.h w hw).h a ha _ _ _ _ _) fun v w2 ⟨x,h1,h2,h3⟩=>by
  subst h2
  exact⟨.inr (h3.sub (hM x) (hR x)),(h x h1).h w2 h3 (h3.sub (hM x) (hR x)) (hcl.set hr) _ (ha.put (by simpa using hd) _)⟩⟩
theorem ax.jO {i:Nat} (hi:l[i]?=some ⟨none,op,ty,pos,aft,none⟩) (he:gj n op E M R φ Mf Rf) (hM:∀x,Mc.Sublist (Mf x)) (hR:∀x p,p∈Rc→p∈Rf x) (h:∀x,φ x→aP l Q Mc Rc n fuel (listed.setIfInBounds i true) E (Mf x) (Rf x)):ax l Q Mc Rc n fuel listed i E M R:=⟨fun w hw hC hcl hr a ha=>by
 have ho:l.toArray[i]?=some ⟨none,op,ty,pos,aft,none⟩:=by simpa using hi
 unfold vS
 simp only[ho]
 have hw':Region.wanted ⟨none,op,ty,pos,aft,none⟩ (yielded l.toArray a.tmps)=true:=by simp[Region.wanted]
 simp only[hw',if_true]
 exact dx ((he.h w hw).h a ha _ _ _ _ _) fun v w2 ⟨x,h1,h3⟩=>
  ⟨.inr (h3.sub (hM x) (hR x)),(h x h1).h w2 h3 (h3.sub (hM x) (hR x)) (hcl.set hr) _ ha⟩⟩
end
end Go.Proofs.YtdkcljdfbemnbaaGreatDoor
