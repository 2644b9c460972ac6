/- The reference's table of opcodes: ref05.rows, find, Known, Name, Of, All, within, Width. Printed by gen_b1.py. -/
import Derived.Test.YtdkcljdfbemnbaaGreatDoorJW2
import Derived.Test.YtdkcljdfbemnbaaGreatDoorJMv
import Derived.Test.YtdkcljdfbemnbaaGreatDoorJSb
import Derived.Test.YtdkcljdfbemnbaaGreatDoorJR7
import Derived.Test.YtdkcljdfbemnbaaGreatDoorJM2
namespace Go.Proofs.YtdkcljdfbemnbaaGreatDoor
open Go.RowKit _root_.Go.Proofs.Tryz
set_option maxHeartbeats 32000000
open List renaming Sublist→Pp,all_eq_true→Pv,any_append→Qc,cons_append→Pj,flatMap_append→PR,flatMap_cons→Qd,getElem?_append_left→PW,getElem?_append_right→P2,getElem?_eq_getElem→Pq,getElem?_eq_some_iff→PL,length_append→Pt,mem_cons→Pz,mem_of_find?_eq_some→PX,nil_append→Pi,nil_sublist→PH,not_mem_nil→PY,take_length→Pu
open Nat renaming blt→Pn,le_trans→Py,succ_mul→P9,zero_add→Pm
open Value renaming bool→Ph,int→Pf,slice→Pg,string→Pk
set_option maxRecDepth 100000
abbrev qn:=Int×List UInt8×Int
def qj (r:qn):List Value:=[.int .i64 r.1,.string ⟨r.2.1.toArray⟩,.int .i64 r.2.2]
def nX:List qn:=[(0,[117,110,114,101,97,99,104,97,98,108,101],0),(1,[110,111,112],0),(2,[98,108,111,99,107],1),(3,[108,111,111,112],1),(4,[105,102],1),(5,[101,108,115,101],0),(11,[101,110,100],0),(12,[98,114],2),(13,[98,114,95,105,102],2),(14,[98,114,95,116,97,98,108,101],3),(15,[114,101,116,117,114,110],0),(16,[99,97,108,108],4),(17,[99,97,108,108,95,105,110,100,105,114,101,99,116],5),(26,[100,114,111,112],0),(27,[115,101,108,101,99,116],0),(28,[115,101,108,101,99,116],6),(32,[108,111,99,97,108,46,103,101,116],7),(33,[108,111,99,97,108,46,115,101,116],7),(34,[108,111,99,97,108,46,116,101,101],7),(35,[103,108,111,98,97,108,46,103,101,116],8),(36,[103,108,111,98,97,108,46,115,101,116],8),(37,[116,97,98,108,101,46,103,101,116],9),(38,[116,97,98,108,101,46,115,101,116],9)]
def qq:List qn:=[(40,[105,51,50,46,108,111,97,100],17),(41,[105,54,52,46,108,111,97,100],17),(44,[105,51,50,46,108,111,97,100,56,95,115],17),(45,[105,51,50,46,108,111,97,100,56,95,117],17),(46,[105,51,50,46,108,111,97,100,49,54,95,115],17),(47,[105,51,50,46,108,111,97,100,49,54,95,117],17),(48,[105,54,52,46,108,111,97,100,56,95,115],17),(49,[105,54,52,46,108,111,97,100,56,95,117],17),(50,[105,54,52,46,108,111,97,100,49,54,95,115],17),(51,[105,54,52,46,108,111,97,100,49,54,95,117],17),(52,[105,54,52,46,108,111,97,100,51,50,95,115],17),(53,[105,54,52,46,108,111,97,100,51,50,95,117],17),(54,[105,51,50,46,115,116,111,114,101],17),(55,[105,54,52,46,115,116,111,114,101],17),(58,[105,51,50,46,115,116,111,114,101,56],17),(59,[105,51,50,46,115,116,111,114,101,49,54],17),(60,[105,54,52,46,115,116,111,114,101,56],17),(61,[105,54,52,46,115,116,111,114,101,49,54],17),(62,[105,54,52,46,115,116,111,114,101,51,50],17),(63,[109,101,109,111,114,121,46,115,105,122,101],13),(64,[109,101,109,111,114,121,46,103,114,111,119],13),(65,[105,51,50,46,99,111,110,115,116],18),(66,[105,54,52,46,99,111,110,115,116],19)]
def E7:List qn:=[(208,[114,101,102,46,110,117,108,108],20),(209,[114,101,102,46,105,115,95,110,117,108,108],0),(210,[114,101,102,46,102,117,110,99],4),(64520,[109,101,109,111,114,121,46,105,110,105,116],15),(64521,[100,97,116,97,46,100,114,111,112],16),(64522,[109,101,109,111,114,121,46,99,111,112,121],14),(64523,[109,101,109,111,114,121,46,102,105,108,108],13),(64524,[116,97,98,108,101,46,105,110,105,116],11),(64525,[101,108,101,109,46,100,114,111,112],12),(64526,[116,97,98,108,101,46,99,111,112,121],10),(64527,[116,97,98,108,101,46,103,114,111,119],9),(64528,[116,97,98,108,101,46,115,105,122,101],9),(64529,[116,97,98,108,101,46,102,105,108,108],9)]
def I8:List qn:=[(167,[105,51,50,46,119,114,97,112,95,105,54,52],0),(172,[105,54,52,46,101,120,116,101,110,100,95,105,51,50,95,115],0),(173,[105,54,52,46,101,120,116,101,110,100,95,105,51,50,95,117],0)]
def gF:List (List UInt8):=[[101,113,122],[101,113],[110,101],[108,116,95,115],[108,116,95,117],[103,116,95,115],[103,116,95,117],[108,101,95,115],[108,101,95,117],[103,101,95,115],[103,101,95,117]]
def oG:List (List UInt8):=[[99,108,122],[99,116,122],[112,111,112,99,110,116],[97,100,100],[115,117,98],[109,117,108],[100,105,118,95,115],[100,105,118,95,117],[114,101,109,95,115],[114,101,109,95,117],[97,110,100],[111,114],[120,111,114],[115,104,108],[115,104,114,95,115],[115,104,114,95,117],[114,111,116,108],[114,111,116,114]]
def gK (f:Int) (t:List UInt8) (l:List (List UInt8)):List qn:=l.zipIdx.map fun p=>(f+p.2,t++[46]++p.1,0)
def Fa:List (List UInt8):=[[101,120,116,101,110,100,56,95,115],[101,120,116,101,110,100,49,54,95,115]]
def Fb:List (List UInt8):=[[101,120,116,101,110,100,56,95,115],[101,120,116,101,110,100,49,54,95,115],[101,120,116,101,110,100,51,50,95,115]]
def lL:List qn:=((((((((nX++qq)++gK 69 [105,51,50] gF)++gK 80 [105,54,52] gF)++gK 103 [105,51,50] oG)++gK 121 [105,54,52] oG)++I8)++gK 192 [105,51,50] Fa)++gK 194 [105,54,52] Fb)++E7
theorem G8 (xs:List qn):(xs.flatMap qj).length=xs.length*3:=by
 induction xs with
 |nil=>rfl
 |cons a r ih=>rw[Qd,Pt,ih,List.length_cons];simp[qj];omega
theorem mf {xs:List qn}:∀u∈xs.flatMap qj,u.oneCell'=true:=by
 intro u hu
 obtain⟨r,_,hr⟩:=List.mem_flatMap.1 hu
 simp only[qj,Pz,PY,or_false]at hr
 rcases hr with rfl|rfl|rfl<;>rfl
abbrev T5:Nat:=234
def EF (w:World) (xs:List qn) (e:Ending) (w':World):Prop:=(∃v,e=.returned v∧w'.ownsRow w.heap.size T5 3 v xs.length (xs.flatMap qj))∧Ext w w'
theorem wc (w:World):Calls G.P 188 #[] w (EF w nX):=by
 refine enter (G:=G) func188 rfl ntmps188 rfl ?_
 refine cA ?_
 refine aq.e (bU.buildSlice (cs:=nX.flatMap qj) (e:=T5) rfl O5) rfl ?_
 rintro _ w1 ⟨rfl,hn⟩
 refine cA ?_
 exact LX
theorem yz (w:World):Calls G.P 189 #[] w (EF w qq):=by
 refine enter (G:=G) func189 rfl ntmps189 rfl ?_
 refine cA ?_
 refine aq.e (bU.buildSlice (cs:=qq.flatMap qj) (e:=T5) rfl O5) rfl ?_
 rintro _ w1 ⟨rfl,hn⟩
 refine cA ?_
 exact LX
theorem DW (w:World):Calls G.P 193 #[] w (EF w E7):=by
 refine enter (G:=G) func193 rfl ntmps193 rfl ?_
 refine cA ?_
 refine aq.e (bU.buildSlice (cs:=E7.flatMap qj) (e:=T5) rfl O5) rfl ?_
 rintro _ w1 ⟨rfl,hn⟩
 refine cA ?_
 exact LX
theorem og (w:World):Calls G.P 191 #[] w fun e w'=>(∃v,e=.returned v∧w'.ownsRow w.heap.size 9 1 v gF.length (gF.map fun l=>Pk ⟨l.toArray⟩))∧Ext w w':=by
 refine enter (G:=G) func191 rfl ntmps191 rfl ?_
 refine cA ?_
 refine aq.e (bU.buildSlice (cs:=gF.map fun l=>Pk ⟨l.toArray⟩) (e:=9) rfl O5) rfl ?_
 rintro _ w1 ⟨rfl,hn⟩
 refine cA ?_
 exact LX
theorem uz (w:World):Calls G.P 192 #[] w fun e w'=>(∃v,e=.returned v∧w'.ownsRow w.heap.size 9 1 v oG.length (oG.map fun l=>Pk ⟨l.toArray⟩))∧Ext w w':=by
 refine enter (G:=G) func192 rfl ntmps192 rfl ?_
 refine cA ?_
 refine aq.e (bU.buildSlice (cs:=oG.map fun l=>Pk ⟨l.toArray⟩) (e:=9) rfl O5) rfl ?_
 rintro _ w1 ⟨rfl,hn⟩
 refine cA ?_
 exact LX
variable {g:Int→Option Value} {α:Type} {s p:List UInt8} (m:af) {i:Nat} (f:Int) (t:List UInt8) (op:Int) {F:Nat→Prop} {w:World} {b o:Nat} {B:Nat} {tc:List Value} {v:Value} (l:List (List UInt8)) {ops:Array Oper} {Q:Exit→Act→World→Prop} {n:Nat} {rest:List Oper} {E:Env} {M:List bu} {R:List (World→Prop)} {d:Nat} {ty:TypeId} {pos:String} {aft:Array Edge}
theorem xu:(gK f t l).length=l.length:=by simp[gK]
theorem Bu {f:Int} {t:List UInt8} {l:List (List UInt8)} {k:Nat} (h:k<l.length):(gK f t l).take (k+1)=(gK f t l).take k++[(f+k,t++[46]++ix l k,0)]:=by
 have hl:k<(gK f t l).length:=by rw[xu];exact h
 rw[List.take_succ_eq_append_getElem hl]
 congr 2
 simp only[gK,List.getElem_map,List.getElem_zipIdx,cz h]
 simp
theorem IK (a b:List UInt8):(⟨a.toArray⟩:ByteArray)++⟨b.toArray⟩=⟨(a++b).toArray⟩:=by
 apply ByteArray.ext
 simp
def EG (w:World) (v:Value) (l:List (List UInt8)):Prop:=∃p c,v=.slice p l.length c∧∀i,i<l.length→∃b o,p=some ⟨b,o,none⟩∧w.cell? ⟨b,o+i,none⟩=some (.string ⟨(ix l i).toArray⟩)
theorem mW {l:List (List UInt8)} (h:w.ownsRow B 9 1 v l.length (l.map fun l=>Pk ⟨l.toArray⟩)):EG w v l:=by
 obtain⟨p,c,rfl,_,_,hg⟩:=aw h
 refine⟨p,c,rfl,fun i hi=>?_⟩
 obtain⟨g,rfl,_,_⟩:=hg Pc
 exact⟨g,0,rfl,by rw[Pm];exact dO h OQ⟩
theorem ie (v:Value) (w:World) (hv:EG w v l) (hf:0≤f∧f≤100000) (ht:t.length≤100) (hl:l.length≤100) (hs:∀i,i<l.length→(ix l i).length≤100):
  Calls G.P 190 #[.int .i64 f,.string ⟨t.toArray⟩,v] w (EF w (gK f t l)):=by
 obtain⟨p,c,rfl,hc⟩:=hv
 refine ae (l:=[.int .i64 f,.string ⟨t.toArray⟩,.slice p l.length c]) func190 rfl ntmps190 rfl (Ok.start w) ?_
 refine bh.iN w.heap.size T5 3 ?_
 refine cq ?_
 refine bh.loop (σ:=Nat×Value) (fun s=>[(0,.int .i64 f),(1,.string ⟨t.toArray⟩),(2,.slice p l.length c),(7,s.2),(8,.int .i64 s.1)]) (fun s=>[.own w.heap.size T5 3 s.2 s.1 (((gK f t l).take s.1).flatMap qj)]) (fun _=>[Ext w]) (fun s=>s.1≤l.length) (fun s=>l.length - s.1) (0,.slice none 0 0) bH bw aU O0 ?_
 rintro⟨i,v⟩ hi
 dsimp only at hi ⊢
 by_cases hlt:i<l.length
 ·obtain⟨b,o,rfl,c1⟩:=hc i hlt
  have hsi:=hs i hlt
  have z1:(⟨t.toArray⟩:ByteArray).size=t.length:=rfl
  have z2:(⟨#[46]⟩:ByteArray).size=1:=rfl
  have z3:(⟨(ix l i).toArray⟩:ByteArray).size=(ix l i).length:=rfl
  have z4:((⟨t.toArray⟩:ByteArray)++⟨#[46]⟩).size=t.length+1:=by rw[ByteArray.size_append,z1,z2]
  refine cq ?_
  refine MJ ?_
  intro b2 _
  refine aa.he (HE.app rfl rfl (fun _=>aH) aH rfl rfl rfl Pe Pe Pe Pe Pe Pe Pc nP) rfl ?_
  intro v2 _
  refine cq ?_
  refine ah.next (i+1,v2) bH (.cons _ (nw rfl rfl ?_ (PH _))) aU O0 O0
  rw[Bu hlt,PR,show(⟨t.toArray⟩:ByteArray)++⟨#[46]⟩=⟨(t++[46]).toArray⟩from IK t [46],IK]
  rfl
 ·obtain rfl:i=l.length:=by omega
  refine cq ?_
  refine ah.aF rfl rfl fun w' hw'=>?_
  have h1:w'.ownsRow w.heap.size T5 3 v l.length (((gK f t l).take l.length).flatMap qj):=(hw'.m _ (List.mem_singleton.2 rfl)).1
  refine⟨⟨v,rfl,?_⟩,hw'.get ak⟩
  rw[←xu f t l,Pu]at h1;exact h1
theorem AO {xs:List Value} (h:w.ownsRow B 9 1 v n xs) (hn:n=l.length) (hx:xs=l.map fun l=>Pk ⟨l.toArray⟩):EG w v l:=by
 subst hn;subst hx;exact mW h
theorem BG (w:World):Calls G.P 175 #[] w (EF w lL):=by
 refine ae (l:=[]) func175 rfl ntmps175 rfl (Ok.start w) ?_
 refine cq ?_
 refine aa.he (HE.lQ (B:=w.heap.size) rfl rfl nP (fun w' _=>wc w')) rfl ?_
 intro v1 _
 refine aa.he (HE.lQ (B:=w.heap.size) rfl rfl nP (fun w' _=>yz w')) rfl ?_
 intro v2 _
 refine Nu ?_
 intro v3 _
 refine cq ?_
 refine aa.he (HE.lQ (B:=w.heap.size) rfl rfl nP (fun w' _=>og w')) rfl ?_
 intro s1 _
 refine aa.he (HE.lQ (B:=w.heap.size) rfl rfl nP (fun w' hw'=>ie 69 [105,51,50] gF s1 w' (mW hw'.own) Pc Pb Pb Pb)) rfl ?_
 intro v4 _
 refine Nu ?_
 intro v5 _
 refine cq ?_
 refine aa.he (HE.lQ (B:=w.heap.size) rfl rfl nP (fun w' _=>og w')) rfl ?_
 intro s2 _
 refine aa.he (HE.lQ (B:=w.heap.size) rfl rfl nP (fun w' hw'=>ie 80 [105,54,52] gF s2 w' (mW hw'.own) Pc Pb Pb Pb)) rfl ?_
 intro v6 _
 refine Nu ?_
 intro v7 _
 refine cq ?_
 refine aa.he (HE.lQ (B:=w.heap.size) rfl rfl nP (fun w' _=>uz w')) rfl ?_
 intro s3 _
 refine aa.he (HE.lQ (B:=w.heap.size) rfl rfl nP (fun w' hw'=>ie 103 [105,51,50] oG s3 w' (mW hw'.own) Pc Pb Pb Pb)) rfl ?_
 intro v8 _
 refine Nu ?_
 intro v9 _
 refine cq ?_
 refine aa.he (HE.lQ (B:=w.heap.size) rfl rfl nP (fun w' _=>uz w')) rfl ?_
 intro s4 _
 refine aa.he (HE.lQ (B:=w.heap.size) rfl rfl nP (fun w' hw'=>ie 121 [105,54,52] oG s4 w' (mW hw'.own) Pc Pb Pb Pb)) rfl ?_
 intro v10 _
 refine Nu ?_
 intro v11 _
 refine cq ?_
 refine MJ ?_
 intro b1 _
 refine aa.jP (b:=b1) (len:=3) 3 aH rfl (by unfold maxLen;decide) ?_
 refine aa.he (HE.m8 rfl rfl (fun _=>aH) aH rfl rfl rfl Pe Pe Pe Pe Pb Pb nP) rfl ?_
 intro v12 _
 refine cq ?_
 refine MJ ?_
 intro b2 _
 refine aa.jP (b:=b2) (len:=2) 1 aH rfl (by unfold maxLen;decide) ?_
 refine aa.he (HE.lQ (B:=w.heap.size) rfl rfl nP (fun w' hw'=>ie 192 [105,51,50] Fa _ w' (AO Fa hw'.own Pe Pe) Pc Pb Pb Pb)) rfl ?_
 intro v13 _
 refine Nu ?_
 intro v14 _
 refine cq ?_
 refine MJ ?_
 intro b3 _
 refine aa.jP (b:=b3) (len:=3) 1 aH rfl (by unfold maxLen;decide) ?_
 refine aa.he (HE.lQ (B:=w.heap.size) rfl rfl nP (fun w' hw'=>ie 194 [105,54,52] Fb _ w' (AO Fb hw'.own Pe Pe) Pc Pb Pb Pb)) rfl ?_
 intro v15 _
 refine Nu ?_
 intro v16 _
 refine cq ?_
 refine aa.he (HE.lQ (B:=w.heap.size) rfl rfl nP (fun w' _=>DW w')) rfl ?_
 intro v17 _
 refine Nu ?_
 intro v18 _
 refine cq ?_
 refine ah.aF rfl rfl fun w' hw'=>⟨⟨v18,rfl,?_⟩,hw'.at⟩
 have h1:=(hw'.m (.own w.heap.size T5 3 v18 ((((((((((nX.length+qq.length)+(gK 69 [105,51,50] gF).length)+(gK 80 [105,54,52] gF).length)+(gK 103 [105,51,50] oG).length)+(gK 121 [105,54,52] oG).length)+3)+(gK 192 [105,51,50] Fa).length)+(gK 194 [105,54,52] Fb).length)+E7.length)) _) bO).1
 have e:lL.flatMap qj=(((((((((nX.flatMap qj++qq.flatMap qj)++(gK 69 [105,51,50] gF).flatMap qj)++(gK 80 [105,54,52] gF).flatMap qj)++(gK 103 [105,51,50] oG).flatMap qj)++(gK 121 [105,54,52] oG).flatMap qj)++I8.flatMap qj)++(gK 192 [105,51,50] Fa).flatMap qj)++(gK 194 [105,54,52] Fb).flatMap qj)++E7.flatMap qj):=by
  unfold lL;simp only[PR]
 rw[e]
 exact h1
def fy (op:Int):Option qn:=lL.find? fun r=>decide (r.1=op)
def eE (op:Int):qn:=(fy op).getD (0,[],0)
theorem CQ:∀(xs:List qn) (i j:Nat),i<xs.length→j<3→(xs.flatMap qj)[i*3+j]?=(qj (ix xs i))[j]?
 |[],i,_,h,_=>by simp at h
 |a::r,0,j,_,hj=>by
  rw[Qd,PW (by simp[qj];omega)]
  simp[ix]
 |a::r,i+1,j,h,hj=>by
  rw[Qd,P2 (by simp[qj];omega)]
  have e:(i+1)*3+j - (qj a).length=i*3+j:=by simp[qj];omega
  rw[e,CQ r i j O4 hj]
  simp[ix]
def Ju (g:Nat):World→Prop:=fun w=>∀i,i<lL.length→∀j,j<3→w.cell? ⟨g,0+i*3+j,none⟩=(qj (ix lL i))[j]?
theorem Hf {B g cap:Nat} (h:w.ownsRow B T5 3 (.slice (some ⟨g,0,none⟩) lL.length cap) lL.length (lL.flatMap qj)):Ju g w:=fun i hi j hj=>by
 rw[←CQ lL i j hi hj]
 have hs:∃u,(lL.flatMap qj)[i*3+j]?=some u:=⟨_,Pq (by rw[G8];omega)⟩
 obtain⟨u,hu⟩:=hs
 rw[hu,Pm]
 exact dO h hu
theorem CM:lL.length=125:=by decide+kernel
theorem Fe {op:Int} {i:Nat} (hi:i<lL.length) (h:∀j,j<i→(ix lL j).1≠op) (e:(ix lL i).1=op):fy op=some (ix lL i):=by
 unfold fy
 rw[List.find?_eq_some_iff_getElem]
 refine⟨by simpa using e,i,hi,(cz hi).symm,fun j hj=>?_⟩
 have:=h j hj
 rw[cz Pc]at this
 simpa using this
theorem Bc {op:Int} (h:∀j,j<lL.length→(ix lL j).1≠op):fy op=none:=by
 unfold fy
 rw[List.find?_eq_none]
 intro x hx
 obtain⟨j,hj,e⟩:=List.getElem_of_mem hx
 have:=h j hj
 rw[cz hj,e]at this
 simpa using this
def Ff (op:Int):Value:=.tuple #[.agg #[.int .i64 (eE op).1,.string ⟨(eE op).2.1.toArray⟩,.int .i64 (eE op).2.2],.bool (fy op).isSome]
theorem pV (w:World):Calls G.P 149 #[.int .i64 op] w fun e w'=>e=.returned (Ff op)∧Ext w w':=by
 refine ae (l:=[.int .i64 op]) func149 rfl ntmps149 rfl (Ok.start w) ?_
 refine cq ?_
 refine aa.alloc [.int .i64 0,.string ⟨#[]⟩,.int .i64 0] rfl rfl rfl fun b=>?_
 refine cq ?_
 refine aa.he (HE.lQ (B:=w.heap.size) rfl rfl nP (fun w' _=>BG w')) rfl ?_
 intro v1 _
 refine aa.pure (φ:=∃g cap,v1=.slice (some ⟨g,0,none⟩) lL.length cap) (fun w' hw'=>?_) ?_
 ·obtain⟨p,c,rfl,_,_,hg⟩:=aw (hw'.own (v:=v1))
  obtain⟨g,rfl,_⟩:=hg (by rw[CM];omega)
  exact⟨g,c,rfl⟩
 rintro⟨g,cap,rfl⟩
 refine aa.freeze (Ju g) jK (fun w' hq _=>Hf hq) ?_
 have hlen:=CM
 generalize hn:lL.length=n at*
 refine cq ?_
 refine bh.loop (σ:=Nat) (fun i=>[(0,.int .i64 op),(2,.pointer (some ⟨b,0,none⟩)),(4,.slice (some ⟨g,0,none⟩) n cap),(5,.int .i64 i)]) (fun _=>[.aV b [.int .i64 0,.string ⟨#[]⟩,.int .i64 0] T5]) (fun _=>[Ju g,Ext w]) (fun i=>i≤n∧∀j,j<i→(ix lL j).1≠op) (fun i=>n - i) 0 bH bw aU ⟨by omega,fun j hj=>by omega⟩ ?_
 rintro i ⟨hi,hall⟩
 by_cases hlt:i<n
 ·have hlt':i<lL.length:=by omega
  refine bh.lj (Cs g (0+i*3) [.int .i64 (ix lL i).1,.string ⟨(ix lL i).2.1.toArray⟩,.int .i64 (ix lL i).2.2]) (fun w' hw' j hj=>(A0 hw':Ju g w') i hlt' j hj) ?_
  by_cases he:(ix lL i).1=op
  ·have hf:=Fe hlt' hall he
   refine cq ?_
   refine ah.aM (cs:=[.int .i64 (ix lL i).1,.string ⟨(ix lL i).2.1.toArray⟩,.int .i64 (ix lL i).2.2]) (.inl rfl) rfl rfl rfl rfl rfl aH rfl rfl fun w' hw'=>⟨?_,hw'.at⟩
   unfold Ff eE;rw[hf];rfl
  ·refine cq ?_
   refine ah.next (i+1) bH bw aU ⟨by omega,fun j hj=>?_⟩ Pc
   by_cases e:j=i
   ·subst e;exact he
   ·exact hall j Pc
 ·obtain rfl:i=n:=by omega
  have hf:=Bc (op:=op) (by rw[hn];exact hall)
  refine cq ?_
  refine ah.aM (.inl rfl) rfl rfl rfl rfl rfl aH rfl rfl fun w' hw'=>⟨?_,hw'.at⟩
  unfold Ff eE;rw[hf];rfl
theorem Aa (w:World):Calls G.P 106 #[.int .i64 op] w fun e w'=>e=.returned (.bool (fy op).isSome)∧Ext w w':=by
 refine ae (l:=[.int .i64 op]) func106 rfl ntmps106 rfl (Ok.start w) ?_
 refine cq ?_
 refine aa.au rfl rfl rfl (fun w' _=>pV op w') ?_
 refine cq ?_
 refine aa.alloc [.int .i64 0,.string ⟨#[]⟩,.int .i64 0] rfl rfl rfl fun b=>?_
 refine cq ?_
 exact ci
theorem ue (w:World):Calls G.P 201 #[.int .i64 op] w fun e w'=>e=.returned (.string ⟨(eE op).2.1.toArray⟩)∧Ext w w':=by
 refine ae (l:=[.int .i64 op]) func201 rfl ntmps201 rfl (Ok.start w) ?_
 refine cq ?_
 refine aa.au rfl rfl rfl (fun w' _=>pV op w') ?_
 refine cq ?_
 refine aa.alloc [.int .i64 0,.string ⟨#[]⟩,.int .i64 0] rfl rfl rfl fun b=>?_
 refine cq ?_
 exact ci
theorem dq (w:World):Calls G.P 105 #[.int .i64 op] w fun e w'=>e=.returned (.int .i64 (eE op).2.2)∧Ext w w':=by
 refine ae (l:=[.int .i64 op]) func105 rfl ntmps105 rfl (Ok.start w) ?_
 refine cq ?_
 refine aa.au rfl rfl rfl (fun w' _=>pV op w') ?_
 refine cq ?_
 refine aa.alloc [.int .i64 0,.string ⟨#[]⟩,.int .i64 0] rfl rfl rfl fun b=>?_
 refine cq ?_
 exact ci
def It (s p:List UInt8) (i:Nat):Bool:=(s.drop i).take p.length==p
def eT (s p:List UInt8):Bool:=(List.range (s.length+1)).any fun i=>decide (i+p.length≤s.length) && It s p i
theorem Es (h:i+p.length≤s.length) (e:It s p i=true):eT s p=true:=by
 unfold eT;rw[List.any_eq_true];exact⟨i,by simp;omega,by simp[h,e]⟩
theorem Er (h:s.length<i+p.length) (hall:∀j,j<i→It s p j=false):eT s p=false:=by
 unfold eT;rw[List.any_eq_false]
 intro j _
 by_cases hj:j<i
 ·simp[hall j hj]
 ·simp;omega
theorem gi (s p:List UInt8) (w:World) (hs:s.length≤1000) (hp:p.length≤1000):Calls G.P 203 #[.string ⟨s.toArray⟩,.string ⟨p.toArray⟩] w fun e w'=>e=.returned (.bool (eT s p))∧Ext w w':=by
 refine ae (l:=[.string ⟨s.toArray⟩,.string ⟨p.toArray⟩]) func203 rfl ntmps203 rfl (Ok.start w) ?_
 have z1:(⟨s.toArray⟩:ByteArray).size=s.length:=rfl
 have z2:(⟨p.toArray⟩:ByteArray).size=p.length:=rfl
 refine cq ?_
 refine bh.loop (σ:=Nat) (fun i=>[(0,.string ⟨s.toArray⟩),(1,.string ⟨p.toArray⟩),(5,.int .i64 i)]) (fun _=>[]) (fun _=>[Ext w]) (fun i=>i≤s.length+1∧∀j,j<i→It s p j=false) (fun i=>s.length+1 - i) 0 bH bw aU ⟨by omega,fun j hj=>by omega⟩ ?_
 rintro i ⟨hi,hall⟩
 by_cases hlt:i+p.length≤s.length
 ·refine cq ?_
  have e:((ByteArray.mk s.toArray).extract i (i+(⟨p.toArray⟩:ByteArray).size)).data.toList=(s.drop i).take p.length:=by
   show gZ _=_
   rw[kb,List.drop_take,z2]
   have:i+p.length - i=p.length:=by omega
   rw[this]
  refine bh.Cu (b:=It s p i) (by unfold It;rw[←e];rfl) (fun h=>?_) (fun h=>?_)
  ·refine cq ?_
   exact ah.aF rfl rfl fun w' hw'=>⟨by rw[Es hlt h],hw'.at⟩
  ·refine cq ?_
   refine ah.next (i+1) bH bw aU ⟨by omega,fun j hj=>?_⟩ Pc
   by_cases e:j=i
   ·subst e;exact h
   ·exact hall j Pc
 ·refine cq ?_
  exact ah.aF rfl rfl fun w' hw'=>⟨by rw[Er Pc hall],hw'.at⟩
def tD (s:List UInt8) (d e:List UInt8):Bool:=eT s d || eT s e
def iX (op:Int):Int:=
 if(eE op).2.2≠17 then 0 else
 let s:=(eE op).2.1
 if tD s [100,56] [101,56]=true then 1 else if tD s [100,49,54] [101,49,54]=true then 2 else if tD s [100,51,50] [101,51,50]=true then 4 else if((s.drop 1).take 2==[51,50])=true then 4 else 8
theorem DV:(lL.all fun r=>decide (r.2.1.length≤100) && (decide (r.2.2≠17) || decide (3≤r.2.1.length)))=true:=by decide+kernel
theorem BR:(eE op).2.1.length≤100∧((eE op).2.2=17→3≤(eE op).2.1.length):=by
 unfold eE
 cases h:fy op with
 |none=>simp
 |some r=>
  have:=Pv.1 DV r (PX h)
  simp only[Bool.and_eq_true,Bool.or_eq_true,decide_eq_true_eq]at this
  exact⟨this.1,fun e=>this.2.resolve_left (fun h=>h e)⟩
theorem Ab (w:World):Calls G.P 199 #[.int .i64 op] w fun e w'=>e=.returned (.int .i64 (iX op))∧Ext w w':=by
 obtain⟨q1,q2⟩:=BR op
 have hw5:iX op=iX op:=rfl
 conv at hw5=>rhs;unfold iX
 refine ae (l:=[.int .i64 op]) func199 rfl ntmps199 rfl (Ok.start w) ?_
 refine cq ?_
 refine aa.au rfl rfl rfl (fun w' _=>ue op w') ?_
 refine cq ?_
 refine aa.au rfl rfl rfl (fun w' _=>dq op w') ?_
 by_cases h17:(eE op).2.2=17
 ·rw[if_neg (by simp[h17])]at hw5
  have q3:=q2 h17
  dsimp only at hw5
  generalize (eE op).2.1=s at*
  have z1:(⟨s.toArray⟩:ByteArray).size=s.length:=rfl
  refine cq ?_
  refine aa.au (v:=.bool (eT s [100,56])) rfl rfl rfl (fun w' _=>gi s [100,56] w' Pc Pb) ?_
  cases a0:eT s [100,56]with
  |true=>
   refine cq ?_
   refine ah.aF rfl rfl fun w' hw'=>⟨?_,hw'.at⟩
   rw[hw5];simp[tD,a0]
  |false=>
   refine cq ?_
   refine aa.cH (v:=.bool (eT s [101,56])) rfl rfl rfl rfl (fun w' _=>gi s [101,56] w' Pc Pb) ?_
   cases b0:eT s [101,56]with
   |true=>
    refine cq ?_
    refine ah.aF rfl rfl fun w' hw'=>⟨?_,hw'.at⟩
    rw[hw5];simp[tD,a0,b0]
   |false=>
    refine cq ?_
    refine aa.au (v:=.bool (eT s [100,49,54])) rfl rfl rfl (fun w' _=>gi s [100,49,54] w' Pc Pb) ?_
    cases a1:eT s [100,49,54]with
    |true=>
     refine cq ?_
     refine ah.aF rfl rfl fun w' hw'=>⟨?_,hw'.at⟩
     rw[hw5];simp[tD,a0,b0,a1]
    |false=>
     refine cq ?_
     refine aa.cH (v:=.bool (eT s [101,49,54])) rfl rfl rfl rfl (fun w' _=>gi s [101,49,54] w' Pc Pb) ?_
     cases b1:eT s [101,49,54]with
     |true=>
      refine cq ?_
      refine ah.aF rfl rfl fun w' hw'=>⟨?_,hw'.at⟩
      rw[hw5];simp[tD,a0,b0,a1,b1]
     |false=>
      refine cq ?_
      refine aa.au (v:=.bool (eT s [100,51,50])) rfl rfl rfl (fun w' _=>gi s [100,51,50] w' Pc Pb) ?_
      cases a2:eT s [100,51,50]with
      |true=>
       refine cq ?_
       refine ah.aF rfl rfl fun w' hw'=>⟨?_,hw'.at⟩
       rw[hw5];simp[tD,a0,b0,a1,b1,a2]
      |false=>
       refine cq ?_
       refine aa.cH (v:=.bool (eT s [101,51,50])) rfl rfl rfl rfl (fun w' _=>gi s [101,51,50] w' Pc Pb) ?_
       cases b2:eT s [101,51,50]with
       |true=>
        refine cq ?_
        refine ah.aF rfl rfl fun w' hw'=>⟨?_,hw'.at⟩
        rw[hw5];simp[tD,a0,b0,a1,b1,a2,b2]
       |false=>
        refine cq ?_
        refine aa.y_ (Yl.eV (i:=1) (j:=3) underlying9 rfl rfl rfl rfl rfl Pc Pc) rfl ?_
        have e:((ByteArray.mk s.toArray).extract 1 3).data.toList=(s.drop 1).take 2:=by
         show gZ _=_
         rw[kb,List.drop_take]
        refine cq ?_
        refine bh.Cu (b:=((s.drop 1).take 2==[51,50])) (by rw[←e];rfl) (fun h=>?_) (fun h=>?_)
        ·refine cq ?_
         refine ah.aF rfl rfl fun w' hw'=>⟨?_,hw'.at⟩
         rw[hw5];simp only[tD,a0,b0,a1,b1,a2,b2,h,Bool.or_false,Bool.false_eq_true,if_false,if_true]
        ·refine cq ?_
         refine ah.aF rfl rfl fun w' hw'=>⟨?_,hw'.at⟩
         rw[hw5];simp only[tD,a0,b0,a1,b1,a2,b2,h,Bool.or_false,Bool.false_eq_true,if_false]
 ·rw[if_pos h17]at hw5
  refine cq ?_
  exact ah.aF rfl rfl fun w' hw'=>⟨by rw[hw5],hw'.at⟩
theorem tables:yY=lL.map fun r=>(r.1,⟨r.2.1.toArray⟩):=by decide+kernel
theorem xg (op:Int):∀l:List qn,lT op (l.map fun r=>(r.1,⟨r.2.1.toArray⟩))=(l.find? fun r=>decide (r.1=op)).map fun r=>⟨r.2.1.toArray⟩
 |[]=>rfl
 |a::r=>by
  rw[List.map_cons,lT,List.find?_cons]
  by_cases h:a.1=op
  ·simp[h]
  ·simp[h,xg op r]
theorem GI:lT op yY=(fy op).map fun r=>⟨r.2.1.toArray⟩:=by rw[tables,xg];rfl
theorem CG:gZ (hZ op)=(eE op).2.1:=by
 unfold hZ eE;rw[GI]
 cases fy op<;>rfl
theorem Dv:(lL.all fun r=>!(r.2.1==[]))=true:=by decide+kernel
theorem zN:Bh op=(fy op).isSome:=by
 unfold Bh;rw[CG];unfold eE
 cases h:fy op with
 |none=>rfl
 |some r=>
  have:=Pv.1 Dv r (PX h)
  simpa using this
theorem Ep:(lL.all fun r=>iX r.1==iJ r.1)=true:=by decide+kernel
theorem vA:iJ op=iX op:=by
 cases h:fy op with
 |none=>
  have h1:=zN op
  rw[h]at h1
  have h2:kC op=false:=by unfold kC;rw[h1];simp
  unfold iJ iX eE
  rw[h2,h];rfl
 |some r=>
  have:=Pv.1 Ep r (PX h)
  have e:r.1=op:=by have:=List.find?_some h;simpa using this
  rw[e]at this
  exact(beq_iff_eq.1 this).symm
theorem gN.el [Inhabited α] {s N:Nat} {R:sV α} {F:Nat→Prop} {w:World} {p:Option Addr} {n cap:Nat} {xs:List α} (h:gN s N R F w (.slice p n cap) xs) {i:Nat} (hi:i<xs.length):∃b off,p=some ⟨b,off,none⟩∧F b∧R F w b (off+i*s) (ix xs i):=by
 obtain⟨b,off,e,hF,hall⟩:=h.at hi
 exact⟨b,off,e,hF,hall i hi⟩
def vM (l:List bY) (k:Int) (n:Nat):Nat:=((l.take n).filter fun x=>decide (x.kind=k)).length
def kS (m:af) (k:Int):Nat:=vM m.imports k m.imports.length
theorem xk {l:List bY} {k:Int} {n:Nat} (h:n<l.length):vM l k (n+1)=vM l k n+if(ix l n).kind=k then 1 else 0:=by
 unfold vM
 rw[bM h,List.filter_append,Pt]
 by_cases e:(ix l n).kind=k<;>simp[e]
theorem xZ (l:List bY) (k:Int) (n:Nat):vM l k n≤n:=by
 unfold vM
 exact Py (List.length_filter_le _ _) OT
abbrev jF:Nat:=33
theorem om (F:Nat→Prop) (m:af) (k:Int) (cs:List Value) (w:World) (hm:av F w cs m):
  Calls G.P 208 #[.agg cs.toArray,.int .i64 k] w fun e w'=>e=.returned (.int .i64 (kS m k))∧Ext w w':=by
 obtain⟨v0,v1,v2,v3,v4,v5,v6,v7,v8,v9,rfl,r0,r1,r2,r3,r4,r5,r6,r7,r8,r9,g0⟩:=hm
 obtain⟨p1,c1,rfl,l1⟩:=r1.slice
 refine ae (l:=[.agg ([v0,.slice p1 m.imports.length c1,v2,v3,v4,v5,v6,.bool m.aI,.int .i64 m.start,v7,v8,v9]).toArray,.int .i64 k]) func208 rfl ntmps208 rfl (Ok.start w) ?_
 refine cq ?_
 refine aa.box [v0,.slice p1 m.imports.length c1,v2,v3,v4,v5,v6,.bool m.aI,.int .i64 m.start,v7,v8,v9] rfl rfl rfl fun b=>?_
 refine cq ?_
 refine bh.loop (σ:=Nat) (fun i=>[(1,.int .i64 k),(2,.pointer (some ⟨b,0,none⟩)),(5,.int .i64 (vM m.imports k i)),(6,.int .i64 i)]) (fun _=>[.aV b [v0,.slice p1 m.imports.length c1,v2,v3,v4,v5,v6,.bool m.aI,.int .i64 m.start,v7,v8,v9] jF]) (fun _=>[Ext w]) (fun i=>i≤m.imports.length) (fun i=>m.imports.length - i) 0 bH bw aU Pc ?_
 intro i hi
 by_cases hlt:i<m.imports.length
 ·obtain⟨b1,o1,rfl,hF,he⟩:=r1.el hlt
  have c:=he.kind
  have hs:=xk (k:=k) hlt
  have hle:=xZ m.imports k i
  by_cases hk:(ix m.imports i).kind=k
  ·rw[if_pos hk]at hs
   refine cq ?_
   exact ah.next (i+1) bH bw aU Pc Pc
  ·rw[if_neg hk]at hs
   refine cq ?_
   exact ah.next (i+1) bH bw aU Pc Pc
 ·obtain rfl:i=m.imports.length:=by omega
  refine cq ?_
  exact ci
theorem iF [Inhabited α] {a b:List α} {i:Nat} (h:i<a.length):ix (a++b) i=ix a i:=by simp[ix,List.getElem?_append_left h]
theorem gJ [Inhabited α] {a b:List α} {i:Nat} (h:a.length≤i):ix (a++b) i=ix b (i - a.length):=by simp[ix,List.getElem?_append_right h]
def wQ (P:Prop) (w:World) (e:Ending) (w':World):Prop:=(∃b:Bool,e=.returned (.bool b)∧(b=true→P))∧Ext w w'
theorem Body.true {x:List cv} (h:fE F w v x):Body w v x:=h.mono (fun _ _ _=>trivial)
section
variable {n:Nat} {E:Env} {M:List bu} {R:List (World→Prop)}
theorem HE.IM {f:Nat} {args:List Operand} {tys:Array TypeId} {vs:List Value} {P:Prop} (hf:G.fb[f]?=some true) (ha:kI E args=some vs) (hc:∀w,Ok M R w→Calls G.P f vs.toArray w (wQ P w)):
  HE n (.call ⟨.value (.func f),args.toArray,tys⟩) E M R (fun b:Bool=>b=true→P) (fun b=>.bool b) (fun _=>M) (fun _=>R):=
 HE.call (fun b:Bool=>.bool b) hf ha fun w hw=>(hc w hw).mono fun _e _w' ⟨⟨b,e1,h1⟩,hx⟩=>⟨b,e1,h1,hw.ext hx⟩
end
section
variable {n:Nat} {E:Env} {M M':List bu} {R:List (World→Prop)}
theorem Hd {b T:Nat} {cs cs':List Value} (h:cs'=cs) (hs:M'.Sublist M):(bu.aV b cs' T::M').Sublist (bu.aV b cs T::M):=by subst h;exact hs.cons_cons _
end
def zC:Hm:=⟨0,0,0,0,0,0,0,0⟩
def JJ (a b:Hm):Hm:=⟨a.funcs+b.funcs,a.instrs+b.instrs,a.blocks+b.blocks,a.loops+b.loops,a.calls+b.calls,a.Fs+b.Fs,a.B7+b.B7,a.consts+b.consts⟩
def IS {α:Type} (f:α→Hm):List α→Hm
 |[]=>zC
 |a::r=>JJ (f a) (IS f r)
def J8 (op:Int):Hm:=⟨0,1,0,IJ (op==3),IJ (op==16 || op==17),IJ (decide (0<iX op) && decide (op<54)),IJ (decide (0<iX op) && !decide (op<54)),IJ (op==65 || op==66)⟩
noncomputable def Lc (xs:List cv):Nat:=open Classical in if(fM xs).2=0∧¬JN xs then(Gu xs).length else 0
abbrev Co:Nat:=58
theorem od (h:∀b:Nat,aa ops Q n rest ((d,.pointer (some ⟨b,0,none⟩))::E) (.aV b [Value.int .i64 0,Value.slice none 0 0,Value.slice none 0 0] Co::M) R) (hd:Nat.blt d n=true:=by rfl):aa ops Q n (⟨some d,.alloc Co,ty,pos,aft,none⟩::rest) E M R:=aa.alloc (t:=Co) [Value.int .i64 0,Value.slice none 0 0,Value.slice none 0 0] rfl rfl hd h
theorem nK.JK {x:cv} (h:nK F w b o x):∃tv lv,ai F w tv x.types∧ai F w lv x.labels∧∀j,j<9→w.cell? ⟨b,o+j,none⟩=([Pf .i64 x.op,.int .i64 x.a,.int .i64 x.b,.int .u64 x.n,.int .i64 x.kind,.int .i64 x.val,.int .i64 x.index,tv,lv]:List Value)[j]?:=by
 obtain⟨tv,h1,h2⟩:=h.types
 obtain⟨lv,h3,h4⟩:=h.labels
 refine⟨tv,lv,h2,h4,fun j hj=>?_⟩
 match j,hj with
 |0,_=>exact h.op
 |1,_=>exact h.a
 |2,_=>exact h.b
 |3,_=>exact h.n
 |4,_=>exact h.kind
 |5,_=>exact h.val
 |6,_=>exact h.index
 |7,_=>exact h1
 |8,_=>exact h3
def s5 (xs:List cv) (j:Nat):Hm:=IS (fun x:cv=>J8 x.op) (xs.take j)
noncomputable def c5 (xs:List cv) (j:Nat):Hm:=⟨1,xs.length,Lc xs,(s5 xs j).loops,(s5 xs j).calls,(s5 xs j).Fs,(s5 xs j).B7,(s5 xs j).consts⟩
structure pI where
 funcs:List Int
 tables:List fH
 bR:List ft
 globals:List iK
 elems:List Int
 bg:Int
 deriving Inhabited
@[simp] def mV (t:fH):List Value:=[.int .i64 t.elem,.int .i64 t.mZ.min,.int .i64 t.mZ.max,.bool t.mZ.has]
@[simp] def mH (t:ft):List Value:=[.int .i64 t.min,.int .i64 t.max,.bool t.has]
@[simp] def pS (t:iK):List Value:=[.int .i64 t.nQ,.bool t.sB]
abbrev zl:Nat:=81
abbrev qo:Nat:=76
abbrev qp:Nat:=87
theorem aA (h:∀b:Nat,aa ops Q n rest ((d,.pointer (some ⟨b,0,none⟩))::E) (.aV b [Value.int .i64 0,Value.int .i64 0,Value.int .i64 0,Value.bool false] qp::M) R) (hd:Nat.blt d n=true:=by rfl):aa ops Q n (⟨some d,.alloc qp,ty,pos,aft,none⟩::rest) E M R:=aa.alloc (t:=qp) [Value.int .i64 0,Value.int .i64 0,Value.int .i64 0,Value.bool false] rfl rfl hd h
abbrev rh:Nat:=85
theorem aR (h:∀b:Nat,aa ops Q n rest ((d,.pointer (some ⟨b,0,none⟩))::E) (.aV b [Value.int .i64 0,Value.int .i64 0,Value.bool false] rh::M) R) (hd:Nat.blt d n=true:=by rfl):aa ops Q n (⟨some d,.alloc rh,ty,pos,aft,none⟩::rest) E M R:=aa.alloc (t:=rh) [Value.int .i64 0,Value.int .i64 0,Value.bool false] rfl rfl hd h
abbrev rf:Nat:=89
theorem aQ (h:∀b:Nat,aa ops Q n rest ((d,.pointer (some ⟨b,0,none⟩))::E) (.aV b [Value.int .i64 0,Value.bool false] rf::M) R) (hd:Nat.blt d n=true:=by rfl):aa ops Q n (⟨some d,.alloc rf,ty,pos,aft,none⟩::rest) E M R:=aa.alloc (t:=rf) [Value.int .i64 0,Value.bool false] rfl rfl hd h
abbrev nU:Nat:=59
abbrev iD:Nat:=91
abbrev sw:Nat:=61
theorem ay (h:∀b:Nat,aa ops Q n rest ((d,.pointer (some ⟨b,0,none⟩))::E) (.aV b [Value.slice none 0 0,Value.slice none 0 0] sw::M) R) (hd:Nat.blt d n=true:=by rfl):aa ops Q n (⟨some d,.alloc sw,ty,pos,aft,none⟩::rest) E M R:=aa.alloc (t:=sw) [Value.slice none 0 0,Value.slice none 0 0] rfl rfl hd h
structure C2 where
 tv:Value
 fv:Value
 bv:Value
 mv:Value
 gv:Value
 ev:Value
def k9 (B bx sp im dm:Nat) (v:C2) (tn:Nat) (tc:List Value) (X:pI) (ig dg:Int→Option Value):List bu:=
 [.aV bx [.pointer (some ⟨sp,0,none⟩)] qo,.aV sp [v.tv,v.fv,v.bv,v.mv,v.gv,v.ev,.int .i64 X.bg,.map (some im),.map (some dm)] zl,.own B 3 1 v.fv X.funcs.length (X.funcs.map (Pf .i64)),.own B qp 4 v.bv X.tables.length (X.tables.flatMap mV),.own B rh 3 v.mv X.bR.length (X.bR.flatMap mH),.own B rf 2 v.gv X.globals.length (X.globals.flatMap pS),.own B nU 1 v.ev X.elems.length (X.elems.map (Pf .i64)),.iv im ig,.iv dm dg,.own B sw 2 v.tv tn tc]
def HH (g:Int→Option Value) (c:Int→Int):Prop:=∀k,(g k).getD (.int .i64 0)=.int .i64 (c k)
def mG (x:bY):List Value:=[.string x.module,.string x.name,.int .i64 x.kind,.int .i64 x.func,.int .i64 x.table.elem,.int .i64 x.table.mZ.min,.int .i64 x.table.mZ.max,.bool x.table.mZ.has,.int .i64 x.mem.min,.int .i64 x.mem.max,.bool x.mem.has,.int .i64 x.ff.nQ,.bool x.ff.sB]
def pI.iS (X:pI) (x:bY):pI:=
 if x.kind=0 then{X with funcs:=X.funcs++[x.func]}else if x.kind=1 then{X with tables:=X.tables++[x.table]}else if x.kind=2 then{X with bR:=X.bR++[x.mem]}else if x.kind=3 then{X with globals:=X.globals++[x.ff]}else X
def inc (c:Int→Int) (k:Int):Int→Int:=fun b=>if b=k then c k+1 else c b
theorem HH.put {c:Int→Int} (h:HH g c) (k:Int):HH (put g k (.int .i64 (c k+1))) (inc c k):=fun b=>by
 unfold Go.Proofs.YtdkcljdfbemnbaaGreatDoor.put inc
 by_cases e:b=k
 ·subst e;simp
 ·simp only[if_neg e];exact h b
def pI.ok (X:pI):Prop:=X.funcs.length≤1000000∧X.tables.length≤1000000∧X.bR.length≤1000000∧X.globals.length≤1000000∧X.elems.length≤1000000
def kH (B bx sp im dm:Nat) (v:C2) (tn:Nat) (tc:List Value) (X:pI) (ig dg:Int→Option Value) (x:bY) (c:Int→Int) (w:World):Ending→World→Prop:=
 aC (k9 B bx sp im dm v tn tc X ig dg) w (fun _:C2×(Int→Option Value)=>.tuple #[]) (fun y=>HH y.2 (inc c x.kind)∧y.1.tv=v.tv) (fun y=>k9 B bx sp im dm y.1 tn tc (X.iS x) y.2 dg)
theorem AK (B bx sp im dm:Nat) (v:C2) (tn:Nat) (tc:List Value) (X:pI) (ig dg:Int→Option Value) (x:bY) (c:Int→Int) (w:World) (hw:Ok (k9 B bx sp im dm v tn tc X ig dg) [] w) (hB:B≤w.heap.size) (hX:X.ok) (hc:HH ig c) (hk:eO x.kind) (hcx:-1000000≤c x.kind∧c x.kind≤1000000):
  Calls G.P 21 #[.agg (mG x).toArray,.pointer (some ⟨bx,0,none⟩)] w (kH B bx sp im dm v tn tc X ig dg x c w):=by
 obtain⟨tv,fv,bv,mv,gv,ev⟩:=v
 obtain⟨x1,x2,x3,x4,x5⟩:=hX
 refine ae (l:=[.agg (mG x).toArray,.pointer (some ⟨bx,0,none⟩)]) func21 rfl ntmps21 rfl (Ok.dk hw) ?_
 generalize hS:Mb (k9 B bx sp im dm ⟨tv,fv,bv,mv,gv,ev⟩ tn tc X ig dg)=S0
 unfold k9
 dsimp only
 refine cq ?_
 refine aa.box (mG x) rfl rfl rfl fun b=>?_
 unfold mG
 refine cq ?_
 refine bh.dP [0,1,2,3,4,5,6,7] 8 [.aV b _ iD,.aV bx [.pointer (some ⟨sp,0,none⟩)] qo,.aV sp [tv,fv,bv,mv,gv,ev,.int .i64 X.bg,.map (some im),.map (some dm)] zl,.iv im ig] [] O5 bw aU ?_
 refine mX ?_
 refine bF.y_ (Yl.GQ (zv:=.int .i64 0) underlying77 underlying83 (fun _=>rfl) rfl rfl hk OD) rfl ?_
 rw[hc x.kind]
 refine mX ?_
 refine bF.iM (gj.mapUpdate underlying77 underlying83 rfl rfl rfl hk aH) rfl ?_
 rintro⟨⟩ _
 have hcp:=hc.put x.kind
 generalize put ig x.kind (.int .i64 (c x.kind+1))=ig' at*
 generalize hkx:x.kind=kd at*
 rcases(show kd=0∨kd=1∨kd=2∨kd=3∨(kd≠0∧kd≠1∧kd≠2∧kd≠3)from by omega)with hc_|hc_|hc_|hc_|⟨hc0_,hc1_,hc2_,hc3_⟩
 ·have hb:X.iS x={X with funcs:=X.funcs++[x.func]}:=by unfold pI.iS;simp[hkx,hc_]
  refine cq ?_
  refine Nv ?_
  refine mX ?_
  refine Ni ?_
  intro b3 _
  refine Nw ?_
  intro v2 _
  refine mX ?_
  refine bF.pure (φ:=v2.oneCell'=true) (fun w' hw'=>jN (hw'.own (v:=v2))) fun hone=>?_
  refine Nx ?_
  rintro⟨⟩ _
  refine cq ?_
  refine ah.nY rfl fun w' hw'=>?_
  unfold kH
  refine aC.of (x:=((⟨tv,v2,bv,mv,gv,ev⟩:C2),ig')) (M:=k9 B bx sp im dm ⟨tv,v2,bv,mv,gv,ev⟩ tn tc {X with funcs:=X.funcs++[x.func]} ig' dg) ⟨by rw[hkx];exact hcp,rfl⟩ (hw'.sub (R':=[bX S0 w]) OZ aU) (by dsimp only;rw[hb]) O1
 ·have hb:X.iS x={X with tables:=X.tables++[x.table]}:=by unfold pI.iS;simp[hkx,hc_]
  refine cq ?_
  refine Nv ?_
  refine mX ?_
  refine Ni ?_
  intro b3 _
  refine Nw ?_
  intro v2 _
  refine mX ?_
  refine bF.pure (φ:=v2.oneCell'=true) (fun w' hw'=>jN (hw'.own (v:=v2))) fun hone=>?_
  refine Nx ?_
  rintro⟨⟩ _
  refine cq ?_
  refine ah.nY rfl fun w' hw'=>?_
  unfold kH
  refine aC.of (x:=((⟨tv,fv,v2,mv,gv,ev⟩:C2),ig')) (M:=k9 B bx sp im dm ⟨tv,fv,v2,mv,gv,ev⟩ tn tc {X with tables:=X.tables++[x.table]} ig' dg) ⟨by rw[hkx];exact hcp,rfl⟩ (hw'.sub (R':=[bX S0 w]) OZ aU) (by dsimp only;rw[hb]) O1
 ·have hb:X.iS x={X with bR:=X.bR++[x.mem]}:=by unfold pI.iS;simp[hkx,hc_]
  refine cq ?_
  refine Nv ?_
  refine mX ?_
  refine Ni ?_
  intro b3 _
  refine Nw ?_
  intro v2 _
  refine mX ?_
  refine bF.pure (φ:=v2.oneCell'=true) (fun w' hw'=>jN (hw'.own (v:=v2))) fun hone=>?_
  refine Nx ?_
  rintro⟨⟩ _
  refine cq ?_
  refine ah.nY rfl fun w' hw'=>?_
  unfold kH
  refine aC.of (x:=((⟨tv,fv,bv,v2,gv,ev⟩:C2),ig')) (M:=k9 B bx sp im dm ⟨tv,fv,bv,v2,gv,ev⟩ tn tc {X with bR:=X.bR++[x.mem]} ig' dg) ⟨by rw[hkx];exact hcp,rfl⟩ (hw'.sub (R':=[bX S0 w]) OZ aU) (by dsimp only;rw[hb]) O1
 ·have hb:X.iS x={X with globals:=X.globals++[x.ff]}:=by unfold pI.iS;simp[hkx,hc_]
  refine cq ?_
  refine Nv ?_
  refine mX ?_
  refine Ni ?_
  intro b3 _
  refine Nw ?_
  intro v2 _
  refine mX ?_
  refine bF.pure (φ:=v2.oneCell'=true) (fun w' hw'=>jN (hw'.own (v:=v2))) fun hone=>?_
  refine Nx ?_
  rintro⟨⟩ _
  refine cq ?_
  refine ah.nY rfl fun w' hw'=>?_
  unfold kH
  refine aC.of (x:=((⟨tv,fv,bv,mv,v2,ev⟩:C2),ig')) (M:=k9 B bx sp im dm ⟨tv,fv,bv,mv,v2,ev⟩ tn tc {X with globals:=X.globals++[x.ff]} ig' dg) ⟨by rw[hkx];exact hcp,rfl⟩ (hw'.sub (R':=[bX S0 w]) OZ aU) (by dsimp only;rw[hb]) O1
 ·have hb:X.iS x=X:=by unfold pI.iS;simp[hkx,hc0_,hc1_,hc2_,hc3_]
  refine cq ?_
  refine ah.nY rfl fun w' hw'=>?_
  unfold kH
  exact aC.of (x:=((⟨tv,fv,bv,mv,gv,ev⟩:C2),ig')) (M:=k9 B bx sp im dm ⟨tv,fv,bv,mv,gv,ev⟩ tn tc X ig' dg) ⟨by rw[hkx];exact hcp,rfl⟩ (hw'.sub (R':=[bX S0 w]) OZ aU) (by dsimp only;rw[hb]) O1
section
variable {ops:Array Oper} {Q:Exit→Act→World→Prop} {n:Nat} {E:Env} {M M':List bu} {R:List (World→Prop)} {rest l:List Oper} {op:Op} {d:Nat} {ty:TypeId} {pos:String} {aft:Array Edge} {v:Value} {x y z:Operand} {t:TypeId} {C:World→Prop}
theorem HE.gP {Mf:Value→List bu} {ti te:TI} {B T s m k c:Nat} {po:Option Addr} {xs:List Value} (ys:List Value) (hx:ev E x=some v) (hy:ev E y=some (.slice po k c)) (hM:∀v',Up (.own B T s v m xs) (.own B T s v' (m+k) (xs++ys)) M (Mf v'))
  (hrd:k=0∨∃bk o,po=some ⟨bk,o,none⟩∧∀w,Ok M R w→∀j u,ys[j]?=some u→w.cell? ⟨bk,o+j,none⟩=some u) (hys:ys.length=k*s)
  (ht:G.ty t=some ti) (he:ti.elem=some T) (hte:G.ty T=some te) (hs:te.size=s) (hzs:Nat.beq te.zero.cells.size te.size=true) (hsz:Pn 0 te.size=true) (h1:∀u∈ys,u.oneCell'=true) (hby:(m+k)*te.bytes≤140737488355328) (hml:m+k≤9223372036854775807) (hB:∀w,Ok M R w→B≤w.heap.size):
  HE n (.call ⟨.builtin .append,#[x,y],#[t,t]⟩) E M R (fun _:Value=>True) (fun v'=>v') Mf (fun _=>R):=
 ⟨fun w hw=>by
  subst hs
  have hm:=(hw.m _ (hM undef).mem)
  have ho:w.ownsRow B T te.size v m xs:=hm.1
  have hsz':0<te.size:=by simpa using hsz
  have key:∀v' w',w'.ownsRow B T te.size v' (m+k) (xs++ys)→bX (fun k=>v.ownBlock=some k) w w'→(v'.ownBlock=v.ownBlock∨v'.ownBlock=some w.heap.size)→∃x:Value,True∧v'=x∧Ok (Mf x) R w':=fun v' w' ho' hc hob=>
   ⟨v',trivial,rfl,hw.qd (hM v') hc ho' fun i hi=>⟨(ho'.lt i hi).2,fun hlt=>by
    rcases hob with e|e
    ·show v.ownBlock=some i
     rw[←e];exact hi
    ·have hk':v'.ownBlock=some i:=hi
     rw[e]at hk';cases hk';omega⟩⟩
  by_cases h0:k=0
  ·subst h0
   obtain⟨po,c,rfl,hc,_⟩:=aw ho
   have hy0:ys=[]:=List.eq_nil_of_length_eq_zero (by simpa using hys)
   subst hy0
   refine(bU.xO (G:=G) ht he hte hx hc hy).mono ?_
   rintro _ _ ⟨rfl,rfl⟩
   exact ip
  ·obtain⟨bk,o,rfl,hr⟩:=hrd.resolve_left h0
   refine(bU.oL (G:=G) (news:=ys) ht he hte (Nat.eq_of_beq_eq_true hzs) hsz' hx ho hy hys (fun j u hj=>hr w hw j u hj) h1 OY hby (hB w hw)).mono fun v' w' ⟨a,b,c⟩=>key v' w' a b c⟩
end
def Ez (g:Int→Option Value) (d:Int→Bool):Prop:=∀k,(g k).getD (.bool false)=.bool (d k)
def named (l:List cv) (k:Int):Bool:=l.any fun x=>decide (x.op=210) && decide (x.a=k)
def pd (d:Int→Bool) (l:List cv):Int→Bool:=fun k=>d k || named l k
theorem xq (l r:List cv) (k:Int):named (l++r) k=(named l k || named r k):=by unfold named;rw[List.any_append]
theorem Ez.put {d:Int→Bool} (h:Ez g d) (a:Int):Ez (put g a (.bool true)) (fun k=>d k || decide (a=k)):=fun b=>by
 unfold Go.Proofs.YtdkcljdfbemnbaaGreatDoor.put
 by_cases e:b=a
 ·subst e;simp
 ·have e':¬a=b:=fun h=>e h.symm
  simp only[if_neg e,e',decide_false,Bool.or_false];exact h b
abbrev IE:Nat:=69
def ze (B bx sp im dm:Nat) (v:C2) (tn:Nat) (tc:List Value) (X:pI) (ig dg:Int→Option Value) (d:Int→Bool) (l:List cv) (w:World):Ending→World→Prop:=
 aC (k9 B bx sp im dm v tn tc X ig dg) w (fun _:(Int→Option Value)=>.tuple #[]) (fun g=>Ez g (pd d l)) (fun g=>k9 B bx sp im dm v tn tc X ig g)
theorem vo (F:Nat→Prop) (B bx sp im dm:Nat) (v:C2) (tn:Nat) (tc:List Value) (X:pI) (ig dg:Int→Option Value) (d:Int→Bool) (l:List cv) (lv:Value) (w0 w:World) (hw:Ok (k9 B bx sp im dm v tn tc X ig dg) [Ext w0] w) (hl:fE F w0 lv l) (hd:Ez dg d):
  Calls G.P 22 #[lv,.pointer (some ⟨bx,0,none⟩)] w (ze B bx sp im dm v tn tc X ig dg d l w):=by
 obtain⟨tv,fv,bv,mv,gv,ev⟩:=v
 obtain⟨p,c,rfl,hll⟩:=hl.slice
 refine ae (l:=[.slice p l.length c,.pointer (some ⟨bx,0,none⟩)]) func22 rfl ntmps22 rfl (Ok.dk hw) ?_
 generalize hS:Mb (k9 B bx sp im dm ⟨tv,fv,bv,mv,gv,ev⟩ tn tc X ig dg)=S0
 refine cq ?_
 refine bh.loop (σ:=Nat×(Int→Option Value)) (fun s=>[(1,.pointer (some ⟨bx,0,none⟩)),(5,.slice p l.length c),(6,.int .i64 l.length),(7,.int .i64 s.1)]) (fun s=>k9 B bx sp im dm ⟨tv,fv,bv,mv,gv,ev⟩ tn tc X ig s.2) (fun _=>[bX S0 w,Ext w0]) (fun s=>s.1≤l.length∧Ez s.2 (pd d (l.take s.1))) (fun s=>l.length - s.1) (0,dg) bH bw aU ⟨by dsimp only;omega,by dsimp only;intro k;rw[hd k];simp[pd,named]⟩ ?_
 rintro⟨i,g⟩ ⟨hi,hg⟩
 dsimp only at hi hg ⊢
 by_cases hlt:i<l.length
 ·obtain⟨b6,o6,rfl,-,hall⟩:=hl.at hlt
  have hra:=(hall i hlt).ra
  obtain⟨tv9,lv9,htv,hlv,hc9⟩:=(hall i hlt).JK
  obtain⟨xt,yt,rfl,-⟩:=htv.slice
  obtain⟨xl,yl,rfl,-⟩:=hlv.slice
  have hnx:∀k,pd d (l.take (i+1)) k=(pd d (l.take i) k || (decide ((ix l i).op=210) && decide ((ix l i).a=k))):=fun k=>by
   unfold pd;rw[bM hlt,xq,Bool.or_assoc];simp[named]
  unfold k9
  dsimp only
  refine cq ?_
  refine aa.y_ (Yl.ji rfl rfl rfl ak Pe Pe hc9) rfl ?_
  refine aa.alloc [Pf .i64 0,Pf .i64 0,Pf .i64 0,Pf .u64 0,Pf .i64 0,Pf .i64 0,Pf .i64 0,Pg none 0 0,Pg none 0 0] rfl rfl rfl fun b9=>?_
  refine cq ?_
  by_cases h210:(ix l i).op=210
  ·refine cq ?_
   refine bh.dP [0,1,2,3,4,5] 6 [.aV b9 _ IE,.aV bx [.pointer (some ⟨sp,0,none⟩)] qo,.aV sp [tv,fv,bv,mv,gv,ev,.int .i64 X.bg,.map (some im),.map (some dm)] zl] [] O5 bw aU ?_
   refine mX ?_
   refine bF.iM (gj.mapUpdate underlying78 underlying3 rfl rfl rfl hra aH) rfl ?_
   rintro⟨⟩ _
   refine cq ?_
   refine ah.next (i+1,put g (ix l i).a (.bool true)) bH bw aU ⟨by dsimp only;omega,?_⟩ O0
   dsimp only
   intro k
   rw[hg.put _ k,hnx k];simp[h210]
  ·refine cq ?_
   refine ah.next (i+1,g) bH bw aU ⟨by dsimp only;omega,?_⟩ O0
   dsimp only
   intro k
   rw[hg k,hnx k];simp[h210]
 ·obtain rfl:i=l.length:=by omega
  refine cq ?_
  refine ah.nY rfl fun w' hw'=>?_
  unfold ze
  rw[Pu]at hg
  exact aC.of (x:=g) hg hw' rfl O1
theorem jL {p:Option Addr} {n c:Nat} {xs:List Int} {M:List bu} {R:List (World→Prop)} (h:ai F w (.slice p n c) xs) (hR:Ext w∈R):xs.length=0∨∃bk o,p=some ⟨bk,o,none⟩∧∀w',Ok M R w'→∀j u,(xs.map (Pf .i64))[j]?=some u→w'.cell? ⟨bk,o+j,none⟩=some u:=by
 obtain⟨p',c',e,hl,h⟩:=h
 cases e
 rcases h with h|⟨b,o,rfl,hF,h⟩
 ·exact .inl (by rw[h];rfl)
 ·refine .inr ⟨b,o,rfl,fun w' hw' j u hj=>?_⟩
  rw[List.getElem?_map]at hj
  by_cases hlt:j<xs.length
  ·rw[iy hlt]at hj
   cases hj
   exact(show Ext w w' from hw'.get hR).cell (h j hlt)
  ·rw[List.getElem?_eq_none Pc]at hj;cases hj
theorem fj (xs:List Int):∀u∈xs.map (Pf .i64),u.oneCell'=true:=by
 intro u hu;obtain⟨a,_,rfl⟩:=List.mem_map.1 hu;rfl
theorem kW {B T:Nat} {v:Value} {xs:List Int} (h:w.ownsRow B T 1 v xs.length (xs.map (Pf .i64))) (hl:xs.length≤17592186044416):ai (fun k=>B≤k) w v xs:=by
 obtain⟨p,c,rfl,hn,hc,hg⟩:=aw h
 refine⟨p,c,rfl,hl,?_⟩
 by_cases hx:xs=[]
 ·exact .inl hx
 ·obtain⟨g,rfl,h1,h2⟩:=hg (List.length_pos_iff.2 hx)
  exact .inr ⟨g,0,rfl,h1,fun i hi=>by rw[Pm];exact dO h OQ⟩
theorem yR (F:Nat→Prop) (f:aO) (u0 u1:Value) (w:World) (h0:ai F w u0 f.params) (h1:ai F w u1 f.results):Calls G.P 20 #[.agg #[u0,u1]] w fun e w'=>(∃x:Value×Value,e=.returned (.agg #[x.1,x.2])∧ai (fun k=>w.heap.size≤k) w' x.1 f.params∧ai (fun k=>w.heap.size≤k) w' x.2 f.results)∧Ext w w':=by
 obtain⟨p0,c0,rfl,l0⟩:=h0.slice
 obtain⟨p1,c1,rfl,l1⟩:=h1.slice
 refine ae (l:=[.agg #[.slice p0 f.params.length c0,.slice p1 f.results.length c1]]) func20 rfl ntmps20 rfl (Ok.start w) ?_
 refine cq ?_
 refine aa.box [.slice p0 f.params.length c0,.slice p1 f.results.length c1] rfl rfl rfl fun b1=>?_
 refine cq ?_
 refine aa.alloc [Pg none 0 0,Pg none 0 0] rfl rfl rfl fun b2=>?_
 refine cq ?_
 refine bh.iN w.heap.size nU 1 ?_
 refine bh.iN w.heap.size nU 1 ?_
 refine bh.dP [0,1,3,4,2,5,6] 7 [.aV b1 [.slice p0 f.params.length c0,.slice p1 f.results.length c1] sw] [Ext w] O5 bw aU ?_
 refine mX ?_
 refine bF.he (HE.gP (f.params.map (Pf .i64)) rfl rfl (fun _=>aH) (jL h0 ak) Pd rfl rfl rfl Pe Pe Pe (fj _) OP Pc nP) rfl (fun _=>bw) (fun _=>aU) ?_
 intro v1 _
 refine bF.he (HE.gP (f.results.map (Pf .i64)) rfl rfl (fun _=>aH) (jL h1 ak) Pd rfl rfl rfl Pe Pe Pe (fj _) (by show(0+f.results.length)*8≤_;omega) Pc nP) rfl (fun _=>bw) (fun _=>aU) ?_
 intro v2 _
 refine bF.pure (φ:=(∃p c,v1=.slice p (0+f.params.length) c)∧∃p c,v2=.slice p (0+f.results.length) c) (fun w' hw'=>⟨?_,?_⟩) ?_
 ·obtain⟨p,c,e,_⟩:=aw (hw'.own (v:=v1));exact⟨p,c,e⟩
 ·obtain⟨p,c,e,_⟩:=aw (hw'.own (v:=v2));exact⟨p,c,e⟩
 rintro⟨⟨q1,d1,rfl⟩,⟨q2,d2,rfl⟩⟩
 refine mX ?_
 refine bF.iM (gj.bn _ rfl rfl rfl rfl rfl rfl aH rfl) rfl ?_
 rintro⟨⟩ _
 refine cq ?_
 refine ah.bB (.inl rfl) rfl rfl rfl rfl rfl aH rfl fun w' hw'=>⟨⟨(_,_),rfl,?_,?_⟩,hw'.at⟩
 ·have:=hw'.own (v:=.slice q1 (0+f.params.length) d1)
  rw[Pm]at this ⊢
  exact kW this l0
 ·have:=hw'.own (v:=.slice q2 (0+f.results.length) d2)
  have e:0+f.results.length=f.results.length:=Pm _
  rw[e]at this
  show ai _ w' (.slice q2 (0+f.results.length) d2) _
  rw[e];exact kW this l1
section
variable {ops:Array Oper} {Q:Exit→Act→World→Prop} {n:Nat} {E:Env} {M M':List bu} {R R':List (World→Prop)} {rest l:List Oper} {op:Op} {d:Nat} {ty:TypeId} {pos:String} {aft:Array Edge} {v:Value} {x y z:Operand} {t:TypeId}
theorem Ok.perm {w:World} (h:Ok M R w) (hp:M.Perm M'):Ok M' R w:=
 h.step (bX.refl _ w) (fun q hq=>h.m q (hp.mem_iff.2 hq)) ((hp.pairwise_iff (fun h k h1 h2=>h k h2 h1)).1 h.d) (fun _k ⟨q,hq,hk⟩ _=>⟨q,hp.mem_iff.2 hq,hk⟩)
theorem ah.lj {e:Exit} (p:World→Prop) (hp:∀w',(∀r,r∈R→r w')→p w') (h:ah Q n e E M (p::R)):ah Q n e E M R:=⟨fun w hw=>h.h w (hw.lj hp)⟩
theorem HE.xU {β:Type} {B:Nat} {M0 Mr:List bu} {tf:β→Value} {φ:β→Prop} {M1:β→List bu} {f:Nat} {fo:Operand} {cap:List Value} {args:List Operand} {tys:Array TypeId} {vs:List Value} (hfo:ev E fo=some (.func (.func f) #[] cap.toArray)) (hf:G.fb[f]?=some true) (ha:kI E args=some vs) (hM:M.Perm (M0++Mr))
  (hR':∀p,p∈R'→p∈R) (hc:∀w,Ok M0 R' w→B≤w.heap.size→Calls G.P f (vs++cap).toArray w (aC M0 w tf φ M1)) (hB:∀w,Ok M R w→B≤w.heap.size):HE n (.call ⟨.value fo,args.toArray,tys⟩) E M R φ tf (fun x=>M1 x++Mr) (fun _=>R):=
 ⟨fun w hw0=>by
  have hw:=hw0.perm hM
  refine(bU.eK hfo hf ha (hc w (hw.sub (List.sublist_append_left _ _) hR') (hB w hw0)) (fun e w' h=>by obtain⟨x,e1,_⟩:=h;exact⟨_,e1⟩)).mono fun v w' ⟨x,e1,h1,h2,h3,h4⟩=>?_
  cases e1
  exact⟨x,h1,rfl,hw.frame h2 h3 h4⟩⟩
end
def Iq (f:aO) (lo:Nat) (w:World) (x:Value×Value):Prop:=ai (fun k=>lo≤k) w x.1 f.params∧ai (fun k=>lo≤k) w x.2 f.results
theorem Iq.fresh (f:aO):Hn (Iq f):=fun h hc hS=>⟨h.1.aP hc hS,h.2.aP hc hS⟩
theorem o0 {M M':List bu} (h:M'.Sublist M:=by repeat(first|with_reducible exact List.Sublist.refl _|exact List.nil_sublist _|(with_reducible refine List.Sublist.cons_cons _ ?_)|((with_reducible refine nw ?_ ?_ ?_ ?_);rfl;(first|rfl|simp);(first|rfl|simp))|((with_reducible refine Hd ?_ ?_);(first|rfl|simp))|refine List.Sublist.cons _ ?_)):M'.Sublist M:=h
def mw (B:Nat) (tc:List Value) (l:List aO):World→Prop:=fun w=>tc.length=l.length*2∧∀i,i<l.length→∃p r,tc[i*2]?=some p∧tc[i*2+1]?=some r∧ai (fun k=>B≤k) w p (ix l i).params∧ai (fun k=>B≤k) w r (ix l i).results
theorem mw.app {l:List aO} {w:World} (h:mw B tc l w) {p r:Value} {f:aO} (hp:ai (fun k=>B≤k) w p f.params) (hr:ai (fun k=>B≤k) w r f.results):mw B (tc++[p,r]) (l++[f]) w:=by
 obtain⟨h1,h2⟩:=h
 refine⟨by simp[h1];omega,fun i hi=>?_⟩
 by_cases hlt:i<l.length
 ·obtain⟨p',r',e1,e2,e3,e4⟩:=h2 i hlt
  rw[iF hlt]
  exact⟨p',r',by rw[PW Pc];exact e1,by rw[PW Pc];exact e2,e3,e4⟩
 ·have e:i=l.length:=by simp at hi;omega
  subst e
  rw[gJ (Nat.le_refl _),Nat.sub_self]
  exact⟨p,r,by rw[P2 Pc];simp[h1],by rw[P2 Pc];simp[h1,show l.length*2+1 - l.length*2=1 by omega],hp,hr⟩
theorem mw.aP {l:List aO} {S:Nat→Prop} {w w':World} (h:mw B tc l w) (hc:bX S w w') (hS:∀k,B≤k→¬S k):mw B tc l w':=
 ⟨h.1,fun i hi=>by
  obtain⟨p,r,e1,e2,e3,e4⟩:=h.2 i hi
  exact⟨p,r,e1,e2,e3.aP hc (fun k _ hk=>hS k hk),e4.aP hc (fun k _ hk=>hS k hk)⟩⟩
def A4 (l:List bY) (X:pI):pI:=l.foldl pI.iS X
theorem zu (l:List bY) (X:pI) (x:bY):A4 (l++[x]) X=(A4 l X).iS x:=by unfold A4;rw[List.foldl_append];rfl
theorem Dg (X:pI) (x:bY):(X.iS x).funcs.length≤X.funcs.length+1∧(X.iS x).tables.length≤X.tables.length+1∧(X.iS x).bR.length≤X.bR.length+1∧(X.iS x).globals.length≤X.globals.length+1∧(X.iS x).elems.length≤X.elems.length∧(X.iS x).bg=X.bg:=by
 unfold pI.iS
 split
 ·simp
 ·split
  ·simp
  ·split
   ·simp
   ·split<;>simp
def X0 (m:af):pI:=⟨[],[],[],[],[],m.bg.length⟩
theorem Cr (m:af):∀i,i≤m.imports.length→(A4 (m.imports.take i) (X0 m)).funcs.length≤i∧(A4 (m.imports.take i) (X0 m)).tables.length≤i∧(A4 (m.imports.take i) (X0 m)).bR.length≤i∧(A4 (m.imports.take i) (X0 m)).globals.length≤i∧(A4 (m.imports.take i) (X0 m)).elems.length≤0∧(A4 (m.imports.take i) (X0 m)).bg=m.bg.length
 |0,_=>by simp[A4,X0]
 |i+1,h=>by
  have ih:=Cr m i Pc
  rw[bM Pc,zu]
  have:=Dg (A4 (m.imports.take i) (X0 m)) (ix m.imports i)
  omega
def cN (m:af) (i:Nat):Int→Int:=fun k=>vM m.imports k i
theorem Gy (h:i<m.imports.length):inc (cN m i) (ix m.imports i).kind=cN m (i+1):=by
 funext b
 unfold inc cN
 rw[xk h]
 by_cases e:b=(ix m.imports i).kind
 ·subst e;simp
 ·have e':¬(ix m.imports i).kind=b:=fun h=>e h.symm
  simp[e,e']
def X1 (m:af):pI:=A4 m.imports (X0 m)
def X2 (m:af) (i:Nat):pI:={X1 m with funcs:=(X1 m).funcs++(m.funcs.take i).map (·.dI)}
def X3 (m:af):pI:={X2 m m.funcs.length with tables:=(X1 m).tables++m.tables,bR:=(X1 m).bR++m.bR}
def X4 (m:af) (i:Nat):pI:={X3 m with globals:=(X1 m).globals++(m.globals.take i).map (·.dI)}
def X5 (m:af) (i:Nat):pI:={X4 m m.globals.length with elems:=(X1 m).elems++(m.elems.take i).map (·.dI)}
theorem jA {α:Type} [Inhabited α] (cf:α→List Value) {s:Nat} (hs:∀x,(cf x).length=s):∀(xs:List α) (i j:Nat),i<xs.length→j<s→(xs.flatMap cf)[i*s+j]?=(cf (ix xs i))[j]?
 |[],i,_,h,_=>by simp at h
 |a::r,0,j,_,hj=>by
  rw[Qd,Nat.zero_mul,Pm,PW (by rw[hs];exact hj)]
  simp[ix]
 |a::r,i+1,j,h,hj=>by
  rw[Qd,P2 (by rw[hs,P9];omega)]
  have e:(i+1)*s+j - (cf a).length=i*s+j:=by rw[hs,P9];omega
  rw[e,jA cf hs r i j O4 hj]
  simp[ix]
theorem kq {α:Type} (cf:α→List Value) {s:Nat} (hs:∀x,(cf x).length=s):∀xs:List α,(xs.flatMap cf).length=xs.length*s
 |[]=>by simp
 |a::r=>by rw[Qd,Pt,hs,kq cf hs r,List.length_cons,P9];omega
theorem Cz [Inhabited α] {s N:Nat} {Rd:sV α} (cf:α→List Value) (hs:∀x,(cf x).length=s) (h0:0<s) (hRd:∀{F w b o x},Rd F w b o x→∀j,j<s→w.cell? ⟨b,o+j,none⟩=(cf x)[j]?) {F:Nat→Prop} {w:World} {p:Option Addr} {n c:Nat} {xs:List α} {M:List bu} {R:List (World→Prop)} (h:gN s N Rd F w (.slice p n c) xs) (hR:Ext w∈R):
  xs.length=0∨∃bk o,p=some ⟨bk,o,none⟩∧∀w',Ok M R w'→∀j u,(xs.flatMap cf)[j]?=some u→w'.cell? ⟨bk,o+j,none⟩=some u:=by
 obtain⟨p',c',e,hl,h⟩:=h
 cases e
 rcases h with h|⟨b,o,rfl,hF,h⟩
 ·exact .inl (by rw[h];rfl)
 ·refine .inr ⟨b,o,rfl,fun w' hw' j u hj=>?_⟩
  have hlt:j<xs.length*s:=by rw[←kq cf hs];exact(PL.1 hj).1
  have hi:j / s<xs.length:=Nat.div_lt_of_lt_mul (by rw[Nat.mul_comm];exact hlt)
  have hr:j % s<s:=Nat.mod_lt _ h0
  have ej:j=j / s*s+j % s:=by rw[Nat.mul_comm];exact(Nat.div_add_mod j s).symm
  have h1:=hRd (h (j / s) hi) (j % s) hr
  rw[←jA cf hs xs _ _ hi hr,←ej,hj,Nat.add_assoc,←ej]at h1
  exact(show Ext w w' from hw'.get hR).cell h1
theorem AN {x:fH} (h:fF F w b o x):∀j,j<4→w.cell? ⟨b,o+j,none⟩=(mV x)[j]?:=by
 obtain⟨cs,hV,hc⟩:=h
 obtain⟨rfl,-⟩:=hV
 exact hc
theorem xo {x:ft} (h:dR F w b o x):∀j,j<3→w.cell? ⟨b,o+j,none⟩=(mH x)[j]?:=by
 obtain⟨cs,hV,hc⟩:=h
 obtain⟨rfl,-⟩:=hV
 exact hc
theorem F5 (l:List fH):∀u∈l.flatMap mV,u.oneCell'=true:=by
 intro u hu;obtain⟨a,_,h⟩:=List.mem_flatMap.1 hu
 simp only[mV,Pz,PY,or_false]at h
 rcases h with rfl|rfl|rfl|rfl<;>rfl
theorem Fq (l:List ft):∀u∈l.flatMap mH,u.oneCell'=true:=by
 intro u hu;obtain⟨a,_,h⟩:=List.mem_flatMap.1 hu
 simp only[mH,Pz,PY,or_false]at h
 rcases h with rfl|rfl|rfl<;>rfl
abbrev K4:Nat:=95
abbrev K3:Nat:=98
abbrev JG:Nat:=100
abbrev xK:Nat:=102
def d4 (m:af) (i:Nat):Int→Bool:=fun k=>(m.globals.take i).any fun g=>named g.nH k
def d5 (m:af) (i j:Nat):Int→Bool:=fun k=>d4 m m.globals.length k || (m.elems.take i).any (fun e=>e.items.any fun l=>named l k) || ((ix m.elems i).items.take j).any fun l=>named l k
def d6 (m:af) (i:Nat):Int→Bool:=fun k=>d4 m m.globals.length k || m.elems.any (fun e=>e.items.any fun l=>named l k) || (m.aL.take i).any fun x=>decide (x.kind=0) && decide (x.index=k)
def wN (m:af):pI:=X5 m m.elems.length
structure Gm (B bS sp im dm:Nat) (v:C2) (tc:List Value) (ig dg:Int→Option Value) (m:af) (w:World):Prop where
 s:gO w bS [.pointer (some ⟨sp,0,none⟩)] xK
 x:gO w sp [v.tv,v.fv,v.bv,v.mv,v.gv,v.ev,.int .i64 (wN m).bg,.map (some im),.map (some dm)] zl
 fs:w.ownsRow B 3 1 v.fv (wN m).funcs.length ((wN m).funcs.map (Pf .i64))
 bs:w.ownsRow B qp 4 v.bv (wN m).tables.length ((wN m).tables.flatMap mV)
 ms:w.ownsRow B rh 3 v.mv (wN m).bR.length ((wN m).bR.flatMap mH)
 gs:w.ownsRow B rf 2 v.gv (wN m).globals.length ((wN m).globals.flatMap pS)
 es:w.ownsRow B nU 1 v.ev (wN m).elems.length ((wN m).elems.map (Pf .i64))
 ts:w.ownsRow B sw 2 v.tv m.types.length tc
 im:IV w im ig
 dm:IV w dm dg
 Jw:HH ig (cN m m.imports.length)
 dec:Ez dg (d6 m m.aL.length)
 ty:mw B tc m.types w
def bN (B:Nat) (m:af) (w:World) (v:Value):Prop:=∃bS sp im dm vs tc ig dg,v=.pointer (some ⟨bS,0,none⟩)∧(B≤bS∧B≤sp∧B≤im∧B≤dm)∧Gm B bS sp im dm vs tc ig dg m w
def tg (m:af):Prop:=m.types.length≤1000∧m.imports.length≤1000∧m.funcs.length≤1000∧m.tables.length≤1048576∧m.bR.length≤1048576∧m.globals.length≤1000∧m.aL.length≤1048576∧m.elems.length≤1000∧m.bg.length≤17592186044416
def wT (m:af) (w:World) (e:Ending) (w':World):Prop:=(∃v,e=.returned v∧bN w.heap.size m w' v)∧Ext w w'
theorem bN.aP {m:af} {S:Nat→Prop} {w w':World} {v:Value} (h:bN B m w v) (hc:bX S w w') (hS:∀k,B≤k→¬S k):bN B m w' v:=by
 obtain⟨bS,sp,im,dm,vs,tc,ig,dg,rfl,⟨g1,g2,g3,g4⟩,h⟩:=h
 exact⟨bS,sp,im,dm,vs,tc,ig,dg,rfl,⟨g1,g2,g3,g4⟩,h.s.aP hc (hS _ g1),h.x.aP hc (hS _ g2),cm h.fs hc (fun k hk=>hS k (h.fs.lt k hk).1),cm h.bs hc (fun k hk=>hS k (h.bs.lt k hk).1),cm h.ms hc (fun k hk=>hS k (h.ms.lt k hk).1),cm h.gs hc (fun k hk=>hS k (h.gs.lt k hk).1),cm h.es hc (fun k hk=>hS k (h.es.lt k hk).1),cm h.ts hc (fun k hk=>hS k (h.ts.lt k hk).1),h.im.aP hc (hS _ g3),h.dm.aP hc (hS _ g4),h.Jw,h.dec,h.ty.aP hc hS⟩
theorem oE (F:Nat→Prop) (m:af) (cs:List Value) (w:World) (hm:av F w cs m) (hL:tg m):Calls G.P 8 #[.agg cs.toArray] w (wT m w):=by
 obtain⟨v0,v1,v2,v3,v4,v5,v6,v7,v8,v9,rfl,r0,r1,r2,r3,r4,r5,r6,r7,r8,r9,g0⟩:=hm
 obtain⟨L0,L1,L2,L3,L4,L5,L6,L7,L8⟩:=hL
 obtain⟨p0,c0,rfl,-⟩:=r0.slice
 obtain⟨p1,c1,rfl,-⟩:=r1.slice
 obtain⟨p2,c2,rfl,-⟩:=r2.slice
 obtain⟨p3,c3,rfl,-⟩:=r3.slice
 obtain⟨p4,c4,rfl,-⟩:=r4.slice
 obtain⟨p5,c5,rfl,-⟩:=r5.slice
 obtain⟨p6,c6,rfl,-⟩:=r6.slice
 obtain⟨p7,c7,rfl,-⟩:=r7.slice
 obtain⟨p8,c8,rfl,-⟩:=r8.slice
 refine ae (l:=[.agg (([Pg p0 m.types.length c0,Pg p1 m.imports.length c1,Pg p2 m.funcs.length c2,Pg p3 m.tables.length c3,Pg p4 m.bR.length c4,Pg p5 m.globals.length c5,Pg p6 m.aL.length c6,Ph m.aI,Pf .i64 m.start,Pg p7 m.elems.length c7,Pg p8 m.bg.length c8,v9]:List Value)).toArray]) func8 rfl ntmps8 rfl (Ok.start w) ?_
 refine cq ?_
 refine aa.box ([Pg p0 m.types.length c0,Pg p1 m.imports.length c1,Pg p2 m.funcs.length c2,Pg p3 m.tables.length c3,Pg p4 m.bR.length c4,Pg p5 m.globals.length c5,Pg p6 m.aL.length c6,Ph m.aI,Pf .i64 m.start,Pg p7 m.elems.length c7,Pg p8 m.bg.length c8,v9]:List Value) rfl rfl rfl fun b=>?_
 refine cq ?_
 refine aa.he HE.makeMap rfl ?_
 intro im _
 refine aa.he HE.makeMap rfl ?_
 intro dm _
 refine cq ?_
 refine aa.box [Pg none 0 0,Pg none 0 0,Pg none 0 0,Pg none 0 0,Pg none 0 0,Pg none 0 0,Pf .i64 m.bg.length,Value.map (some im),Value.map (some dm)] rfl rfl rfl fun sp=>?_
 refine cq ?_
 refine aa.alloc [Value.pointer none] rfl rfl rfl fun bx=>?_
 refine cq ?_
 refine bh.iN w.heap.size sw 2 ?_
 refine bh.iN w.heap.size nU 1 ?_
 refine bh.iN w.heap.size rf 2 ?_
 refine bh.iN w.heap.size rh 3 ?_
 refine bh.iN w.heap.size qp 4 ?_
 refine bh.iN w.heap.size 3 1 ?_
 refine bh.front (q:=.own w.heap.size sw 2 _ _ _) jK ?_
 refine bh.front (q:=.iv dm _) jK ?_
 refine bh.front (q:=.iv im _) jK ?_
 refine bh.front (q:=.own w.heap.size nU 1 _ _ _) jK ?_
 refine bh.front (q:=.own w.heap.size rf 2 _ _ _) jK ?_
 refine bh.front (q:=.own w.heap.size rh 3 _ _ _) jK ?_
 refine bh.front (q:=.own w.heap.size qp 4 _ _ _) jK ?_
 refine bh.front (q:=.own w.heap.size 3 1 _ _ _) jK ?_
 refine bh.front (q:=.aV sp _ _) jK ?_
 refine bh.front (q:=.aV bx _ _) jK ?_
 refine bh.lj (mw w.heap.size [] (m.types.take 0)) (fun w' _=>⟨rfl,fun i hi=>by simp at hi⟩) ?_
 refine bh.loop (σ:=Nat×Value×List Value) (fun s=>[(1,.pointer (some ⟨b,0,none⟩)),(3,.pointer (some ⟨bx,0,none⟩)),(28,.slice p0 m.types.length c0),(29,.int .i64 m.types.length),(30,.int .i64 s.1)]) (fun s=>k9 w.heap.size bx sp im dm ⟨s.2.1,.slice none 0 0,.slice none 0 0,.slice none 0 0,.slice none 0 0,.slice none 0 0⟩ s.1 s.2.2 (X0 m) (fun _=>none) (fun _=>none)++[.aV b ([Pg p0 m.types.length c0,Pg p1 m.imports.length c1,Pg p2 m.funcs.length c2,Pg p3 m.tables.length c3,Pg p4 m.bR.length c4,Pg p5 m.globals.length c5,Pg p6 m.aL.length c6,Ph m.aI,Pf .i64 m.start,Pg p7 m.elems.length c7,Pg p8 m.bg.length c8,v9]:List Value) jF]) (fun s=>[mw w.heap.size s.2.2 (m.types.take s.1),Ext w]) (fun s=>s.1≤m.types.length) (fun s=>m.types.length - s.1) (0,.slice none 0 0,[]) bH OG OA O0 ?_
 rintro⟨i,tv,tc⟩ hi
 dsimp only at hi ⊢
 unfold k9
 simp only[Pj,Pi]
 by_cases hlt:i<m.types.length
 ·obtain⟨b1,o1,rfl,hF,cs5,⟨u0,u1,rfl,q0,q1⟩,hc5⟩:=r0.el hlt
  obtain⟨x0,y0,rfl,-⟩:=q0.slice
  obtain⟨x1,y1,rfl,-⟩:=q1.slice
  refine cq ?_
  refine Ny ?_
  refine aa.alloc [Pg none 0 0,Pg none 0 0] rfl rfl rfl fun b5=>?_
  refine cq ?_
  refine bh.dP [0,1,2,3,4,5,6,7,8,9,10] 11 [.aV b5 _ sw,.aV bx [.pointer (some ⟨sp,0,none⟩)] qo,.aV sp [tv,.slice none 0 0,.slice none 0 0,.slice none 0 0,.slice none 0 0,.slice none 0 0,.int .i64 (X0 m).bg,.map (some im),.map (some dm)] zl] [] O5 bw aU ?_
  refine mX ?_
  refine bF.he (HE.IN (V:=Iq (ix m.types i)) (fun x=>.agg #[x.1,x.2]) (Iq.fresh _) rfl rfl (fun w' hw'=>yR F (ix m.types i) _ _ w' (q0.aP (show Ext w w' from hw'.at) (fun _ _ _ h=>h)) (q1.aP (show Ext w w' from hw'.at) (fun _ _ _ h=>h)))) rfl (fun _=>bw) (fun _=>aU) ?_
  rintro⟨lo,z1,z2⟩ ⟨wx,hwx,hlo⟩
  have hlo':w.heap.size≤lo:=by have h:=nP (w:=w) ak wx hwx;have:lo=wx.heap.size:=hlo;omega
  dsimp only
  refine bF.pure (φ:=(∃p c,z1=.slice p (ix m.types i).params.length c)∧∃p c,z2=.slice p (ix m.types i).results.length c) (fun w' hw'=>?_) ?_
  ·have hv:Iq (ix m.types i) lo w' (z1,z2):=hw'.at
   obtain⟨p,c,e,_⟩:=hv.1.slice
   obtain⟨p',c',e',_⟩:=hv.2.slice
   exact⟨⟨p,c,e⟩,⟨p',c',e'⟩⟩
  rintro⟨⟨e1,f1,rfl⟩,⟨e2,f2,rfl⟩⟩
  refine Ni ?_
  intro b3 _
  refine Nz ?_
  intro v2 _
  refine mX ?_
  refine bF.pure (φ:=v2.oneCell'=true) (fun w' hw'=>jN (hw'.own (v:=v2))) fun hone=>?_
  refine Nx ?_
  rintro⟨⟩ _
  refine cq ?_
  refine ah.lj (mw w.heap.size (tc++[.slice e1 (ix m.types i).params.length f1,.slice e2 (ix m.types i).results.length f2]) (m.types.take (i+1))) (fun w' hw'=>?_) ?_
  ·rw[bM hlt]
   have hv:Iq (ix m.types i) lo w' (.slice e1 (ix m.types i).params.length f1,.slice e2 (ix m.types i).results.length f2):=A0 hw'
   exact mw.app (A0 hw') (hv.1.mono (fun k _ hk=>Py hlo' hk)) (hv.2.mono (fun k _ hk=>Py hlo' hk))
  exact ah.next (i+1,v2,tc++[.slice e1 (ix m.types i).params.length f1,.slice e2 (ix m.types i).results.length f2]) bH (by dsimp only;exact o0) OA O0 O0
 ·obtain rfl:i=m.types.length:=by omega
  refine cq ?_
  refine bh.loop (σ:=Nat×C2×(Int→Option Value)) (fun s=>[(1,.pointer (some ⟨b,0,none⟩)),(3,.pointer (some ⟨bx,0,none⟩)),(6,.func (.func 21) #[] #[.pointer (some ⟨bx,0,none⟩)]),(48,.slice p1 m.imports.length c1),(49,.int .i64 m.imports.length),(50,.int .i64 s.1)]) (fun s=>k9 w.heap.size bx sp im dm s.2.1 m.types.length tc (A4 (m.imports.take s.1) (X0 m)) s.2.2 (fun _=>none)++[.aV b ([Pg p0 m.types.length c0,Pg p1 m.imports.length c1,Pg p2 m.funcs.length c2,Pg p3 m.tables.length c3,Pg p4 m.bR.length c4,Pg p5 m.globals.length c5,Pg p6 m.aL.length c6,Ph m.aI,Pf .i64 m.start,Pg p7 m.elems.length c7,Pg p8 m.bg.length c8,v9]:List Value) jF]) (fun s=>[mw w.heap.size tc (m.types.take m.types.length),Ext w]) (fun s=>s.1≤m.imports.length∧s.2.1.tv=tv∧HH s.2.2 (cN m s.1)) (fun s=>m.imports.length - s.1) (0,⟨tv,.slice none 0 0,.slice none 0 0,.slice none 0 0,.slice none 0 0,.slice none 0 0⟩,fun _=>none) bH OG aU ⟨by dsimp only;omega,rfl,fun k=>by simp[cN,vM]⟩ ?_
  rintro⟨i,v,ig⟩ ⟨hi,hvt,hcnt⟩
  dsimp only at hi hvt hcnt ⊢
  have hbl:=Cr m i hi
  by_cases hlt:i<m.imports.length
  ·obtain⟨b1,o1,rfl,hF,he⟩:=r1.el hlt
   have hk9:=he.Bg
   have hcs:=Gy m hlt
   have hcl:=xZ m.imports (ix m.imports i).kind i
   obtain⟨cs9,hV9,hc9⟩:=he
   obtain⟨rfl,-⟩:=hV9
   refine cq ?_
   refine aa.y_ (Yl.ji rfl rfl rfl ak Pe Pe hc9) rfl ?_
   refine aa.alloc [Pk ⟨#[]⟩,Pk ⟨#[]⟩,Pf .i64 0,Pf .i64 0,Pf .i64 0,Pf .i64 0,Pf .i64 0,Ph false,Pf .i64 0,Pf .i64 0,Ph false,Pf .i64 0,Ph false] rfl rfl rfl fun b8=>?_
   refine cq ?_
   refine aa.he (HE.xU (B:=w.heap.size) (R':=[]) rfl rfl rfl List.perm_middle.symm (fun p hp=>absurd hp Pd) (fun w' hw' hB=>AK w.heap.size bx sp im dm v m.types.length tc _ ig (fun _=>none) (ix m.imports i) (cN m i) w' hw' hB ⟨by omega,by omega,by omega,by omega,by omega⟩ hcnt hk9 (by unfold cN;omega)) nP) rfl ?_
   rintro⟨v',ig'⟩ ⟨hc',ht'⟩
   dsimp only at hc' ht' ⊢
   rw[hcs]at hc'
   refine cq ?_
   refine ah.next (i+1,v',ig') bH ?_ aU ⟨by dsimp only;omega,by dsimp only;rw[ht',hvt],hc'⟩ O0
   dsimp only
   rw[bM hlt,zu]
   unfold k9;simp only[Pj,Pi];exact o0
  ·obtain rfl:i=m.imports.length:=by omega
   obtain⟨tv',fv0,bv,mv,gv,ev⟩:=v
   dsimp only at hvt
   subst hvt
   have e1:A4 (m.imports.take m.imports.length) (X0 m)=X1 m:=by unfold X1;rw[Pu]
   have hlen1:(X1 m).funcs.length≤1000∧(X1 m).tables.length≤1000∧(X1 m).bR.length≤1000∧(X1 m).globals.length≤1000∧(X1 m).elems.length≤0:=by rw[←e1];omega
   rw[e1]
   unfold k9
   simp only[Pj,Pi]
   refine cq ?_
   have e2:(X2 m 0).funcs=(X1 m).funcs:=by simp[X2]
   refine bh.loop (σ:=Nat×Value) (fun s=>[(1,.pointer (some ⟨b,0,none⟩)),(3,.pointer (some ⟨bx,0,none⟩)),(59,.slice p2 m.funcs.length c2),(60,.int .i64 m.funcs.length),(61,.int .i64 s.1)]) (fun s=>k9 w.heap.size bx sp im dm ⟨tv',s.2,bv,mv,gv,ev⟩ m.types.length tc (X2 m s.1) ig (fun _=>none)++[.aV b ([Pg p0 m.types.length c0,Pg p1 m.imports.length c1,Pg p2 m.funcs.length c2,Pg p3 m.tables.length c3,Pg p4 m.bR.length c4,Pg p5 m.globals.length c5,Pg p6 m.aL.length c6,Ph m.aI,Pf .i64 m.start,Pg p7 m.elems.length c7,Pg p8 m.bg.length c8,v9]:List Value) jF]) (fun s=>[mw w.heap.size tc (m.types.take m.types.length),Ext w]) (fun s=>s.1≤m.funcs.length) (fun s=>m.funcs.length - s.1) (0,fv0) bH (by unfold k9;dsimp only;simp only[Pj,Pi,e2];exact o0) aU O0 ?_
   rintro⟨i,fv⟩ hi
   dsimp only at hi ⊢
   unfold k9
   simp only[Pj,Pi]
   by_cases hlt:i<m.funcs.length
   ·obtain⟨b1,o1,rfl,hF,cs5,⟨u0,u1,rfl,q0,q1,q2⟩,hc5⟩:=r2.el hlt
    obtain⟨x2,y2,rfl,z2⟩:=q1.slice
    obtain⟨x0,y0,rfl,z0⟩:=q0.slice
    have e3:(X2 m (i+1)).funcs=(X2 m i).funcs++[(ix m.funcs i).dI]:=by simp[X2,bM hlt]
    have l3:(X2 m i).funcs.length≤3000:=by simp[X2];omega
    refine cq ?_
    refine Ny ?_
    refine aa.alloc [Pf .i64 0,Pg none 0 0,Pg none 0 0] rfl rfl rfl fun b10=>?_
    refine cq ?_
    refine bh.dP [0,1,2,3,4,5,6,7,8,9,10] 11 [.aV b10 _ Co,.aV bx [.pointer (some ⟨sp,0,none⟩)] qo,.aV sp [tv',fv,bv,mv,gv,ev,.int .i64 (X2 m i).bg,.map (some im),.map (some dm)] zl] [] O5 bw aU ?_
    refine mX ?_
    refine Ni ?_
    intro b3 _
    refine Nz ?_
    intro v2 _
    refine mX ?_
    refine bF.pure (φ:=v2.oneCell'=true) (fun w' hw'=>jN (hw'.own (v:=v2))) fun hone=>?_
    refine Nx ?_
    rintro⟨⟩ _
    refine cq ?_
    exact ah.next (i+1,v2) bH (by dsimp only;simp only[e3];exact o0) aU O0 O0
   ·obtain rfl:i=m.funcs.length:=by omega
    refine cq ?_
    refine bh.dP [0,1,2,3,4,5,6,7,8,9] 10 [.aV bx [.pointer (some ⟨sp,0,none⟩)] qo,.aV sp [tv',fv,bv,mv,gv,ev,.int .i64 (X2 m m.funcs.length).bg,.map (some im),.map (some dm)] zl,.aV b ([Pg p0 m.types.length c0,Pg p1 m.imports.length c1,Pg p2 m.funcs.length c2,Pg p3 m.tables.length c3,Pg p4 m.bR.length c4,Pg p5 m.globals.length c5,Pg p6 m.aL.length c6,Ph m.aI,Pf .i64 m.start,Pg p7 m.elems.length c7,Pg p8 m.bg.length c8,v9]:List Value) jF] [Ext w] O5 bw aU ?_
    refine mX ?_
    refine bF.he (HE.IG (m.tables.flatMap mV) rfl rfl (fun _=>aH) (Cz mV (fun _=>rfl) Pc (fun h=>AN h) r3 ak) (kq mV (fun _=>rfl) _) rfl rfl rfl Pe Pe Pe Pe (F5 _) (by have:(X2 m m.funcs.length).tables.length=(X1 m).tables.length:=rfl;omega) nP) rfl (fun _=>bw) (fun _=>aU) ?_
    intro v2 _
    refine mX ?_
    refine bF.pure (φ:=v2.oneCell'=true) (fun w' hw'=>jN (hw'.own (v:=v2))) fun hone=>?_
    refine Nx ?_
    rintro⟨⟩ _
    refine cq ?_
    refine bh.dP [0,1,2,3,4,5,6,7,8,9] 10 [.aV bx [.pointer (some ⟨sp,0,none⟩)] qo,.aV sp [tv',fv,v2,mv,gv,ev,.int .i64 (X2 m m.funcs.length).bg,.map (some im),.map (some dm)] zl,.aV b ([Pg p0 m.types.length c0,Pg p1 m.imports.length c1,Pg p2 m.funcs.length c2,Pg p3 m.tables.length c3,Pg p4 m.bR.length c4,Pg p5 m.globals.length c5,Pg p6 m.aL.length c6,Ph m.aI,Pf .i64 m.start,Pg p7 m.elems.length c7,Pg p8 m.bg.length c8,v9]:List Value) jF] [Ext w] O5 bw aU ?_
    refine mX ?_
    refine bF.he (HE.IG (m.bR.flatMap mH) rfl rfl (fun _=>aH) (Cz mH (fun _=>rfl) Pc (fun h=>xo h) r4 ak) (kq mH (fun _=>rfl) _) rfl rfl rfl Pe Pe Pe Pe (Fq _) (by have:(X2 m m.funcs.length).bR.length=(X1 m).bR.length:=rfl;omega) nP) rfl (fun _=>bw) (fun _=>aU) ?_
    intro v3 _
    refine mX ?_
    refine bF.pure (φ:=v3.oneCell'=true) (fun w' hw'=>jN (hw'.own (v:=v3))) fun hone3=>?_
    refine bF.iM (gj.gz rfl rfl rfl rfl hone3 aH oZ) rfl ?_
    rintro⟨⟩ _
    refine cq ?_
    have e4:(X4 m 0).globals=(X1 m).globals:=by simp[X4]
    have e5:(X4 m 0).tables=(X2 m m.funcs.length).tables++m.tables:=rfl
    have e6:(X4 m 0).bR=(X2 m m.funcs.length).bR++m.bR:=rfl
    refine bh.loop (σ:=Nat×Value×(Int→Option Value)) (fun s=>[(1,.pointer (some ⟨b,0,none⟩)),(3,.pointer (some ⟨bx,0,none⟩)),(11,.func (.func 22) #[] #[.pointer (some ⟨bx,0,none⟩)]),(99,.slice p5 m.globals.length c5),(100,.int .i64 m.globals.length),(101,.int .i64 s.1)]) (fun s=>k9 w.heap.size bx sp im dm ⟨tv',fv,v2,v3,s.2.1,ev⟩ m.types.length tc (X4 m s.1) ig s.2.2++[.aV b ([Pg p0 m.types.length c0,Pg p1 m.imports.length c1,Pg p2 m.funcs.length c2,Pg p3 m.tables.length c3,Pg p4 m.bR.length c4,Pg p5 m.globals.length c5,Pg p6 m.aL.length c6,Ph m.aI,Pf .i64 m.start,Pg p7 m.elems.length c7,Pg p8 m.bg.length c8,v9]:List Value) jF]) (fun s=>[mw w.heap.size tc (m.types.take m.types.length),Ext w]) (fun s=>s.1≤m.globals.length∧Ez s.2.2 (d4 m s.1)) (fun s=>m.globals.length - s.1) (0,gv,fun _=>none) bH (by unfold k9;dsimp only;simp only[Pj,Pi,e4,e5,e6];exact o0) aU ⟨by dsimp only;omega,fun k=>by simp[d4]⟩ ?_
    rintro⟨i,gv4,dg⟩ ⟨hi,hdec⟩
    dsimp only at hi hdec ⊢
    unfold k9
    simp only[Pj,Pi]
    by_cases hlt:i<m.globals.length
    ·obtain⟨b1,o1,rfl,hF,cs5,⟨u0,rfl,q0,q2⟩,hc5⟩:=r5.el hlt
     obtain⟨x2,y2,rfl,z2⟩:=q0.slice
     have e7:(X4 m (i+1)).globals=(X4 m i).globals++[(ix m.globals i).dI]:=by simp[X4,bM hlt]
     have l7:(X4 m i).globals.length≤3000:=by simp[X4];omega
     have d7:pd (d4 m i) (ix m.globals i).nH=d4 m (i+1):=by
      funext k;unfold pd d4;rw[bM hlt,Qc];simp
     refine cq ?_
     refine Ny ?_
     refine aa.alloc [Pf .i64 0,Ph false,Pg none 0 0] rfl rfl rfl fun b13=>?_
     refine cq ?_
     refine bh.dP [0,1,2,3,4,5,6,7,8,9,10] 11 [.aV b13 _ K4,.aV bx [.pointer (some ⟨sp,0,none⟩)] qo,.aV sp [tv',fv,v2,v3,gv4,ev,.int .i64 (X4 m i).bg,.map (some im),.map (some dm)] zl] [] O5 bw aU ?_
     refine mX ?_
     refine Ni ?_
     intro b3 _
     refine Nz ?_
     intro v4 _
     refine mX ?_
     refine bF.pure (φ:=v4.oneCell'=true) (fun w' hw'=>jN (hw'.own (v:=v4))) fun hone=>?_
     refine Nx ?_
     rintro⟨⟩ _
     refine cq ?_
     refine aa.sub (E':=[(1,.pointer (some ⟨b,0,none⟩)),(3,.pointer (some ⟨bx,0,none⟩)),(11,.func (.func 22) #[] #[.pointer (some ⟨bx,0,none⟩)]),(116,.func (.func 22) #[] #[.pointer (some ⟨bx,0,none⟩)]),(118,.slice x2 (ix m.globals i).nH.length y2),(99,.slice (some ⟨b1,o1,none⟩) m.globals.length c5),(100,.int .i64 m.globals.length),(101,.int .i64 i)]) bH (M':=(k9 w.heap.size bx sp im dm ⟨tv',fv,v2,v3,v4,ev⟩ m.types.length tc (X4 m (i+1)) ig dg++[.aV b ([Pg p0 m.types.length c0,Pg p1 m.imports.length c1,Pg p2 m.funcs.length c2,Pg p3 m.tables.length c3,Pg p4 m.bR.length c4,Pg (some ⟨b1,o1,none⟩) m.globals.length c5,Pg p6 m.aL.length c6,Ph m.aI,Pf .i64 m.start,Pg p7 m.elems.length c7,Pg p8 m.bg.length c8,v9]:List Value) jF])) (R':=[mw w.heap.size tc (m.types.take m.types.length),Ext w]) (by unfold k9;simp only[Pj,Pi,e7];exact o0) aU ?_
     refine aa.he (HE.xU (B:=w.heap.size) (R':=[Ext w]) rfl rfl rfl (List.Perm.refl _) aU (fun w' hw' _=>vo F w.heap.size bx sp im dm _ m.types.length tc _ ig dg (d4 m i) (ix m.globals i).nH _ w w' hw' q0 hdec) nP) rfl ?_
     intro dg' hdec'
     rw[d7]at hdec'
     refine cq ?_
     refine ah.next (i+1,v4,dg') bH ?_ aU ⟨by dsimp only;omega,hdec'⟩ O0
     unfold k9;simp only[Pj,Pi];exact o0
    ·obtain rfl:i=m.globals.length:=by omega
     refine cq ?_
     have e8:(X5 m 0).elems=(X4 m m.globals.length).elems:=by simp only[X5,List.take_zero,List.map_nil,List.append_nil];rfl
     refine bh.loop (σ:=Nat×Value×(Int→Option Value)) (fun s=>[(1,.pointer (some ⟨b,0,none⟩)),(3,.pointer (some ⟨bx,0,none⟩)),(11,.func (.func 22) #[] #[.pointer (some ⟨bx,0,none⟩)]),(122,.slice p7 m.elems.length c7),(123,.int .i64 m.elems.length),(124,.int .i64 s.1)]) (fun s=>k9 w.heap.size bx sp im dm ⟨tv',fv,v2,v3,gv4,s.2.1⟩ m.types.length tc (X5 m s.1) ig s.2.2++[.aV b ([Pg p0 m.types.length c0,Pg p1 m.imports.length c1,Pg p2 m.funcs.length c2,Pg p3 m.tables.length c3,Pg p4 m.bR.length c4,Pg p5 m.globals.length c5,Pg p6 m.aL.length c6,Ph m.aI,Pf .i64 m.start,Pg p7 m.elems.length c7,Pg p8 m.bg.length c8,v9]:List Value) jF]) (fun s=>[mw w.heap.size tc (m.types.take m.types.length),Ext w]) (fun s=>s.1≤m.elems.length∧Ez s.2.2 (d5 m s.1 0)) (fun s=>m.elems.length - s.1) (0,ev,dg) bH (by unfold k9;dsimp only;simp only[Pj,Pi,e8];exact o0) aU ⟨by dsimp only;omega,fun k=>by rw[hdec k];simp[d5]⟩ ?_
     rintro⟨i,ev5,dg⟩ ⟨hi,hdec⟩
     dsimp only at hi hdec ⊢
     unfold k9
     simp only[Pj,Pi]
     by_cases hlt:i<m.elems.length
     ·obtain⟨b1,o1,rfl,hF,cs5,⟨u0,u1,rfl,q0,q1,q2⟩,hc5⟩:=r7.el hlt
      obtain⟨x2,y2,rfl,z2⟩:=q0.slice
      obtain⟨x4,y4,rfl,z4⟩:=q1.slice
      have e9:(X5 m (i+1)).elems=(X5 m i).elems++[(ix m.elems i).dI]:=by simp[X5,bM hlt]
      have l9:(X5 m i).elems.length≤3000:=by simp[X5];omega
      refine cq ?_
      refine Ny ?_
      refine aa.alloc [Pf .i64 0,Pf .i64 0,Pg none 0 0,Pf .i64 0,Pg none 0 0] rfl rfl rfl fun b15=>?_
      refine cq ?_
      refine bh.dP [0,1,2,3,4,5,6,7,8,9,10] 11 [.aV b15 _ K3,.aV bx [.pointer (some ⟨sp,0,none⟩)] qo,.aV sp [tv',fv,v2,v3,gv4,ev5,.int .i64 (X5 m i).bg,.map (some im),.map (some dm)] zl] [] O5 bw aU ?_
      refine mX ?_
      refine Ni ?_
      intro b3 _
      refine Nz ?_
      intro v5 _
      refine mX ?_
      refine bF.pure (φ:=v5.oneCell'=true) (fun w' hw'=>jN (hw'.own (v:=v5))) fun hone=>?_
      refine Nx ?_
      rintro⟨⟩ _
      refine cq ?_
      refine bh.loop (σ:=Nat×(Int→Option Value)) (fun s=>[(1,.pointer (some ⟨b,0,none⟩)),(3,.pointer (some ⟨bx,0,none⟩)),(11,.func (.func 22) #[] #[.pointer (some ⟨bx,0,none⟩)]),(122,.slice (some ⟨b1,o1,none⟩) m.elems.length c7),(123,.int .i64 m.elems.length),(124,.int .i64 i),(140,.slice x4 (ix m.elems i).items.length y4),(141,.int .i64 (ix m.elems i).items.length),(142,.int .i64 s.1)]) (fun s=>k9 w.heap.size bx sp im dm ⟨tv',fv,v2,v3,gv4,v5⟩ m.types.length tc (X5 m (i+1)) ig s.2++[.aV b ([Pg p0 m.types.length c0,Pg p1 m.imports.length c1,Pg p2 m.funcs.length c2,Pg p3 m.tables.length c3,Pg p4 m.bR.length c4,Pg p5 m.globals.length c5,Pg p6 m.aL.length c6,Ph m.aI,Pf .i64 m.start,Pg (some ⟨b1,o1,none⟩) m.elems.length c7,Pg p8 m.bg.length c8,v9]:List Value) jF]) (fun s=>[mw w.heap.size tc (m.types.take m.types.length),Ext w]) (fun s=>s.1≤(ix m.elems i).items.length∧Ez s.2 (d5 m i s.1)) (fun s=>(ix m.elems i).items.length - s.1) (0,dg) bH (by unfold k9;dsimp only;simp only[Pj,Pi,e9];exact o0) aU ⟨by dsimp only;omega,hdec⟩ ?_
      rintro⟨j,dg6⟩ ⟨hj,hdec6⟩
      dsimp only at hj hdec6 ⊢
      by_cases hjl:j<(ix m.elems i).items.length
      ·obtain⟨b7,o7,rfl,-,u7,c7_,hu7⟩:=q1.el hjl
       rw[Nat.mul_one]at c7_
       obtain⟨x8,y8,rfl,-⟩:=hu7.slice
       have d8:pd (d5 m i j) (ix (ix m.elems i).items j)=d5 m i (j+1):=by
        funext k;unfold pd d5;rw[bM hjl,Qc,Bool.or_assoc];simp
       refine cq ?_
       refine aa.he (HE.xU (B:=w.heap.size) (R':=[Ext w]) rfl rfl rfl (List.Perm.refl _) aU (fun w' hw' _=>vo F w.heap.size bx sp im dm _ m.types.length tc _ ig dg6 (d5 m i j) (ix (ix m.elems i).items j) _ w w' hw' hu7 hdec6) nP) rfl ?_
       intro dg' hdec'
       rw[d8]at hdec'
       refine cq ?_
       exact ah.next (j+1,dg') bH OG aU ⟨by dsimp only;omega,hdec'⟩ O0
      ·obtain rfl:j=(ix m.elems i).items.length:=by omega
       have d9:d5 m i (ix m.elems i).items.length=d5 m (i+1) 0:=by
        funext k;unfold d5;rw[Pu,bM hlt,Qc];simp[Bool.or_assoc]
       rw[d9]at hdec6
       refine cq ?_
       exact ah.next (i+1,v5,dg6) bH (by unfold k9;dsimp only;simp only[Pj,Pi];exact o0) aU ⟨by dsimp only;omega,hdec6⟩ O0
     ·obtain rfl:i=m.elems.length:=by omega
      refine cq ?_
      refine bh.loop (σ:=Nat×(Int→Option Value)) (fun s=>[(1,.pointer (some ⟨b,0,none⟩)),(3,.pointer (some ⟨bx,0,none⟩)),(11,.func (.func 22) #[] #[.pointer (some ⟨bx,0,none⟩)]),(152,.slice p6 m.aL.length c6),(153,.int .i64 m.aL.length),(154,.int .i64 s.1)]) (fun s=>k9 w.heap.size bx sp im dm ⟨tv',fv,v2,v3,gv4,ev5⟩ m.types.length tc (X5 m m.elems.length) ig s.2++[.aV b ([Pg p0 m.types.length c0,Pg p1 m.imports.length c1,Pg p2 m.funcs.length c2,Pg p3 m.tables.length c3,Pg p4 m.bR.length c4,Pg p5 m.globals.length c5,Pg p6 m.aL.length c6,Ph m.aI,Pf .i64 m.start,Pg p7 m.elems.length c7,Pg p8 m.bg.length c8,v9]:List Value) jF]) (fun s=>[mw w.heap.size tc (m.types.take m.types.length),Ext w]) (fun s=>s.1≤m.aL.length∧Ez s.2 (d6 m s.1)) (fun s=>m.aL.length - s.1) (0,dg) bH (by unfold k9;dsimp only;simp only[Pj,Pi];exact o0) aU ⟨by dsimp only;omega,fun k=>by rw[hdec k];simp[d5,d6]⟩ ?_
      rintro⟨i,dg⟩ ⟨hi,hdec⟩
      dsimp only at hi hdec ⊢
      unfold k9
      simp only[Pj,Pi]
      by_cases hlt:i<m.aL.length
      ·obtain⟨b1,o1,rfl,hF,he⟩:=r6.el hlt
       have hri:=he.ya
       obtain⟨cs9,hV9,hc9⟩:=he
       obtain⟨rfl,-⟩:=hV9
       have hnx:∀k,d6 m (i+1) k=(d6 m i k || (decide ((ix m.aL i).kind=0) && decide ((ix m.aL i).index=k))):=fun k=>by
        unfold d6;rw[bM hlt,Qc];simp[Bool.or_assoc]
       refine cq ?_
       refine aa.y_ (Yl.ji rfl rfl rfl ak Pe Pe hc9) rfl ?_
       refine aa.alloc [Pk ⟨#[]⟩,Pf .i64 0,Pf .i64 0] rfl rfl rfl fun b19=>?_
       refine cq ?_
       by_cases hk0:(ix m.aL i).kind=0
       ·refine cq ?_
        refine bh.dP [0,1,2,3,4,5] 6 [.aV b19 _ JG,.aV bx [.pointer (some ⟨sp,0,none⟩)] qo,.aV sp [tv',fv,v2,v3,gv4,ev5,.int .i64 (X5 m m.elems.length).bg,.map (some im),.map (some dm)] zl] [] O5 bw aU ?_
        refine mX ?_
        refine bF.iM (gj.mapUpdate underlying78 underlying3 rfl rfl rfl hri aH) rfl ?_
        rintro⟨⟩ _
        refine cq ?_
        refine ah.next (i+1,put dg (ix m.aL i).index (.bool true)) bH (by dsimp only;exact o0) aU ⟨by dsimp only;omega,fun k=>?_⟩ O0
        dsimp only
        rw[hdec.put _ k,hnx k];simp[hk0]
       ·refine cq ?_
        refine ah.next (i+1,dg) bH (by dsimp only;exact o0) aU ⟨by dsimp only;omega,fun k=>?_⟩ O0
        dsimp only
        rw[hdec k,hnx k];simp[hk0]
      ·obtain rfl:i=m.aL.length:=by omega
       refine cq ?_
       refine aa.box [Value.pointer (some ⟨sp,0,none⟩)] rfl rfl rfl fun bS=>?_
       refine cq ?_
       refine ah.aF rfl rfl fun w' hw'=>?_
       have hbig:∀k,Mb _ k→k<w.heap.size→False:=hw'.origin (S:=fun _=>False) (w0:=w) ak
       have hx:Ext w w':=hw'.at
       have hty:mw w.heap.size tc (m.types.take m.types.length) w':=hw'.at
       rw[Pu]at hty
       have o1:=hw'.own (v:=fv)
       have o2:=hw'.own (v:=v2)
       have o3:=hw'.own (v:=v3)
       have o4:=hw'.own (v:=gv4)
       have o5:=hw'.own (v:=ev5)
       have o6:=hw'.own (v:=tv')
       have hge:∀q:bu,q∈_→∀k,q.F k→w.heap.size≤k:=fun q hq k hk=>by
        rcases Nat.lt_or_ge k w.heap.size with h|h
        ·exact(hbig k ⟨q,hq,hk⟩ h).elim
        ·exact h
       refine⟨⟨_,rfl,bS,sp,im,dm,⟨tv',fv,v2,v3,gv4,ev5⟩,tc,ig,dg,rfl,⟨hge (.aV bS [.pointer (some ⟨sp,0,none⟩)] xK) bO bS rfl,hge (.aV sp [tv',fv,v2,v3,gv4,ev5,.int .i64 (X5 m m.elems.length).bg,.map (some im),.map (some dm)] zl) bO sp rfl,hge (.iv im ig) bO im rfl,hge (.iv dm dg) bO dm rfl⟩,⟨(hw'.m (.aV bS [.pointer (some ⟨sp,0,none⟩)] xK) bO).1,(hw'.m (.aV sp [tv',fv,v2,v3,gv4,ev5,.int .i64 (X5 m m.elems.length).bg,.map (some im),.map (some dm)] zl) bO).1,o1,o2,o3,o4,o5,o6,(hw'.m (.iv im ig) bO).1,(hw'.m (.iv dm dg) bO).1,hcnt,hdec,hty⟩⟩,hx⟩
def rn (m:af) (k:Int):List bY:=m.imports.filter fun x=>decide (x.kind=k)
def gI (m:af):List Int:=(rn m 0).map (·.func)++m.funcs.map (·.dI)
def bL (m:af):List fH:=(rn m 1).map (·.table)++m.tables
def dZ (m:af):List ft:=(rn m 2).map (·.mem)++m.bR
def fZ (m:af):List iK:=(rn m 3).map (·.ff)++m.globals.map (·.dI)
def dN (m:af):List Int:=m.elems.map (·.dI)
theorem Df (l:List bY) (X:pI):l.foldl pI.iS X={X with funcs:=X.funcs++(l.filter fun x=>decide (x.kind=0)).map (·.func),tables:=X.tables++(l.filter fun x=>decide (x.kind=1)).map (·.table),bR:=X.bR++(l.filter fun x=>decide (x.kind=2)).map (·.mem),globals:=X.globals++(l.filter fun x=>decide (x.kind=3)).map (·.ff)}:=by
 induction l generalizing X with
 |nil=>simp
 |cons a r ih=>
  rw[List.foldl_cons,ih]
  unfold pI.iS
  by_cases h0:a.kind=0
  ·simp[h0]
  by_cases h1:a.kind=1
  ·simp[h1]
  by_cases h2:a.kind=2
  ·simp[h2]
  by_cases h3:a.kind=3
  ·simp[h3]
  simp[h0,h1,h2,h3]
theorem pZ:wN m=⟨gI m,bL m,dZ m,fZ m,dN m,m.bg.length⟩:=by
 unfold wN X5 X4 X3 X2 X1 A4
 rw[Df]
 simp[X0,gI,bL,dZ,fZ,dN,rn]
def cJ {α:Type} [Inhabited α] (l:List α) (i:Int):Option α:=if 0≤i∧i<l.length then some (ix l i.toNat)else none
def kV (l:List bY) (k:Int):Int→Option bY:=match l with
 |[]=>fun _=>none
 |a::r=>fun i=>if a.kind≠k then kV r k i else if i=0 then some a else kV r k (i - 1)
theorem tO (k:Int):∀(l:List bY) (i:Int),i<0→kV l k i=none
 |[],_,_=>rfl
 |a::r,i,h=>by
  unfold kV
  split
  ·exact tO k r i h
  ·rw[if_neg Pc];exact tO k r (i - 1) Pc
theorem yo (k:Int):∀(l:List bY) (i:Nat),kV l k i=(l.filter fun x=>decide (x.kind=k))[i]?
 |[],i=>by simp[kV]
 |a::r,i=>by
  unfold kV
  by_cases h:a.kind=k
  ·rw[if_neg (by simp[h]),List.filter_cons_of_pos O4]
   cases i with
   |zero=>simp
   |succ i=>rw[if_neg Pc,show((i+1:Nat):Int) - 1=(i:Int)by omega,yo k r i];simp
  ·rw[if_pos h,List.filter_cons_of_neg O4];exact yo k r i
theorem Gq [Inhabited α] (f:bY→α) (l:List bY) (k:Int) (own:List α) (i:Int):
  cJ ((l.filter fun x=>decide (x.kind=k)).map f++own) i=match kV l k i with
   |some x=>some (f x)
   |none=>if 0≤i then cJ own (i - (l.filter fun x=>decide (x.kind=k)).length)else none:=by
 generalize hf:l.filter (fun x=>decide (x.kind=k))=fl
 by_cases h0:0≤i
 ·obtain⟨j,rfl⟩:=Int.eq_ofNat_of_zero_le h0
  rw[yo,hf]
  by_cases hj:j<fl.length
  ·rw[Pq hj]
   unfold cJ
   rw[if_pos ⟨h0,by simp;omega⟩]
   congr 1
   rw[Int.toNat_natCast,cz O8,List.getElem_append_left (by simpa using hj)]
   simp
  ·rw[List.getElem?_eq_none Pc,if_pos h0]
   unfold cJ
   by_cases h1:j<fl.length+own.length
   ·rw[if_pos ⟨h0,by simp;omega⟩,if_pos ⟨by omega,by omega⟩]
    congr 1
    rw[Int.toNat_natCast,gJ O8]
    congr 1
    simp
   ·rw[if_neg O8,if_neg Pc]
 ·rw[tO k l i Pc,if_neg h0]
  unfold cJ
  rw[if_neg Pc]
section
variable {ops:Array Oper} {Q:Exit→Act→World→Prop} {n:Nat} {E:Env} {M M':List bu} {R R':List (World→Prop)} {v:Value} {x y z:Operand} {t t2:TypeId} {C:World→Prop}
theorem Yl.oU {ti:TypeId} {ad:Addr} (ht:G.P.underlying t=some (.pointer ti)) (hx:ev E x=some (.pointer (some ad))) (hy:ev E y=some (.pointer none)):Yl G n (.binOp .eql t x y t2) E C (.bool false):=
 ⟨fun w _ a ha d ty pos aft gd=>by
  have h2:∀m,(Op.equalIn (m+1) t (.pointer (some ad)) (.pointer none)).run G.P w=.ok false w:=by
   intro m;simp[Op.equalIn,run_underlying ht]
  have h3:(Op.equal t (.pointer (some ad)) (.pointer none)).run G.P w=.ok false w:=h2 9999
  simp[execOp,ha.eval hx,ha.eval hy,eqGuard,binOp,h3]⟩
theorem Yl.GP {k e:TypeId} {zv:Value} {bm:Nat} {g:Int→Option Value} {a:Int} {w0:World} (ht:G.P.underlying t=some (.map k e)) (hk:G.P.underlying k=some (.int .i64)) (hzv:∀w,(zeroValue e).run G.P w=.ok zv w) (hx:ev E x=some (.map (some bm))) (hy:ev E y=some (.int .i64 a)) (ha:eO a)
  (hM:IV w0 bm g) (hR:Ext w0∈R):Yl G n (.lookup t x y false) E (Ok M R) ((g a).getD zv):=
 ⟨fun w hw ac hac d ty pos aft gd=>by
  have:=xm (t:=t) ht hk hzv (hM.aP (show Ext w0 w from hw.get hR) (fun h=>h)) (AX ha)
  simp[execOp,hac.eval hx,hac.eval hy,this]⟩
end
theorem jD (bS sp:Nat) (w:World) (hb:gO w bS [.pointer (some ⟨sp,0,none⟩)] xK):Calls G.P 78 #[.pointer (some ⟨bS,0,none⟩)] w fun e w'=>e=.returned (.pointer (some ⟨sp,0,none⟩))∧Ext w w':=by
 have c0:w.cell? ⟨bS,0,none⟩=some (.pointer (some ⟨sp,0,none⟩)):=hb.cell rfl
 refine ae (l:=[.pointer (some ⟨bS,0,none⟩)]) func78 rfl ntmps78 rfl (Ok.start w) ?_
 refine cq ?_
 refine aa.y_ (Yl.oU underlying39 rfl rfl) rfl ?_
 refine cq ?_
 refine aa.yg rfl (Yl.oU underlying76 rfl rfl) rfl ?_
 refine cq ?_
 exact ci
structure aN (l:List Oper) (Q:Exit→Act→World→Prop) (Mc:List bu) (Rc:List (World→Prop)) (n fuel:Nat) (listed:Array Bool) (E:Env) (M:List bu) (R:List (World→Prop)):Prop where
 h:∀w,Ok M R w→Ok Mc Rc w→zb .any l.toArray listed→∀a,Ag n a E→ny G.P .any l.toArray (Ok Mc Rc) l.length (Q .normal) fuel listed a w
structure ax (l:List Oper) (Q:Exit→Act→World→Prop) (Mc:List bu) (Rc:List (World→Prop)) (n fuel:Nat) (listed:Array Bool) (i:Nat) (E:Env) (M:List bu) (R:List (World→Prop)):Prop where
 h:∀w,Ok M R w→Ok Mc Rc w→zb .any l.toArray listed→i∈Region.ready .any l.toArray listed→∀a,Ag n a E→vN G.P l.toArray (Ok Mc Rc) l.length i (ny G.P .any l.toArray (Ok Mc Rc) l.length (Q .normal) fuel (listed.setIfInBounds i true)) a w
section
variable {l:List Oper} {Q:Exit→Act→World→Prop} {Mc:List bu} {Rc:List (World→Prop)} {n fuel:Nat} {listed:Array Bool} {E:Env} {M:List bu} {R:List (World→Prop)} {d:Nat} {op:Op} {ty:TypeId} {pos:String} {aft:Array Edge} {v:Value} {β:Type} {φ:β→Prop} {vf:β→Value} {Mf:β→List bu} {Rf:β→List (World→Prop)}
theorem bh.cF {id:Nat} (Mc:List bu) (Rc:List (World→Prop)) (hM:Mc.Sublist M) (hR:∀p,p∈Rc→p∈R) (h:aN l Q Mc Rc n l.length (Array.replicate l.length false) E M R):bh Q n (.region id l.toArray true) E M R:=
 ⟨fun w hw=>⟨fun a ha=>wp_region_any G.mixed (nB (C:=Ok Mc Rc) (z:=l.length) (K:=Q .normal) (fun _ _ h=>h) _ _ _ _ (by
  have:=h.h w.drew hw.drew (hw.drew.sub hM hR) (zb.start _) a ha
  simpa using this))⟩⟩
theorem aN.q (k:Nat) (hk:l[k]?=some ⟨some d,op,ty,pos,aft,none⟩) (hc:(Region.noSelect l.toArray && (Region.ready .any l.toArray listed).contains k && Region.free .any l.toArray listed k && qi op && Pn d n)=true) (hy:Yl G n op E (Ok Mc Rc) v)
  (h:aN l Q Mc Rc n fuel (listed.setIfInBounds k true) ((d,v)::E) M R):aN l Q Mc Rc n (fuel+1) listed E M R:=⟨fun w hw hC hcl a ha=>by
 simp only[Bool.and_eq_true]at hc
 obtain⟨⟨⟨⟨h1,h2⟩,h3⟩,h4⟩,h5⟩:=hc
 have hkl:k<l.length:=(PL.1 hk).1
 have ho:l.toArray[k]?=some ⟨some d,op,ty,pos,aft,none⟩:=by simpa using hk
 have hkr:k∈Region.ready .any l.toArray listed:=by simpa using h2
 exact nz ho (Region.noSelect_spec h1) (fun _ _ _ _=>J6) Pc fuel listed a w hC hcl (Region.free_spec ho h3) hkr (.inl ⟨by simp[Region.wanted],fun w hw=>hy.h w hw a ha _ _ _ _ _⟩) (h.h w hw hC (hcl.set hkr) _ (ha.put (by simpa using h5) v))⟩
theorem aN.nil (hr:Region.ready .any l.toArray listed=[]) (h:ah Q n .normal E M R):aN l Q Mc Rc n fuel listed E M R:=⟨fun w hw hC hcl a ha=>by
 cases fuel with
 |zero=>exact⟨hr,(h.h w hw).h a ha⟩
 |succ f=>exact⟨fun _=>(h.h w hw).h a ha,fun i hi=>by rw[hr]at hi;cases hi⟩⟩
theorem ax.he {i:Nat} (hi:l[i]?=some ⟨some d,op,ty,pos,aft,none⟩) (hd:Pn d n=true) (he:HE n op E M R φ vf Mf Rf) (hM:∀x,Mc.Sublist (Mf x)) (hR:∀x p,p∈Rc→p∈Rf x) (h:∀x,φ x→aN l Q Mc Rc n fuel (listed.setIfInBounds i true) ((d,vf x)::E) (Mf x) (Rf x)):ax l Q Mc Rc n fuel listed i E M R:=⟨fun w hw hC hcl hr a ha=>by
 have ho:l.toArray[i]?=some ⟨some d,op,ty,pos,aft,none⟩:=by simpa using hi
 unfold vN
 simp only[ho]
 have hw':Region.wanted ⟨some d,op,ty,pos,aft,none⟩ (yielded l.toArray a.tmps)=true:=by simp[Region.wanted]
 simp only[hw',if_true]
 exact dx ((he.h w hw).h a ha _ _ _ _ _) fun v w2 ⟨x,h1,h2,h3⟩=>by
  subst h2
  exact⟨.inr (h3.sub (hM x) (hR x)),(h x h1).h w2 h3 (h3.sub (hM x) (hR x)) (hcl.set hr) _ (ha.put (by simpa using hd) _)⟩⟩
theorem ax.jQ {i:Nat} (hi:l[i]?=some ⟨none,op,ty,pos,aft,none⟩) (he:gj n op E M R φ Mf Rf) (hM:∀x,Mc.Sublist (Mf x)) (hR:∀x p,p∈Rc→p∈Rf x) (h:∀x,φ x→aN l Q Mc Rc n fuel (listed.setIfInBounds i true) E (Mf x) (Rf x)):ax l Q Mc Rc n fuel listed i E M R:=⟨fun w hw hC hcl hr a ha=>by
 have ho:l.toArray[i]?=some ⟨none,op,ty,pos,aft,none⟩:=by simpa using hi
 unfold vN
 simp only[ho]
 have hw':Region.wanted ⟨none,op,ty,pos,aft,none⟩ (yielded l.toArray a.tmps)=true:=by simp[Region.wanted]
 simp only[hw',if_true]
 exact dx ((he.h w hw).h a ha _ _ _ _ _) fun v w2 ⟨x,h1,h3⟩=>
  ⟨.inr (h3.sub (hM x) (hR x)),(h x h1).h w2 h3 (h3.sub (hM x) (hR x)) (hcl.set hr) _ ha⟩⟩
end
end Go.Proofs.YtdkcljdfbemnbaaGreatDoor
