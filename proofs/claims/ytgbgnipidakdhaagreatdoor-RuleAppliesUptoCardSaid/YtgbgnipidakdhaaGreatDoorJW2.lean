/- Small functions over texts: HasPrefix; opcode.of, begins. -/
import Derived.Test.YtgbgnipidakdhaaGreatDoorJIo
import Derived.Test.YtgbgnipidakdhaaGreatDoorJM2
import Derived.Test.YtgbgnipidakdhaaGreatDoorJSh
import Derived.Test.YtgbgnipidakdhaaGreatDoorJF2
namespace Go.Proofs.YtgbgnipidakdhaaGreatDoor
open Go.RowKit
set_option maxRecDepth 100000
abbrev gz (s:ByteArray):List UInt8:=s.data.toList
theorem j7 (s:ByteArray):(gz s).length=s.size:=rfl
def fG (s p:List UInt8):Bool:=p.length≤s.length && s.take p.length==p
theorem jr (s:ByteArray) (i j:Nat):gz (s.extract i j)=((gz s).take j).drop i:=by
 simp only[gz,ByteArray.data_extract,Array.toList_extract,List.extract_eq_drop_take']
theorem rM (s p:ByteArray) (w:World):Calls G.P 168 #[.string s,.string p] w fun e w'=>e=.returned (.bool (fG (gz s) (gz p)))∧w=w':=by
 refine enter (G:=G) Tryz.func168 rfl Tryz.ntmps168 rfl ?_
 have hs:=j7 s
 have hp:=j7 p
 by_cases h:p.size≤s.size
 ·refine bT ?_
  refine Fin.aB rfl rfl ⟨?_,rfl⟩
  unfold fG
  rw[hp,hs,decide_eq_true h,Bool.true_and,←hp]
  congr 2
  have:=jr s 0 p.size
  rw[List.drop_zero]at this
  rw[hp];exact congrArg (·==gz p) this
 ·refine bT ?_
  refine Fin.aB rfl rfl ⟨?_,rfl⟩
  unfold fG
  rw[hp,hs,decide_eq_false h,Bool.false_and]
theorem dQ (s p:ByteArray) (w:World):Calls G.P 141 #[.string s,.string p] w fun e w'=>e=.returned (.bool (fG (gz s) (gz p)))∧w=w':=by
 refine enter (G:=G) Tryz.func141 rfl Tryz.ntmps141 rfl ?_
 refine bT ?_
 refine aw.call rfl rfl rfl (rM s p w) ?_
 rintro _ _ ⟨rfl,rfl⟩
 refine⟨_,rfl,?_⟩
 refine bT ?_
 exact Fin.aB rfl rfl ⟨rfl,rfl⟩
def DZ (s:List UInt8):Int:=if fG s [105,54,52]then 2 else 1
theorem nG (s:ByteArray) (w:World):Calls G.P 143 #[.string s] w fun e w'=>e=.returned (.int .i64 (DZ (gz s)))∧w=w':=by
 refine enter (G:=G) Tryz.func143 rfl Tryz.ntmps143 rfl ?_
 refine bT ?_
 refine aw.call rfl rfl rfl (dQ s _ w) ?_
 rintro _ _ ⟨rfl,rfl⟩
 refine⟨_,rfl,?_⟩
 unfold DZ
 cases fG (gz s) [105,54,52]<;>(refine bT ?_;exact Fin.aB rfl rfl ⟨rfl,rfl⟩)
theorem bU (a b:Option Addr) (l c l2 c2:Nat) (w:World):Calls G.P 139 #[.slice a l c,.slice b l2 c2] w fun e w'=>e=.returned (.agg #[.slice a l c,.slice b l2 c2])∧Ext w w':=by
 refine enter (G:=G) Tryz.func139 rfl Tryz.ntmps139 rfl ?_
 refine bT ?_
 refine aw.e (ck.alloc rfl) rfl ?_
 rintro _ w1 ⟨rfl,hn⟩
 refine bT ?_
 refine aw.e0 (ck.bn (ti:=gW) (cs:=[.slice a l c,.slice b l2 c2]) rfl rfl rfl rfl rfl (by simp[Value.oneCell']) hn.aT rfl) ?_
 rintro _ w2 ⟨hb,hc,_⟩
 refine bT ?_
 exact Fin.a6 (.inl rfl) rfl rfl rfl rfl rfl hb rfl ⟨rfl,cg.trans' hn.ext hc (fun k hk e=>by omega)⟩
structure fu (w:World):Prop where
 G9:∀c:Nat,c<256→w.cell? ⟨0,c,none⟩=some (.int .u8 (if Lib.isSp (UInt8.ofNat c)then 1 else 0))
 mx:∃m,w.cell? ⟨1,0,none⟩=some (.int .i64 m)
theorem fu.ext {w w':World} (h:fu w) (hx:Ext w w'):fu w':=⟨fun c hc=>hx.cell (h.G9 c hc),by obtain⟨m,hm⟩:=h.mx;exact⟨m,hx.cell hm⟩⟩
theorem fu.put {W:World} {l:Nat} {o o':Obj} (h:fu W) (hl:W.heap[l]?=some o) (ho:o.isCells=false):fu (W.putObj l o'):=by
 have key:∀{p:Addr} {v:Value},W.cell? p=some v→(W.putObj l o').cell? p=some v:=fun{p v} hc=>by
  have hne:p.block≠l:=by
   intro e
   unfold World.cell? at hc
   rw[e,hl]at hc
   cases o<;>simp_all [Obj.isCells]
  rw[World.cell?_of_block (w:=W) (by simp[World.putObj,Ne.symm hne])];exact hc
 exact⟨fun c hc=>key (h.G9 c hc),by obtain⟨m,hm⟩:=h.mx;exact⟨m,key hm⟩⟩
def cG:List (Int×List UInt8×List UInt8):=[(0,[],[117,110,114,101,97,99,104,97,98,108,101,32,110,111,112,32,98,108,111,99,107,32,108,111,111,112,32,105,102,32,101,108,115,101]),(11,[],[101,110,100,32,98,114,32,98,114,95,105,102,32,98,114,95,116,97,98,108,101,32,114,101,116,117,114,110,32,99,97,108,108,32,99,97,108,108,95,105,110,100,105,114,101,99,116]),(26,[],[100,114,111,112,32,115,101,108,101,99,116,32,115,101,108,101,99,116]),(32,[108,111,99,97,108,46],[103,101,116,32,115,101,116,32,116,101,101]),(35,[103,108,111,98,97,108,46],[103,101,116,32,115,101,116]),(37,[116,97,98,108,101,46],[103,101,116,32,115,101,116]),(40,[],[105,51,50,46,108,111,97,100,32,105,54,52,46,108,111,97,100]),(44,[105,51,50,46],[108,111,97,100,56,95,115,32,108,111,97,100,56,95,117,32,108,111,97,100,49,54,95,115,32,108,111,97,100,49,54,95,117]),(48,[105,54,52,46],[108,111,97,100,56,95,115,32,108,111,97,100,56,95,117,32,108,111,97,100,49,54,95,115,32,108,111,97,100,49,54,95,117,32,108,111,97,100,51,50,95,115,32,108,111,97,100,51,50,95,117]),(54,[],[105,51,50,46,115,116,111,114,101,32,105,54,52,46,115,116,111,114,101]),(58,[105,51,50,46],[115,116,111,114,101,56,32,115,116,111,114,101,49,54]),(60,[105,54,52,46],[115,116,111,114,101,56,32,115,116,111,114,101,49,54,32,115,116,111,114,101,51,50]),(63,[109,101,109,111,114,121,46],[115,105,122,101,32,103,114,111,119]),(65,[],[105,51,50,46,99,111,110,115,116,32,105,54,52,46,99,111,110,115,116]),(69,[105,51,50,46],[101,113,122,32,101,113,32,110,101,32,108,116,95,115,32,108,116,95,117,32,103,116,95,115,32,103,116,95,117,32,108,101,95,115,32,108,101,95,117,32,103,101,95,115,32,103,101,95,117]),(80,[105,54,52,46],[101,113,122,32,101,113,32,110,101,32,108,116,95,115,32,108,116,95,117,32,103,116,95,115,32,103,116,95,117,32,108,101,95,115,32,108,101,95,117,32,103,101,95,115,32,103,101,95,117]),(103,[105,51,50,46],[99,108,122,32,99,116,122,32,112,111,112,99,110,116,32,97,100,100,32,115,117,98,32,109,117,108,32,100,105,118,95,115,32,100,105,118,95,117,32,114,101,109,95,115,32,114,101,109,95,117,32,97,110,100,32,111,114,32,120,111,114,32,115,104,108,32,115,104,114,95,115,32,115,104,114,95,117,32,114,111,116,108,32,114,111,116,114]),(121,[105,54,52,46],[99,108,122,32,99,116,122,32,112,111,112,99,110,116,32,97,100,100,32,115,117,98,32,109,117,108,32,100,105,118,95,115,32,100,105,118,95,117,32,114,101,109,95,115,32,114,101,109,95,117,32,97,110,100,32,111,114,32,120,111,114,32,115,104,108,32,115,104,114,95,115,32,115,104,114,95,117,32,114,111,116,108,32,114,111,116,114]),(167,[],[105,51,50,46,119,114,97,112,95,105,54,52]),(172,[105,54,52,46],[101,120,116,101,110,100,95,105,51,50,95,115,32,101,120,116,101,110,100,95,105,51,50,95,117]),(192,[105,51,50,46],[101,120,116,101,110,100,56,95,115,32,101,120,116,101,110,100,49,54,95,115]),(194,[105,54,52,46],[101,120,116,101,110,100,56,95,115,32,101,120,116,101,110,100,49,54,95,115,32,101,120,116,101,110,100,51,50,95,115]),(208,[114,101,102,46],[110,117,108,108,32,105,115,95,110,117,108,108,32,102,117,110,99]),(64520,[],[109,101,109,111,114,121,46,105,110,105,116,32,100,97,116,97,46,100,114,111,112,32,109,101,109,111,114,121,46,99,111,112,121,32,109,101,109,111,114,121,46,102,105,108,108,32,116,97,98,108,101,46,105,110,105,116,32,101,108,101,109,46,100,114,111,112,32,116,97,98,108,101,46,99,111,112,121,32,116,97,98,108,101,46,103,114,111,119,32,116,97,98,108,101,46,115,105,122,101,32,116,97,98,108,101,46,102,105,108,108])]
def BL (r:Int×List UInt8×List UInt8):List Value:=[.int .i64 r.1,.string ⟨r.2.1.toArray⟩,.string ⟨r.2.2.toArray⟩]
def jW:List Value:=cG.flatMap BL
def opsOf (r:Int×List UInt8×List UInt8):List (Int×ByteArray):=(Lib.fields r.2.2).zipIdx.map fun p=>(r.1+p.2,⟨r.2.1.toArray⟩++⟨p.1.toArray⟩)
def wF:List (Int×ByteArray):=cG.flatMap opsOf
theorem ye (w:World):Calls G.P 184 #[] w fun e w'=>e=.returned (.slice (some ⟨w.heap.size,0,none⟩) 24 24)∧Aw w w' jW 247:=by
 refine enter (G:=G) Tryz.func184 rfl Tryz.ntmps184 rfl ?_
 refine bT ?_
 refine aw.e (ck.buildSlice (cs:=jW) (e:=247) rfl L9) rfl ?_
 rintro _ w1 ⟨rfl,hn⟩
 refine bT ?_
 exact Fin.aB rfl rfl ⟨rfl,hn⟩
theorem xm:jW=(List.range 24).flatMap (fun i=>BL (ix cG i)):=by kernel_rfl
theorem o0:cG.length=24:=rfl
theorem EU:∀i,i<24→0≤(ix cG i).1∧(ix cG i).1≤70000∧(ix cG i).2.1.length≤100∧(ix cG i).2.2.length≤1000∧((ix cG i).2.2.all fun b=>decide (b.toNat<128))=true∧((Lib.fields (ix cG i).2.2).all fun f=>decide (f.length≤100))=true∧(Lib.fields (ix cG i).2.2).length≤100:=by decide+kernel
def Cz (r:Int×List UInt8×List UInt8) (k:Nat):Int×ByteArray:=(r.1+k,⟨r.2.1.toArray⟩++⟨(ix (Lib.fields r.2.2) k).toArray⟩)
theorem ux (r:Int×List UInt8×List UInt8):(opsOf r).length=(Lib.fields r.2.2).length:=by simp[opsOf]
theorem yU {r:Int×List UInt8×List UInt8} {k:Nat} (h:k<(Lib.fields r.2.2).length):(opsOf r).take (k+1)=(opsOf r).take k++[Cz r k]:=by
 have hl:k<(opsOf r).length:=by rw[ux];exact h
 rw[List.take_succ_eq_append_getElem hl]
 congr 2
 simp only[opsOf,List.getElem_map,List.getElem_zipIdx,Cz,cD h]
 simp
def ns (i k:Nat):List (Int×ByteArray):=(cG.take i).flatMap opsOf++(opsOf (ix cG i)).take k
theorem Db {i k:Nat} (hi:i<24):ns i k<+:wF:=by
 refine⟨(opsOf (ix cG i)).drop k++(cG.drop (i+1)).flatMap opsOf,?_⟩
 have e:cG=cG.take i++([ix cG i]++cG.drop (i+1)):=by
  rw[←List.append_assoc,←bE (by rw[o0];exact hi),List.take_append_drop]
 unfold ns wF
 conv=>rhs;rw[e]
 simp only[List.flatMap_append,List.flatMap_cons,List.flatMap_nil,List.append_nil]
 rw[List.append_assoc,←List.append_assoc (List.take k _),List.take_append_drop]
theorem A1 {i:Nat} (hi:i<24):ns i (Lib.fields (ix cG i).2.2).length=ns (i+1) 0:=by
 unfold ns
 rw[←ux,List.take_length,List.take_zero,List.append_nil,bE (by rw[o0];exact hi),List.flatMap_append]
 simp
theorem BQ:ns 24 0=wF:=by unfold ns wF;rw[List.take_zero,List.append_nil,←o0,List.take_length]
def TK (T:TypeId):Prop:=T=247∨T=9∨T=163
structure yq (B:Nat) (W W':World):Prop where
 size:W.heap.size≤W'.heap.size
 same:∀(k:Nat) (cs:List Value) (T:TypeId),B≤k→TK T→gO W k cs T→gO W' k cs T
 env:fu W→fu W'
theorem yq.refl (B:Nat) (W:World):yq B W W:=⟨Nat.le_refl _,fun _ _ _ _ _ h=>h,id⟩
theorem yq.trans {B:Nat} {X Y Z:World} (h:yq B X Y) (k:yq B Y Z):yq B X Z:=⟨Nat.le_trans h.size k.size,fun i cs T hB hT hi=>k.same i cs T hB hT (h.same i cs T hB hT hi),fun e=>k.env (h.env e)⟩
theorem yq.put {B:Nat} {W:World} {l:Nat} {o o':Obj} (hl:W.heap[l]?=some o) (ho:o.isCells=false):yq B W (W.putObj l o'):=
 ⟨by simp[World.putObj],fun k cs T _ _ hk=>by
  have:k≠l:=by rintro rfl;unfold gO at hk;rw[hl]at hk;cases hk;cases ho
  unfold gO;rw[World.putObj_heap_other this];exact hk,fun e=>e.put hl ho⟩
theorem yq.aT {B:Nat} {W W':World} (h:yq B W W') {b:Nat} {cs:List Value} {T:TypeId} (hb:gO W b cs T) (hB:B≤b) (hT:TK T):gO W' b cs T:=h.same b cs T hB hT hb
theorem Ext.grown {W W':World} (h:Ext W W'):W.grownBy W' none:=⟨h.os,h.tape,h.output,h.size,fun k hk _=>h.block k hk id⟩
def Ff (x:Int×ByteArray):List Value:=[.int .i64 x.1,.string x.2]
theorem A2 {ro ro':Option Nat} {m m':Nat} {l:Nat} {args:Array Value} {W:World} {R:Ending→World→Prop} (h:YieldAt (FW ro) m G.P l args W R):YieldAt (FW ro') m' G.P l args W R:=by
 obtain⟨fn,tmps,assign,body,hy,hR⟩:=h
 exact⟨fn,tmps,assign,body,hy,trivial,fun c cs _=>hR.2 c cs (fun d hd=>by cases hd)⟩
set_option maxHeartbeats 4000000 in
theorem zE (w0:World) (h0:fu w0) (l:Nat) (J Jx:List (Int×ByteArray)→World→Prop) (W:World) (hW:Below w0.heap.size w0 W) (hJ:∀s A B,J s A→A.grownBy B none→J s B)
  (hY:∀pre x W1,J pre W1→pre++[x]<+:wF→YieldAt (FW none) 0 G.P l (Ff x).toArray W1 fun e W'=>(e=.returned (.bool true)∧J (pre++[x]) W'∧yq w0.heap.size W1 W')∨(e=.returned (.bool false)∧Jx (pre++[x]) W')) (hJ0:J [] W):
  Calls G.P 183 ([.func (.yield l) #[] #[]]:List Value).toArray W fun e W'=>(∃v,e=.returned v)∧(J wF W'∨∃pre,pre<+:wF∧Jx pre W'):=by
 have hEW:fu W:=h0.ext (Ext.Ap hW)
 have hBW:w0.heap.size≤W.heap.size:=hW.size
 have abide:∀{pre:List (Int×ByteArray)} {A B:World},J pre A→Ext A B→J pre B:=fun{pre A B} h hx=>hJ pre A B h hx.grown
 refine enter (G:=G) Tryz.func183 rfl Tryz.ntmps183 rfl ?_
 refine Gs ?_
 refine aw.call rfl rfl rfl (ye W) ?_
 rintro _ w1 ⟨rfl,hn1⟩
 refine⟨_,rfl,?_⟩
 refine Gs ?_
 refine Cd.loop (σ:=Nat) (fun i=>[(0,.func (.yield l) #[] #[]),(6,.slice (some ⟨W.heap.size,0,none⟩) 24 24),(7,.int .i64 24),(8,.int .i64 i)]) (fun i wr=>i≤24∧J (ns i 0) wr∧fu wr∧gO wr W.heap.size jW 247) (fun i=>24 - i) 0 bJ ⟨by omega,abide (show J (ns 0 0) W from hJ0) hn1.ext,hEW.ext hn1.ext,hn1.aT⟩ ?_
 rintro i wr ⟨hi,hJi,hEi,hBi⟩
 by_cases hlt:i<24
 ·obtain⟨k1,k2,k3,k4,k5,k6,k7⟩:=EU i hlt
  have hcell:∀w',w'=wr→∀j,j<3→w'.cell? ⟨W.heap.size,0+i*3+j,none⟩=(BL (ix cG i))[j]?:=by
   rintro _ rfl j hj
   have e:jW[i*3+j]?=(BL (ix cG i))[j]?:=by rw[xm];exact xg 3 (fun i=>BL (ix cG i)) 24 (fun _ _=>rfl) i j hlt hj
   rw[Nat.zero_add]
   have hs:∃u,(BL (ix cG i))[j]?=some u:=⟨_,List.getElem?_eq_getElem (by simpa[BL]using hj)⟩
   obtain⟨u,hu⟩:=hs
   rw[hu]at e ⊢
   exact hBi.cell e
  have hpre:=fun k=>Db (i:=i) (k:=k) hlt
  have hnext:=A1 hlt
  have htake:=fun k (h:k<(Lib.fields (ix cG i).2.2).length)=>yU h
  refine Gs ?_
  refine aw.y (Yl.uY (cs:=BL (ix cG i)) rfl rfl rfl rfl rfl hcell) rfl ?_
  refine aw.e (ck.alloc rfl) rfl ?_
  rintro _ w2 ⟨rfl,hn2⟩
  refine aw.e0 (ck.bn (ti:=H5) (cs:=BL (ix cG i)) rfl rfl rfl rfl rfl (by simp[BL,Value.oneCell']) hn2.aT rfl) ?_
  rintro _ w3 ⟨hb3,hc3,hz3⟩
  have hx3:Ext wr w3:=cg.trans' hn2.ext hc3 (fun k hk e=>by omega)
  generalize hgb:wr.heap.size=b2 at*
  have c0:w3.cell? ⟨b2,0,none⟩=some (.int .i64 (ix cG i).1):=hb3.cell rfl
  have c1:w3.cell? ⟨b2,0+1,none⟩=some (.string ⟨(ix cG i).2.1.toArray⟩):=hb3.cell rfl
  have c2:w3.cell? ⟨b2,0+2,none⟩=some (.string ⟨(ix cG i).2.2.toArray⟩):=hb3.cell rfl
  refine Gs ?_
  have hE3:fu w3:=hEi.ext hx3
  refine aw.call rfl rfl rfl (AE ⟨(ix cG i).2.2.toArray⟩ w3 (show(ix cG i).2.2.length<_ by omega) (fun j b hb=>?_) hE3.G9) ?_
  ·have:=List.all_eq_true.1 k5 b (List.mem_of_getElem? hb)
   simpa using this
  rintro _ _ ⟨rfl,rfl⟩
  refine⟨_,rfl,?_⟩
  have hn4:=Aw.alloc w3 ((Lib.fields (ix cG i).2.2).map fun l=>Value.string ⟨l.toArray⟩) 9
  generalize hw4:w3.alloc (.cells ((Lib.fields (ix cG i).2.2).map fun l=>Value.string ⟨l.toArray⟩).toArray 9)=w4 at*
  have hx4:Ext wr w4:=hx3.trans hn4.ext
  have hb4:gO w4 b2 (BL (ix cG i)) 247:=hb3.aO hn4.ext id
  have hB4:gO w4 W.heap.size jW 247:=hBi.aO hx4 id
  have hf4:=hn4.aT
  generalize hgc:w3.heap.size=b4 at*
  have hle2:W.heap.size<b2:=by have:=hBi.lt;omega
  have hle4:b2<b4:=by have:=hb3.lt;omega
  have hJ4:J (ns i 0) w4:=abide hJi hx4
  have hE4:fu w4:=hE3.ext hn4.ext
  clear hn4 hx4 hx3 hb3 hc3 hz3 hn2 c0 c1 c2 hE3 hEi hJi hBi hcell hw4
  refine Gs ?_
  refine Cd.loop (σ:=Nat) (fun k=>[(0,.func (.yield l) #[] #[]),(3,.pointer (some ⟨b2,0,none⟩)),(6,.slice (some ⟨W.heap.size,0,none⟩) 24 24),(7,.int .i64 24),(8,.int .i64 i),(14,.slice (some ⟨b4,0,none⟩) (Lib.fields (ix cG i).2.2).length (Lib.fields (ix cG i).2.2).length),(15,.int .i64 ((Lib.fields (ix cG i).2.2).length:Nat)),(16,.int .i64 k)])
   (fun k wq=>k≤(Lib.fields (ix cG i).2.2).length∧J (ns i k) wq∧fu wq∧gO wq W.heap.size jW 247∧gO wq b2 (BL (ix cG i)) 247∧gO wq b4 ((Lib.fields (ix cG i).2.2).map fun l=>Value.string ⟨l.toArray⟩) 9) (fun k=>(Lib.fields (ix cG i).2.2).length - k) 0 bJ ⟨by omega,hJ4,hE4,hB4,hb4,hf4⟩ ?_
  clear hJ4 hE4 hB4 hb4 hf4
  rintro k wq ⟨hk,hJk,hEk,hBk,hb,hf⟩
  by_cases hkl:k<(Lib.fields (ix cG i).2.2).length
  ·have c0:wq.cell? ⟨b2,0,none⟩=some (.int .i64 (ix cG i).1):=hb.cell rfl
   have c1:wq.cell? ⟨b2,0+1,none⟩=some (.string ⟨(ix cG i).2.1.toArray⟩):=hb.cell rfl
   have c4:wq.cell? ⟨b4,0+k,none⟩=some (.string ⟨(ix (Lib.fields (ix cG i).2.2) k).toArray⟩):=by
    rw[Nat.zero_add]
    exact hf.cell (by rw[List.getElem?_map,gZ hkl];rfl)
   have hs1:(⟨(ix cG i).2.1.toArray⟩:ByteArray).size=(ix cG i).2.1.length:=rfl
   have hs2:(⟨(ix (Lib.fields (ix cG i).2.2) k).toArray⟩:ByteArray).size=(ix (Lib.fields (ix cG i).2.2) k).length:=rfl
   have hs3:(ix (Lib.fields (ix cG i).2.2) k).length≤100:=by
    have:=List.all_eq_true.1 k6 _ (show ix (Lib.fields (ix cG i).2.2) k∈_ by rw[cD hkl];exact List.getElem_mem hkl)
    simpa using this
   have hstep:ns i (k+1)=ns i k++[Cz (ix cG i) k]:=by unfold ns;rw[htake k hkl,List.append_assoc]
   have hyk:=hY (ns i k) (Cz (ix cG i) k) wq hJk (by rw[←hstep];exact hpre (k+1))
   refine Gs ?_
   refine Cd.Am 0 ?_
   refine Gf ?_
   refine dW.round rfl rfl rfl hyk ?_
   rintro e w5 (⟨rfl,hJ5,hK5⟩|⟨rfl,hJx5⟩)
   ·refine⟨_,rfl,?_⟩
    refine Gf ?_
    refine eJ.ofFin ?_
    refine Gs ?_
    refine Fin.next (k+1) bJ ⟨by omega,by rw[hstep];exact hJ5,hK5.env hEk,hK5.aT hBk hBW (.inl rfl),hK5.aT hb Mj (.inl rfl),hK5.aT hf Mj (.inr (.inl rfl))⟩ Mj
   ·refine⟨_,rfl,?_⟩
    refine Gf ?_
    refine eJ.ofFin ?_
    refine Gs ?_
    refine Fin.Ck rfl ⟨⟨_,rfl⟩,.inr ⟨ns i k++[Cz (ix cG i) k],?_,hJx5⟩⟩
    rw[←hstep];exact hpre (k+1)
  ·have hke:k=(Lib.fields (ix cG i).2.2).length:=by omega
   subst hke
   refine Gs ?_
   refine Fin.next (i+1) bJ ⟨by omega,by rw[←hnext];exact hJk,hEk,hBk⟩ Mj
 ·have hie:i=24:=by omega
  subst hie
  refine Gs ?_
  refine Fin.n8 rfl ⟨⟨_,rfl⟩,.inl (by rw[←BQ];exact hJi)⟩
theorem vA (m:Nat) (w0:World) (h0:fu w0):SeqStopsK (FW none) m G.P 183 #[] (fun x=>(Ff x).toArray) (yq w0.heap.size) (fun xs=>xs=wF) (fun pre=>pre<+:wF) wF.length w0:=fun l J Jx W hW hJ hJx hY hJ0=>
 oU ((zE w0 h0 l J Jx W hW (fun s A B h hg=>hJ s A B none h hg (fun r e=>by cases e)) (fun pre x W1 hj hp=>A2 (hY pre x W1 hj (by have:=hp.length_le;simp at this;omega))) hJ0).mono fun _ _ h=>⟨h.1,h.2.imp (fun h=>⟨_,rfl,h⟩) id⟩)
theorem vc {fn:Func} {n:Nat} {E:Env} {w:World} {a T:Nat} {ti:TI} {v:Value} {ad:Addr} (hr:fn.results=#[.cell a T]) (ha:lk E a=some (.pointer (some ad))) (hT:G.ty T=some ti) (hag:ti.agg=false) (hc:w.cell? ad=some v):
  ∀ac,Ag n ac E→(results fn ac.tmps).run G.P w=.ok v w:=fun ac hac=>by
 have h1:=(G.iw T ti hT).agg w
 rw[hag]at h1
 have g1:ac.tmps[a]?.getD undef=.pointer (some ad):=by have:=(hac.eq a _ ha).2;simpa using this
 simp[results,hr,g1,asAddr,loadVar,h1,hc]
def kM (op:Int):List (Int×ByteArray)→Option ByteArray
 |[]=>none
 |x::r=>if x.1=op then some x.2 else kM op r
def gF (op:Int):ByteArray:=(kM op wF).getD ⟨#[]⟩
theorem Ab {op:Int}:∀{l:List (Int×ByteArray)},(∀x∈l,x.1≠op)→kM op l=none
 |[],_=>rfl
 |x::r,h=>by rw[kM,if_neg (h x Mk)];exact Ab (fun y hy=>h y (by simp[hy]))
theorem Dv {op:Int} {x:Int×ByteArray} (hx:x.1=op) {r:List (Int×ByteArray)}:∀{l:List (Int×ByteArray)},(∀y∈l,y.1≠op)→kM op (l++[x]++r)=some x.2
 |[],_=>by simp[kM,hx]
 |y::l,h=>by
  show kM op (y::(l++[x]++r))=_
  rw[kM,if_neg (h y Mk)];exact Dv hx (fun z hz=>h z (by simp[hz]))
theorem vZ (w:World):Calls G.P 167 #[] w fun e w'=>e=.returned (.func (.func 183) #[] #[])∧w=w':=by
 refine enter (G:=G) Tryz.func167 rfl Tryz.ntmps167 rfl ?_
 refine bT ?_
 exact Fin.aB rfl rfl ⟨rfl,rfl⟩
theorem gO.grown {W W':World} {row:Option Nat} {B b:Nat} {cs:List Value} {T:TypeId} (h:gO W b cs T) (hb:b<B) (hg:W.grownBy W' row) (hr:∀r,row=some r→B≤r∧∃o:Obj,W.heap[r]?=some o∧o.isCells=false):gO W' b cs T:=by
 unfold gO
 rw[hg.block b h.lt (fun e=>by have:=(hr b e.symm).1;omega)];exact h
theorem Ext.C8 {w W W':World} {row:Option Nat} {B:Nat} (h:Ext w W) (hB:w.heap.size≤B) (hg:W.grownBy W' row) (hr:∀r,row=some r→B≤r∧∃o:Obj,W.heap[r]?=some o∧o.isCells=false):Ext w W':=
 cg.trans' h (cg.nh hg) (fun k hk e=>by have:=(hr k e).1;omega)
theorem Ext.GF {w W:World} (h:Ext w W) {l:Nat} (hl:w.heap.size≤l) (o:Obj):Ext w (W.putObj l o):=
 cg.trans' h (T:=fun k=>k=l) ⟨rfl,rfl,rfl,by simp[World.putObj],fun k _ hk=>World.putObj_heap_other hk⟩ (fun k hk e=>by omega)
set_option maxHeartbeats 4000000 in
theorem m9 (op:Int) (w:World) (h0:fu w):Calls G.P 140 #[.int .i64 op] w fun e w'=>e=.returned (.string (gF op))∧Ext w w':=by
 refine CB (m:=5) (l:=[.int .i64 op]) Tryz.func140 rfl Tryz.ntmps140 rfl ?_
 refine Gf ?_
 refine dW.e (ck.box rfl rfl) rfl rfl ?_
 rintro _ w1 ⟨rfl,hn1⟩
 refine dW.e (ck.alloc rfl) rfl rfl ?_
 rintro _ w2 ⟨rfl,hn2⟩
 refine Gf ?_
 refine dW.e (ck.call rfl rfl (vZ w2) (fun e w' h=>⟨_,h.1⟩)) rfl rfl ?_
 rintro _ _ ⟨h,rfl⟩
 cases h
 refine Gf ?_
 have hx2:Ext w w2:=hn1.ext.trans hn2.ext
 have hs1:=hn1.size
 have hs2:=hn2.size
 have hb1:gO w2 w.heap.size [.int .i64 op] 35:=hn1.aT.aO hn2.ext id
 have hb2:gO w2 w1.heap.size [.string ⟨#[]⟩] 9:=hn2.aT
 generalize w1.heap.size=b2 at*
 generalize hgb:w.heap.size=b1 at*
 refine jE.rangeFunc (encs:=Ff) (Kp:=yq w2.heap.size) (S:=fun xs=>xs=wF) (Sp:=fun pre=>pre<+:wF) (N:=wF.length) rfl rfl Mj (vA _ w2 (h0.ext hx2)) (fun h k=>h.trans k) (fun W l o o' _ hl ho _=>yq.put hl ho) (yq.refl _) (fun _=>rfl) rfl
  (fun pre W=>(∀x∈pre,x.1≠op)∧gO W b1 [.int .i64 op] 35∧gO W b2 [.string ⟨#[]⟩] 9∧Ext w W)
  (fun c pre W=>c=.ret∧∃pre' x,pre=pre'++[x]∧x.1=op∧(∀y∈pre',y.1≠op)∧gO W b2 [.string x.2] 9∧Ext w W)
  (fun pre W W' row ⟨h1,h2,h3,h4⟩ hg hr=>⟨h1,h2.grown Mj hg hr,h3.grown Mj hg hr,h4.C8 Mj hg hr⟩)
  (fun c pre W W' row ⟨h1,p,x,h2,h3,h4,h5,h6⟩ hg hr=>⟨h1,p,x,h2,h3,h4,h5.grown Mj hg hr,h6.C8 Mj hg hr⟩)
  ⟨by simp,hb1,hb2,hx2⟩ (fun x=>[(1,.pointer (some ⟨b1,0,none⟩)),(2,.pointer (some ⟨b2,0,none⟩)),(3,.int .i64 x.1),(4,.string x.2)]) ?_ ?_ ?_ ?_
 ·intro l x W K hK
  refine Gf ?_
  exact eJ.Ey (fun a ha=>hK a (ha.sub bJ))
 ·rintro l pre x W ⟨h1,h2,h3,h4⟩ hN
  have c1:W.cell? ⟨b1,0,none⟩=some (.int .i64 op):=h2.cell rfl
  by_cases hx:x.1=op
  ·refine Gf ?_
   refine dW.e0 (ck.yG (ti:=Im) rfl rfl rfl rfl rfl h3 Mk) rfl ?_
   rintro _ W2 ⟨hb,hc,hz⟩
   refine Gf ?_
   refine⟨fun a ha=>⟨⟨by omega,fun k o hk ho hno=>?_⟩,rfl,pre,x,rfl,hx,h1,hb,?_⟩⟩
   ·rw[hc.block k (Array.getElem?_eq_some_iff.1 ho).1 Mj];exact ho
   ·exact cg.trans' h4 hc (fun k hk e=>by omega)
  ·refine Gf ?_
   refine⟨fun a ha=>⟨KeepsFrom.refl _ _,yq.refl _ _,fun y hy=>?_,h2,h3,h4⟩⟩
   rcases List.mem_append.1 hy with hy|hy
   ·exact h1 y hy
   ·rw[List.mem_singleton]at hy;subst hy;exact hx
 ·rintro Dn xs W hD rfl ⟨h1,h2,h3,h4⟩ hK
  refine Gf ?_
  refine dW.e0 (ck.yG (ti:=Im) rfl rfl rfl rfl rfl h3 Mk) rfl ?_
  rintro _ W2 ⟨hb,hc,hz⟩
  refine Gf ?_
  have hx4:Ext w W2:=cg.trans' h4 hc (fun k hk e=>by omega)
  refine eJ.Ee (.inl rfl) (by rw[hc.block Dn (Array.getElem?_eq_some_iff.1 hK).1 Mj];exact hK) (vc rfl rfl rfl rfl ?_) ⟨rfl,hx4.GF Mj _⟩
  rw[World.cell?_of_block (w:=W2) (World.putObj_heap_other (by show b2≠Dn;omega)),show gF op=⟨#[]⟩by unfold gF;rw[Ab h1];rfl]
  exact hb.cell rfl
 ·rintro Dn c pre W hD hp ⟨rfl,pre',x,rfl,hx,h1,hb,h4⟩ hK
  refine Gf ?_
  refine eJ.Ee (.inl rfl) hK (vc rfl rfl rfl rfl ?_) ⟨rfl,h4.GF Mj _⟩
  obtain⟨r,hr⟩:=hp
  rw[World.cell?_of_block (w:=W) (World.putObj_heap_other (by show b2≠Dn;omega)),show gF op=x.2 by unfold gF;rw[←hr,Dv hx h1];rfl]
  exact hb.cell rfl
theorem oR (op:Int) (w:World) (h0:fu w):Calls G.P 124 #[.int .i64 op] w fun e w'=>e=.returned (.bool (!(gz (gF op)==[])))∧Ext w w':=by
 refine enter (G:=G) Tryz.func124 rfl Tryz.ntmps124 rfl ?_
 refine bT ?_
 refine aw.call rfl rfl rfl (m9 op w h0) ?_
 rintro _ w1 ⟨rfl,hx⟩
 refine⟨_,rfl,?_⟩
 refine bT ?_
 exact Fin.aB rfl rfl ⟨rfl,hx⟩
def zF (op:Int):Bool:=!(gz (gF op)==[])
def jM (op:Int):Bool:=decide (40≤op) && decide (op≤62) && zF op
theorem ui (op:Int) (w:World) (h0:fu w):Calls G.P 159 #[.int .i64 op] w fun e w'=>e=.returned (.bool (jM op))∧Ext w w':=by
 refine enter (G:=G) Tryz.func159 rfl Tryz.ntmps159 rfl ?_
 unfold jM
 rcases(show op<40∨(40≤op∧62<op)∨(40≤op∧op≤62)by omega)with h|⟨h1,h2⟩|⟨h1,h2⟩
 ·refine bT ?_
  exact Fin.aB rfl rfl ⟨by rw[decide_eq_false Mj];rfl,cg.refl _ _⟩
 ·refine bT ?_
  exact Fin.aB rfl rfl ⟨by rw[decide_eq_true h1,decide_eq_false Mj];rfl,cg.refl _ _⟩
 ·refine bT ?_
  refine aw.xV rfl rfl rfl rfl (oR op w h0) ?_
  rintro _ w1 ⟨rfl,hx⟩
  refine⟨_,rfl,?_⟩
  refine bT ?_
  exact Fin.aB rfl rfl ⟨by rw[decide_eq_true h1,decide_eq_true h2];rfl,hx⟩
theorem Bq:(wF.all fun x=>decide (x.2.size≤100))=true:=by decide+kernel
theorem vm {op:Int} {s:ByteArray}:∀{l:List (Int×ByteArray)},kM op l=some s→(op,s)∈l
 |x::r,h=>by
  rw[kM]at h
  split at h
  ·rename_i e;cases h;subst e;simp
  ·exact List.mem_cons_of_mem _ (vm h)
theorem rn (op:Int):(gF op).size≤100:=by
 unfold gF
 cases h:kM op wF with
 |none=>exact Nat.zero_le _
 |some s=>
  have:=List.all_eq_true.1 Bq _ (vm h)
  simpa using this
def pk (s:List UInt8):Int:=
 if Lib.contains (s.drop 4) [56]=true then 1 else if Lib.contains (s.drop 4) [49,54]=true then 2 else if Lib.contains (s.drop 4) [51,50]=true then 4 else if(s.take 3==[105,51,50])=true then 4 else 8
def gQ (op:Int):Int:=if jM op=true then pk (gz (gF op))else 0
theorem xk:∀k,k<23→jM (40+(k:Nat))=true→4≤(gF (40+(k:Nat))).size:=by decide+kernel
theorem yo {op:Int} (h:jM op=true):4≤(gF op).size:=by
 have h':=h
 unfold jM at h'
 simp only[Bool.and_eq_true,decide_eq_true_eq]at h'
 obtain⟨k,hk⟩:=Int.eq_ofNat_of_zero_le (show 0≤op - 40 by omega)
 have e:op=40+(k:Int):=by omega
 rw[e]at h ⊢
 exact xk k Mj h
theorem pI {s:ByteArray}:gz (s.extract 4 s.size)=(gz s).drop 4:=by
 rw[jr,List.take_of_length_le (by rw[j7];omega)]
theorem EG {s:ByteArray}:gz (s.extract 0 3)=(gz s).take 3:=by rw[jr,List.drop_zero]
set_option maxHeartbeats 4000000 in
theorem oL (op:Int) (w:World) (h0:fu w):Calls G.P 128 #[.int .i64 op] w fun e w'=>e=.returned (.int .i64 (gQ op))∧Ext w w':=by
 refine enter (G:=G) Tryz.func128 rfl Tryz.ntmps128 rfl ?_
 refine bT ?_
 refine aw.call rfl rfl rfl (ui op w h0) ?_
 rintro _ w1 ⟨rfl,hx1⟩
 refine⟨_,rfl,?_⟩
 unfold gQ
 cases ha:jM op with
 |false=>
  refine bT ?_
  exact Fin.aB rfl rfl ⟨rfl,hx1⟩
 |true=>
  have hsz:=yo ha
  have hsm:=rn op
  refine bT ?_
  refine aw.call rfl rfl rfl (m9 op w1 (h0.ext hx1)) ?_
  rintro _ w2 ⟨rfl,hx2⟩
  refine⟨_,rfl,?_⟩
  have hxb:Ext w w2:=hx1.trans hx2
  generalize gF op=s at*
  refine bT ?_
  refine aw.e (ck.buildSlice (cs:=[.int .i64 8,.int .i64 16,.int .i64 32]) (e:=3) rfl L9) rfl ?_
  rintro _ w3 ⟨rfl,hn3⟩
  have hx3:Ext w w3:=hxb.trans hn3.ext
  have b3:=hn3.aT
  generalize w2.heap.size=bk at*
  refine bT ?_
  refine Cd.loop (σ:=Nat) (fun k=>[(3,.string s),(11,.slice (some ⟨bk,0,none⟩) 3 3),(12,.int .i64 3),(13,.int .i64 k)]) (fun k wr=>k≤3∧Ext w wr∧gO wr bk [.int .i64 8,.int .i64 16,.int .i64 32] 3∧(0<k→Lib.contains ((gz s).drop 4) [56]=false)∧(1<k→Lib.contains ((gz s).drop 4) [49,54]=false)∧(2<k→Lib.contains ((gz s).drop 4) [51,50]=false)) (fun k=>3 - k) 0 bJ ⟨by omega,hx3,b3,by omega,by omega,by omega⟩ ?_
  rintro k wr ⟨hk,hxr,hbr,g0,g1,g2⟩
  obtain⟨mx,hmx⟩:=(h0.ext hxr).mx
  rcases(show k=0∨k=1∨k=2∨k=3 by omega)with rfl|rfl|rfl|rfl
  ·have c:wr.cell? ⟨bk,0+0,none⟩=some (.int .i64 8):=hbr.cell rfl
   refine bT ?_
   refine Cd.oT ?_
   refine J7 ?_
   refine J8 ?_
   refine J9 ?_
   refine dJ.take 4 rfl L9 (Yl.quo (r:=0) rfl rfl (fun w=>by kernel_rfl)) ?_
   refine Ka ?_
   rintro _ w5 ⟨rfl,hn5⟩
   have hx5:Ext wr w5:=cg.trans ((cg.refl _ wr).drew) hn5.ext
   have c5:w5.cell? ⟨wr.drew.heap.size,0+0,none⟩=some (.string ⟨([56]:List UInt8).toArray⟩):=hn5.aT.cell rfl
   refine dJ.take 5 rfl L9 (Yl.gh rfl rfl rfl rfl rfl (i:=0) rfl Mj) ?_
   refine dJ.Dd 6 L9 rfl rfl (Yl.load rfl rfl rfl (by rintro _ rfl;exact c5)) ?_
   refine dJ.one 7 L9 rfl rfl (ck.call rfl rfl (ie (s.extract 4 s.size) ⟨([56]:List UInt8).toArray⟩ mx w5 LK (hx5.cell hmx)) (fun e w' h=>⟨_,h.1⟩)) ?_
   rintro _ w6 ⟨hv,hw6⟩
   obtain rfl:w5=w6:=hw6.symm
   cases hv
   have e5:Lib.contains (s.extract 4 s.size).data.toList (ByteArray.mk ([56]:List UInt8).toArray).data.toList=Lib.contains ((gz s).drop 4) [56]:=by rw[←pI]
   rw[e5]
   refine dJ.done L9 ?_
   have b5:gO w5 bk [.int .i64 8,.int .i64 16,.int .i64 32] 3:=hbr.aO hx5 id
   have hxw:Ext w w5:=hxr.trans hx5
   cases hct:Lib.contains ((gz s).drop 4) [56]with
   |true=>
    refine bT ?_
    refine aw.y (Yl.quo (r:=1) rfl rfl (fun w=>by kernel_rfl)) rfl ?_
    refine bT ?_
    refine Fin.aB rfl rfl ⟨?_,hxw⟩
    rw[if_pos rfl]
    unfold pk
    simp[hct]
   |false=>
    refine bT ?_
    exact Fin.next 1 bJ ⟨by omega,hxw,b5,fun _=>rfl,fun _=>by omega,fun _=>by omega⟩ Mj
  ·have c:wr.cell? ⟨bk,0+1,none⟩=some (.int .i64 16):=hbr.cell rfl
   refine bT ?_
   refine Cd.oT ?_
   refine J7 ?_
   refine J8 ?_
   refine J9 ?_
   refine dJ.take 4 rfl L9 (Yl.quo (r:=1) rfl rfl (fun w=>by kernel_rfl)) ?_
   refine Ka ?_
   rintro _ w5 ⟨rfl,hn5⟩
   have hx5:Ext wr w5:=cg.trans ((cg.refl _ wr).drew) hn5.ext
   have c5:w5.cell? ⟨wr.drew.heap.size,0+1,none⟩=some (.string ⟨([49,54]:List UInt8).toArray⟩):=hn5.aT.cell rfl
   refine dJ.take 5 rfl L9 (Yl.gh rfl rfl rfl rfl rfl (i:=1) rfl Mj) ?_
   refine dJ.Dd 6 L9 rfl rfl (Yl.load rfl rfl rfl (by rintro _ rfl;exact c5)) ?_
   refine dJ.one 7 L9 rfl rfl (ck.call rfl rfl (ie (s.extract 4 s.size) ⟨([49,54]:List UInt8).toArray⟩ mx w5 LK (hx5.cell hmx)) (fun e w' h=>⟨_,h.1⟩)) ?_
   rintro _ w6 ⟨hv,hw6⟩
   obtain rfl:w5=w6:=hw6.symm
   cases hv
   have e5:Lib.contains (s.extract 4 s.size).data.toList (ByteArray.mk ([49,54]:List UInt8).toArray).data.toList=Lib.contains ((gz s).drop 4) [49,54]:=by rw[←pI]
   rw[e5]
   refine dJ.done L9 ?_
   have b5:gO w5 bk [.int .i64 8,.int .i64 16,.int .i64 32] 3:=hbr.aO hx5 id
   have hxw:Ext w w5:=hxr.trans hx5
   cases hct:Lib.contains ((gz s).drop 4) [49,54]with
   |true=>
    refine bT ?_
    refine aw.y (Yl.quo (r:=2) rfl rfl (fun w=>by kernel_rfl)) rfl ?_
    refine bT ?_
    refine Fin.aB rfl rfl ⟨?_,hxw⟩
    rw[if_pos rfl]
    unfold pk
    simp[hct,g0 Mj]
   |false=>
    refine bT ?_
    exact Fin.next 2 bJ ⟨by omega,hxw,b5,fun _=>g0 Mj,fun _=>rfl,fun _=>by omega⟩ Mj
  ·have c:wr.cell? ⟨bk,0+2,none⟩=some (.int .i64 32):=hbr.cell rfl
   refine bT ?_
   refine Cd.oT ?_
   refine J7 ?_
   refine J8 ?_
   refine J9 ?_
   refine dJ.take 4 rfl L9 (Yl.quo (r:=2) rfl rfl (fun w=>by kernel_rfl)) ?_
   refine Ka ?_
   rintro _ w5 ⟨rfl,hn5⟩
   have hx5:Ext wr w5:=cg.trans ((cg.refl _ wr).drew) hn5.ext
   have c5:w5.cell? ⟨wr.drew.heap.size,0+2,none⟩=some (.string ⟨([51,50]:List UInt8).toArray⟩):=hn5.aT.cell rfl
   refine dJ.take 5 rfl L9 (Yl.gh rfl rfl rfl rfl rfl (i:=2) rfl Mj) ?_
   refine dJ.Dd 6 L9 rfl rfl (Yl.load rfl rfl rfl (by rintro _ rfl;exact c5)) ?_
   refine dJ.one 7 L9 rfl rfl (ck.call rfl rfl (ie (s.extract 4 s.size) ⟨([51,50]:List UInt8).toArray⟩ mx w5 LK (hx5.cell hmx)) (fun e w' h=>⟨_,h.1⟩)) ?_
   rintro _ w6 ⟨hv,hw6⟩
   obtain rfl:w5=w6:=hw6.symm
   cases hv
   have e5:Lib.contains (s.extract 4 s.size).data.toList (ByteArray.mk ([51,50]:List UInt8).toArray).data.toList=Lib.contains ((gz s).drop 4) [51,50]:=by rw[←pI]
   rw[e5]
   refine dJ.done L9 ?_
   have b5:gO w5 bk [.int .i64 8,.int .i64 16,.int .i64 32] 3:=hbr.aO hx5 id
   have hxw:Ext w w5:=hxr.trans hx5
   cases hct:Lib.contains ((gz s).drop 4) [51,50]with
   |true=>
    refine bT ?_
    refine aw.y (Yl.quo (r:=4) rfl rfl (fun w=>by kernel_rfl)) rfl ?_
    refine bT ?_
    refine Fin.aB rfl rfl ⟨?_,hxw⟩
    rw[if_pos rfl]
    unfold pk
    simp[hct,g0 Mj,g1 Mj]
   |false=>
    refine bT ?_
    exact Fin.next 3 bJ ⟨by omega,hxw,b5,fun _=>g0 Mj,fun _=>g1 Mj,fun _=>rfl⟩ Mj
  ·by_cases h3:((gz s).take 3==[105,51,50])=true
   ·refine bT ?_
    refine aw.y (Yl.dw Tryz.underlying9 rfl rfl (i:=3) rfl Mj) rfl ?_
    refine aw.y (Yl.tH rfl rfl) rfl ?_
    rw[show(s.extract 0 3).data.toList=(gz s).take 3 from EG,show((ByteArray.mk #[105,51,50]).data.toList)=[105,51,50]from rfl,h3]
    refine bT ?_
    refine Fin.aB rfl rfl ⟨?_,hxr⟩
    rw[if_pos rfl]
    unfold pk
    simp[g0 Mj,g1 Mj,g2 Mj,h3]
   ·refine bT ?_
    refine aw.y (Yl.dw Tryz.underlying9 rfl rfl (i:=3) rfl Mj) rfl ?_
    refine aw.y (Yl.tH rfl rfl) rfl ?_
    rw[show(s.extract 0 3).data.toList=(gz s).take 3 from EG,show((ByteArray.mk #[105,51,50]).data.toList)=[105,51,50]from rfl,Bool.eq_false_iff.2 h3]
    refine bT ?_
    refine Fin.aB rfl rfl ⟨?_,hxr⟩
    rw[if_pos rfl]
    unfold pk
    simp[g0 Mj,g1 Mj,g2 Mj,h3]
theorem af.bR (F:Nat→Prop) (w:World):af F w (.slice none 0 0) []:=⟨none,0,rfl,by simp,.inl rfl⟩
theorem af.dY {w w':World} {cs:List Value} {T base n:Nat} {xs:List Int} (h:Aw w w' cs T) (hx:cs=xs.map (Value.int .i64)) (hb:base≤w.heap.size) (hl:xs.length≤1000000) (hn:n=xs.length:=by rfl):af (fun k=>base≤k) w' (.slice (some ⟨w.heap.size,0,none⟩) n n) xs:=by
 subst hn;subst hx
 refine⟨_,_,rfl,by omega,?_⟩
 by_cases h0:xs=[]
 ·exact .inl h0
 ·refine .inr ⟨w.heap.size,0,rfl,hb,fun i hi=>?_⟩
  rw[Nat.zero_add]
  exact h.aT.cell LL
def HP (B:Nat) (w:World) (v:Value) (x:aL):Prop:=∃cs,v=.agg cs.toArray∧dx (fun k=>B≤k) w cs x
def hU (op t:Int) (s:List UInt8):aL:=
 if fG s [108,111,97,100]=true then⟨[1],[t]⟩
 else if fG s [115,116,111,114,101]=true then⟨[1,t],[]⟩
 else if(s==[101,113,122])=true then⟨[t],[1]⟩
 else if 70≤op∧op≤90 then⟨[t,t],[1]⟩
 else if(s==[99,108,122])=true∨(s==[99,116,122])=true∨(s==[112,111,112,99,110,116])=true∨fG s [101,120,116,101,110,100]=true then⟨[t],[t]⟩
 else⟨[t,t],[t]⟩
set_option maxHeartbeats 4000000 in
theorem nC (op t:Int) (s:ByteArray) (w:World):Calls G.P 142 #[.int .i64 op,.int .i64 t,.string s] w fun e w'=>(∃v,e=.returned v∧HP w.heap.size w' v (hU op t (gz s)))∧Ext w w':=by
 refine enter (G:=G) Tryz.func142 rfl Tryz.ntmps142 rfl ?_
 refine bT ?_
 refine aw.e (ck.alloc rfl) rfl ?_
 rintro _ w1 ⟨rfl,hn1⟩
 have hs1:=hn1.size
 have hb1:=hn1.aT
 have hxw1:Ext w1 w1:=cg.refl _ _
 refine bT ?_
 refine aw.call rfl rfl rfl (dQ s _ w1) ?_
 rintro _ _ ⟨rfl,rfl⟩
 refine⟨_,rfl,?_⟩
 cases h1:fG (gz s) [108,111,97,100]with
 |true=>
  have hnum:hU op t (gz s)=⟨[1],[t]⟩:=by unfold hU;simp[h1]
  refine bT ?_
  refine Kb ?_
  rintro _ wP ⟨rfl,hnP⟩
  have rP:af (fun k=>w1.heap.size≤k) wP _ [1]:=af.dY hnP rfl LP Mk
  have hxwP:Ext w1 wP:=hxw1.trans hnP.ext
  refine bT ?_
  refine Kc ?_
  rintro _ wR ⟨rfl,hnR⟩
  have rR:af (fun k=>w1.heap.size≤k) wR _ [t]:=af.dY hnR rfl LQ Mk
  have hxwR:Ext w1 wR:=hxwP.trans hnR.ext
  refine bT ?_
  refine Kd ?_
  rintro _ wC ⟨rfl,hxC⟩
  refine⟨_,rfl,?_⟩
  have hxwC:Ext w1 wC:=hxwR.trans hxC
  refine bT ?_
  refine Ke ?_
  rintro _ wD ⟨hbD,hcD,-⟩
  refine bT ?_
  have hxD:Ext w wD:=cg.trans' (hn1.ext.trans hxwC) hcD (fun k hk e=>by omega)
  refine Kf ?_
  rw[hnum]
  refine⟨_,rfl,_,_,rfl,?_,?_⟩
  ·exact(((rP.aO hnR.ext (fun _ _ _ h=>h)).aO hxC (fun _ _ _ h=>h)).aO hcD (fun k _ h e=>by omega)).mono (fun k _ h=>by omega)
  ·exact((rR.aO hxC (fun _ _ _ h=>h)).aO hcD (fun k _ h e=>by omega)).mono (fun k _ h=>by omega)
 |false=>
  refine bT ?_
  refine aw.call rfl rfl rfl (dQ s _ w1) ?_
  rintro _ _ ⟨rfl,rfl⟩
  refine⟨_,rfl,?_⟩
  cases h2:fG (gz s) [115,116,111,114,101]with
  |true=>
   have hnum:hU op t (gz s)=⟨[1,t],[]⟩:=by unfold hU;simp[h1,h2]
   refine bT ?_
   refine aw.e (ck.buildSlice (cs:=[.int .i64 1,.int .i64 t]) (e:=37) rfl L9) rfl ?_
   rintro _ wP ⟨rfl,hnP⟩
   have rP:af (fun k=>w1.heap.size≤k) wP _ [1,t]:=af.dY hnP rfl LP Mk
   have hxwP:Ext w1 wP:=hxw1.trans hnP.ext
   refine bT ?_
   refine aw.call rfl rfl rfl (bU _ _ _ _ _ _ wP) ?_
   rintro _ wC ⟨rfl,hxC⟩
   refine⟨_,rfl,?_⟩
   have hxwC:Ext w1 wC:=hxwP.trans hxC
   refine bT ?_
   refine Ke ?_
   rintro _ wD ⟨hbD,hcD,-⟩
   refine bT ?_
   have hxD:Ext w wD:=cg.trans' (hn1.ext.trans hxwC) hcD (fun k hk e=>by omega)
   refine Kf ?_
   rw[hnum]
   refine⟨_,rfl,_,_,rfl,?_,?_⟩
   ·exact((rP.aO hxC (fun _ _ _ h=>h)).aO hcD (fun k _ h e=>by omega)).mono (fun k _ h=>by omega)
   ·exact t8
  |false=>
   refine bT ?_
   rw[show(ByteArray.mk #[101,113,122]).data.toList=[101,113,122]from rfl,show s.data.toList=gz s from rfl]
   cases h3:(gz s==[101,113,122])with
   |true=>
    have hnum:hU op t (gz s)=⟨[t],[1]⟩:=by unfold hU;simp[h1,h2,h3]
    refine bT ?_
    refine Kc ?_
    rintro _ wP ⟨rfl,hnP⟩
    have rP:af (fun k=>w1.heap.size≤k) wP _ [t]:=af.dY hnP rfl LP Mk
    have hxwP:Ext w1 wP:=hxw1.trans hnP.ext
    refine bT ?_
    refine Kb ?_
    rintro _ wR ⟨rfl,hnR⟩
    have rR:af (fun k=>w1.heap.size≤k) wR _ [1]:=af.dY hnR rfl LQ Mk
    have hxwR:Ext w1 wR:=hxwP.trans hnR.ext
    refine bT ?_
    refine Kd ?_
    rintro _ wC ⟨rfl,hxC⟩
    refine⟨_,rfl,?_⟩
    have hxwC:Ext w1 wC:=hxwR.trans hxC
    refine bT ?_
    refine Ke ?_
    rintro _ wD ⟨hbD,hcD,-⟩
    refine bT ?_
    have hxD:Ext w wD:=cg.trans' (hn1.ext.trans hxwC) hcD (fun k hk e=>by omega)
    refine Kf ?_
    rw[hnum]
    refine⟨_,rfl,_,_,rfl,?_,?_⟩
    ·exact(((rP.aO hnR.ext (fun _ _ _ h=>h)).aO hxC (fun _ _ _ h=>h)).aO hcD (fun k _ h e=>by omega)).mono (fun k _ h=>by omega)
    ·exact((rR.aO hxC (fun _ _ _ h=>h)).aO hcD (fun k _ h e=>by omega)).mono (fun k _ h=>by omega)
   |false=>
    rcases(show op<70∨(70≤op∧90<op)∨(70≤op∧op≤90)by omega)with h4|⟨h4,h4'⟩|⟨h4,h4'⟩
    ·have hr:¬(70≤op∧op≤90):=by omega
     refine bT ?_
     rw[show(ByteArray.mk #[99,108,122]).data.toList=[99,108,122]from rfl,show s.data.toList=gz s from rfl]
     cases h5:(gz s==[99,108,122])with
     |true=>
      have hnum:hU op t (gz s)=⟨[t],[t]⟩:=by unfold hU;simp[h1,h2,h3,hr,h5]
      refine bT ?_
      refine Kc ?_
      rintro _ wP ⟨rfl,hnP⟩
      have rP:af (fun k=>w1.heap.size≤k) wP _ [t]:=af.dY hnP rfl LP Mk
      have hxwP:Ext w1 wP:=hxw1.trans hnP.ext
      refine bT ?_
      refine Kc ?_
      rintro _ wR ⟨rfl,hnR⟩
      have rR:af (fun k=>w1.heap.size≤k) wR _ [t]:=af.dY hnR rfl LQ Mk
      have hxwR:Ext w1 wR:=hxwP.trans hnR.ext
      refine bT ?_
      refine Kd ?_
      rintro _ wC ⟨rfl,hxC⟩
      refine⟨_,rfl,?_⟩
      have hxwC:Ext w1 wC:=hxwR.trans hxC
      refine bT ?_
      refine Ke ?_
      rintro _ wD ⟨hbD,hcD,-⟩
      refine bT ?_
      have hxD:Ext w wD:=cg.trans' (hn1.ext.trans hxwC) hcD (fun k hk e=>by omega)
      refine Kf ?_
      rw[hnum]
      refine⟨_,rfl,_,_,rfl,?_,?_⟩
      ·exact(((rP.aO hnR.ext (fun _ _ _ h=>h)).aO hxC (fun _ _ _ h=>h)).aO hcD (fun k _ h e=>by omega)).mono (fun k _ h=>by omega)
      ·exact((rR.aO hxC (fun _ _ _ h=>h)).aO hcD (fun k _ h e=>by omega)).mono (fun k _ h=>by omega)
     |false=>
      refine bT ?_
      rw[show(ByteArray.mk #[99,116,122]).data.toList=[99,116,122]from rfl,show s.data.toList=gz s from rfl]
      cases h6:(gz s==[99,116,122])with
      |true=>
       have hnum:hU op t (gz s)=⟨[t],[t]⟩:=by unfold hU;simp[h1,h2,h3,hr,h5,h6]
       refine bT ?_
       refine Kc ?_
       rintro _ wP ⟨rfl,hnP⟩
       have rP:af (fun k=>w1.heap.size≤k) wP _ [t]:=af.dY hnP rfl LP Mk
       have hxwP:Ext w1 wP:=hxw1.trans hnP.ext
       refine bT ?_
       refine Kc ?_
       rintro _ wR ⟨rfl,hnR⟩
       have rR:af (fun k=>w1.heap.size≤k) wR _ [t]:=af.dY hnR rfl LQ Mk
       have hxwR:Ext w1 wR:=hxwP.trans hnR.ext
       refine bT ?_
       refine Kd ?_
       rintro _ wC ⟨rfl,hxC⟩
       refine⟨_,rfl,?_⟩
       have hxwC:Ext w1 wC:=hxwR.trans hxC
       refine bT ?_
       refine Ke ?_
       rintro _ wD ⟨hbD,hcD,-⟩
       refine bT ?_
       have hxD:Ext w wD:=cg.trans' (hn1.ext.trans hxwC) hcD (fun k hk e=>by omega)
       refine Kf ?_
       rw[hnum]
       refine⟨_,rfl,_,_,rfl,?_,?_⟩
       ·exact(((rP.aO hnR.ext (fun _ _ _ h=>h)).aO hxC (fun _ _ _ h=>h)).aO hcD (fun k _ h e=>by omega)).mono (fun k _ h=>by omega)
       ·exact((rR.aO hxC (fun _ _ _ h=>h)).aO hcD (fun k _ h e=>by omega)).mono (fun k _ h=>by omega)
      |false=>
       refine bT ?_
       rw[show(ByteArray.mk #[112,111,112,99,110,116]).data.toList=[112,111,112,99,110,116]from rfl,show s.data.toList=gz s from rfl]
       cases h7:(gz s==[112,111,112,99,110,116])with
       |true=>
        have hnum:hU op t (gz s)=⟨[t],[t]⟩:=by unfold hU;simp[h1,h2,h3,hr,h5,h6,h7]
        refine bT ?_
        refine Kc ?_
        rintro _ wP ⟨rfl,hnP⟩
        have rP:af (fun k=>w1.heap.size≤k) wP _ [t]:=af.dY hnP rfl LP Mk
        have hxwP:Ext w1 wP:=hxw1.trans hnP.ext
        refine bT ?_
        refine Kc ?_
        rintro _ wR ⟨rfl,hnR⟩
        have rR:af (fun k=>w1.heap.size≤k) wR _ [t]:=af.dY hnR rfl LQ Mk
        have hxwR:Ext w1 wR:=hxwP.trans hnR.ext
        refine bT ?_
        refine Kd ?_
        rintro _ wC ⟨rfl,hxC⟩
        refine⟨_,rfl,?_⟩
        have hxwC:Ext w1 wC:=hxwR.trans hxC
        refine bT ?_
        refine Ke ?_
        rintro _ wD ⟨hbD,hcD,-⟩
        refine bT ?_
        have hxD:Ext w wD:=cg.trans' (hn1.ext.trans hxwC) hcD (fun k hk e=>by omega)
        refine Kf ?_
        rw[hnum]
        refine⟨_,rfl,_,_,rfl,?_,?_⟩
        ·exact(((rP.aO hnR.ext (fun _ _ _ h=>h)).aO hxC (fun _ _ _ h=>h)).aO hcD (fun k _ h e=>by omega)).mono (fun k _ h=>by omega)
        ·exact((rR.aO hxC (fun _ _ _ h=>h)).aO hcD (fun k _ h e=>by omega)).mono (fun k _ h=>by omega)
       |false=>
        refine bT ?_
        refine aw.xV rfl rfl rfl rfl (dQ s _ w1) ?_
        rintro _ _ ⟨rfl,rfl⟩
        refine⟨_,rfl,?_⟩
        cases h8:fG (gz s) [101,120,116,101,110,100]with
        |true=>
         have hnum:hU op t (gz s)=⟨[t],[t]⟩:=by unfold hU;simp[h1,h2,h3,hr,h5,h6,h7,h8]
         refine bT ?_
         refine Kc ?_
         rintro _ wP ⟨rfl,hnP⟩
         have rP:af (fun k=>w1.heap.size≤k) wP _ [t]:=af.dY hnP rfl LP Mk
         have hxwP:Ext w1 wP:=hxw1.trans hnP.ext
         refine bT ?_
         refine Kc ?_
         rintro _ wR ⟨rfl,hnR⟩
         have rR:af (fun k=>w1.heap.size≤k) wR _ [t]:=af.dY hnR rfl LQ Mk
         have hxwR:Ext w1 wR:=hxwP.trans hnR.ext
         refine bT ?_
         refine Kd ?_
         rintro _ wC ⟨rfl,hxC⟩
         refine⟨_,rfl,?_⟩
         have hxwC:Ext w1 wC:=hxwR.trans hxC
         refine bT ?_
         refine Ke ?_
         rintro _ wD ⟨hbD,hcD,-⟩
         refine bT ?_
         have hxD:Ext w wD:=cg.trans' (hn1.ext.trans hxwC) hcD (fun k hk e=>by omega)
         refine Kf ?_
         rw[hnum]
         refine⟨_,rfl,_,_,rfl,?_,?_⟩
         ·exact(((rP.aO hnR.ext (fun _ _ _ h=>h)).aO hxC (fun _ _ _ h=>h)).aO hcD (fun k _ h e=>by omega)).mono (fun k _ h=>by omega)
         ·exact((rR.aO hxC (fun _ _ _ h=>h)).aO hcD (fun k _ h e=>by omega)).mono (fun k _ h=>by omega)
        |false=>
         have hnum:hU op t (gz s)=⟨[t,t],[t]⟩:=by unfold hU;simp[h1,h2,h3,hr,h5,h6,h7,h8]
         refine bT ?_
         refine Kg ?_
         rintro _ wP ⟨rfl,hnP⟩
         have rP:af (fun k=>w1.heap.size≤k) wP _ [t,t]:=af.dY hnP rfl LP Mk
         have hxwP:Ext w1 wP:=hxw1.trans hnP.ext
         refine bT ?_
         refine Kc ?_
         rintro _ wR ⟨rfl,hnR⟩
         have rR:af (fun k=>w1.heap.size≤k) wR _ [t]:=af.dY hnR rfl LQ Mk
         have hxwR:Ext w1 wR:=hxwP.trans hnR.ext
         refine bT ?_
         refine Kd ?_
         rintro _ wC ⟨rfl,hxC⟩
         refine⟨_,rfl,?_⟩
         have hxwC:Ext w1 wC:=hxwR.trans hxC
         refine bT ?_
         refine Ke ?_
         rintro _ wD ⟨hbD,hcD,-⟩
         refine bT ?_
         have hxD:Ext w wD:=cg.trans' (hn1.ext.trans hxwC) hcD (fun k hk e=>by omega)
         refine Kf ?_
         rw[hnum]
         refine⟨_,rfl,_,_,rfl,?_,?_⟩
         ·exact(((rP.aO hnR.ext (fun _ _ _ h=>h)).aO hxC (fun _ _ _ h=>h)).aO hcD (fun k _ h e=>by omega)).mono (fun k _ h=>by omega)
         ·exact((rR.aO hxC (fun _ _ _ h=>h)).aO hcD (fun k _ h e=>by omega)).mono (fun k _ h=>by omega)
    ·have hr:¬(70≤op∧op≤90):=by omega
     refine bT ?_
     rw[show(ByteArray.mk #[99,108,122]).data.toList=[99,108,122]from rfl,show s.data.toList=gz s from rfl]
     cases h5:(gz s==[99,108,122])with
     |true=>
      have hnum:hU op t (gz s)=⟨[t],[t]⟩:=by unfold hU;simp[h1,h2,h3,hr,h5]
      refine bT ?_
      refine Kc ?_
      rintro _ wP ⟨rfl,hnP⟩
      have rP:af (fun k=>w1.heap.size≤k) wP _ [t]:=af.dY hnP rfl LP Mk
      have hxwP:Ext w1 wP:=hxw1.trans hnP.ext
      refine bT ?_
      refine Kc ?_
      rintro _ wR ⟨rfl,hnR⟩
      have rR:af (fun k=>w1.heap.size≤k) wR _ [t]:=af.dY hnR rfl LQ Mk
      have hxwR:Ext w1 wR:=hxwP.trans hnR.ext
      refine bT ?_
      refine Kd ?_
      rintro _ wC ⟨rfl,hxC⟩
      refine⟨_,rfl,?_⟩
      have hxwC:Ext w1 wC:=hxwR.trans hxC
      refine bT ?_
      refine Ke ?_
      rintro _ wD ⟨hbD,hcD,-⟩
      refine bT ?_
      have hxD:Ext w wD:=cg.trans' (hn1.ext.trans hxwC) hcD (fun k hk e=>by omega)
      refine Kf ?_
      rw[hnum]
      refine⟨_,rfl,_,_,rfl,?_,?_⟩
      ·exact(((rP.aO hnR.ext (fun _ _ _ h=>h)).aO hxC (fun _ _ _ h=>h)).aO hcD (fun k _ h e=>by omega)).mono (fun k _ h=>by omega)
      ·exact((rR.aO hxC (fun _ _ _ h=>h)).aO hcD (fun k _ h e=>by omega)).mono (fun k _ h=>by omega)
     |false=>
      refine bT ?_
      rw[show(ByteArray.mk #[99,116,122]).data.toList=[99,116,122]from rfl,show s.data.toList=gz s from rfl]
      cases h6:(gz s==[99,116,122])with
      |true=>
       have hnum:hU op t (gz s)=⟨[t],[t]⟩:=by unfold hU;simp[h1,h2,h3,hr,h5,h6]
       refine bT ?_
       refine Kc ?_
       rintro _ wP ⟨rfl,hnP⟩
       have rP:af (fun k=>w1.heap.size≤k) wP _ [t]:=af.dY hnP rfl LP Mk
       have hxwP:Ext w1 wP:=hxw1.trans hnP.ext
       refine bT ?_
       refine Kc ?_
       rintro _ wR ⟨rfl,hnR⟩
       have rR:af (fun k=>w1.heap.size≤k) wR _ [t]:=af.dY hnR rfl LQ Mk
       have hxwR:Ext w1 wR:=hxwP.trans hnR.ext
       refine bT ?_
       refine Kd ?_
       rintro _ wC ⟨rfl,hxC⟩
       refine⟨_,rfl,?_⟩
       have hxwC:Ext w1 wC:=hxwR.trans hxC
       refine bT ?_
       refine Ke ?_
       rintro _ wD ⟨hbD,hcD,-⟩
       refine bT ?_
       have hxD:Ext w wD:=cg.trans' (hn1.ext.trans hxwC) hcD (fun k hk e=>by omega)
       refine Kf ?_
       rw[hnum]
       refine⟨_,rfl,_,_,rfl,?_,?_⟩
       ·exact(((rP.aO hnR.ext (fun _ _ _ h=>h)).aO hxC (fun _ _ _ h=>h)).aO hcD (fun k _ h e=>by omega)).mono (fun k _ h=>by omega)
       ·exact((rR.aO hxC (fun _ _ _ h=>h)).aO hcD (fun k _ h e=>by omega)).mono (fun k _ h=>by omega)
      |false=>
       refine bT ?_
       rw[show(ByteArray.mk #[112,111,112,99,110,116]).data.toList=[112,111,112,99,110,116]from rfl,show s.data.toList=gz s from rfl]
       cases h7:(gz s==[112,111,112,99,110,116])with
       |true=>
        have hnum:hU op t (gz s)=⟨[t],[t]⟩:=by unfold hU;simp[h1,h2,h3,hr,h5,h6,h7]
        refine bT ?_
        refine Kc ?_
        rintro _ wP ⟨rfl,hnP⟩
        have rP:af (fun k=>w1.heap.size≤k) wP _ [t]:=af.dY hnP rfl LP Mk
        have hxwP:Ext w1 wP:=hxw1.trans hnP.ext
        refine bT ?_
        refine Kc ?_
        rintro _ wR ⟨rfl,hnR⟩
        have rR:af (fun k=>w1.heap.size≤k) wR _ [t]:=af.dY hnR rfl LQ Mk
        have hxwR:Ext w1 wR:=hxwP.trans hnR.ext
        refine bT ?_
        refine Kd ?_
        rintro _ wC ⟨rfl,hxC⟩
        refine⟨_,rfl,?_⟩
        have hxwC:Ext w1 wC:=hxwR.trans hxC
        refine bT ?_
        refine Ke ?_
        rintro _ wD ⟨hbD,hcD,-⟩
        refine bT ?_
        have hxD:Ext w wD:=cg.trans' (hn1.ext.trans hxwC) hcD (fun k hk e=>by omega)
        refine Kf ?_
        rw[hnum]
        refine⟨_,rfl,_,_,rfl,?_,?_⟩
        ·exact(((rP.aO hnR.ext (fun _ _ _ h=>h)).aO hxC (fun _ _ _ h=>h)).aO hcD (fun k _ h e=>by omega)).mono (fun k _ h=>by omega)
        ·exact((rR.aO hxC (fun _ _ _ h=>h)).aO hcD (fun k _ h e=>by omega)).mono (fun k _ h=>by omega)
       |false=>
        refine bT ?_
        refine aw.xV rfl rfl rfl rfl (dQ s _ w1) ?_
        rintro _ _ ⟨rfl,rfl⟩
        refine⟨_,rfl,?_⟩
        cases h8:fG (gz s) [101,120,116,101,110,100]with
        |true=>
         have hnum:hU op t (gz s)=⟨[t],[t]⟩:=by unfold hU;simp[h1,h2,h3,hr,h5,h6,h7,h8]
         refine bT ?_
         refine Kc ?_
         rintro _ wP ⟨rfl,hnP⟩
         have rP:af (fun k=>w1.heap.size≤k) wP _ [t]:=af.dY hnP rfl LP Mk
         have hxwP:Ext w1 wP:=hxw1.trans hnP.ext
         refine bT ?_
         refine Kc ?_
         rintro _ wR ⟨rfl,hnR⟩
         have rR:af (fun k=>w1.heap.size≤k) wR _ [t]:=af.dY hnR rfl LQ Mk
         have hxwR:Ext w1 wR:=hxwP.trans hnR.ext
         refine bT ?_
         refine Kd ?_
         rintro _ wC ⟨rfl,hxC⟩
         refine⟨_,rfl,?_⟩
         have hxwC:Ext w1 wC:=hxwR.trans hxC
         refine bT ?_
         refine Ke ?_
         rintro _ wD ⟨hbD,hcD,-⟩
         refine bT ?_
         have hxD:Ext w wD:=cg.trans' (hn1.ext.trans hxwC) hcD (fun k hk e=>by omega)
         refine Kf ?_
         rw[hnum]
         refine⟨_,rfl,_,_,rfl,?_,?_⟩
         ·exact(((rP.aO hnR.ext (fun _ _ _ h=>h)).aO hxC (fun _ _ _ h=>h)).aO hcD (fun k _ h e=>by omega)).mono (fun k _ h=>by omega)
         ·exact((rR.aO hxC (fun _ _ _ h=>h)).aO hcD (fun k _ h e=>by omega)).mono (fun k _ h=>by omega)
        |false=>
         have hnum:hU op t (gz s)=⟨[t,t],[t]⟩:=by unfold hU;simp[h1,h2,h3,hr,h5,h6,h7,h8]
         refine bT ?_
         refine Kg ?_
         rintro _ wP ⟨rfl,hnP⟩
         have rP:af (fun k=>w1.heap.size≤k) wP _ [t,t]:=af.dY hnP rfl LP Mk
         have hxwP:Ext w1 wP:=hxw1.trans hnP.ext
         refine bT ?_
         refine Kc ?_
         rintro _ wR ⟨rfl,hnR⟩
         have rR:af (fun k=>w1.heap.size≤k) wR _ [t]:=af.dY hnR rfl LQ Mk
         have hxwR:Ext w1 wR:=hxwP.trans hnR.ext
         refine bT ?_
         refine Kd ?_
         rintro _ wC ⟨rfl,hxC⟩
         refine⟨_,rfl,?_⟩
         have hxwC:Ext w1 wC:=hxwR.trans hxC
         refine bT ?_
         refine Ke ?_
         rintro _ wD ⟨hbD,hcD,-⟩
         refine bT ?_
         have hxD:Ext w wD:=cg.trans' (hn1.ext.trans hxwC) hcD (fun k hk e=>by omega)
         refine Kf ?_
         rw[hnum]
         refine⟨_,rfl,_,_,rfl,?_,?_⟩
         ·exact(((rP.aO hnR.ext (fun _ _ _ h=>h)).aO hxC (fun _ _ _ h=>h)).aO hcD (fun k _ h e=>by omega)).mono (fun k _ h=>by omega)
         ·exact((rR.aO hxC (fun _ _ _ h=>h)).aO hcD (fun k _ h e=>by omega)).mono (fun k _ h=>by omega)
    ·skip
     have hnum:hU op t (gz s)=⟨[t,t],[1]⟩:=by unfold hU;simp[h1,h2,h3,h4,h4']
     refine bT ?_
     refine Kg ?_
     rintro _ wP ⟨rfl,hnP⟩
     have rP:af (fun k=>w1.heap.size≤k) wP _ [t,t]:=af.dY hnP rfl LP Mk
     have hxwP:Ext w1 wP:=hxw1.trans hnP.ext
     refine bT ?_
     refine Kb ?_
     rintro _ wR ⟨rfl,hnR⟩
     have rR:af (fun k=>w1.heap.size≤k) wR _ [1]:=af.dY hnR rfl LQ Mk
     have hxwR:Ext w1 wR:=hxwP.trans hnR.ext
     refine bT ?_
     refine Kd ?_
     rintro _ wC ⟨rfl,hxC⟩
     refine⟨_,rfl,?_⟩
     have hxwC:Ext w1 wC:=hxwR.trans hxC
     refine bT ?_
     refine Ke ?_
     rintro _ wD ⟨hbD,hcD,-⟩
     refine bT ?_
     have hxD:Ext w wD:=cg.trans' (hn1.ext.trans hxwC) hcD (fun k hk e=>by omega)
     refine Kf ?_
     rw[hnum]
     refine⟨_,rfl,_,_,rfl,?_,?_⟩
     ·exact(((rP.aO hnR.ext (fun _ _ _ h=>h)).aO hxC (fun _ _ _ h=>h)).aO hcD (fun k _ h e=>by omega)).mono (fun k _ h=>by omega)
     ·exact((rR.aO hxC (fun _ _ _ h=>h)).aO hcD (fun k _ h e=>by omega)).mono (fun k _ h=>by omega)
def ft (op:Int):Option aL:=
 if op=1∨op=64525∨op=64521 then some ⟨[],[]⟩
 else if op=65∨op=63∨op=64528 then some ⟨[],[1]⟩
 else if op=66 then some ⟨[],[2]⟩
 else if op=210 then some ⟨[],[3]⟩
 else if op=64 then some ⟨[1],[1]⟩
 else if op=64523∨op=64522∨op=64520∨op=64526∨op=64524 then some ⟨[1,1,1],[]⟩
 else if op=167 then some ⟨[2],[1]⟩
 else if op=172∨op=173 then some ⟨[1],[2]⟩
 else if fG (gz (gF op)) [105,51,50,46]=true∨fG (gz (gF op)) [105,54,52,46]=true then some (hU op (DZ (gz (gF op))) ((gz (gF op)).drop 4))
 else none
theorem qY {s p:List UInt8} (h:fG s p=true):p.length≤s.length:=by
 unfold fG at h;simp only[Bool.and_eq_true,decide_eq_true_eq]at h;exact h.1
def Ev (w:World) (r:Option aL) (e:Ending) (w':World):Prop:=(∃v,e=.returned (.tuple #[v,.bool r.isSome])∧HP w.heap.size w' v (r.getD ⟨[],[]⟩))∧Ext w w'
set_option maxHeartbeats 4000000 in
theorem ze (op:Int) (w:World) (h0:fu w):Calls G.P 85 #[.int .i64 op] w (Ev w (ft op)):=by
 refine enter (G:=G) Tryz.func85 rfl Tryz.ntmps85 rfl ?_
 refine bT ?_
 refine aw.e (ck.alloc rfl) rfl ?_
 rintro _ w1 ⟨rfl,hn1⟩
 have hs1:=hn1.size
 refine bT ?_
 refine aw.e (ck.buildSlice (cs:=[.int .i64 1,.int .i64 1,.int .i64 1]) (e:=37) rfl L9) rfl ?_
 rintro _ w2 ⟨rfl,hn2⟩
 have hb1:=hn1.aT.aO hn2.ext id
 have r3:af (fun k=>w1.heap.size≤k) w2 (.slice (some ⟨w1.heap.size,0,none⟩) 3 3) [1,1,1]:=af.dY hn2 rfl Mj Mk
 have r1:af (fun k=>w1.heap.size≤k) w2 (.slice (some ⟨w1.heap.size,0,none⟩) 1 3) [1]:=⟨_,_,rfl,by simp,.inr ⟨_,0,rfl,Nat.le_refl _,fun i hi=>by
  obtain rfl:i=0:=by simpa using hi
  exact hn2.aT.cell rfl⟩⟩
 have hxw2:Ext w w2:=hn1.ext.trans hn2.ext
 have hx2:Ext w2 w2:=cg.refl _ _
 rcases(show op=1∨op=64525∨op=64521∨op=65∨op=63∨op=64528∨op=66∨op=210∨op=64∨op=64523∨op=64522∨op=64520∨op=64526∨op=64524∨op=167∨op=172∨op=173∨(op≠1∧op≠64525∧op≠64521∧op≠65∧op≠63∧op≠64528∧op≠66∧op≠210∧op≠64∧op≠64523∧op≠64522∧op≠64520∧op≠64526∧op≠64524∧op≠167∧op≠172∧op≠173)from by omega)with hc_|hc_|hc_|hc_|hc_|hc_|hc_|hc_|hc_|hc_|hc_|hc_|hc_|hc_|hc_|hc_|hc_|⟨hc1_,hc64525_,hc64521_,hc65_,hc63_,hc64528_,hc66_,hc210_,hc64_,hc64523_,hc64522_,hc64520_,hc64526_,hc64524_,hc167_,hc172_,hc173_⟩
 ·have hsg:ft op=some ⟨[],[]⟩:=by rw[hc_];rfl
  refine bT ?_
  refine Kh ?_
  rintro _ wD ⟨hbD,hcD,-⟩
  refine bT ?_
  have hxD:Ext w wD:=cg.trans' hxw2 hcD (fun k hk e=>by omega)
  refine Fin.aF (.inl rfl) rfl rfl rfl rfl rfl hbD rfl rfl ⟨⟨_,by rw[hsg];rfl,?_⟩,hxD⟩
  rw[hsg]
  refine⟨_,rfl,_,_,rfl,?_,?_⟩
  ·exact t8
  ·exact t8
 ·have hsg:ft op=some ⟨[],[]⟩:=by rw[hc_];rfl
  refine bT ?_
  refine Kh ?_
  rintro _ wD ⟨hbD,hcD,-⟩
  refine bT ?_
  have hxD:Ext w wD:=cg.trans' hxw2 hcD (fun k hk e=>by omega)
  refine Fin.aF (.inl rfl) rfl rfl rfl rfl rfl hbD rfl rfl ⟨⟨_,by rw[hsg];rfl,?_⟩,hxD⟩
  rw[hsg]
  refine⟨_,rfl,_,_,rfl,?_,?_⟩
  ·exact t8
  ·exact t8
 ·have hsg:ft op=some ⟨[],[]⟩:=by rw[hc_];rfl
  refine bT ?_
  refine Kh ?_
  rintro _ wD ⟨hbD,hcD,-⟩
  refine bT ?_
  have hxD:Ext w wD:=cg.trans' hxw2 hcD (fun k hk e=>by omega)
  refine Fin.aF (.inl rfl) rfl rfl rfl rfl rfl hbD rfl rfl ⟨⟨_,by rw[hsg];rfl,?_⟩,hxD⟩
  rw[hsg]
  refine⟨_,rfl,_,_,rfl,?_,?_⟩
  ·exact t8
  ·exact t8
 ·have hsg:ft op=some ⟨[],[1]⟩:=by rw[hc_];rfl
  refine bT ?_
  refine Kb ?_
  rintro _ wR ⟨rfl,hnR⟩
  have qR:af (fun k=>w1.heap.size≤k) wR _ [1]:=af.dY hnR rfl LJ Mk
  have hxR:Ext w2 wR:=hx2.trans hnR.ext
  refine bT ?_
  refine Kd ?_
  rintro _ wC ⟨rfl,hxC⟩
  refine⟨_,rfl,?_⟩
  have hxwC:Ext w2 wC:=hxR.trans hxC
  refine bT ?_
  refine Ke ?_
  rintro _ wD ⟨hbD,hcD,-⟩
  refine bT ?_
  have hxD:Ext w wD:=cg.trans' (hxw2.trans hxwC) hcD (fun k hk e=>by omega)
  refine Fin.aF (.inl rfl) rfl rfl rfl rfl rfl hbD rfl rfl ⟨⟨_,by rw[hsg];rfl,?_⟩,hxD⟩
  rw[hsg]
  refine⟨_,rfl,_,_,rfl,?_,?_⟩
  ·exact t8
  ·exact((qR.aO hxC (fun _ _ _ h=>h)).aO hcD (fun k _ h e=>by omega)).mono (fun k _ h=>by omega)
 ·have hsg:ft op=some ⟨[],[1]⟩:=by rw[hc_];rfl
  refine bT ?_
  refine Kb ?_
  rintro _ wR ⟨rfl,hnR⟩
  have qR:af (fun k=>w1.heap.size≤k) wR _ [1]:=af.dY hnR rfl LJ Mk
  have hxR:Ext w2 wR:=hx2.trans hnR.ext
  refine bT ?_
  refine Kd ?_
  rintro _ wC ⟨rfl,hxC⟩
  refine⟨_,rfl,?_⟩
  have hxwC:Ext w2 wC:=hxR.trans hxC
  refine bT ?_
  refine Ke ?_
  rintro _ wD ⟨hbD,hcD,-⟩
  refine bT ?_
  have hxD:Ext w wD:=cg.trans' (hxw2.trans hxwC) hcD (fun k hk e=>by omega)
  refine Fin.aF (.inl rfl) rfl rfl rfl rfl rfl hbD rfl rfl ⟨⟨_,by rw[hsg];rfl,?_⟩,hxD⟩
  rw[hsg]
  refine⟨_,rfl,_,_,rfl,?_,?_⟩
  ·exact t8
  ·exact((qR.aO hxC (fun _ _ _ h=>h)).aO hcD (fun k _ h e=>by omega)).mono (fun k _ h=>by omega)
 ·have hsg:ft op=some ⟨[],[1]⟩:=by rw[hc_];rfl
  refine bT ?_
  refine Kb ?_
  rintro _ wR ⟨rfl,hnR⟩
  have qR:af (fun k=>w1.heap.size≤k) wR _ [1]:=af.dY hnR rfl LJ Mk
  have hxR:Ext w2 wR:=hx2.trans hnR.ext
  refine bT ?_
  refine Kd ?_
  rintro _ wC ⟨rfl,hxC⟩
  refine⟨_,rfl,?_⟩
  have hxwC:Ext w2 wC:=hxR.trans hxC
  refine bT ?_
  refine Ke ?_
  rintro _ wD ⟨hbD,hcD,-⟩
  refine bT ?_
  have hxD:Ext w wD:=cg.trans' (hxw2.trans hxwC) hcD (fun k hk e=>by omega)
  refine Fin.aF (.inl rfl) rfl rfl rfl rfl rfl hbD rfl rfl ⟨⟨_,by rw[hsg];rfl,?_⟩,hxD⟩
  rw[hsg]
  refine⟨_,rfl,_,_,rfl,?_,?_⟩
  ·exact t8
  ·exact((qR.aO hxC (fun _ _ _ h=>h)).aO hcD (fun k _ h e=>by omega)).mono (fun k _ h=>by omega)
 ·have hsg:ft op=some ⟨[],[2]⟩:=by rw[hc_];rfl
  refine bT ?_
  refine Ki ?_
  rintro _ wR ⟨rfl,hnR⟩
  have qR:af (fun k=>w1.heap.size≤k) wR _ [2]:=af.dY hnR rfl LJ Mk
  have hxR:Ext w2 wR:=hx2.trans hnR.ext
  refine bT ?_
  refine Kd ?_
  rintro _ wC ⟨rfl,hxC⟩
  refine⟨_,rfl,?_⟩
  have hxwC:Ext w2 wC:=hxR.trans hxC
  refine bT ?_
  refine Ke ?_
  rintro _ wD ⟨hbD,hcD,-⟩
  refine bT ?_
  have hxD:Ext w wD:=cg.trans' (hxw2.trans hxwC) hcD (fun k hk e=>by omega)
  refine Fin.aF (.inl rfl) rfl rfl rfl rfl rfl hbD rfl rfl ⟨⟨_,by rw[hsg];rfl,?_⟩,hxD⟩
  rw[hsg]
  refine⟨_,rfl,_,_,rfl,?_,?_⟩
  ·exact t8
  ·exact((qR.aO hxC (fun _ _ _ h=>h)).aO hcD (fun k _ h e=>by omega)).mono (fun k _ h=>by omega)
 ·have hsg:ft op=some ⟨[],[3]⟩:=by rw[hc_];rfl
  refine bT ?_
  refine aw.e (ck.buildSlice (cs:=[.int .i64 3]) (e:=37) rfl L9) rfl ?_
  rintro _ wR ⟨rfl,hnR⟩
  have qR:af (fun k=>w1.heap.size≤k) wR _ [3]:=af.dY hnR rfl LJ Mk
  have hxR:Ext w2 wR:=hx2.trans hnR.ext
  refine bT ?_
  refine Kd ?_
  rintro _ wC ⟨rfl,hxC⟩
  refine⟨_,rfl,?_⟩
  have hxwC:Ext w2 wC:=hxR.trans hxC
  refine bT ?_
  refine Ke ?_
  rintro _ wD ⟨hbD,hcD,-⟩
  refine bT ?_
  have hxD:Ext w wD:=cg.trans' (hxw2.trans hxwC) hcD (fun k hk e=>by omega)
  refine Fin.aF (.inl rfl) rfl rfl rfl rfl rfl hbD rfl rfl ⟨⟨_,by rw[hsg];rfl,?_⟩,hxD⟩
  rw[hsg]
  refine⟨_,rfl,_,_,rfl,?_,?_⟩
  ·exact t8
  ·exact((qR.aO hxC (fun _ _ _ h=>h)).aO hcD (fun k _ h e=>by omega)).mono (fun k _ h=>by omega)
 ·have hsg:ft op=some ⟨[1],[1]⟩:=by rw[hc_];rfl
  refine bT ?_
  refine aw.y (Yl.cO rfl rfl rfl rfl rfl (i:=1) rfl Mj) rfl ?_
  refine bT ?_
  refine Kb ?_
  rintro _ wR ⟨rfl,hnR⟩
  have qR:af (fun k=>w1.heap.size≤k) wR _ [1]:=af.dY hnR rfl LJ Mk
  have hxR:Ext w2 wR:=hx2.trans hnR.ext
  refine bT ?_
  refine Kd ?_
  rintro _ wC ⟨rfl,hxC⟩
  refine⟨_,rfl,?_⟩
  have hxwC:Ext w2 wC:=hxR.trans hxC
  refine bT ?_
  refine Ke ?_
  rintro _ wD ⟨hbD,hcD,-⟩
  refine bT ?_
  have hxD:Ext w wD:=cg.trans' (hxw2.trans hxwC) hcD (fun k hk e=>by omega)
  refine Fin.aF (.inl rfl) rfl rfl rfl rfl rfl hbD rfl rfl ⟨⟨_,by rw[hsg];rfl,?_⟩,hxD⟩
  rw[hsg]
  refine⟨_,rfl,_,_,rfl,?_,?_⟩
  ·exact(((r1.aO hnR.ext (fun _ _ _ h=>h)).aO hxC (fun _ _ _ h=>h)).aO hcD (fun k _ h e=>by omega)).mono (fun k _ h=>by omega)
  ·exact((qR.aO hxC (fun _ _ _ h=>h)).aO hcD (fun k _ h e=>by omega)).mono (fun k _ h=>by omega)
 ·have hsg:ft op=some ⟨[1,1,1],[]⟩:=by rw[hc_];rfl
  refine bT ?_
  refine Kj ?_
  rintro _ wC ⟨rfl,hxC⟩
  refine⟨_,rfl,?_⟩
  have hxwC:Ext w2 wC:=hx2.trans hxC
  refine bT ?_
  refine Ke ?_
  rintro _ wD ⟨hbD,hcD,-⟩
  refine bT ?_
  have hxD:Ext w wD:=cg.trans' (hxw2.trans hxwC) hcD (fun k hk e=>by omega)
  refine Fin.aF (.inl rfl) rfl rfl rfl rfl rfl hbD rfl rfl ⟨⟨_,by rw[hsg];rfl,?_⟩,hxD⟩
  rw[hsg]
  refine⟨_,rfl,_,_,rfl,?_,?_⟩
  ·exact((r3.aO hxC (fun _ _ _ h=>h)).aO hcD (fun k _ h e=>by omega)).mono (fun k _ h=>by omega)
  ·exact t8
 ·have hsg:ft op=some ⟨[1,1,1],[]⟩:=by rw[hc_];rfl
  refine bT ?_
  refine Kj ?_
  rintro _ wC ⟨rfl,hxC⟩
  refine⟨_,rfl,?_⟩
  have hxwC:Ext w2 wC:=hx2.trans hxC
  refine bT ?_
  refine Ke ?_
  rintro _ wD ⟨hbD,hcD,-⟩
  refine bT ?_
  have hxD:Ext w wD:=cg.trans' (hxw2.trans hxwC) hcD (fun k hk e=>by omega)
  refine Fin.aF (.inl rfl) rfl rfl rfl rfl rfl hbD rfl rfl ⟨⟨_,by rw[hsg];rfl,?_⟩,hxD⟩
  rw[hsg]
  refine⟨_,rfl,_,_,rfl,?_,?_⟩
  ·exact((r3.aO hxC (fun _ _ _ h=>h)).aO hcD (fun k _ h e=>by omega)).mono (fun k _ h=>by omega)
  ·exact t8
 ·have hsg:ft op=some ⟨[1,1,1],[]⟩:=by rw[hc_];rfl
  refine bT ?_
  refine Kj ?_
  rintro _ wC ⟨rfl,hxC⟩
  refine⟨_,rfl,?_⟩
  have hxwC:Ext w2 wC:=hx2.trans hxC
  refine bT ?_
  refine Ke ?_
  rintro _ wD ⟨hbD,hcD,-⟩
  refine bT ?_
  have hxD:Ext w wD:=cg.trans' (hxw2.trans hxwC) hcD (fun k hk e=>by omega)
  refine Fin.aF (.inl rfl) rfl rfl rfl rfl rfl hbD rfl rfl ⟨⟨_,by rw[hsg];rfl,?_⟩,hxD⟩
  rw[hsg]
  refine⟨_,rfl,_,_,rfl,?_,?_⟩
  ·exact((r3.aO hxC (fun _ _ _ h=>h)).aO hcD (fun k _ h e=>by omega)).mono (fun k _ h=>by omega)
  ·exact t8
 ·have hsg:ft op=some ⟨[1,1,1],[]⟩:=by rw[hc_];rfl
  refine bT ?_
  refine Kj ?_
  rintro _ wC ⟨rfl,hxC⟩
  refine⟨_,rfl,?_⟩
  have hxwC:Ext w2 wC:=hx2.trans hxC
  refine bT ?_
  refine Ke ?_
  rintro _ wD ⟨hbD,hcD,-⟩
  refine bT ?_
  have hxD:Ext w wD:=cg.trans' (hxw2.trans hxwC) hcD (fun k hk e=>by omega)
  refine Fin.aF (.inl rfl) rfl rfl rfl rfl rfl hbD rfl rfl ⟨⟨_,by rw[hsg];rfl,?_⟩,hxD⟩
  rw[hsg]
  refine⟨_,rfl,_,_,rfl,?_,?_⟩
  ·exact((r3.aO hxC (fun _ _ _ h=>h)).aO hcD (fun k _ h e=>by omega)).mono (fun k _ h=>by omega)
  ·exact t8
 ·have hsg:ft op=some ⟨[1,1,1],[]⟩:=by rw[hc_];rfl
  refine bT ?_
  refine Kj ?_
  rintro _ wC ⟨rfl,hxC⟩
  refine⟨_,rfl,?_⟩
  have hxwC:Ext w2 wC:=hx2.trans hxC
  refine bT ?_
  refine Ke ?_
  rintro _ wD ⟨hbD,hcD,-⟩
  refine bT ?_
  have hxD:Ext w wD:=cg.trans' (hxw2.trans hxwC) hcD (fun k hk e=>by omega)
  refine Fin.aF (.inl rfl) rfl rfl rfl rfl rfl hbD rfl rfl ⟨⟨_,by rw[hsg];rfl,?_⟩,hxD⟩
  rw[hsg]
  refine⟨_,rfl,_,_,rfl,?_,?_⟩
  ·exact((r3.aO hxC (fun _ _ _ h=>h)).aO hcD (fun k _ h e=>by omega)).mono (fun k _ h=>by omega)
  ·exact t8
 ·have hsg:ft op=some ⟨[2],[1]⟩:=by rw[hc_];rfl
  refine bT ?_
  refine Ki ?_
  rintro _ wP ⟨rfl,hnP⟩
  have qP:af (fun k=>w1.heap.size≤k) wP _ [2]:=af.dY hnP rfl LJ Mk
  have hxP:Ext w2 wP:=hx2.trans hnP.ext
  refine bT ?_
  refine Kb ?_
  rintro _ wR ⟨rfl,hnR⟩
  have qR:af (fun k=>w1.heap.size≤k) wR _ [1]:=af.dY hnR rfl (by have:=hn2.ext.size;have:=hxP.size;omega) Mk
  have hxR:Ext w2 wR:=hxP.trans hnR.ext
  refine bT ?_
  refine Kd ?_
  rintro _ wC ⟨rfl,hxC⟩
  refine⟨_,rfl,?_⟩
  have hxwC:Ext w2 wC:=hxR.trans hxC
  refine bT ?_
  refine Ke ?_
  rintro _ wD ⟨hbD,hcD,-⟩
  refine bT ?_
  have hxD:Ext w wD:=cg.trans' (hxw2.trans hxwC) hcD (fun k hk e=>by omega)
  refine Fin.aF (.inl rfl) rfl rfl rfl rfl rfl hbD rfl rfl ⟨⟨_,by rw[hsg];rfl,?_⟩,hxD⟩
  rw[hsg]
  refine⟨_,rfl,_,_,rfl,?_,?_⟩
  ·exact(((qP.aO hnR.ext (fun _ _ _ h=>h)).aO hxC (fun _ _ _ h=>h)).aO hcD (fun k _ h e=>by omega)).mono (fun k _ h=>by omega)
  ·exact((qR.aO hxC (fun _ _ _ h=>h)).aO hcD (fun k _ h e=>by omega)).mono (fun k _ h=>by omega)
 ·have hsg:ft op=some ⟨[1],[2]⟩:=by rw[hc_];rfl
  refine bT ?_
  refine aw.y (Yl.cO rfl rfl rfl rfl rfl (i:=1) rfl Mj) rfl ?_
  refine bT ?_
  refine Ki ?_
  rintro _ wR ⟨rfl,hnR⟩
  have qR:af (fun k=>w1.heap.size≤k) wR _ [2]:=af.dY hnR rfl LJ Mk
  have hxR:Ext w2 wR:=hx2.trans hnR.ext
  refine bT ?_
  refine Kd ?_
  rintro _ wC ⟨rfl,hxC⟩
  refine⟨_,rfl,?_⟩
  have hxwC:Ext w2 wC:=hxR.trans hxC
  refine bT ?_
  refine Ke ?_
  rintro _ wD ⟨hbD,hcD,-⟩
  refine bT ?_
  have hxD:Ext w wD:=cg.trans' (hxw2.trans hxwC) hcD (fun k hk e=>by omega)
  refine Fin.aF (.inl rfl) rfl rfl rfl rfl rfl hbD rfl rfl ⟨⟨_,by rw[hsg];rfl,?_⟩,hxD⟩
  rw[hsg]
  refine⟨_,rfl,_,_,rfl,?_,?_⟩
  ·exact(((r1.aO hnR.ext (fun _ _ _ h=>h)).aO hxC (fun _ _ _ h=>h)).aO hcD (fun k _ h e=>by omega)).mono (fun k _ h=>by omega)
  ·exact((qR.aO hxC (fun _ _ _ h=>h)).aO hcD (fun k _ h e=>by omega)).mono (fun k _ h=>by omega)
 ·have hsg:ft op=some ⟨[1],[2]⟩:=by rw[hc_];rfl
  refine bT ?_
  refine aw.y (Yl.cO rfl rfl rfl rfl rfl (i:=1) rfl Mj) rfl ?_
  refine bT ?_
  refine Ki ?_
  rintro _ wR ⟨rfl,hnR⟩
  have qR:af (fun k=>w1.heap.size≤k) wR _ [2]:=af.dY hnR rfl LJ Mk
  have hxR:Ext w2 wR:=hx2.trans hnR.ext
  refine bT ?_
  refine Kd ?_
  rintro _ wC ⟨rfl,hxC⟩
  refine⟨_,rfl,?_⟩
  have hxwC:Ext w2 wC:=hxR.trans hxC
  refine bT ?_
  refine Ke ?_
  rintro _ wD ⟨hbD,hcD,-⟩
  refine bT ?_
  have hxD:Ext w wD:=cg.trans' (hxw2.trans hxwC) hcD (fun k hk e=>by omega)
  refine Fin.aF (.inl rfl) rfl rfl rfl rfl rfl hbD rfl rfl ⟨⟨_,by rw[hsg];rfl,?_⟩,hxD⟩
  rw[hsg]
  refine⟨_,rfl,_,_,rfl,?_,?_⟩
  ·exact(((r1.aO hnR.ext (fun _ _ _ h=>h)).aO hxC (fun _ _ _ h=>h)).aO hcD (fun k _ h e=>by omega)).mono (fun k _ h=>by omega)
  ·exact((qR.aO hxC (fun _ _ _ h=>h)).aO hcD (fun k _ h e=>by omega)).mono (fun k _ h=>by omega)
 ·have hsg:ft op=if fG (gz (gF op)) [105,51,50,46]=true∨fG (gz (gF op)) [105,54,52,46]=true then some (hU op (DZ (gz (gF op))) ((gz (gF op)).drop 4))else none:=by
   unfold ft
   rw[if_neg Mj,if_neg Mj,if_neg Mj,if_neg Mj,if_neg Mj,if_neg Mj,if_neg Mj,if_neg Mj]
  have hsm:=rn op
  refine bT ?_
  refine aw.call rfl rfl rfl (m9 op w2 (h0.ext hxw2)) ?_
  rintro _ w3 ⟨rfl,hx3⟩
  refine⟨_,rfl,?_⟩
  generalize gF op=s at*
  refine bT ?_
  refine aw.call rfl rfl rfl (dQ s _ w3) ?_
  rintro _ _ ⟨rfl,rfl⟩
  refine⟨_,rfl,?_⟩
  cases h1:fG (gz s) [105,51,50,46]with
  |true=>
   have h4:4≤s.size:=by have:=qY h1;rw[j7]at this;exact this
   rw[if_pos (by simp[h1])]at hsg
   refine bT ?_
   refine Cd.oT ?_
   refine J7 ?_
   refine dJ.take 1 rfl L9 (Yl.move rfl) ?_
   refine J9 ?_
   refine dJ.take 4 rfl L9 (Yl.de Tryz.underlying9 rfl rfl (i:=4) rfl Mj) ?_
   refine dJ.one 2 L9 rfl rfl (ck.call rfl rfl (nG s _) (fun e w' h=>⟨_,h.1⟩)) ?_
   rintro _ w3' ⟨hv3,hw3⟩
   cases hv3
   obtain rfl:w3.drew=w3':=hw3
   refine dJ.one 5 L9 rfl rfl (ck.call rfl rfl (nC op _ _ _) (fun e w' h=>by obtain⟨⟨v,h,_⟩,_⟩:=h;exact⟨v,h⟩)) ?_
   rintro _ w4 ⟨⟨v,hv4,cs,hcs,hv⟩,hx4'⟩
   cases hv4
   subst hcs
   rw[pI]at hv
   have hx4:Ext w3 w4:=cg.trans ((cg.refl _ w3).drew) hx4'
   obtain⟨v0,v1,rfl,q0,q1⟩:=hv
   obtain⟨p0,c0,rfl,-⟩:=q0.slice
   obtain⟨p1,c1,rfl,-⟩:=q1.slice
   refine dJ.Ga 6 L9 rfl (ck.bn (ti:=gW) (cs:=[_,_]) rfl rfl rfl rfl rfl (by simp[Value.oneCell']) (hb1.aO (hx3.trans hx4) id) rfl) ?_
   rintro _ wD ⟨hbD,hcD,-⟩
   refine dJ.Dd 7 L9 rfl rfl (Yl.assign rfl) ?_
   refine dJ.done L9 ?_
   refine bT ?_
   have hxD:Ext w wD:=cg.trans' ((hxw2.trans hx3).trans hx4) hcD (fun k hk e=>by omega)
   refine Fin.aF (.inl rfl) rfl rfl rfl rfl rfl hbD rfl rfl ⟨⟨_,by rw[hsg];rfl,?_⟩,hxD⟩
   rw[hsg]
   have hsz:w1.heap.size≤w3.heap.size:=Nat.le_trans hn2.ext.size hx3.size
   have hdz:w3.drew.heap.size=w3.heap.size:=rfl
   refine⟨_,rfl,_,_,rfl,?_,?_⟩
   ·have:=(q0.aO hcD (fun k _ h e=>by omega)).mono (H:=fun k=>w.heap.size≤k) (fun k _ h=>by omega);exact this
   ·have:=(q1.aO hcD (fun k _ h e=>by omega)).mono (H:=fun k=>w.heap.size≤k) (fun k _ h=>by omega);exact this
  |false=>
   refine bT ?_
   refine aw.xV rfl rfl rfl rfl (dQ s _ w3) ?_
   rintro _ _ ⟨rfl,rfl⟩
   refine⟨_,rfl,?_⟩
   cases h2:fG (gz s) [105,54,52,46]with
   |true=>
    have h4:4≤s.size:=by have:=qY h2;rw[j7]at this;exact this
    rw[if_pos (by simp[h2])]at hsg
    refine bT ?_
    refine Cd.oT ?_
    refine J7 ?_
    refine dJ.take 1 rfl L9 (Yl.move rfl) ?_
    refine J9 ?_
    refine dJ.take 4 rfl L9 (Yl.de Tryz.underlying9 rfl rfl (i:=4) rfl Mj) ?_
    refine dJ.one 2 L9 rfl rfl (ck.call rfl rfl (nG s _) (fun e w' h=>⟨_,h.1⟩)) ?_
    rintro _ w3' ⟨hv3,hw3⟩
    cases hv3
    obtain rfl:w3.drew=w3':=hw3
    refine dJ.one 5 L9 rfl rfl (ck.call rfl rfl (nC op _ _ _) (fun e w' h=>by obtain⟨⟨v,h,_⟩,_⟩:=h;exact⟨v,h⟩)) ?_
    rintro _ w4 ⟨⟨v,hv4,cs,hcs,hv⟩,hx4'⟩
    cases hv4
    subst hcs
    rw[pI]at hv
    have hx4:Ext w3 w4:=cg.trans ((cg.refl _ w3).drew) hx4'
    obtain⟨v0,v1,rfl,q0,q1⟩:=hv
    obtain⟨p0,c0,rfl,-⟩:=q0.slice
    obtain⟨p1,c1,rfl,-⟩:=q1.slice
    refine dJ.Ga 6 L9 rfl (ck.bn (ti:=gW) (cs:=[_,_]) rfl rfl rfl rfl rfl (by simp[Value.oneCell']) (hb1.aO (hx3.trans hx4) id) rfl) ?_
    rintro _ wD ⟨hbD,hcD,-⟩
    refine dJ.Dd 7 L9 rfl rfl (Yl.assign rfl) ?_
    refine dJ.done L9 ?_
    refine bT ?_
    have hxD:Ext w wD:=cg.trans' ((hxw2.trans hx3).trans hx4) hcD (fun k hk e=>by omega)
    refine Fin.aF (.inl rfl) rfl rfl rfl rfl rfl hbD rfl rfl ⟨⟨_,by rw[hsg];rfl,?_⟩,hxD⟩
    rw[hsg]
    have hsz:w1.heap.size≤w3.heap.size:=Nat.le_trans hn2.ext.size hx3.size
    have hdz:w3.drew.heap.size=w3.heap.size:=rfl
    refine⟨_,rfl,_,_,rfl,?_,?_⟩
    ·have:=(q0.aO hcD (fun k _ h e=>by omega)).mono (H:=fun k=>w.heap.size≤k) (fun k _ h=>by omega);exact this
    ·have:=(q1.aO hcD (fun k _ h e=>by omega)).mono (H:=fun k=>w.heap.size≤k) (fun k _ h=>by omega);exact this
   |false=>
    rw[h1,h2,if_neg Mk]at hsg
    refine bT ?_
    refine aw.e0 (ck.bn (ti:=gW) (cs:=[.slice none 0 0,.slice none 0 0]) rfl rfl rfl rfl rfl (by simp[Value.oneCell']) (hb1.aO hx3 id) rfl) ?_
    rintro _ wD ⟨hbD,hcD,-⟩
    refine bT ?_
    have hxD:Ext w wD:=cg.trans' (hxw2.trans hx3) hcD (fun k hk e=>by omega)
    refine Fin.aF (.inl rfl) rfl rfl rfl rfl rfl hbD rfl rfl ⟨⟨_,by rw[hsg];rfl,?_⟩,hxD⟩
    rw[hsg]
    exact⟨_,rfl,_,_,rfl,af.bR _ _,af.bR _ _⟩
structure EO where
 funcs:Int
 instrs:Int
 blocks:Int
 loops:Int
 calls:Int
 Ch:Int
 zI:Int
 consts:Int
 deriving Inhabited,DecidableEq
def FQ (b:Bool):Int:=if b then 1 else 0
end Go.Proofs.YtgbgnipidakdhaaGreatDoor
