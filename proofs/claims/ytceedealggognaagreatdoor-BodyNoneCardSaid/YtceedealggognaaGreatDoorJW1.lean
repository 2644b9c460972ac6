/- Small functions over texts: HasPrefix; opcode.of, begins. -/
import Derived.Test.YtceedealggognaaGreatDoorJRa
import Derived.Test.YtceedealggognaaGreatDoorJR2
import Derived.Test.YtceedealggognaaGreatDoorJSh
import Derived.Test.YtceedealggognaaGreatDoorJR7
namespace Go.Proofs.YtceedealggognaaGreatDoor
open Go.RowKit
set_option maxRecDepth 100000
abbrev eF (s:ByteArray):List UInt8:=s.data.toList
theorem hG (s:ByteArray):(eF s).length=s.size:=rfl
def dM (s p:List UInt8):Bool:=p.length≤s.length && s.take p.length==p
theorem lu (s:ByteArray) (i j:Nat):eF (s.extract i j)=((eF s).take j).drop i:=by
 simp only[eF,ByteArray.data_extract,Array.toList_extract,List.extract_eq_drop_take']
theorem oh (s p:ByteArray) (w:World):Calls G.P 177 #[.string s,.string p] w fun e w'=>e=.returned (.bool (dM (eF s) (eF p)))∧w=w':=by
 refine enter (G:=G) Tryz.func177 rfl Tryz.ntmps177 rfl ?_
 have hs:=hG s
 have hp:=hG p
 by_cases h:p.size≤s.size
 ·refine bE ?_
  refine Fin.aA rfl rfl ⟨?_,rfl⟩
  unfold dM
  rw[hp,hs,decide_eq_true h,Bool.true_and,←hp]
  congr 2
  have:=lu s 0 p.size
  rw[List.drop_zero]at this
  rw[hp];exact congrArg (·==eF p) this
 ·refine bE ?_
  refine Fin.aA rfl rfl ⟨?_,rfl⟩
  unfold dM
  rw[hp,hs,decide_eq_false h,Bool.false_and]
theorem cT (s p:ByteArray) (w:World):Calls G.P 149 #[.string s,.string p] w fun e w'=>e=.returned (.bool (dM (eF s) (eF p)))∧w=w':=by
 refine enter (G:=G) Tryz.func149 rfl Tryz.ntmps149 rfl ?_
 refine bE ?_
 refine ah.call rfl rfl rfl (oh s p w) ?_
 rintro _ _ ⟨rfl,rfl⟩
 refine⟨_,rfl,?_⟩
 refine bE ?_
 exact Fin.aA rfl rfl ⟨rfl,rfl⟩
def yF (s:List UInt8):Int:=if dM s [105,54,52]then 2 else 1
theorem kT (s:ByteArray) (w:World):Calls G.P 151 #[.string s] w fun e w'=>e=.returned (.int .i64 (yF (eF s)))∧w=w':=by
 refine enter (G:=G) Tryz.func151 rfl Tryz.ntmps151 rfl ?_
 refine bE ?_
 refine ah.call rfl rfl rfl (cT s _ w) ?_
 rintro _ _ ⟨rfl,rfl⟩
 refine⟨_,rfl,?_⟩
 unfold yF
 cases dM (eF s) [105,54,52]<;>(refine bE ?_;exact Fin.aA rfl rfl ⟨rfl,rfl⟩)
theorem bB (a b:Option Addr) (l c l2 c2:Nat) (w:World):Calls G.P 147 #[.slice a l c,.slice b l2 c2] w fun e w'=>e=.returned (.agg #[.slice a l c,.slice b l2 c2])∧Ext w w':=by
 refine enter (G:=G) Tryz.func147 rfl Tryz.ntmps147 rfl ?_
 refine bE ?_
 refine rx ?_
 rintro _ w1 ⟨rfl,hn⟩
 refine bE ?_
 refine ah.e0 (bC.aL (ti:=eN) (cs:=[.slice a l c,.slice b l2 c2]) rfl rfl rfl rfl rfl FM hn.aH rfl) ?_
 rintro _ w2 ⟨hb,hc,_⟩
 refine bE ?_
 exact Fin.fw (.inl rfl) rfl rfl rfl rfl rfl hb rfl ⟨rfl,bz.trans' hn.ext hc (fun k hk e=>by omega)⟩
structure dG (w:World):Prop where
 B7:∀c:Nat,c<256→w.cell? ⟨0,c,none⟩=some (.int .u8 (if Lib.isSp (UInt8.ofNat c)then 1 else 0))
 mx:∃m,w.cell? ⟨1,0,none⟩=some (.int .i64 m)
theorem dG.ext {w w':World} (h:dG w) (hx:Ext w w'):dG w':=⟨fun c hc=>hx.cell (h.B7 c hc),by obtain⟨m,hm⟩:=h.mx;exact⟨m,hx.cell hm⟩⟩
theorem dG.put {W:World} {l:Nat} {o o':Obj} (h:dG W) (hl:W.heap[l]?=some o) (ho:o.isCells=false):dG (W.putObj l o'):=by
 have key:∀{p:Addr} {v:Value},W.cell? p=some v→(W.putObj l o').cell? p=some v:=fun{p v} hc=>by
  have hne:p.block≠l:=by
   intro e
   unfold World.cell? at hc
   rw[e,hl]at hc
   cases o<;>simp_all [Obj.isCells]
  rw[World.cell?_of_block (w:=W) (by simp[World.putObj,Ne.symm hne])];exact hc
 exact⟨fun c hc=>key (h.B7 c hc),by obtain⟨m,hm⟩:=h.mx;exact⟨m,key hm⟩⟩
def bO:List (Int×List UInt8×List UInt8):=[(0,[],[117,110,114,101,97,99,104,97,98,108,101,32,110,111,112,32,98,108,111,99,107,32,108,111,111,112,32,105,102,32,101,108,115,101]),(11,[],[101,110,100,32,98,114,32,98,114,95,105,102,32,98,114,95,116,97,98,108,101,32,114,101,116,117,114,110,32,99,97,108,108,32,99,97,108,108,95,105,110,100,105,114,101,99,116]),(26,[],[100,114,111,112,32,115,101,108,101,99,116,32,115,101,108,101,99,116]),(32,[108,111,99,97,108,46],[103,101,116,32,115,101,116,32,116,101,101]),(35,[103,108,111,98,97,108,46],[103,101,116,32,115,101,116]),(37,[116,97,98,108,101,46],[103,101,116,32,115,101,116]),(40,[],[105,51,50,46,108,111,97,100,32,105,54,52,46,108,111,97,100]),(44,[105,51,50,46],[108,111,97,100,56,95,115,32,108,111,97,100,56,95,117,32,108,111,97,100,49,54,95,115,32,108,111,97,100,49,54,95,117]),(48,[105,54,52,46],[108,111,97,100,56,95,115,32,108,111,97,100,56,95,117,32,108,111,97,100,49,54,95,115,32,108,111,97,100,49,54,95,117,32,108,111,97,100,51,50,95,115,32,108,111,97,100,51,50,95,117]),(54,[],[105,51,50,46,115,116,111,114,101,32,105,54,52,46,115,116,111,114,101]),(58,[105,51,50,46],[115,116,111,114,101,56,32,115,116,111,114,101,49,54]),(60,[105,54,52,46],[115,116,111,114,101,56,32,115,116,111,114,101,49,54,32,115,116,111,114,101,51,50]),(63,[109,101,109,111,114,121,46],[115,105,122,101,32,103,114,111,119]),(65,[],[105,51,50,46,99,111,110,115,116,32,105,54,52,46,99,111,110,115,116]),(69,[105,51,50,46],[101,113,122,32,101,113,32,110,101,32,108,116,95,115,32,108,116,95,117,32,103,116,95,115,32,103,116,95,117,32,108,101,95,115,32,108,101,95,117,32,103,101,95,115,32,103,101,95,117]),(80,[105,54,52,46],[101,113,122,32,101,113,32,110,101,32,108,116,95,115,32,108,116,95,117,32,103,116,95,115,32,103,116,95,117,32,108,101,95,115,32,108,101,95,117,32,103,101,95,115,32,103,101,95,117]),(103,[105,51,50,46],[99,108,122,32,99,116,122,32,112,111,112,99,110,116,32,97,100,100,32,115,117,98,32,109,117,108,32,100,105,118,95,115,32,100,105,118,95,117,32,114,101,109,95,115,32,114,101,109,95,117,32,97,110,100,32,111,114,32,120,111,114,32,115,104,108,32,115,104,114,95,115,32,115,104,114,95,117,32,114,111,116,108,32,114,111,116,114]),(121,[105,54,52,46],[99,108,122,32,99,116,122,32,112,111,112,99,110,116,32,97,100,100,32,115,117,98,32,109,117,108,32,100,105,118,95,115,32,100,105,118,95,117,32,114,101,109,95,115,32,114,101,109,95,117,32,97,110,100,32,111,114,32,120,111,114,32,115,104,108,32,115,104,114,95,115,32,115,104,114,95,117,32,114,111,116,108,32,114,111,116,114]),(167,[],[105,51,50,46,119,114,97,112,95,105,54,52]),(172,[105,54,52,46],[101,120,116,101,110,100,95,105,51,50,95,115,32,101,120,116,101,110,100,95,105,51,50,95,117]),(192,[105,51,50,46],[101,120,116,101,110,100,56,95,115,32,101,120,116,101,110,100,49,54,95,115]),(194,[105,54,52,46],[101,120,116,101,110,100,56,95,115,32,101,120,116,101,110,100,49,54,95,115,32,101,120,116,101,110,100,51,50,95,115]),(208,[114,101,102,46],[110,117,108,108,32,105,115,95,110,117,108,108,32,102,117,110,99]),(64520,[],[109,101,109,111,114,121,46,105,110,105,116,32,100,97,116,97,46,100,114,111,112,32,109,101,109,111,114,121,46,99,111,112,121,32,109,101,109,111,114,121,46,102,105,108,108,32,116,97,98,108,101,46,105,110,105,116,32,101,108,101,109,46,100,114,111,112,32,116,97,98,108,101,46,99,111,112,121,32,116,97,98,108,101,46,103,114,111,119,32,116,97,98,108,101,46,115,105,122,101,32,116,97,98,108,101,46,102,105,108,108])]
def wV (r:Int×List UInt8×List UInt8):List Value:=[.int .i64 r.1,.string ⟨r.2.1.toArray⟩,.string ⟨r.2.2.toArray⟩]
def ic:List Value:=bO.flatMap wV
def opsOf (r:Int×List UInt8×List UInt8):List (Int×ByteArray):=(Lib.fields r.2.2).zipIdx.map fun p=>(r.1+p.2,⟨r.2.1.toArray⟩++⟨p.1.toArray⟩)
def rI:List (Int×ByteArray):=bO.flatMap opsOf
theorem sG (w:World):Calls G.P 189 #[] w fun e w'=>e=.returned (.slice (some ⟨w.heap.size,0,none⟩) 24 24)∧tr w w' ic 271:=by
 refine enter (G:=G) Tryz.func189 rfl Tryz.ntmps189 rfl ?_
 refine bE ?_
 refine ah.e (bC.buildSlice (cs:=ic) (e:=271) rfl FT) rfl ?_
 rintro _ w1 ⟨rfl,hn⟩
 refine bE ?_
 exact Fin.aA rfl rfl ⟨rfl,hn⟩
theorem sO:ic=(List.range 24).flatMap (fun i=>wV (ix bO i)):=by kernel_rfl
theorem mL:bO.length=24:=rfl
theorem AV:∀i,i<24→0≤(ix bO i).1∧(ix bO i).1≤70000∧(ix bO i).2.1.length≤100∧(ix bO i).2.2.length≤1000∧((ix bO i).2.2.all fun b=>decide (b.toNat<128))=true∧((Lib.fields (ix bO i).2.2).all fun f=>decide (f.length≤100))=true∧(Lib.fields (ix bO i).2.2).length≤100:=by decide+kernel
def xR (r:Int×List UInt8×List UInt8) (k:Nat):Int×ByteArray:=(r.1+k,⟨r.2.1.toArray⟩++⟨(ix (Lib.fields r.2.2) k).toArray⟩)
theorem qk (r:Int×List UInt8×List UInt8):(opsOf r).length=(Lib.fields r.2.2).length:=by simp[opsOf]
theorem tW {r:Int×List UInt8×List UInt8} {k:Nat} (h:k<(Lib.fields r.2.2).length):(opsOf r).take (k+1)=(opsOf r).take k++[xR r k]:=by
 have hl:k<(opsOf r).length:=by rw[qk];exact h
 rw[List.take_succ_eq_append_getElem hl]
 congr 2
 simp only[opsOf,List.getElem_map,List.getElem_zipIdx,xR,cI h]
 simp
def kM (i k:Nat):List (Int×ByteArray):=(bO.take i).flatMap opsOf++(opsOf (ix bO i)).take k
theorem ya {i k:Nat} (hi:i<24):kM i k<+:rI:=by
 refine⟨(opsOf (ix bO i)).drop k++(bO.drop (i+1)).flatMap opsOf,?_⟩
 have e:bO=bO.take i++([ix bO i]++bO.drop (i+1)):=by
  rw[←List.append_assoc,←bu (by rw[mL];exact hi),List.take_append_drop]
 unfold kM rI
 conv=>rhs;rw[e]
 simp only[List.flatMap_append,List.flatMap_cons,List.flatMap_nil,List.append_nil]
 rw[List.append_assoc,←List.append_assoc (List.take k _),List.take_append_drop]
theorem wm {i:Nat} (hi:i<24):kM i (Lib.fields (ix bO i).2.2).length=kM (i+1) 0:=by
 unfold kM
 rw[←qk,List.take_length,List.take_zero,List.append_nil,bu (by rw[mL];exact hi),List.flatMap_append]
 simp
theorem x9:kM 24 0=rI:=by unfold kM rI;rw[List.take_zero,List.append_nil,←mL,List.take_length]
def TK (T:TypeId):Prop:=T=271∨T=9∨T=71
structure tq (B:Nat) (W W':World):Prop where
 size:W.heap.size≤W'.heap.size
 same:∀(k:Nat) (cs:List Value) (T:TypeId),B≤k→TK T→eA W k cs T→eA W' k cs T
 env:dG W→dG W'
theorem tq.refl (B:Nat) (W:World):tq B W W:=⟨Nat.le_refl _,fun _ _ _ _ _ h=>h,id⟩
theorem tq.trans {B:Nat} {X Y Z:World} (h:tq B X Y) (k:tq B Y Z):tq B X Z:=⟨Nat.le_trans h.size k.size,fun i cs T hB hT hi=>k.same i cs T hB hT (h.same i cs T hB hT hi),fun e=>k.env (h.env e)⟩
theorem tq.put {B:Nat} {W:World} {l:Nat} {o o':Obj} (hl:W.heap[l]?=some o) (ho:o.isCells=false):tq B W (W.putObj l o'):=
 ⟨by simp[World.putObj],fun k cs T _ _ hk=>by
  have:k≠l:=by rintro rfl;unfold eA at hk;rw[hl]at hk;cases hk;cases ho
  unfold eA;rw[World.putObj_heap_other this];exact hk,fun e=>e.put hl ho⟩
theorem tq.aH {B:Nat} {W W':World} (h:tq B W W') {b:Nat} {cs:List Value} {T:TypeId} (hb:eA W b cs T) (hB:B≤b) (hT:TK T):eA W' b cs T:=h.same b cs T hB hT hb
theorem Ext.grown {W W':World} (h:Ext W W'):W.grownBy W' none:=⟨h.os,h.tape,h.output,h.size,fun k hk _=>h.block k hk id⟩
def Aw (x:Int×ByteArray):List Value:=[.int .i64 x.1,.string x.2]
theorem wO {ro ro':Option Nat} {m m':Nat} {l:Nat} {args:Array Value} {W:World} {R:Ending→World→Prop} (h:YieldAt (FW ro) m G.P l args W R):YieldAt (FW ro') m' G.P l args W R:=by
 obtain⟨fn,tmps,assign,body,hy,hR⟩:=h
 exact⟨fn,tmps,assign,body,hy,trivial,fun c cs _=>hR.2 c cs (fun d hd=>by cases hd)⟩
set_option maxHeartbeats 4000000 in
theorem tT (w0:World) (h0:dG w0) (l:Nat) (J Jx:List (Int×ByteArray)→World→Prop) (W:World) (hW:Below w0.heap.size w0 W) (hJ:∀s A B,J s A→A.grownBy B none→J s B)
  (hY:∀pre x W1,J pre W1→pre++[x]<+:rI→YieldAt (FW none) 0 G.P l (Aw x).toArray W1 fun e W'=>(e=.returned (.bool true)∧J (pre++[x]) W'∧tq w0.heap.size W1 W')∨(e=.returned (.bool false)∧Jx (pre++[x]) W')) (hJ0:J [] W):
  Calls G.P 188 ([.func (.yield l) #[] #[]]:List Value).toArray W fun e W'=>(∃v,e=.returned v)∧(J rI W'∨∃pre,pre<+:rI∧Jx pre W'):=by
 have hEW:dG W:=h0.ext (Ext.uU hW)
 have hBW:w0.heap.size≤W.heap.size:=hW.size
 have abide:∀{pre:List (Int×ByteArray)} {A B:World},J pre A→Ext A B→J pre B:=fun{pre A B} h hx=>hJ pre A B h hx.grown
 refine enter (G:=G) Tryz.func188 rfl Tryz.ntmps188 rfl ?_
 refine uA ?_
 refine ah.call rfl rfl rfl (sG W) ?_
 rintro _ w1 ⟨rfl,hn1⟩
 refine⟨_,rfl,?_⟩
 refine uA ?_
 refine Cd.loop (σ:=Nat) (fun i=>[(0,.func (.yield l) #[] #[]),(6,.slice (some ⟨W.heap.size,0,none⟩) 24 24),(7,.int .i64 24),(8,.int .i64 i)]) (fun i wr=>i≤24∧J (kM i 0) wr∧dG wr∧eA wr W.heap.size ic 271) (fun i=>24 - i) 0 bP ⟨by omega,abide (show J (kM 0 0) W from hJ0) hn1.ext,hEW.ext hn1.ext,hn1.aH⟩ ?_
 rintro i wr ⟨hi,hJi,hEi,hBi⟩
 by_cases hlt:i<24
 ·obtain⟨k1,k2,k3,k4,k5,k6,k7⟩:=AV i hlt
  have hcell:∀w',w'=wr→∀j,j<3→w'.cell? ⟨W.heap.size,0+i*3+j,none⟩=(wV (ix bO i))[j]?:=by
   rintro _ rfl j hj
   have e:ic[i*3+j]?=(wV (ix bO i))[j]?:=by rw[sO];exact nY 3 (fun i=>wV (ix bO i)) 24 (fun _ _=>rfl) i j hlt hj
   rw[Nat.zero_add]
   have hs:∃u,(wV (ix bO i))[j]?=some u:=⟨_,List.getElem?_eq_getElem (by simpa[wV]using hj)⟩
   obtain⟨u,hu⟩:=hs
   rw[hu]at e ⊢
   exact hBi.cell e
  have hpre:=fun k=>ya (i:=i) (k:=k) hlt
  have hnext:=wm hlt
  have htake:=fun k (h:k<(Lib.fields (ix bO i).2.2).length)=>tW h
  refine uA ?_
  refine ah.y (Yl.mW (cs:=wV (ix bO i)) rfl rfl rfl rfl rfl hcell) rfl ?_
  refine rx ?_
  rintro _ w2 ⟨rfl,hn2⟩
  refine ah.e0 (bC.aL (ti:=BK) (cs:=wV (ix bO i)) rfl rfl rfl rfl rfl (by simp[wV,Value.oneCell']) hn2.aH rfl) ?_
  rintro _ w3 ⟨hb3,hc3,hz3⟩
  have hx3:Ext wr w3:=bz.trans' hn2.ext hc3 (fun k hk e=>by omega)
  generalize hgb:wr.heap.size=b2 at*
  have c0:w3.cell? ⟨b2,0,none⟩=some (.int .i64 (ix bO i).1):=hb3.cell rfl
  have c1:w3.cell? ⟨b2,0+1,none⟩=some (.string ⟨(ix bO i).2.1.toArray⟩):=hb3.cell rfl
  have c2:w3.cell? ⟨b2,0+2,none⟩=some (.string ⟨(ix bO i).2.2.toArray⟩):=hb3.cell rfl
  refine uA ?_
  have hE3:dG w3:=hEi.ext hx3
  refine ah.call rfl rfl rfl (wA ⟨(ix bO i).2.2.toArray⟩ w3 (show(ix bO i).2.2.length<_ by omega) (fun j b hb=>?_) hE3.B7) ?_
  ·have:=List.all_eq_true.1 k5 b (List.mem_of_getElem? hb)
   simpa using this
  rintro _ _ ⟨rfl,rfl⟩
  refine⟨_,rfl,?_⟩
  have hn4:=tr.alloc w3 ((Lib.fields (ix bO i).2.2).map fun l=>Value.string ⟨l.toArray⟩) 9
  generalize hw4:w3.alloc (.cells ((Lib.fields (ix bO i).2.2).map fun l=>Value.string ⟨l.toArray⟩).toArray 9)=w4 at*
  have hx4:Ext wr w4:=hx3.trans hn4.ext
  have hb4:eA w4 b2 (wV (ix bO i)) 271:=hb3.aB hn4.ext id
  have hB4:eA w4 W.heap.size ic 271:=hBi.aB hx4 id
  have hf4:=hn4.aH
  generalize hgc:w3.heap.size=b4 at*
  have hle2:W.heap.size<b2:=by have:=hBi.lt;omega
  have hle4:b2<b4:=by have:=hb3.lt;omega
  have hJ4:J (kM i 0) w4:=abide hJi hx4
  have hE4:dG w4:=hE3.ext hn4.ext
  clear hn4 hx4 hx3 hb3 hc3 hz3 hn2 c0 c1 c2 hE3 hEi hJi hBi hcell hw4
  refine uA ?_
  refine Cd.loop (σ:=Nat) (fun k=>[(0,.func (.yield l) #[] #[]),(3,.pointer (some ⟨b2,0,none⟩)),(6,.slice (some ⟨W.heap.size,0,none⟩) 24 24),(7,.int .i64 24),(8,.int .i64 i),(14,.slice (some ⟨b4,0,none⟩) (Lib.fields (ix bO i).2.2).length (Lib.fields (ix bO i).2.2).length),(15,.int .i64 ((Lib.fields (ix bO i).2.2).length:Nat)),(16,.int .i64 k)])
   (fun k wq=>k≤(Lib.fields (ix bO i).2.2).length∧J (kM i k) wq∧dG wq∧eA wq W.heap.size ic 271∧eA wq b2 (wV (ix bO i)) 271∧eA wq b4 ((Lib.fields (ix bO i).2.2).map fun l=>Value.string ⟨l.toArray⟩) 9) (fun k=>(Lib.fields (ix bO i).2.2).length - k) 0 bP ⟨by omega,hJ4,hE4,hB4,hb4,hf4⟩ ?_
  clear hJ4 hE4 hB4 hb4 hf4
  rintro k wq ⟨hk,hJk,hEk,hBk,hb,hf⟩
  by_cases hkl:k<(Lib.fields (ix bO i).2.2).length
  ·have c0:wq.cell? ⟨b2,0,none⟩=some (.int .i64 (ix bO i).1):=hb.cell rfl
   have c1:wq.cell? ⟨b2,0+1,none⟩=some (.string ⟨(ix bO i).2.1.toArray⟩):=hb.cell rfl
   have c4:wq.cell? ⟨b4,0+k,none⟩=some (.string ⟨(ix (Lib.fields (ix bO i).2.2) k).toArray⟩):=by
    rw[Nat.zero_add]
    exact hf.cell (by rw[List.getElem?_map,gq hkl];rfl)
   have hs1:(⟨(ix bO i).2.1.toArray⟩:ByteArray).size=(ix bO i).2.1.length:=rfl
   have hs2:(⟨(ix (Lib.fields (ix bO i).2.2) k).toArray⟩:ByteArray).size=(ix (Lib.fields (ix bO i).2.2) k).length:=rfl
   have hs3:(ix (Lib.fields (ix bO i).2.2) k).length≤100:=by
    have:=List.all_eq_true.1 k6 _ (show ix (Lib.fields (ix bO i).2.2) k∈_ by rw[cI hkl];exact List.getElem_mem hkl)
    simpa using this
   have hstep:kM i (k+1)=kM i k++[xR (ix bO i) k]:=by unfold kM;rw[htake k hkl,List.append_assoc]
   have hyk:=hY (kM i k) (xR (ix bO i) k) wq hJk (by rw[←hstep];exact hpre (k+1))
   refine uA ?_
   refine Cd.uZ 0 ?_
   refine tl ?_
   refine cQ.round rfl rfl rfl hyk ?_
   rintro e w5 (⟨rfl,hJ5,hK5⟩|⟨rfl,hJx5⟩)
   ·refine⟨_,rfl,?_⟩
    refine tl ?_
    refine dj.ofFin ?_
    refine uA ?_
    refine Fin.next (k+1) bP ⟨by omega,by rw[hstep];exact hJ5,hK5.env hEk,hK5.aH hBk hBW (.inl rfl),hK5.aH hb FY (.inl rfl),hK5.aH hf FY (.inr (.inl rfl))⟩ FY
   ·refine⟨_,rfl,?_⟩
    refine tl ?_
    refine dj.ofFin ?_
    refine uA ?_
    refine Fin.yf rfl ⟨⟨_,rfl⟩,.inr ⟨kM i k++[xR (ix bO i) k],?_,hJx5⟩⟩
    rw[←hstep];exact hpre (k+1)
  ·have hke:k=(Lib.fields (ix bO i).2.2).length:=by omega
   subst hke
   refine uA ?_
   refine Fin.next (i+1) bP ⟨by omega,by rw[←hnext];exact hJk,hEk,hBk⟩ FY
 ·have hie:i=24:=by omega
  subst hie
  refine uA ?_
  refine Fin.km rfl ⟨⟨_,rfl⟩,.inl (by rw[←x9];exact hJi)⟩
theorem qZ (m:Nat) (w0:World) (h0:dG w0):SeqStopsK (FW none) m G.P 188 #[] (fun x=>(Aw x).toArray) (tq w0.heap.size) (fun xs=>xs=rI) (fun pre=>pre<+:rI) rI.length w0:=fun l J Jx W hW hJ hJx hY hJ0=>
 lI ((tT w0 h0 l J Jx W hW (fun s A B h hg=>hJ s A B none h hg (fun r e=>by cases e)) (fun pre x W1 hj hp=>wO (hY pre x W1 hj (by have:=hp.length_le;simp at this;omega))) hJ0).mono fun _ _ h=>⟨h.1,h.2.imp (fun h=>⟨_,rfl,h⟩) id⟩)
theorem qp {fn:Func} {n:Nat} {E:Env} {w:World} {a T:Nat} {ti:TI} {v:Value} {ad:Addr} (hr:fn.results=#[.cell a T]) (ha:lk E a=some (.pointer (some ad))) (hT:G.ty T=some ti) (hag:ti.agg=false) (hc:w.cell? ad=some v):
  ∀ac,Ag n ac E→(results fn ac.tmps).run G.P w=.ok v w:=fun ac hac=>by
 have h1:=(G.fx T ti hT).agg w
 rw[hag]at h1
 have g1:ac.tmps[a]?.getD undef=.pointer (some ad):=by have:=(hac.eq a _ ha).2;simpa using this
 simp[results,hr,g1,asAddr,loadVar,h1,hc]
def iM (op:Int):List (Int×ByteArray)→Option ByteArray
 |[]=>none
 |x::r=>if x.1=op then some x.2 else iM op r
def eG (op:Int):ByteArray:=(iM op rI).getD ⟨#[]⟩
theorem nW {op:Int}:∀{l:List (Int×ByteArray)},(∀x∈l,x.1≠op)→iM op l=none
 |[],_=>rfl
 |x::r,h=>by rw[iM,if_neg (h x FZ)];exact nW (fun y hy=>h y (by simp[hy]))
theorem qb {op:Int} {x:Int×ByteArray} (hx:x.1=op) {r:List (Int×ByteArray)}:∀{l:List (Int×ByteArray)},(∀y∈l,y.1≠op)→iM op (l++[x]++r)=some x.2
 |[],_=>by simp[iM,hx]
 |y::l,h=>by
  show iM op (y::(l++[x]++r))=_
  rw[iM,if_neg (h y FZ)];exact qb hx (fun z hz=>h z (by simp[hz]))
theorem re (w:World):Calls G.P 176 #[] w fun e w'=>e=.returned (.func (.func 188) #[] #[])∧w=w':=by
 refine enter (G:=G) Tryz.func176 rfl Tryz.ntmps176 rfl ?_
 refine bE ?_
 exact Fin.aA rfl rfl ⟨rfl,rfl⟩
theorem eA.grown {W W':World} {row:Option Nat} {B b:Nat} {cs:List Value} {T:TypeId} (h:eA W b cs T) (hb:b<B) (hg:W.grownBy W' row) (hr:∀r,row=some r→B≤r∧∃o:Obj,W.heap[r]?=some o∧o.isCells=false):eA W' b cs T:=by
 unfold eA
 rw[hg.block b h.lt (fun e=>by have:=(hr b e.symm).1;omega)];exact h
theorem Ext.xC {w W W':World} {row:Option Nat} {B:Nat} (h:Ext w W) (hB:w.heap.size≤B) (hg:W.grownBy W' row) (hr:∀r,row=some r→B≤r∧∃o:Obj,W.heap[r]?=some o∧o.isCells=false):Ext w W':=
 bz.trans' h (bz.iP hg) (fun k hk e=>by have:=(hr k e).1;omega)
theorem Ext.BF {w W:World} (h:Ext w W) {l:Nat} (hl:w.heap.size≤l) (o:Obj):Ext w (W.putObj l o):=
 bz.trans' h (T:=fun k=>k=l) ⟨rfl,rfl,rfl,by simp[World.putObj],fun k _ hk=>World.putObj_heap_other hk⟩ (fun k hk e=>by omega)
set_option maxHeartbeats 4000000 in
theorem kq (op:Int) (w:World) (h0:dG w):Calls G.P 148 #[.int .i64 op] w fun e w'=>e=.returned (.string (eG op))∧Ext w w':=by
 refine xz (m:=5) (l:=[.int .i64 op]) Tryz.func148 rfl Tryz.ntmps148 rfl ?_
 refine tl ?_
 refine cQ.e (bC.box rfl rfl) rfl rfl ?_
 rintro _ w1 ⟨rfl,hn1⟩
 refine cQ.e (bC.alloc rfl) rfl rfl ?_
 rintro _ w2 ⟨rfl,hn2⟩
 refine tl ?_
 refine cQ.e (bC.call rfl rfl (re w2) (fun e w' h=>⟨_,h.1⟩)) rfl rfl ?_
 rintro _ _ ⟨h,rfl⟩
 cases h
 refine tl ?_
 have hx2:Ext w w2:=hn1.ext.trans hn2.ext
 have hs1:=hn1.size
 have hs2:=hn2.size
 have hb1:eA w2 w.heap.size [.int .i64 op] 56:=hn1.aH.aB hn2.ext id
 have hb2:eA w2 w1.heap.size [.string ⟨#[]⟩] 9:=hn2.aH
 generalize w1.heap.size=b2 at*
 generalize hgb:w.heap.size=b1 at*
 refine gH.rangeFunc (encs:=Aw) (Kp:=tq w2.heap.size) (S:=fun xs=>xs=rI) (Sp:=fun pre=>pre<+:rI) (N:=rI.length) rfl rfl FY (qZ _ w2 (h0.ext hx2)) (fun h k=>h.trans k) (fun W l o o' _ hl ho _=>tq.put hl ho) (tq.refl _) (fun _=>rfl) rfl
  (fun pre W=>(∀x∈pre,x.1≠op)∧eA W b1 [.int .i64 op] 56∧eA W b2 [.string ⟨#[]⟩] 9∧Ext w W)
  (fun c pre W=>c=.ret∧∃pre' x,pre=pre'++[x]∧x.1=op∧(∀y∈pre',y.1≠op)∧eA W b2 [.string x.2] 9∧Ext w W)
  (fun pre W W' row ⟨h1,h2,h3,h4⟩ hg hr=>⟨h1,h2.grown FY hg hr,h3.grown FY hg hr,h4.xC FY hg hr⟩)
  (fun c pre W W' row ⟨h1,p,x,h2,h3,h4,h5,h6⟩ hg hr=>⟨h1,p,x,h2,h3,h4,h5.grown FY hg hr,h6.xC FY hg hr⟩)
  ⟨by simp,hb1,hb2,hx2⟩ (fun x=>[(1,.pointer (some ⟨b1,0,none⟩)),(2,.pointer (some ⟨b2,0,none⟩)),(3,.int .i64 x.1),(4,.string x.2)]) ?_ ?_ ?_ ?_
 ·intro l x W K hK
  refine tl ?_
  exact dj.Ae (fun a ha=>hK a (ha.sub bP))
 ·rintro l pre x W ⟨h1,h2,h3,h4⟩ hN
  have c1:W.cell? ⟨b1,0,none⟩=some (.int .i64 op):=h2.cell rfl
  by_cases hx:x.1=op
  ·refine tl ?_
   refine cQ.e0 (bC.ur (ti:=C0) rfl rfl rfl rfl rfl h3 FZ) rfl ?_
   rintro _ W2 ⟨hb,hc,hz⟩
   refine tl ?_
   refine⟨fun a ha=>⟨⟨by omega,fun k o hk ho hno=>?_⟩,rfl,pre,x,rfl,hx,h1,hb,?_⟩⟩
   ·rw[hc.block k (Array.getElem?_eq_some_iff.1 ho).1 FY];exact ho
   ·exact bz.trans' h4 hc (fun k hk e=>by omega)
  ·refine tl ?_
   refine⟨fun a ha=>⟨KeepsFrom.refl _ _,tq.refl _ _,fun y hy=>?_,h2,h3,h4⟩⟩
   rcases List.mem_append.1 hy with hy|hy
   ·exact h1 y hy
   ·rw[List.mem_singleton]at hy;subst hy;exact hx
 ·rintro Dn xs W hD rfl ⟨h1,h2,h3,h4⟩ hK
  refine tl ?_
  refine cQ.e0 (bC.ur (ti:=C0) rfl rfl rfl rfl rfl h3 FZ) rfl ?_
  rintro _ W2 ⟨hb,hc,hz⟩
  refine tl ?_
  have hx4:Ext w W2:=bz.trans' h4 hc (fun k hk e=>by omega)
  refine dj.zq (.inl rfl) (by rw[hc.block Dn (Array.getElem?_eq_some_iff.1 hK).1 FY];exact hK) (qp rfl rfl rfl rfl ?_) ⟨rfl,hx4.BF FY _⟩
  rw[World.cell?_of_block (w:=W2) (World.putObj_heap_other (by show b2≠Dn;omega)),show eG op=⟨#[]⟩by unfold eG;rw[nW h1];rfl]
  exact hb.cell rfl
 ·rintro Dn c pre W hD hp ⟨rfl,pre',x,rfl,hx,h1,hb,h4⟩ hK
  refine tl ?_
  refine dj.zq (.inl rfl) hK (qp rfl rfl rfl rfl ?_) ⟨rfl,h4.BF FY _⟩
  obtain⟨r,hr⟩:=hp
  rw[World.cell?_of_block (w:=W) (World.putObj_heap_other (by show b2≠Dn;omega)),show eG op=x.2 by unfold eG;rw[←hr,qb hx h1];rfl]
  exact hb.cell rfl
theorem lV (op:Int) (w:World) (h0:dG w):Calls G.P 127 #[.int .i64 op] w fun e w'=>e=.returned (.bool (!(eF (eG op)==[])))∧Ext w w':=by
 refine enter (G:=G) Tryz.func127 rfl Tryz.ntmps127 rfl ?_
 refine bE ?_
 refine ah.call rfl rfl rfl (kq op w h0) ?_
 rintro _ w1 ⟨rfl,hx⟩
 refine⟨_,rfl,?_⟩
 refine bE ?_
 exact Fin.aA rfl rfl ⟨rfl,hx⟩
def tO (op:Int):Bool:=!(eF (eG op)==[])
def gQ (op:Int):Bool:=decide (40≤op) && decide (op≤62) && tO op
theorem pB (op:Int) (w:World) (h0:dG w):Calls G.P 168 #[.int .i64 op] w fun e w'=>e=.returned (.bool (gQ op))∧Ext w w':=by
 refine enter (G:=G) Tryz.func168 rfl Tryz.ntmps168 rfl ?_
 unfold gQ
 rcases(show op<40∨(40≤op∧62<op)∨(40≤op∧op≤62)by omega)with h|⟨h1,h2⟩|⟨h1,h2⟩
 ·refine bE ?_
  exact Fin.aA rfl rfl ⟨by rw[decide_eq_false FY];rfl,bz.refl _ _⟩
 ·refine bE ?_
  exact Fin.aA rfl rfl ⟨by rw[decide_eq_true h1,decide_eq_false FY];rfl,bz.refl _ _⟩
 ·refine bE ?_
  refine ah.sg rfl rfl rfl rfl (lV op w h0) ?_
  rintro _ w1 ⟨rfl,hx⟩
  refine⟨_,rfl,?_⟩
  refine bE ?_
  exact Fin.aA rfl rfl ⟨by rw[decide_eq_true h1,decide_eq_true h2];rfl,hx⟩
theorem wh:(rI.all fun x=>decide (x.2.size≤100))=true:=by decide+kernel
theorem qd {op:Int} {s:ByteArray}:∀{l:List (Int×ByteArray)},iM op l=some s→(op,s)∈l
 |x::r,h=>by
  rw[iM]at h
  split at h
  ·rename_i e;cases h;subst e;simp
  ·exact List.mem_cons_of_mem _ (qd h)
theorem om (op:Int):(eG op).size≤100:=by
 unfold eG
 cases h:iM op rI with
 |none=>exact Nat.zero_le _
 |some s=>
  have:=List.all_eq_true.1 wh _ (qd h)
  simpa using this
def mO (s:List UInt8):Int:=
 if Lib.contains (s.drop 4) [56]=true then 1 else if Lib.contains (s.drop 4) [49,54]=true then 2 else if Lib.contains (s.drop 4) [51,50]=true then 4 else if(s.take 3==[105,51,50])=true then 4 else 8
def fD (op:Int):Int:=if gQ op=true then mO (eF (eG op))else 0
theorem rX:∀k,k<23→gQ (40+(k:Nat))=true→4≤(eG (40+(k:Nat))).size:=by decide+kernel
theorem rY {op:Int} (h:gQ op=true):4≤(eG op).size:=by
 have h':=h
 unfold gQ at h'
 simp only[Bool.and_eq_true,decide_eq_true_eq]at h'
 obtain⟨k,hk⟩:=Int.eq_ofNat_of_zero_le (show 0≤op - 40 by omega)
 have e:op=40+(k:Int):=by omega
 rw[e]at h ⊢
 exact rX k FY h
theorem mT {s:ByteArray}:eF (s.extract 4 s.size)=(eF s).drop 4:=by
 rw[lu,List.take_of_length_le (by rw[hG];omega)]
theorem Ad {s:ByteArray}:eF (s.extract 0 3)=(eF s).take 3:=by rw[lu,List.drop_zero]
set_option maxHeartbeats 4000000 in
theorem lW (op:Int) (w:World) (h0:dG w):Calls G.P 136 #[.int .i64 op] w fun e w'=>e=.returned (.int .i64 (fD op))∧Ext w w':=by
 refine enter (G:=G) Tryz.func136 rfl Tryz.ntmps136 rfl ?_
 refine bE ?_
 refine ah.call rfl rfl rfl (pB op w h0) ?_
 rintro _ w1 ⟨rfl,hx1⟩
 refine⟨_,rfl,?_⟩
 unfold fD
 cases ha:gQ op with
 |false=>
  refine bE ?_
  exact Fin.aA rfl rfl ⟨rfl,hx1⟩
 |true=>
  have hsz:=rY ha
  have hsm:=om op
  refine bE ?_
  refine ah.call rfl rfl rfl (kq op w1 (h0.ext hx1)) ?_
  rintro _ w2 ⟨rfl,hx2⟩
  refine⟨_,rfl,?_⟩
  have hxb:Ext w w2:=hx1.trans hx2
  generalize eG op=s at*
  refine bE ?_
  refine ah.e (bC.buildSlice (cs:=[.int .i64 8,.int .i64 16,.int .i64 32]) (e:=3) rfl FT) rfl ?_
  rintro _ w3 ⟨rfl,hn3⟩
  have hx3:Ext w w3:=hxb.trans hn3.ext
  have b3:=hn3.aH
  generalize w2.heap.size=bk at*
  refine bE ?_
  refine Cd.loop (σ:=Nat) (fun k=>[(3,.string s),(11,.slice (some ⟨bk,0,none⟩) 3 3),(12,.int .i64 3),(13,.int .i64 k)]) (fun k wr=>k≤3∧Ext w wr∧eA wr bk [.int .i64 8,.int .i64 16,.int .i64 32] 3∧(0<k→Lib.contains ((eF s).drop 4) [56]=false)∧(1<k→Lib.contains ((eF s).drop 4) [49,54]=false)∧(2<k→Lib.contains ((eF s).drop 4) [51,50]=false)) (fun k=>3 - k) 0 bP ⟨by omega,hx3,b3,by omega,by omega,by omega⟩ ?_
  rintro k wr ⟨hk,hxr,hbr,g0,g1,g2⟩
  obtain⟨mx,hmx⟩:=(h0.ext hxr).mx
  rcases(show k=0∨k=1∨k=2∨k=3 by omega)with rfl|rfl|rfl|rfl
  ·have c:wr.cell? ⟨bk,0+0,none⟩=some (.int .i64 8):=hbr.cell rfl
   refine bE ?_
   refine Cd.me ?_
   refine t1 ?_
   refine t6 ?_
   refine t7 ?_
   refine cF.take 4 rfl FT (Yl.quo (r:=0) rfl rfl (fun w=>by kernel_rfl)) ?_
   refine t8 ?_
   rintro _ w5 ⟨rfl,hn5⟩
   have hx5:Ext wr w5:=bz.trans ((bz.refl _ wr).drew) hn5.ext
   have c5:w5.cell? ⟨wr.drew.heap.size,0+0,none⟩=some (.string ⟨([56]:List UInt8).toArray⟩):=hn5.aH.cell rfl
   refine cF.take 5 rfl FT (Yl.fL rfl rfl rfl rfl rfl (i:=0) rfl FY) ?_
   refine cF.xQ 6 FT rfl rfl (Yl.load rfl rfl rfl (by rintro _ rfl;exact c5)) ?_
   refine cF.one 7 FT rfl rfl (bC.call rfl rfl (ff (s.extract 4 s.size) ⟨([56]:List UInt8).toArray⟩ mx w5 FI (hx5.cell hmx)) (fun e w' h=>⟨_,h.1⟩)) ?_
   rintro _ w6 ⟨hv,hw6⟩
   obtain rfl:w5=w6:=hw6.symm
   cases hv
   have e5:Lib.contains (s.extract 4 s.size).data.toList (ByteArray.mk ([56]:List UInt8).toArray).data.toList=Lib.contains ((eF s).drop 4) [56]:=by rw[←mT]
   rw[e5]
   refine cF.done FT ?_
   have b5:eA w5 bk [.int .i64 8,.int .i64 16,.int .i64 32] 3:=hbr.aB hx5 id
   have hxw:Ext w w5:=hxr.trans hx5
   cases hct:Lib.contains ((eF s).drop 4) [56]with
   |true=>
    refine bE ?_
    refine ah.y (Yl.quo (r:=1) rfl rfl (fun w=>by kernel_rfl)) rfl ?_
    refine bE ?_
    refine Fin.aA rfl rfl ⟨?_,hxw⟩
    rw[if_pos rfl]
    unfold mO
    simp[hct]
   |false=>
    refine bE ?_
    exact Fin.next 1 bP ⟨by omega,hxw,b5,fun _=>rfl,fun _=>by omega,fun _=>by omega⟩ FY
  ·have c:wr.cell? ⟨bk,0+1,none⟩=some (.int .i64 16):=hbr.cell rfl
   refine bE ?_
   refine Cd.me ?_
   refine t1 ?_
   refine t6 ?_
   refine t7 ?_
   refine cF.take 4 rfl FT (Yl.quo (r:=1) rfl rfl (fun w=>by kernel_rfl)) ?_
   refine t8 ?_
   rintro _ w5 ⟨rfl,hn5⟩
   have hx5:Ext wr w5:=bz.trans ((bz.refl _ wr).drew) hn5.ext
   have c5:w5.cell? ⟨wr.drew.heap.size,0+1,none⟩=some (.string ⟨([49,54]:List UInt8).toArray⟩):=hn5.aH.cell rfl
   refine cF.take 5 rfl FT (Yl.fL rfl rfl rfl rfl rfl (i:=1) rfl FY) ?_
   refine cF.xQ 6 FT rfl rfl (Yl.load rfl rfl rfl (by rintro _ rfl;exact c5)) ?_
   refine cF.one 7 FT rfl rfl (bC.call rfl rfl (ff (s.extract 4 s.size) ⟨([49,54]:List UInt8).toArray⟩ mx w5 FI (hx5.cell hmx)) (fun e w' h=>⟨_,h.1⟩)) ?_
   rintro _ w6 ⟨hv,hw6⟩
   obtain rfl:w5=w6:=hw6.symm
   cases hv
   have e5:Lib.contains (s.extract 4 s.size).data.toList (ByteArray.mk ([49,54]:List UInt8).toArray).data.toList=Lib.contains ((eF s).drop 4) [49,54]:=by rw[←mT]
   rw[e5]
   refine cF.done FT ?_
   have b5:eA w5 bk [.int .i64 8,.int .i64 16,.int .i64 32] 3:=hbr.aB hx5 id
   have hxw:Ext w w5:=hxr.trans hx5
   cases hct:Lib.contains ((eF s).drop 4) [49,54]with
   |true=>
    refine bE ?_
    refine ah.y (Yl.quo (r:=2) rfl rfl (fun w=>by kernel_rfl)) rfl ?_
    refine bE ?_
    refine Fin.aA rfl rfl ⟨?_,hxw⟩
    rw[if_pos rfl]
    unfold mO
    simp[hct,g0 FY]
   |false=>
    refine bE ?_
    exact Fin.next 2 bP ⟨by omega,hxw,b5,fun _=>g0 FY,fun _=>rfl,fun _=>by omega⟩ FY
  ·have c:wr.cell? ⟨bk,0+2,none⟩=some (.int .i64 32):=hbr.cell rfl
   refine bE ?_
   refine Cd.me ?_
   refine t1 ?_
   refine t6 ?_
   refine t7 ?_
   refine cF.take 4 rfl FT (Yl.quo (r:=2) rfl rfl (fun w=>by kernel_rfl)) ?_
   refine t8 ?_
   rintro _ w5 ⟨rfl,hn5⟩
   have hx5:Ext wr w5:=bz.trans ((bz.refl _ wr).drew) hn5.ext
   have c5:w5.cell? ⟨wr.drew.heap.size,0+2,none⟩=some (.string ⟨([51,50]:List UInt8).toArray⟩):=hn5.aH.cell rfl
   refine cF.take 5 rfl FT (Yl.fL rfl rfl rfl rfl rfl (i:=2) rfl FY) ?_
   refine cF.xQ 6 FT rfl rfl (Yl.load rfl rfl rfl (by rintro _ rfl;exact c5)) ?_
   refine cF.one 7 FT rfl rfl (bC.call rfl rfl (ff (s.extract 4 s.size) ⟨([51,50]:List UInt8).toArray⟩ mx w5 FI (hx5.cell hmx)) (fun e w' h=>⟨_,h.1⟩)) ?_
   rintro _ w6 ⟨hv,hw6⟩
   obtain rfl:w5=w6:=hw6.symm
   cases hv
   have e5:Lib.contains (s.extract 4 s.size).data.toList (ByteArray.mk ([51,50]:List UInt8).toArray).data.toList=Lib.contains ((eF s).drop 4) [51,50]:=by rw[←mT]
   rw[e5]
   refine cF.done FT ?_
   have b5:eA w5 bk [.int .i64 8,.int .i64 16,.int .i64 32] 3:=hbr.aB hx5 id
   have hxw:Ext w w5:=hxr.trans hx5
   cases hct:Lib.contains ((eF s).drop 4) [51,50]with
   |true=>
    refine bE ?_
    refine ah.y (Yl.quo (r:=4) rfl rfl (fun w=>by kernel_rfl)) rfl ?_
    refine bE ?_
    refine Fin.aA rfl rfl ⟨?_,hxw⟩
    rw[if_pos rfl]
    unfold mO
    simp[hct,g0 FY,g1 FY]
   |false=>
    refine bE ?_
    exact Fin.next 3 bP ⟨by omega,hxw,b5,fun _=>g0 FY,fun _=>g1 FY,fun _=>rfl⟩ FY
  ·by_cases h3:((eF s).take 3==[105,51,50])=true
   ·refine bE ?_
    refine ah.y (Yl.cR Tryz.underlying9 rfl rfl (i:=3) rfl FY) rfl ?_
    refine ah.y (Yl.pY rfl rfl) rfl ?_
    rw[show(s.extract 0 3).data.toList=(eF s).take 3 from Ad,show((ByteArray.mk #[105,51,50]).data.toList)=[105,51,50]from rfl,h3]
    refine bE ?_
    refine Fin.aA rfl rfl ⟨?_,hxr⟩
    rw[if_pos rfl]
    unfold mO
    simp[g0 FY,g1 FY,g2 FY,h3]
   ·refine bE ?_
    refine ah.y (Yl.cR Tryz.underlying9 rfl rfl (i:=3) rfl FY) rfl ?_
    refine ah.y (Yl.pY rfl rfl) rfl ?_
    rw[show(s.extract 0 3).data.toList=(eF s).take 3 from Ad,show((ByteArray.mk #[105,51,50]).data.toList)=[105,51,50]from rfl,Bool.eq_false_iff.2 h3]
    refine bE ?_
    refine Fin.aA rfl rfl ⟨?_,hxr⟩
    rw[if_pos rfl]
    unfold mO
    simp[g0 FY,g1 FY,g2 FY,h3]
theorem af.eB (F:Nat→Prop) (w:World):af F w (.slice none 0 0) []:=⟨none,0,rfl,by simp,.inl rfl⟩
theorem af.cJ {w w':World} {cs:List Value} {T base n:Nat} {xs:List Int} (h:tr w w' cs T) (hx:cs=xs.map (Value.int .i64)) (hb:base≤w.heap.size) (hl:xs.length≤1000000) (hn:n=xs.length:=by rfl):af (fun k=>base≤k) w' (.slice (some ⟨w.heap.size,0,none⟩) n n) xs:=by
 subst hn;subst hx
 refine⟨_,_,rfl,by omega,?_⟩
 by_cases h0:xs=[]
 ·exact .inl h0
 ·refine .inr ⟨w.heap.size,0,rfl,hb,fun i hi=>?_⟩
  rw[Nat.zero_add]
  exact h.aH.cell (by rw[List.getElem?_map,gq hi];rfl)
def CJ (B:Nat) (w:World) (v:Value) (x:aC):Prop:=∃cs,v=.agg cs.toArray∧cn (fun k=>B≤k) w cs x
def eT (op t:Int) (s:List UInt8):aC:=
 if dM s [108,111,97,100]=true then⟨[1],[t]⟩
 else if dM s [115,116,111,114,101]=true then⟨[1,t],[]⟩
 else if(s==[101,113,122])=true then⟨[t],[1]⟩
 else if 70≤op∧op≤90 then⟨[t,t],[1]⟩
 else if(s==[99,108,122])=true∨(s==[99,116,122])=true∨(s==[112,111,112,99,110,116])=true∨dM s [101,120,116,101,110,100]=true then⟨[t],[t]⟩
 else⟨[t,t],[t]⟩
set_option maxHeartbeats 4000000 in
theorem kU (op t:Int) (s:ByteArray) (w:World):Calls G.P 150 #[.int .i64 op,.int .i64 t,.string s] w fun e w'=>(∃v,e=.returned v∧CJ w.heap.size w' v (eT op t (eF s)))∧Ext w w':=by
 refine enter (G:=G) Tryz.func150 rfl Tryz.ntmps150 rfl ?_
 refine bE ?_
 refine rx ?_
 rintro _ w1 ⟨rfl,hn1⟩
 have hs1:=hn1.size
 have hb1:=hn1.aH
 have hxw1:Ext w1 w1:=bz.refl _ _
 refine bE ?_
 refine ah.call rfl rfl rfl (cT s _ w1) ?_
 rintro _ _ ⟨rfl,rfl⟩
 refine⟨_,rfl,?_⟩
 cases h1:dM (eF s) [108,111,97,100]with
 |true=>
  have hnum:eT op t (eF s)=⟨[1],[t]⟩:=by unfold eT;simp[h1]
  refine bE ?_
  refine ul ?_
  rintro _ wP ⟨rfl,hnP⟩
  have rP:af (fun k=>w1.heap.size≤k) wP _ [1]:=af.cJ hnP rfl FK FZ
  have hxwP:Ext w1 wP:=hxw1.trans hnP.ext
  refine bE ?_
  refine ut ?_
  rintro _ wR ⟨rfl,hnR⟩
  have rR:af (fun k=>w1.heap.size≤k) wR _ [t]:=af.cJ hnR rfl FL FZ
  have hxwR:Ext w1 wR:=hxwP.trans hnR.ext
  refine bE ?_
  refine wd ?_
  rintro _ wC ⟨rfl,hxC⟩
  refine⟨_,rfl,?_⟩
  have hxwC:Ext w1 wC:=hxwR.trans hxC
  refine bE ?_
  refine wl ?_
  rintro _ wD ⟨hbD,hcD,-⟩
  refine bE ?_
  have hxD:Ext w wD:=bz.trans' (hn1.ext.trans hxwC) hcD (fun k hk e=>by omega)
  refine wn ?_
  rw[hnum]
  refine⟨_,rfl,_,_,rfl,?_,?_⟩
  ·exact(((rP.aB hnR.ext (fun _ _ _ h=>h)).aB hxC (fun _ _ _ h=>h)).aB hcD (fun k _ h e=>by omega)).mono (fun k _ h=>by omega)
  ·exact((rR.aB hxC (fun _ _ _ h=>h)).aB hcD (fun k _ h e=>by omega)).mono (fun k _ h=>by omega)
 |false=>
  refine bE ?_
  refine ah.call rfl rfl rfl (cT s _ w1) ?_
  rintro _ _ ⟨rfl,rfl⟩
  refine⟨_,rfl,?_⟩
  cases h2:dM (eF s) [115,116,111,114,101]with
  |true=>
   have hnum:eT op t (eF s)=⟨[1,t],[]⟩:=by unfold eT;simp[h1,h2]
   refine bE ?_
   refine ah.e (bC.buildSlice (cs:=[.int .i64 1,.int .i64 t]) (e:=58) rfl FT) rfl ?_
   rintro _ wP ⟨rfl,hnP⟩
   have rP:af (fun k=>w1.heap.size≤k) wP _ [1,t]:=af.cJ hnP rfl FK FZ
   have hxwP:Ext w1 wP:=hxw1.trans hnP.ext
   refine bE ?_
   refine ah.call rfl rfl rfl (bB _ _ _ _ _ _ wP) ?_
   rintro _ wC ⟨rfl,hxC⟩
   refine⟨_,rfl,?_⟩
   have hxwC:Ext w1 wC:=hxwP.trans hxC
   refine bE ?_
   refine wl ?_
   rintro _ wD ⟨hbD,hcD,-⟩
   refine bE ?_
   have hxD:Ext w wD:=bz.trans' (hn1.ext.trans hxwC) hcD (fun k hk e=>by omega)
   refine wn ?_
   rw[hnum]
   refine⟨_,rfl,_,_,rfl,?_,?_⟩
   ·exact((rP.aB hxC (fun _ _ _ h=>h)).aB hcD (fun k _ h e=>by omega)).mono (fun k _ h=>by omega)
   ·exact fd
  |false=>
   refine bE ?_
   rw[show(ByteArray.mk #[101,113,122]).data.toList=[101,113,122]from rfl,show s.data.toList=eF s from rfl]
   cases h3:(eF s==[101,113,122])with
   |true=>
    have hnum:eT op t (eF s)=⟨[t],[1]⟩:=by unfold eT;simp[h1,h2,h3]
    refine bE ?_
    refine ut ?_
    rintro _ wP ⟨rfl,hnP⟩
    have rP:af (fun k=>w1.heap.size≤k) wP _ [t]:=af.cJ hnP rfl FK FZ
    have hxwP:Ext w1 wP:=hxw1.trans hnP.ext
    refine bE ?_
    refine ul ?_
    rintro _ wR ⟨rfl,hnR⟩
    have rR:af (fun k=>w1.heap.size≤k) wR _ [1]:=af.cJ hnR rfl FL FZ
    have hxwR:Ext w1 wR:=hxwP.trans hnR.ext
    refine bE ?_
    refine wd ?_
    rintro _ wC ⟨rfl,hxC⟩
    refine⟨_,rfl,?_⟩
    have hxwC:Ext w1 wC:=hxwR.trans hxC
    refine bE ?_
    refine wl ?_
    rintro _ wD ⟨hbD,hcD,-⟩
    refine bE ?_
    have hxD:Ext w wD:=bz.trans' (hn1.ext.trans hxwC) hcD (fun k hk e=>by omega)
    refine wn ?_
    rw[hnum]
    refine⟨_,rfl,_,_,rfl,?_,?_⟩
    ·exact(((rP.aB hnR.ext (fun _ _ _ h=>h)).aB hxC (fun _ _ _ h=>h)).aB hcD (fun k _ h e=>by omega)).mono (fun k _ h=>by omega)
    ·exact((rR.aB hxC (fun _ _ _ h=>h)).aB hcD (fun k _ h e=>by omega)).mono (fun k _ h=>by omega)
   |false=>
    rcases(show op<70∨(70≤op∧90<op)∨(70≤op∧op≤90)by omega)with h4|⟨h4,h4'⟩|⟨h4,h4'⟩
    ·have hr:¬(70≤op∧op≤90):=by omega
     refine bE ?_
     rw[show(ByteArray.mk #[99,108,122]).data.toList=[99,108,122]from rfl,show s.data.toList=eF s from rfl]
     cases h5:(eF s==[99,108,122])with
     |true=>
      have hnum:eT op t (eF s)=⟨[t],[t]⟩:=by unfold eT;simp[h1,h2,h3,hr,h5]
      refine bE ?_
      refine ut ?_
      rintro _ wP ⟨rfl,hnP⟩
      have rP:af (fun k=>w1.heap.size≤k) wP _ [t]:=af.cJ hnP rfl FK FZ
      have hxwP:Ext w1 wP:=hxw1.trans hnP.ext
      refine bE ?_
      refine ut ?_
      rintro _ wR ⟨rfl,hnR⟩
      have rR:af (fun k=>w1.heap.size≤k) wR _ [t]:=af.cJ hnR rfl FL FZ
      have hxwR:Ext w1 wR:=hxwP.trans hnR.ext
      refine bE ?_
      refine wd ?_
      rintro _ wC ⟨rfl,hxC⟩
      refine⟨_,rfl,?_⟩
      have hxwC:Ext w1 wC:=hxwR.trans hxC
      refine bE ?_
      refine wl ?_
      rintro _ wD ⟨hbD,hcD,-⟩
      refine bE ?_
      have hxD:Ext w wD:=bz.trans' (hn1.ext.trans hxwC) hcD (fun k hk e=>by omega)
      refine wn ?_
      rw[hnum]
      refine⟨_,rfl,_,_,rfl,?_,?_⟩
      ·exact(((rP.aB hnR.ext (fun _ _ _ h=>h)).aB hxC (fun _ _ _ h=>h)).aB hcD (fun k _ h e=>by omega)).mono (fun k _ h=>by omega)
      ·exact((rR.aB hxC (fun _ _ _ h=>h)).aB hcD (fun k _ h e=>by omega)).mono (fun k _ h=>by omega)
     |false=>
      refine bE ?_
      rw[show(ByteArray.mk #[99,116,122]).data.toList=[99,116,122]from rfl,show s.data.toList=eF s from rfl]
      cases h6:(eF s==[99,116,122])with
      |true=>
       have hnum:eT op t (eF s)=⟨[t],[t]⟩:=by unfold eT;simp[h1,h2,h3,hr,h5,h6]
       refine bE ?_
       refine ut ?_
       rintro _ wP ⟨rfl,hnP⟩
       have rP:af (fun k=>w1.heap.size≤k) wP _ [t]:=af.cJ hnP rfl FK FZ
       have hxwP:Ext w1 wP:=hxw1.trans hnP.ext
       refine bE ?_
       refine ut ?_
       rintro _ wR ⟨rfl,hnR⟩
       have rR:af (fun k=>w1.heap.size≤k) wR _ [t]:=af.cJ hnR rfl FL FZ
       have hxwR:Ext w1 wR:=hxwP.trans hnR.ext
       refine bE ?_
       refine wd ?_
       rintro _ wC ⟨rfl,hxC⟩
       refine⟨_,rfl,?_⟩
       have hxwC:Ext w1 wC:=hxwR.trans hxC
       refine bE ?_
       refine wl ?_
       rintro _ wD ⟨hbD,hcD,-⟩
       refine bE ?_
       have hxD:Ext w wD:=bz.trans' (hn1.ext.trans hxwC) hcD (fun k hk e=>by omega)
       refine wn ?_
       rw[hnum]
       refine⟨_,rfl,_,_,rfl,?_,?_⟩
       ·exact(((rP.aB hnR.ext (fun _ _ _ h=>h)).aB hxC (fun _ _ _ h=>h)).aB hcD (fun k _ h e=>by omega)).mono (fun k _ h=>by omega)
       ·exact((rR.aB hxC (fun _ _ _ h=>h)).aB hcD (fun k _ h e=>by omega)).mono (fun k _ h=>by omega)
      |false=>
       refine bE ?_
       rw[show(ByteArray.mk #[112,111,112,99,110,116]).data.toList=[112,111,112,99,110,116]from rfl,show s.data.toList=eF s from rfl]
       cases h7:(eF s==[112,111,112,99,110,116])with
       |true=>
        have hnum:eT op t (eF s)=⟨[t],[t]⟩:=by unfold eT;simp[h1,h2,h3,hr,h5,h6,h7]
        refine bE ?_
        refine ut ?_
        rintro _ wP ⟨rfl,hnP⟩
        have rP:af (fun k=>w1.heap.size≤k) wP _ [t]:=af.cJ hnP rfl FK FZ
        have hxwP:Ext w1 wP:=hxw1.trans hnP.ext
        refine bE ?_
        refine ut ?_
        rintro _ wR ⟨rfl,hnR⟩
        have rR:af (fun k=>w1.heap.size≤k) wR _ [t]:=af.cJ hnR rfl FL FZ
        have hxwR:Ext w1 wR:=hxwP.trans hnR.ext
        refine bE ?_
        refine wd ?_
        rintro _ wC ⟨rfl,hxC⟩
        refine⟨_,rfl,?_⟩
        have hxwC:Ext w1 wC:=hxwR.trans hxC
        refine bE ?_
        refine wl ?_
        rintro _ wD ⟨hbD,hcD,-⟩
        refine bE ?_
        have hxD:Ext w wD:=bz.trans' (hn1.ext.trans hxwC) hcD (fun k hk e=>by omega)
        refine wn ?_
        rw[hnum]
        refine⟨_,rfl,_,_,rfl,?_,?_⟩
        ·exact(((rP.aB hnR.ext (fun _ _ _ h=>h)).aB hxC (fun _ _ _ h=>h)).aB hcD (fun k _ h e=>by omega)).mono (fun k _ h=>by omega)
        ·exact((rR.aB hxC (fun _ _ _ h=>h)).aB hcD (fun k _ h e=>by omega)).mono (fun k _ h=>by omega)
       |false=>
        refine bE ?_
        refine ah.sg rfl rfl rfl rfl (cT s _ w1) ?_
        rintro _ _ ⟨rfl,rfl⟩
        refine⟨_,rfl,?_⟩
        cases h8:dM (eF s) [101,120,116,101,110,100]with
        |true=>
         have hnum:eT op t (eF s)=⟨[t],[t]⟩:=by unfold eT;simp[h1,h2,h3,hr,h5,h6,h7,h8]
         refine bE ?_
         refine ut ?_
         rintro _ wP ⟨rfl,hnP⟩
         have rP:af (fun k=>w1.heap.size≤k) wP _ [t]:=af.cJ hnP rfl FK FZ
         have hxwP:Ext w1 wP:=hxw1.trans hnP.ext
         refine bE ?_
         refine ut ?_
         rintro _ wR ⟨rfl,hnR⟩
         have rR:af (fun k=>w1.heap.size≤k) wR _ [t]:=af.cJ hnR rfl FL FZ
         have hxwR:Ext w1 wR:=hxwP.trans hnR.ext
         refine bE ?_
         refine wd ?_
         rintro _ wC ⟨rfl,hxC⟩
         refine⟨_,rfl,?_⟩
         have hxwC:Ext w1 wC:=hxwR.trans hxC
         refine bE ?_
         refine wl ?_
         rintro _ wD ⟨hbD,hcD,-⟩
         refine bE ?_
         have hxD:Ext w wD:=bz.trans' (hn1.ext.trans hxwC) hcD (fun k hk e=>by omega)
         refine wn ?_
         rw[hnum]
         refine⟨_,rfl,_,_,rfl,?_,?_⟩
         ·exact(((rP.aB hnR.ext (fun _ _ _ h=>h)).aB hxC (fun _ _ _ h=>h)).aB hcD (fun k _ h e=>by omega)).mono (fun k _ h=>by omega)
         ·exact((rR.aB hxC (fun _ _ _ h=>h)).aB hcD (fun k _ h e=>by omega)).mono (fun k _ h=>by omega)
        |false=>
         have hnum:eT op t (eF s)=⟨[t,t],[t]⟩:=by unfold eT;simp[h1,h2,h3,hr,h5,h6,h7,h8]
         refine bE ?_
         refine ws ?_
         rintro _ wP ⟨rfl,hnP⟩
         have rP:af (fun k=>w1.heap.size≤k) wP _ [t,t]:=af.cJ hnP rfl FK FZ
         have hxwP:Ext w1 wP:=hxw1.trans hnP.ext
         refine bE ?_
         refine ut ?_
         rintro _ wR ⟨rfl,hnR⟩
         have rR:af (fun k=>w1.heap.size≤k) wR _ [t]:=af.cJ hnR rfl FL FZ
         have hxwR:Ext w1 wR:=hxwP.trans hnR.ext
         refine bE ?_
         refine wd ?_
         rintro _ wC ⟨rfl,hxC⟩
         refine⟨_,rfl,?_⟩
         have hxwC:Ext w1 wC:=hxwR.trans hxC
         refine bE ?_
         refine wl ?_
         rintro _ wD ⟨hbD,hcD,-⟩
         refine bE ?_
         have hxD:Ext w wD:=bz.trans' (hn1.ext.trans hxwC) hcD (fun k hk e=>by omega)
         refine wn ?_
         rw[hnum]
         refine⟨_,rfl,_,_,rfl,?_,?_⟩
         ·exact(((rP.aB hnR.ext (fun _ _ _ h=>h)).aB hxC (fun _ _ _ h=>h)).aB hcD (fun k _ h e=>by omega)).mono (fun k _ h=>by omega)
         ·exact((rR.aB hxC (fun _ _ _ h=>h)).aB hcD (fun k _ h e=>by omega)).mono (fun k _ h=>by omega)
    ·have hr:¬(70≤op∧op≤90):=by omega
     refine bE ?_
     rw[show(ByteArray.mk #[99,108,122]).data.toList=[99,108,122]from rfl,show s.data.toList=eF s from rfl]
     cases h5:(eF s==[99,108,122])with
     |true=>
      have hnum:eT op t (eF s)=⟨[t],[t]⟩:=by unfold eT;simp[h1,h2,h3,hr,h5]
      refine bE ?_
      refine ut ?_
      rintro _ wP ⟨rfl,hnP⟩
      have rP:af (fun k=>w1.heap.size≤k) wP _ [t]:=af.cJ hnP rfl FK FZ
      have hxwP:Ext w1 wP:=hxw1.trans hnP.ext
      refine bE ?_
      refine ut ?_
      rintro _ wR ⟨rfl,hnR⟩
      have rR:af (fun k=>w1.heap.size≤k) wR _ [t]:=af.cJ hnR rfl FL FZ
      have hxwR:Ext w1 wR:=hxwP.trans hnR.ext
      refine bE ?_
      refine wd ?_
      rintro _ wC ⟨rfl,hxC⟩
      refine⟨_,rfl,?_⟩
      have hxwC:Ext w1 wC:=hxwR.trans hxC
      refine bE ?_
      refine wl ?_
      rintro _ wD ⟨hbD,hcD,-⟩
      refine bE ?_
      have hxD:Ext w wD:=bz.trans' (hn1.ext.trans hxwC) hcD (fun k hk e=>by omega)
      refine wn ?_
      rw[hnum]
      refine⟨_,rfl,_,_,rfl,?_,?_⟩
      ·exact(((rP.aB hnR.ext (fun _ _ _ h=>h)).aB hxC (fun _ _ _ h=>h)).aB hcD (fun k _ h e=>by omega)).mono (fun k _ h=>by omega)
      ·exact((rR.aB hxC (fun _ _ _ h=>h)).aB hcD (fun k _ h e=>by omega)).mono (fun k _ h=>by omega)
     |false=>
      refine bE ?_
      rw[show(ByteArray.mk #[99,116,122]).data.toList=[99,116,122]from rfl,show s.data.toList=eF s from rfl]
      cases h6:(eF s==[99,116,122])with
      |true=>
       have hnum:eT op t (eF s)=⟨[t],[t]⟩:=by unfold eT;simp[h1,h2,h3,hr,h5,h6]
       refine bE ?_
       refine ut ?_
       rintro _ wP ⟨rfl,hnP⟩
       have rP:af (fun k=>w1.heap.size≤k) wP _ [t]:=af.cJ hnP rfl FK FZ
       have hxwP:Ext w1 wP:=hxw1.trans hnP.ext
       refine bE ?_
       refine ut ?_
       rintro _ wR ⟨rfl,hnR⟩
       have rR:af (fun k=>w1.heap.size≤k) wR _ [t]:=af.cJ hnR rfl FL FZ
       have hxwR:Ext w1 wR:=hxwP.trans hnR.ext
       refine bE ?_
       refine wd ?_
       rintro _ wC ⟨rfl,hxC⟩
       refine⟨_,rfl,?_⟩
       have hxwC:Ext w1 wC:=hxwR.trans hxC
       refine bE ?_
       refine wl ?_
       rintro _ wD ⟨hbD,hcD,-⟩
       refine bE ?_
       have hxD:Ext w wD:=bz.trans' (hn1.ext.trans hxwC) hcD (fun k hk e=>by omega)
       refine wn ?_
       rw[hnum]
       refine⟨_,rfl,_,_,rfl,?_,?_⟩
       ·exact(((rP.aB hnR.ext (fun _ _ _ h=>h)).aB hxC (fun _ _ _ h=>h)).aB hcD (fun k _ h e=>by omega)).mono (fun k _ h=>by omega)
       ·exact((rR.aB hxC (fun _ _ _ h=>h)).aB hcD (fun k _ h e=>by omega)).mono (fun k _ h=>by omega)
      |false=>
       refine bE ?_
       rw[show(ByteArray.mk #[112,111,112,99,110,116]).data.toList=[112,111,112,99,110,116]from rfl,show s.data.toList=eF s from rfl]
       cases h7:(eF s==[112,111,112,99,110,116])with
       |true=>
        have hnum:eT op t (eF s)=⟨[t],[t]⟩:=by unfold eT;simp[h1,h2,h3,hr,h5,h6,h7]
        refine bE ?_
        refine ut ?_
        rintro _ wP ⟨rfl,hnP⟩
        have rP:af (fun k=>w1.heap.size≤k) wP _ [t]:=af.cJ hnP rfl FK FZ
        have hxwP:Ext w1 wP:=hxw1.trans hnP.ext
        refine bE ?_
        refine ut ?_
        rintro _ wR ⟨rfl,hnR⟩
        have rR:af (fun k=>w1.heap.size≤k) wR _ [t]:=af.cJ hnR rfl FL FZ
        have hxwR:Ext w1 wR:=hxwP.trans hnR.ext
        refine bE ?_
        refine wd ?_
        rintro _ wC ⟨rfl,hxC⟩
        refine⟨_,rfl,?_⟩
        have hxwC:Ext w1 wC:=hxwR.trans hxC
        refine bE ?_
        refine wl ?_
        rintro _ wD ⟨hbD,hcD,-⟩
        refine bE ?_
        have hxD:Ext w wD:=bz.trans' (hn1.ext.trans hxwC) hcD (fun k hk e=>by omega)
        refine wn ?_
        rw[hnum]
        refine⟨_,rfl,_,_,rfl,?_,?_⟩
        ·exact(((rP.aB hnR.ext (fun _ _ _ h=>h)).aB hxC (fun _ _ _ h=>h)).aB hcD (fun k _ h e=>by omega)).mono (fun k _ h=>by omega)
        ·exact((rR.aB hxC (fun _ _ _ h=>h)).aB hcD (fun k _ h e=>by omega)).mono (fun k _ h=>by omega)
       |false=>
        refine bE ?_
        refine ah.sg rfl rfl rfl rfl (cT s _ w1) ?_
        rintro _ _ ⟨rfl,rfl⟩
        refine⟨_,rfl,?_⟩
        cases h8:dM (eF s) [101,120,116,101,110,100]with
        |true=>
         have hnum:eT op t (eF s)=⟨[t],[t]⟩:=by unfold eT;simp[h1,h2,h3,hr,h5,h6,h7,h8]
         refine bE ?_
         refine ut ?_
         rintro _ wP ⟨rfl,hnP⟩
         have rP:af (fun k=>w1.heap.size≤k) wP _ [t]:=af.cJ hnP rfl FK FZ
         have hxwP:Ext w1 wP:=hxw1.trans hnP.ext
         refine bE ?_
         refine ut ?_
         rintro _ wR ⟨rfl,hnR⟩
         have rR:af (fun k=>w1.heap.size≤k) wR _ [t]:=af.cJ hnR rfl FL FZ
         have hxwR:Ext w1 wR:=hxwP.trans hnR.ext
         refine bE ?_
         refine wd ?_
         rintro _ wC ⟨rfl,hxC⟩
         refine⟨_,rfl,?_⟩
         have hxwC:Ext w1 wC:=hxwR.trans hxC
         refine bE ?_
         refine wl ?_
         rintro _ wD ⟨hbD,hcD,-⟩
         refine bE ?_
         have hxD:Ext w wD:=bz.trans' (hn1.ext.trans hxwC) hcD (fun k hk e=>by omega)
         refine wn ?_
         rw[hnum]
         refine⟨_,rfl,_,_,rfl,?_,?_⟩
         ·exact(((rP.aB hnR.ext (fun _ _ _ h=>h)).aB hxC (fun _ _ _ h=>h)).aB hcD (fun k _ h e=>by omega)).mono (fun k _ h=>by omega)
         ·exact((rR.aB hxC (fun _ _ _ h=>h)).aB hcD (fun k _ h e=>by omega)).mono (fun k _ h=>by omega)
        |false=>
         have hnum:eT op t (eF s)=⟨[t,t],[t]⟩:=by unfold eT;simp[h1,h2,h3,hr,h5,h6,h7,h8]
         refine bE ?_
         refine ws ?_
         rintro _ wP ⟨rfl,hnP⟩
         have rP:af (fun k=>w1.heap.size≤k) wP _ [t,t]:=af.cJ hnP rfl FK FZ
         have hxwP:Ext w1 wP:=hxw1.trans hnP.ext
         refine bE ?_
         refine ut ?_
         rintro _ wR ⟨rfl,hnR⟩
         have rR:af (fun k=>w1.heap.size≤k) wR _ [t]:=af.cJ hnR rfl FL FZ
         have hxwR:Ext w1 wR:=hxwP.trans hnR.ext
         refine bE ?_
         refine wd ?_
         rintro _ wC ⟨rfl,hxC⟩
         refine⟨_,rfl,?_⟩
         have hxwC:Ext w1 wC:=hxwR.trans hxC
         refine bE ?_
         refine wl ?_
         rintro _ wD ⟨hbD,hcD,-⟩
         refine bE ?_
         have hxD:Ext w wD:=bz.trans' (hn1.ext.trans hxwC) hcD (fun k hk e=>by omega)
         refine wn ?_
         rw[hnum]
         refine⟨_,rfl,_,_,rfl,?_,?_⟩
         ·exact(((rP.aB hnR.ext (fun _ _ _ h=>h)).aB hxC (fun _ _ _ h=>h)).aB hcD (fun k _ h e=>by omega)).mono (fun k _ h=>by omega)
         ·exact((rR.aB hxC (fun _ _ _ h=>h)).aB hcD (fun k _ h e=>by omega)).mono (fun k _ h=>by omega)
    ·skip
     have hnum:eT op t (eF s)=⟨[t,t],[1]⟩:=by unfold eT;simp[h1,h2,h3,h4,h4']
     refine bE ?_
     refine ws ?_
     rintro _ wP ⟨rfl,hnP⟩
     have rP:af (fun k=>w1.heap.size≤k) wP _ [t,t]:=af.cJ hnP rfl FK FZ
     have hxwP:Ext w1 wP:=hxw1.trans hnP.ext
     refine bE ?_
     refine ul ?_
     rintro _ wR ⟨rfl,hnR⟩
     have rR:af (fun k=>w1.heap.size≤k) wR _ [1]:=af.cJ hnR rfl FL FZ
     have hxwR:Ext w1 wR:=hxwP.trans hnR.ext
     refine bE ?_
     refine wd ?_
     rintro _ wC ⟨rfl,hxC⟩
     refine⟨_,rfl,?_⟩
     have hxwC:Ext w1 wC:=hxwR.trans hxC
     refine bE ?_
     refine wl ?_
     rintro _ wD ⟨hbD,hcD,-⟩
     refine bE ?_
     have hxD:Ext w wD:=bz.trans' (hn1.ext.trans hxwC) hcD (fun k hk e=>by omega)
     refine wn ?_
     rw[hnum]
     refine⟨_,rfl,_,_,rfl,?_,?_⟩
     ·exact(((rP.aB hnR.ext (fun _ _ _ h=>h)).aB hxC (fun _ _ _ h=>h)).aB hcD (fun k _ h e=>by omega)).mono (fun k _ h=>by omega)
     ·exact((rR.aB hxC (fun _ _ _ h=>h)).aB hcD (fun k _ h e=>by omega)).mono (fun k _ h=>by omega)
def fR (op:Int):Option aC:=
 if op=1∨op=64525∨op=64521 then some ⟨[],[]⟩
 else if op=65∨op=63∨op=64528 then some ⟨[],[1]⟩
 else if op=66 then some ⟨[],[2]⟩
 else if op=210 then some ⟨[],[3]⟩
 else if op=64 then some ⟨[1],[1]⟩
 else if op=64523∨op=64522∨op=64520∨op=64526∨op=64524 then some ⟨[1,1,1],[]⟩
 else if op=167 then some ⟨[2],[1]⟩
 else if op=172∨op=173 then some ⟨[1],[2]⟩
 else if dM (eF (eG op)) [105,51,50,46]=true∨dM (eF (eG op)) [105,54,52,46]=true then some (eT op (yF (eF (eG op))) ((eF (eG op)).drop 4))
 else none
theorem n8 {s p:List UInt8} (h:dM s p=true):p.length≤s.length:=by
 unfold dM at h;simp only[Bool.and_eq_true,decide_eq_true_eq]at h;exact h.1
def yC (w:World) (r:Option aC) (e:Ending) (w':World):Prop:=(∃v,e=.returned (.tuple #[v,.bool r.isSome])∧CJ w.heap.size w' v (r.getD ⟨[],[]⟩))∧Ext w w'
set_option maxHeartbeats 4000000 in
theorem tV (op:Int) (w:World) (h0:dG w):Calls G.P 107 #[.int .i64 op] w (yC w (fR op)):=by
 refine enter (G:=G) Tryz.func107 rfl Tryz.ntmps107 rfl ?_
 refine bE ?_
 refine rx ?_
 rintro _ w1 ⟨rfl,hn1⟩
 have hs1:=hn1.size
 refine bE ?_
 refine ah.e (bC.buildSlice (cs:=[.int .i64 1,.int .i64 1,.int .i64 1]) (e:=58) rfl FT) rfl ?_
 rintro _ w2 ⟨rfl,hn2⟩
 have hb1:=hn1.aH.aB hn2.ext id
 have r3:af (fun k=>w1.heap.size≤k) w2 (.slice (some ⟨w1.heap.size,0,none⟩) 3 3) [1,1,1]:=af.cJ hn2 rfl FY FZ
 have r1:af (fun k=>w1.heap.size≤k) w2 (.slice (some ⟨w1.heap.size,0,none⟩) 1 3) [1]:=⟨_,_,rfl,by simp,.inr ⟨_,0,rfl,Nat.le_refl _,fun i hi=>by
  obtain rfl:i=0:=by simpa using hi
  exact hn2.aH.cell rfl⟩⟩
 have hxw2:Ext w w2:=hn1.ext.trans hn2.ext
 have hx2:Ext w2 w2:=bz.refl _ _
 rcases(show op=1∨op=64525∨op=64521∨op=65∨op=63∨op=64528∨op=66∨op=210∨op=64∨op=64523∨op=64522∨op=64520∨op=64526∨op=64524∨op=167∨op=172∨op=173∨(op≠1∧op≠64525∧op≠64521∧op≠65∧op≠63∧op≠64528∧op≠66∧op≠210∧op≠64∧op≠64523∧op≠64522∧op≠64520∧op≠64526∧op≠64524∧op≠167∧op≠172∧op≠173)from by omega)with hc_|hc_|hc_|hc_|hc_|hc_|hc_|hc_|hc_|hc_|hc_|hc_|hc_|hc_|hc_|hc_|hc_|⟨hc1_,hc64525_,hc64521_,hc65_,hc63_,hc64528_,hc66_,hc210_,hc64_,hc64523_,hc64522_,hc64520_,hc64526_,hc64524_,hc167_,hc172_,hc173_⟩
 ·have hsg:fR op=some ⟨[],[]⟩:=by rw[hc_];rfl
  refine bE ?_
  refine wt ?_
  rintro _ wD ⟨hbD,hcD,-⟩
  refine bE ?_
  have hxD:Ext w wD:=bz.trans' hxw2 hcD (fun k hk e=>by omega)
  refine Fin.bh (.inl rfl) rfl rfl rfl rfl rfl hbD rfl rfl ⟨⟨_,by rw[hsg];rfl,?_⟩,hxD⟩
  rw[hsg]
  refine⟨_,rfl,_,_,rfl,?_,?_⟩
  ·exact fd
  ·exact fd
 ·have hsg:fR op=some ⟨[],[]⟩:=by rw[hc_];rfl
  refine bE ?_
  refine wt ?_
  rintro _ wD ⟨hbD,hcD,-⟩
  refine bE ?_
  have hxD:Ext w wD:=bz.trans' hxw2 hcD (fun k hk e=>by omega)
  refine Fin.bh (.inl rfl) rfl rfl rfl rfl rfl hbD rfl rfl ⟨⟨_,by rw[hsg];rfl,?_⟩,hxD⟩
  rw[hsg]
  refine⟨_,rfl,_,_,rfl,?_,?_⟩
  ·exact fd
  ·exact fd
 ·have hsg:fR op=some ⟨[],[]⟩:=by rw[hc_];rfl
  refine bE ?_
  refine wt ?_
  rintro _ wD ⟨hbD,hcD,-⟩
  refine bE ?_
  have hxD:Ext w wD:=bz.trans' hxw2 hcD (fun k hk e=>by omega)
  refine Fin.bh (.inl rfl) rfl rfl rfl rfl rfl hbD rfl rfl ⟨⟨_,by rw[hsg];rfl,?_⟩,hxD⟩
  rw[hsg]
  refine⟨_,rfl,_,_,rfl,?_,?_⟩
  ·exact fd
  ·exact fd
 ·have hsg:fR op=some ⟨[],[1]⟩:=by rw[hc_];rfl
  refine bE ?_
  refine ul ?_
  rintro _ wR ⟨rfl,hnR⟩
  have qR:af (fun k=>w1.heap.size≤k) wR _ [1]:=af.cJ hnR rfl FH FZ
  have hxR:Ext w2 wR:=hx2.trans hnR.ext
  refine bE ?_
  refine wd ?_
  rintro _ wC ⟨rfl,hxC⟩
  refine⟨_,rfl,?_⟩
  have hxwC:Ext w2 wC:=hxR.trans hxC
  refine bE ?_
  refine wl ?_
  rintro _ wD ⟨hbD,hcD,-⟩
  refine bE ?_
  have hxD:Ext w wD:=bz.trans' (hxw2.trans hxwC) hcD (fun k hk e=>by omega)
  refine Fin.bh (.inl rfl) rfl rfl rfl rfl rfl hbD rfl rfl ⟨⟨_,by rw[hsg];rfl,?_⟩,hxD⟩
  rw[hsg]
  refine⟨_,rfl,_,_,rfl,?_,?_⟩
  ·exact fd
  ·exact((qR.aB hxC (fun _ _ _ h=>h)).aB hcD (fun k _ h e=>by omega)).mono (fun k _ h=>by omega)
 ·have hsg:fR op=some ⟨[],[1]⟩:=by rw[hc_];rfl
  refine bE ?_
  refine ul ?_
  rintro _ wR ⟨rfl,hnR⟩
  have qR:af (fun k=>w1.heap.size≤k) wR _ [1]:=af.cJ hnR rfl FH FZ
  have hxR:Ext w2 wR:=hx2.trans hnR.ext
  refine bE ?_
  refine wd ?_
  rintro _ wC ⟨rfl,hxC⟩
  refine⟨_,rfl,?_⟩
  have hxwC:Ext w2 wC:=hxR.trans hxC
  refine bE ?_
  refine wl ?_
  rintro _ wD ⟨hbD,hcD,-⟩
  refine bE ?_
  have hxD:Ext w wD:=bz.trans' (hxw2.trans hxwC) hcD (fun k hk e=>by omega)
  refine Fin.bh (.inl rfl) rfl rfl rfl rfl rfl hbD rfl rfl ⟨⟨_,by rw[hsg];rfl,?_⟩,hxD⟩
  rw[hsg]
  refine⟨_,rfl,_,_,rfl,?_,?_⟩
  ·exact fd
  ·exact((qR.aB hxC (fun _ _ _ h=>h)).aB hcD (fun k _ h e=>by omega)).mono (fun k _ h=>by omega)
 ·have hsg:fR op=some ⟨[],[1]⟩:=by rw[hc_];rfl
  refine bE ?_
  refine ul ?_
  rintro _ wR ⟨rfl,hnR⟩
  have qR:af (fun k=>w1.heap.size≤k) wR _ [1]:=af.cJ hnR rfl FH FZ
  have hxR:Ext w2 wR:=hx2.trans hnR.ext
  refine bE ?_
  refine wd ?_
  rintro _ wC ⟨rfl,hxC⟩
  refine⟨_,rfl,?_⟩
  have hxwC:Ext w2 wC:=hxR.trans hxC
  refine bE ?_
  refine wl ?_
  rintro _ wD ⟨hbD,hcD,-⟩
  refine bE ?_
  have hxD:Ext w wD:=bz.trans' (hxw2.trans hxwC) hcD (fun k hk e=>by omega)
  refine Fin.bh (.inl rfl) rfl rfl rfl rfl rfl hbD rfl rfl ⟨⟨_,by rw[hsg];rfl,?_⟩,hxD⟩
  rw[hsg]
  refine⟨_,rfl,_,_,rfl,?_,?_⟩
  ·exact fd
  ·exact((qR.aB hxC (fun _ _ _ h=>h)).aB hcD (fun k _ h e=>by omega)).mono (fun k _ h=>by omega)
 ·have hsg:fR op=some ⟨[],[2]⟩:=by rw[hc_];rfl
  refine bE ?_
  refine ww ?_
  rintro _ wR ⟨rfl,hnR⟩
  have qR:af (fun k=>w1.heap.size≤k) wR _ [2]:=af.cJ hnR rfl FH FZ
  have hxR:Ext w2 wR:=hx2.trans hnR.ext
  refine bE ?_
  refine wd ?_
  rintro _ wC ⟨rfl,hxC⟩
  refine⟨_,rfl,?_⟩
  have hxwC:Ext w2 wC:=hxR.trans hxC
  refine bE ?_
  refine wl ?_
  rintro _ wD ⟨hbD,hcD,-⟩
  refine bE ?_
  have hxD:Ext w wD:=bz.trans' (hxw2.trans hxwC) hcD (fun k hk e=>by omega)
  refine Fin.bh (.inl rfl) rfl rfl rfl rfl rfl hbD rfl rfl ⟨⟨_,by rw[hsg];rfl,?_⟩,hxD⟩
  rw[hsg]
  refine⟨_,rfl,_,_,rfl,?_,?_⟩
  ·exact fd
  ·exact((qR.aB hxC (fun _ _ _ h=>h)).aB hcD (fun k _ h e=>by omega)).mono (fun k _ h=>by omega)
 ·have hsg:fR op=some ⟨[],[3]⟩:=by rw[hc_];rfl
  refine bE ?_
  refine ah.e (bC.buildSlice (cs:=[.int .i64 3]) (e:=58) rfl FT) rfl ?_
  rintro _ wR ⟨rfl,hnR⟩
  have qR:af (fun k=>w1.heap.size≤k) wR _ [3]:=af.cJ hnR rfl FH FZ
  have hxR:Ext w2 wR:=hx2.trans hnR.ext
  refine bE ?_
  refine wd ?_
  rintro _ wC ⟨rfl,hxC⟩
  refine⟨_,rfl,?_⟩
  have hxwC:Ext w2 wC:=hxR.trans hxC
  refine bE ?_
  refine wl ?_
  rintro _ wD ⟨hbD,hcD,-⟩
  refine bE ?_
  have hxD:Ext w wD:=bz.trans' (hxw2.trans hxwC) hcD (fun k hk e=>by omega)
  refine Fin.bh (.inl rfl) rfl rfl rfl rfl rfl hbD rfl rfl ⟨⟨_,by rw[hsg];rfl,?_⟩,hxD⟩
  rw[hsg]
  refine⟨_,rfl,_,_,rfl,?_,?_⟩
  ·exact fd
  ·exact((qR.aB hxC (fun _ _ _ h=>h)).aB hcD (fun k _ h e=>by omega)).mono (fun k _ h=>by omega)
 ·have hsg:fR op=some ⟨[1],[1]⟩:=by rw[hc_];rfl
  refine bE ?_
  refine ah.y (Yl.ck rfl rfl rfl rfl rfl (i:=1) rfl FY) rfl ?_
  refine bE ?_
  refine ul ?_
  rintro _ wR ⟨rfl,hnR⟩
  have qR:af (fun k=>w1.heap.size≤k) wR _ [1]:=af.cJ hnR rfl FH FZ
  have hxR:Ext w2 wR:=hx2.trans hnR.ext
  refine bE ?_
  refine wd ?_
  rintro _ wC ⟨rfl,hxC⟩
  refine⟨_,rfl,?_⟩
  have hxwC:Ext w2 wC:=hxR.trans hxC
  refine bE ?_
  refine wl ?_
  rintro _ wD ⟨hbD,hcD,-⟩
  refine bE ?_
  have hxD:Ext w wD:=bz.trans' (hxw2.trans hxwC) hcD (fun k hk e=>by omega)
  refine Fin.bh (.inl rfl) rfl rfl rfl rfl rfl hbD rfl rfl ⟨⟨_,by rw[hsg];rfl,?_⟩,hxD⟩
  rw[hsg]
  refine⟨_,rfl,_,_,rfl,?_,?_⟩
  ·exact(((r1.aB hnR.ext (fun _ _ _ h=>h)).aB hxC (fun _ _ _ h=>h)).aB hcD (fun k _ h e=>by omega)).mono (fun k _ h=>by omega)
  ·exact((qR.aB hxC (fun _ _ _ h=>h)).aB hcD (fun k _ h e=>by omega)).mono (fun k _ h=>by omega)
 ·have hsg:fR op=some ⟨[1,1,1],[]⟩:=by rw[hc_];rfl
  refine bE ?_
  refine AC ?_
  rintro _ wC ⟨rfl,hxC⟩
  refine⟨_,rfl,?_⟩
  have hxwC:Ext w2 wC:=hx2.trans hxC
  refine bE ?_
  refine wl ?_
  rintro _ wD ⟨hbD,hcD,-⟩
  refine bE ?_
  have hxD:Ext w wD:=bz.trans' (hxw2.trans hxwC) hcD (fun k hk e=>by omega)
  refine Fin.bh (.inl rfl) rfl rfl rfl rfl rfl hbD rfl rfl ⟨⟨_,by rw[hsg];rfl,?_⟩,hxD⟩
  rw[hsg]
  refine⟨_,rfl,_,_,rfl,?_,?_⟩
  ·exact((r3.aB hxC (fun _ _ _ h=>h)).aB hcD (fun k _ h e=>by omega)).mono (fun k _ h=>by omega)
  ·exact fd
 ·have hsg:fR op=some ⟨[1,1,1],[]⟩:=by rw[hc_];rfl
  refine bE ?_
  refine AC ?_
  rintro _ wC ⟨rfl,hxC⟩
  refine⟨_,rfl,?_⟩
  have hxwC:Ext w2 wC:=hx2.trans hxC
  refine bE ?_
  refine wl ?_
  rintro _ wD ⟨hbD,hcD,-⟩
  refine bE ?_
  have hxD:Ext w wD:=bz.trans' (hxw2.trans hxwC) hcD (fun k hk e=>by omega)
  refine Fin.bh (.inl rfl) rfl rfl rfl rfl rfl hbD rfl rfl ⟨⟨_,by rw[hsg];rfl,?_⟩,hxD⟩
  rw[hsg]
  refine⟨_,rfl,_,_,rfl,?_,?_⟩
  ·exact((r3.aB hxC (fun _ _ _ h=>h)).aB hcD (fun k _ h e=>by omega)).mono (fun k _ h=>by omega)
  ·exact fd
 ·have hsg:fR op=some ⟨[1,1,1],[]⟩:=by rw[hc_];rfl
  refine bE ?_
  refine AC ?_
  rintro _ wC ⟨rfl,hxC⟩
  refine⟨_,rfl,?_⟩
  have hxwC:Ext w2 wC:=hx2.trans hxC
  refine bE ?_
  refine wl ?_
  rintro _ wD ⟨hbD,hcD,-⟩
  refine bE ?_
  have hxD:Ext w wD:=bz.trans' (hxw2.trans hxwC) hcD (fun k hk e=>by omega)
  refine Fin.bh (.inl rfl) rfl rfl rfl rfl rfl hbD rfl rfl ⟨⟨_,by rw[hsg];rfl,?_⟩,hxD⟩
  rw[hsg]
  refine⟨_,rfl,_,_,rfl,?_,?_⟩
  ·exact((r3.aB hxC (fun _ _ _ h=>h)).aB hcD (fun k _ h e=>by omega)).mono (fun k _ h=>by omega)
  ·exact fd
 ·have hsg:fR op=some ⟨[1,1,1],[]⟩:=by rw[hc_];rfl
  refine bE ?_
  refine AC ?_
  rintro _ wC ⟨rfl,hxC⟩
  refine⟨_,rfl,?_⟩
  have hxwC:Ext w2 wC:=hx2.trans hxC
  refine bE ?_
  refine wl ?_
  rintro _ wD ⟨hbD,hcD,-⟩
  refine bE ?_
  have hxD:Ext w wD:=bz.trans' (hxw2.trans hxwC) hcD (fun k hk e=>by omega)
  refine Fin.bh (.inl rfl) rfl rfl rfl rfl rfl hbD rfl rfl ⟨⟨_,by rw[hsg];rfl,?_⟩,hxD⟩
  rw[hsg]
  refine⟨_,rfl,_,_,rfl,?_,?_⟩
  ·exact((r3.aB hxC (fun _ _ _ h=>h)).aB hcD (fun k _ h e=>by omega)).mono (fun k _ h=>by omega)
  ·exact fd
 ·have hsg:fR op=some ⟨[1,1,1],[]⟩:=by rw[hc_];rfl
  refine bE ?_
  refine AC ?_
  rintro _ wC ⟨rfl,hxC⟩
  refine⟨_,rfl,?_⟩
  have hxwC:Ext w2 wC:=hx2.trans hxC
  refine bE ?_
  refine wl ?_
  rintro _ wD ⟨hbD,hcD,-⟩
  refine bE ?_
  have hxD:Ext w wD:=bz.trans' (hxw2.trans hxwC) hcD (fun k hk e=>by omega)
  refine Fin.bh (.inl rfl) rfl rfl rfl rfl rfl hbD rfl rfl ⟨⟨_,by rw[hsg];rfl,?_⟩,hxD⟩
  rw[hsg]
  refine⟨_,rfl,_,_,rfl,?_,?_⟩
  ·exact((r3.aB hxC (fun _ _ _ h=>h)).aB hcD (fun k _ h e=>by omega)).mono (fun k _ h=>by omega)
  ·exact fd
 ·have hsg:fR op=some ⟨[2],[1]⟩:=by rw[hc_];rfl
  refine bE ?_
  refine ww ?_
  rintro _ wP ⟨rfl,hnP⟩
  have qP:af (fun k=>w1.heap.size≤k) wP _ [2]:=af.cJ hnP rfl FH FZ
  have hxP:Ext w2 wP:=hx2.trans hnP.ext
  refine bE ?_
  refine ul ?_
  rintro _ wR ⟨rfl,hnR⟩
  have qR:af (fun k=>w1.heap.size≤k) wR _ [1]:=af.cJ hnR rfl (by have:=hn2.ext.size;have:=hxP.size;omega) FZ
  have hxR:Ext w2 wR:=hxP.trans hnR.ext
  refine bE ?_
  refine wd ?_
  rintro _ wC ⟨rfl,hxC⟩
  refine⟨_,rfl,?_⟩
  have hxwC:Ext w2 wC:=hxR.trans hxC
  refine bE ?_
  refine wl ?_
  rintro _ wD ⟨hbD,hcD,-⟩
  refine bE ?_
  have hxD:Ext w wD:=bz.trans' (hxw2.trans hxwC) hcD (fun k hk e=>by omega)
  refine Fin.bh (.inl rfl) rfl rfl rfl rfl rfl hbD rfl rfl ⟨⟨_,by rw[hsg];rfl,?_⟩,hxD⟩
  rw[hsg]
  refine⟨_,rfl,_,_,rfl,?_,?_⟩
  ·exact(((qP.aB hnR.ext (fun _ _ _ h=>h)).aB hxC (fun _ _ _ h=>h)).aB hcD (fun k _ h e=>by omega)).mono (fun k _ h=>by omega)
  ·exact((qR.aB hxC (fun _ _ _ h=>h)).aB hcD (fun k _ h e=>by omega)).mono (fun k _ h=>by omega)
 ·have hsg:fR op=some ⟨[1],[2]⟩:=by rw[hc_];rfl
  refine bE ?_
  refine ah.y (Yl.ck rfl rfl rfl rfl rfl (i:=1) rfl FY) rfl ?_
  refine bE ?_
  refine ww ?_
  rintro _ wR ⟨rfl,hnR⟩
  have qR:af (fun k=>w1.heap.size≤k) wR _ [2]:=af.cJ hnR rfl FH FZ
  have hxR:Ext w2 wR:=hx2.trans hnR.ext
  refine bE ?_
  refine wd ?_
  rintro _ wC ⟨rfl,hxC⟩
  refine⟨_,rfl,?_⟩
  have hxwC:Ext w2 wC:=hxR.trans hxC
  refine bE ?_
  refine wl ?_
  rintro _ wD ⟨hbD,hcD,-⟩
  refine bE ?_
  have hxD:Ext w wD:=bz.trans' (hxw2.trans hxwC) hcD (fun k hk e=>by omega)
  refine Fin.bh (.inl rfl) rfl rfl rfl rfl rfl hbD rfl rfl ⟨⟨_,by rw[hsg];rfl,?_⟩,hxD⟩
  rw[hsg]
  refine⟨_,rfl,_,_,rfl,?_,?_⟩
  ·exact(((r1.aB hnR.ext (fun _ _ _ h=>h)).aB hxC (fun _ _ _ h=>h)).aB hcD (fun k _ h e=>by omega)).mono (fun k _ h=>by omega)
  ·exact((qR.aB hxC (fun _ _ _ h=>h)).aB hcD (fun k _ h e=>by omega)).mono (fun k _ h=>by omega)
 ·have hsg:fR op=some ⟨[1],[2]⟩:=by rw[hc_];rfl
  refine bE ?_
  refine ah.y (Yl.ck rfl rfl rfl rfl rfl (i:=1) rfl FY) rfl ?_
  refine bE ?_
  refine ww ?_
  rintro _ wR ⟨rfl,hnR⟩
  have qR:af (fun k=>w1.heap.size≤k) wR _ [2]:=af.cJ hnR rfl FH FZ
  have hxR:Ext w2 wR:=hx2.trans hnR.ext
  refine bE ?_
  refine wd ?_
  rintro _ wC ⟨rfl,hxC⟩
  refine⟨_,rfl,?_⟩
  have hxwC:Ext w2 wC:=hxR.trans hxC
  refine bE ?_
  refine wl ?_
  rintro _ wD ⟨hbD,hcD,-⟩
  refine bE ?_
  have hxD:Ext w wD:=bz.trans' (hxw2.trans hxwC) hcD (fun k hk e=>by omega)
  refine Fin.bh (.inl rfl) rfl rfl rfl rfl rfl hbD rfl rfl ⟨⟨_,by rw[hsg];rfl,?_⟩,hxD⟩
  rw[hsg]
  refine⟨_,rfl,_,_,rfl,?_,?_⟩
  ·exact(((r1.aB hnR.ext (fun _ _ _ h=>h)).aB hxC (fun _ _ _ h=>h)).aB hcD (fun k _ h e=>by omega)).mono (fun k _ h=>by omega)
  ·exact((qR.aB hxC (fun _ _ _ h=>h)).aB hcD (fun k _ h e=>by omega)).mono (fun k _ h=>by omega)
 ·have hsg:fR op=if dM (eF (eG op)) [105,51,50,46]=true∨dM (eF (eG op)) [105,54,52,46]=true then some (eT op (yF (eF (eG op))) ((eF (eG op)).drop 4))else none:=by
   unfold fR
   rw[if_neg FY,if_neg FY,if_neg FY,if_neg FY,if_neg FY,if_neg FY,if_neg FY,if_neg FY]
  have hsm:=om op
  refine bE ?_
  refine ah.call rfl rfl rfl (kq op w2 (h0.ext hxw2)) ?_
  rintro _ w3 ⟨rfl,hx3⟩
  refine⟨_,rfl,?_⟩
  generalize eG op=s at*
  refine bE ?_
  refine ah.call rfl rfl rfl (cT s _ w3) ?_
  rintro _ _ ⟨rfl,rfl⟩
  refine⟨_,rfl,?_⟩
  cases h1:dM (eF s) [105,51,50,46]with
  |true=>
   have h4:4≤s.size:=by have:=n8 h1;rw[hG]at this;exact this
   rw[if_pos (by simp[h1])]at hsg
   refine bE ?_
   refine Cd.me ?_
   refine t1 ?_
   refine cF.take 1 rfl FT (Yl.move rfl) ?_
   refine t7 ?_
   refine cF.take 4 rfl FT (Yl.cm Tryz.underlying9 rfl rfl (i:=4) rfl FY) ?_
   refine cF.one 2 FT rfl rfl (bC.call rfl rfl (kT s _) (fun e w' h=>⟨_,h.1⟩)) ?_
   rintro _ w3' ⟨hv3,hw3⟩
   cases hv3
   obtain rfl:w3.drew=w3':=hw3
   refine cF.one 5 FT rfl rfl (bC.call rfl rfl (kU op _ _ _) (fun e w' h=>by obtain⟨⟨v,h,_⟩,_⟩:=h;exact⟨v,h⟩)) ?_
   rintro _ w4 ⟨⟨v,hv4,cs,hcs,hv⟩,hx4'⟩
   cases hv4
   subst hcs
   rw[mT]at hv
   have hx4:Ext w3 w4:=bz.trans ((bz.refl _ w3).drew) hx4'
   obtain⟨v0,v1,rfl,q0,q1⟩:=hv
   obtain⟨p0,c0,rfl,-⟩:=q0.slice
   obtain⟨p1,c1,rfl,-⟩:=q1.slice
   refine cF.BE 6 FT rfl (bC.aL (ti:=eN) (cs:=[_,_]) rfl rfl rfl rfl rfl FM (hb1.aB (hx3.trans hx4) id) rfl) ?_
   rintro _ wD ⟨hbD,hcD,-⟩
   refine cF.xQ 7 FT rfl rfl (Yl.assign rfl) ?_
   refine cF.done FT ?_
   refine bE ?_
   have hxD:Ext w wD:=bz.trans' ((hxw2.trans hx3).trans hx4) hcD (fun k hk e=>by omega)
   refine Fin.bh (.inl rfl) rfl rfl rfl rfl rfl hbD rfl rfl ⟨⟨_,by rw[hsg];rfl,?_⟩,hxD⟩
   rw[hsg]
   have hsz:w1.heap.size≤w3.heap.size:=Nat.le_trans hn2.ext.size hx3.size
   have hdz:w3.drew.heap.size=w3.heap.size:=rfl
   refine⟨_,rfl,_,_,rfl,?_,?_⟩
   ·have:=(q0.aB hcD (fun k _ h e=>by omega)).mono (H:=fun k=>w.heap.size≤k) (fun k _ h=>by omega);exact this
   ·have:=(q1.aB hcD (fun k _ h e=>by omega)).mono (H:=fun k=>w.heap.size≤k) (fun k _ h=>by omega);exact this
  |false=>
   refine bE ?_
   refine ah.sg rfl rfl rfl rfl (cT s _ w3) ?_
   rintro _ _ ⟨rfl,rfl⟩
   refine⟨_,rfl,?_⟩
   cases h2:dM (eF s) [105,54,52,46]with
   |true=>
    have h4:4≤s.size:=by have:=n8 h2;rw[hG]at this;exact this
    rw[if_pos (by simp[h2])]at hsg
    refine bE ?_
    refine Cd.me ?_
    refine t1 ?_
    refine cF.take 1 rfl FT (Yl.move rfl) ?_
    refine t7 ?_
    refine cF.take 4 rfl FT (Yl.cm Tryz.underlying9 rfl rfl (i:=4) rfl FY) ?_
    refine cF.one 2 FT rfl rfl (bC.call rfl rfl (kT s _) (fun e w' h=>⟨_,h.1⟩)) ?_
    rintro _ w3' ⟨hv3,hw3⟩
    cases hv3
    obtain rfl:w3.drew=w3':=hw3
    refine cF.one 5 FT rfl rfl (bC.call rfl rfl (kU op _ _ _) (fun e w' h=>by obtain⟨⟨v,h,_⟩,_⟩:=h;exact⟨v,h⟩)) ?_
    rintro _ w4 ⟨⟨v,hv4,cs,hcs,hv⟩,hx4'⟩
    cases hv4
    subst hcs
    rw[mT]at hv
    have hx4:Ext w3 w4:=bz.trans ((bz.refl _ w3).drew) hx4'
    obtain⟨v0,v1,rfl,q0,q1⟩:=hv
    obtain⟨p0,c0,rfl,-⟩:=q0.slice
    obtain⟨p1,c1,rfl,-⟩:=q1.slice
    refine cF.BE 6 FT rfl (bC.aL (ti:=eN) (cs:=[_,_]) rfl rfl rfl rfl rfl FM (hb1.aB (hx3.trans hx4) id) rfl) ?_
    rintro _ wD ⟨hbD,hcD,-⟩
    refine cF.xQ 7 FT rfl rfl (Yl.assign rfl) ?_
    refine cF.done FT ?_
    refine bE ?_
    have hxD:Ext w wD:=bz.trans' ((hxw2.trans hx3).trans hx4) hcD (fun k hk e=>by omega)
    refine Fin.bh (.inl rfl) rfl rfl rfl rfl rfl hbD rfl rfl ⟨⟨_,by rw[hsg];rfl,?_⟩,hxD⟩
    rw[hsg]
    have hsz:w1.heap.size≤w3.heap.size:=Nat.le_trans hn2.ext.size hx3.size
    have hdz:w3.drew.heap.size=w3.heap.size:=rfl
    refine⟨_,rfl,_,_,rfl,?_,?_⟩
    ·have:=(q0.aB hcD (fun k _ h e=>by omega)).mono (H:=fun k=>w.heap.size≤k) (fun k _ h=>by omega);exact this
    ·have:=(q1.aB hcD (fun k _ h e=>by omega)).mono (H:=fun k=>w.heap.size≤k) (fun k _ h=>by omega);exact this
   |false=>
    rw[h1,h2,if_neg FZ]at hsg
    refine bE ?_
    refine ah.e0 (bC.aL (ti:=eN) (cs:=[.slice none 0 0,.slice none 0 0]) rfl rfl rfl rfl rfl FM (hb1.aB hx3 id) rfl) ?_
    rintro _ wD ⟨hbD,hcD,-⟩
    refine bE ?_
    have hxD:Ext w wD:=bz.trans' (hxw2.trans hx3) hcD (fun k hk e=>by omega)
    refine Fin.bh (.inl rfl) rfl rfl rfl rfl rfl hbD rfl rfl ⟨⟨_,by rw[hsg];rfl,?_⟩,hxD⟩
    rw[hsg]
    exact⟨_,rfl,_,_,rfl,af.eB _ _,af.eB _ _⟩
structure zE where
 funcs:Int
 instrs:Int
 blocks:Int
 loops:Int
 calls:Int
 xK:Int
 uu:Int
 consts:Int
 deriving Inhabited,DecidableEq
end Go.Proofs.YtceedealggognaaGreatDoor
