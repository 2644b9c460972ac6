/- Small functions over texts: HasPrefix; opcode.of, begins. -/
import Derived.Test.YtceedealggognaaGreatDoorJIo
import Derived.Test.YtceedealggognaaGreatDoorJTy
import Derived.Test.YtceedealggognaaGreatDoorJSh
import Derived.Test.YtceedealggognaaGreatDoorJR7
namespace Go.Proofs.YtceedealggognaaGreatDoor
open Go.RowKit
set_option maxRecDepth 100000
abbrev eM (s:ByteArray):List UInt8:=s.data.toList
theorem ij (s:ByteArray):(eM s).length=s.size:=rfl
def dW (s p:List UInt8):Bool:=p.length≤s.length && s.take p.length==p
theorem lX (s:ByteArray) (i j:Nat):eM (s.extract i j)=((eM s).take j).drop i:=by
 simp only[eM,ByteArray.data_extract,Array.toList_extract,List.extract_eq_drop_take']
theorem oU (s p:ByteArray) (w:World):Calls G.P 177 #[.string s,.string p] w fun e w'=>e=.returned (.bool (dW (eM s) (eM p)))∧w=w':=by
 refine enter (G:=G) Tryz.func177 rfl Tryz.ntmps177 rfl ?_
 have hs:=ij s
 have hp:=ij p
 by_cases h:p.size≤s.size
 ·refine bF ?_
  refine Fin.aA rfl rfl ⟨?_,rfl⟩
  unfold dW
  rw[hp,hs,decide_eq_true h,Bool.true_and,←hp]
  congr 2
  have:=lX s 0 p.size
  rw[List.drop_zero]at this
  rw[hp];exact congrArg (·==eM p) this
 ·refine bF ?_
  refine Fin.aA rfl rfl ⟨?_,rfl⟩
  unfold dW
  rw[hp,hs,decide_eq_false h,Bool.false_and]
theorem cY (s p:ByteArray) (w:World):Calls G.P 149 #[.string s,.string p] w fun e w'=>e=.returned (.bool (dW (eM s) (eM p)))∧w=w':=by
 refine enter (G:=G) Tryz.func149 rfl Tryz.ntmps149 rfl ?_
 refine bF ?_
 refine ah.call rfl rfl rfl (oU s p w) ?_
 rintro _ _ ⟨rfl,rfl⟩
 refine⟨_,rfl,?_⟩
 refine bF ?_
 exact Fin.aA rfl rfl ⟨rfl,rfl⟩
def zS (s:List UInt8):Int:=if dW s [105,54,52]then 2 else 1
theorem lH (s:ByteArray) (w:World):Calls G.P 151 #[.string s] w fun e w'=>e=.returned (.int .i64 (zS (eM s)))∧w=w':=by
 refine enter (G:=G) Tryz.func151 rfl Tryz.ntmps151 rfl ?_
 refine bF ?_
 refine ah.call rfl rfl rfl (cY s _ w) ?_
 rintro _ _ ⟨rfl,rfl⟩
 refine⟨_,rfl,?_⟩
 unfold zS
 cases dW (eM s) [105,54,52]<;>(refine bF ?_;exact Fin.aA rfl rfl ⟨rfl,rfl⟩)
theorem bD (a b:Option Addr) (l c l2 c2:Nat) (w:World):Calls G.P 147 #[.slice a l c,.slice b l2 c2] w fun e w'=>e=.returned (.agg #[.slice a l c,.slice b l2 c2])∧Ext w w':=by
 refine enter (G:=G) Tryz.func147 rfl Tryz.ntmps147 rfl ?_
 refine bF ?_
 refine FR ?_
 rintro _ w1 ⟨rfl,hn⟩
 refine bF ?_
 refine ah.e0 (bB.aM (ti:=eY) (cs:=[.slice a l c,.slice b l2 c2]) rfl rfl rfl rfl rfl GZ hn.aJ rfl) ?_
 rintro _ w2 ⟨hb,hc,_⟩
 refine bF ?_
 exact Fin.fG (.inl rfl) rfl rfl rfl rfl rfl hb rfl ⟨rfl,bA.trans' hn.ext hc (fun k hk e=>by omega)⟩
structure dQ (w:World):Prop where
 Df:∀c:Nat,c<256→w.cell? ⟨0,c,none⟩=some (.int .u8 (if Lib.isSp (UInt8.ofNat c)then 1 else 0))
 mx:∃m,w.cell? ⟨1,0,none⟩=some (.int .i64 m)
theorem dQ.ext {w w':World} (h:dQ w) (hx:Ext w w'):dQ w':=⟨fun c hc=>hx.cell (h.Df c hc),by obtain⟨m,hm⟩:=h.mx;exact⟨m,hx.cell hm⟩⟩
theorem dQ.put {W:World} {l:Nat} {o o':Obj} (h:dQ W) (hl:W.heap[l]?=some o) (ho:o.isCells=false):dQ (W.putObj l o'):=by
 have key:∀{p:Addr} {v:Value},W.cell? p=some v→(W.putObj l o').cell? p=some v:=fun{p v} hc=>by
  have hne:p.block≠l:=by
   intro e
   unfold World.cell? at hc
   rw[e,hl]at hc
   cases o<;>simp_all [Obj.isCells]
  rw[World.cell?_of_block (w:=W) (by simp[World.putObj,Ne.symm hne])];exact hc
 exact⟨fun c hc=>key (h.Df c hc),by obtain⟨m,hm⟩:=h.mx;exact⟨m,key hm⟩⟩
def bQ:List (Int×List UInt8×List UInt8):=[(0,[],[117,110,114,101,97,99,104,97,98,108,101,32,110,111,112,32,98,108,111,99,107,32,108,111,111,112,32,105,102,32,101,108,115,101]),(11,[],[101,110,100,32,98,114,32,98,114,95,105,102,32,98,114,95,116,97,98,108,101,32,114,101,116,117,114,110,32,99,97,108,108,32,99,97,108,108,95,105,110,100,105,114,101,99,116]),(26,[],[100,114,111,112,32,115,101,108,101,99,116,32,115,101,108,101,99,116]),(32,[108,111,99,97,108,46],[103,101,116,32,115,101,116,32,116,101,101]),(35,[103,108,111,98,97,108,46],[103,101,116,32,115,101,116]),(37,[116,97,98,108,101,46],[103,101,116,32,115,101,116]),(40,[],[105,51,50,46,108,111,97,100,32,105,54,52,46,108,111,97,100]),(44,[105,51,50,46],[108,111,97,100,56,95,115,32,108,111,97,100,56,95,117,32,108,111,97,100,49,54,95,115,32,108,111,97,100,49,54,95,117]),(48,[105,54,52,46],[108,111,97,100,56,95,115,32,108,111,97,100,56,95,117,32,108,111,97,100,49,54,95,115,32,108,111,97,100,49,54,95,117,32,108,111,97,100,51,50,95,115,32,108,111,97,100,51,50,95,117]),(54,[],[105,51,50,46,115,116,111,114,101,32,105,54,52,46,115,116,111,114,101]),(58,[105,51,50,46],[115,116,111,114,101,56,32,115,116,111,114,101,49,54]),(60,[105,54,52,46],[115,116,111,114,101,56,32,115,116,111,114,101,49,54,32,115,116,111,114,101,51,50]),(63,[109,101,109,111,114,121,46],[115,105,122,101,32,103,114,111,119]),(65,[],[105,51,50,46,99,111,110,115,116,32,105,54,52,46,99,111,110,115,116]),(69,[105,51,50,46],[101,113,122,32,101,113,32,110,101,32,108,116,95,115,32,108,116,95,117,32,103,116,95,115,32,103,116,95,117,32,108,101,95,115,32,108,101,95,117,32,103,101,95,115,32,103,101,95,117]),(80,[105,54,52,46],[101,113,122,32,101,113,32,110,101,32,108,116,95,115,32,108,116,95,117,32,103,116,95,115,32,103,116,95,117,32,108,101,95,115,32,108,101,95,117,32,103,101,95,115,32,103,101,95,117]),(103,[105,51,50,46],[99,108,122,32,99,116,122,32,112,111,112,99,110,116,32,97,100,100,32,115,117,98,32,109,117,108,32,100,105,118,95,115,32,100,105,118,95,117,32,114,101,109,95,115,32,114,101,109,95,117,32,97,110,100,32,111,114,32,120,111,114,32,115,104,108,32,115,104,114,95,115,32,115,104,114,95,117,32,114,111,116,108,32,114,111,116,114]),(121,[105,54,52,46],[99,108,122,32,99,116,122,32,112,111,112,99,110,116,32,97,100,100,32,115,117,98,32,109,117,108,32,100,105,118,95,115,32,100,105,118,95,117,32,114,101,109,95,115,32,114,101,109,95,117,32,97,110,100,32,111,114,32,120,111,114,32,115,104,108,32,115,104,114,95,115,32,115,104,114,95,117,32,114,111,116,108,32,114,111,116,114]),(167,[],[105,51,50,46,119,114,97,112,95,105,54,52]),(172,[105,54,52,46],[101,120,116,101,110,100,95,105,51,50,95,115,32,101,120,116,101,110,100,95,105,51,50,95,117]),(192,[105,51,50,46],[101,120,116,101,110,100,56,95,115,32,101,120,116,101,110,100,49,54,95,115]),(194,[105,54,52,46],[101,120,116,101,110,100,56,95,115,32,101,120,116,101,110,100,49,54,95,115,32,101,120,116,101,110,100,51,50,95,115]),(208,[114,101,102,46],[110,117,108,108,32,105,115,95,110,117,108,108,32,102,117,110,99]),(64520,[],[109,101,109,111,114,121,46,105,110,105,116,32,100,97,116,97,46,100,114,111,112,32,109,101,109,111,114,121,46,99,111,112,121,32,109,101,109,111,114,121,46,102,105,108,108,32,116,97,98,108,101,46,105,110,105,116,32,101,108,101,109,46,100,114,111,112,32,116,97,98,108,101,46,99,111,112,121,32,116,97,98,108,101,46,103,114,111,119,32,116,97,98,108,101,46,115,105,122,101,32,116,97,98,108,101,46,102,105,108,108])]
def xT (r:Int×List UInt8×List UInt8):List Value:=[.int .i64 r.1,.string ⟨r.2.1.toArray⟩,.string ⟨r.2.2.toArray⟩]
def iE:List Value:=bQ.flatMap xT
def opsOf (r:Int×List UInt8×List UInt8):List (Int×ByteArray):=(Lib.fields r.2.2).zipIdx.map fun p=>(r.1+p.2,⟨r.2.1.toArray⟩++⟨p.1.toArray⟩)
def sL:List (Int×ByteArray):=bQ.flatMap opsOf
theorem tL (w:World):Calls G.P 189 #[] w fun e w'=>e=.returned (.slice (some ⟨w.heap.size,0,none⟩) 24 24)∧uv w w' iE 271:=by
 refine enter (G:=G) Tryz.func189 rfl Tryz.ntmps189 rfl ?_
 refine bF ?_
 refine ah.e (bB.buildSlice (cs:=iE) (e:=271) rfl G7) rfl ?_
 rintro _ w1 ⟨rfl,hn⟩
 refine bF ?_
 exact Fin.aA rfl rfl ⟨rfl,hn⟩
theorem tR:iE=(List.range 24).flatMap (fun i=>xT (ix bQ i)):=by kernel_rfl
theorem nq:bQ.length=24:=rfl
theorem B5:∀i,i<24→0≤(ix bQ i).1∧(ix bQ i).1≤70000∧(ix bQ i).2.1.length≤100∧(ix bQ i).2.2.length≤1000∧((ix bQ i).2.2.all fun b=>decide (b.toNat<128))=true∧((Lib.fields (ix bQ i).2.2).all fun f=>decide (f.length≤100))=true∧(Lib.fields (ix bQ i).2.2).length≤100:=by decide+kernel
def yT (r:Int×List UInt8×List UInt8) (k:Nat):Int×ByteArray:=(r.1+k,⟨r.2.1.toArray⟩++⟨(ix (Lib.fields r.2.2) k).toArray⟩)
theorem qY (r:Int×List UInt8×List UInt8):(opsOf r).length=(Lib.fields r.2.2).length:=by simp[opsOf]
theorem uY {r:Int×List UInt8×List UInt8} {k:Nat} (h:k<(Lib.fields r.2.2).length):(opsOf r).take (k+1)=(opsOf r).take k++[yT r k]:=by
 have hl:k<(opsOf r).length:=by rw[qY];exact h
 rw[List.take_succ_eq_append_getElem hl]
 congr 2
 simp only[opsOf,List.getElem_map,List.getElem_zipIdx,yT,cw h]
 simp
def lz (i k:Nat):List (Int×ByteArray):=(bQ.take i).flatMap opsOf++(opsOf (ix bQ i)).take k
theorem zf {i k:Nat} (hi:i<24):lz i k<+:sL:=by
 refine⟨(opsOf (ix bQ i)).drop k++(bQ.drop (i+1)).flatMap opsOf,?_⟩
 have e:bQ=bQ.take i++([ix bQ i]++bQ.drop (i+1)):=by
  rw[←List.append_assoc,←bu (by rw[nq];exact hi),List.take_append_drop]
 unfold lz sL
 conv=>rhs;rw[e]
 simp only[List.flatMap_append,List.flatMap_cons,List.flatMap_nil,List.append_nil]
 rw[List.append_assoc,←List.append_assoc (List.take k _),List.take_append_drop]
theorem xy {i:Nat} (hi:i<24):lz i (Lib.fields (ix bQ i).2.2).length=lz (i+1) 0:=by
 unfold lz
 rw[←qY,List.take_length,List.take_zero,List.append_nil,bu (by rw[nq];exact hi),List.flatMap_append]
 simp
theorem ze:lz 24 0=sL:=by unfold lz sL;rw[List.take_zero,List.append_nil,←nq,List.take_length]
def TK (T:TypeId):Prop:=T=271∨T=9∨T=71
structure uu (B:Nat) (W W':World):Prop where
 size:W.heap.size≤W'.heap.size
 same:∀(k:Nat) (cs:List Value) (T:TypeId),B≤k→TK T→dZ W k cs T→dZ W' k cs T
 env:dQ W→dQ W'
theorem uu.refl (B:Nat) (W:World):uu B W W:=⟨Nat.le_refl _,fun _ _ _ _ _ h=>h,id⟩
theorem uu.trans {B:Nat} {X Y Z:World} (h:uu B X Y) (k:uu B Y Z):uu B X Z:=⟨Nat.le_trans h.size k.size,fun i cs T hB hT hi=>k.same i cs T hB hT (h.same i cs T hB hT hi),fun e=>k.env (h.env e)⟩
theorem uu.put {B:Nat} {W:World} {l:Nat} {o o':Obj} (hl:W.heap[l]?=some o) (ho:o.isCells=false):uu B W (W.putObj l o'):=
 ⟨by simp[World.putObj],fun k cs T _ _ hk=>by
  have:k≠l:=by rintro rfl;unfold dZ at hk;rw[hl]at hk;cases hk;cases ho
  unfold dZ;rw[World.putObj_heap_other this];exact hk,fun e=>e.put hl ho⟩
theorem uu.aJ {B:Nat} {W W':World} (h:uu B W W') {b:Nat} {cs:List Value} {T:TypeId} (hb:dZ W b cs T) (hB:B≤b) (hT:TK T):dZ W' b cs T:=h.same b cs T hB hT hb
theorem Ext.grown {W W':World} (h:Ext W W'):W.grownBy W' none:=⟨h.os,h.tape,h.output,h.size,fun k hk _=>h.block k hk id⟩
def By (x:Int×ByteArray):List Value:=[.int .i64 x.1,.string x.2]
theorem xP {ro ro':Option Nat} {m m':Nat} {l:Nat} {args:Array Value} {W:World} {R:Ending→World→Prop} (h:YieldAt (FW ro) m G.P l args W R):YieldAt (FW ro') m' G.P l args W R:=by
 obtain⟨fn,tmps,assign,body,hy,hR⟩:=h
 exact⟨fn,tmps,assign,body,hy,trivial,fun c cs _=>hR.2 c cs (fun d hd=>by cases hd)⟩
set_option maxHeartbeats 4000000 in
theorem uV (w0:World) (h0:dQ w0) (l:Nat) (J Jx:List (Int×ByteArray)→World→Prop) (W:World) (hW:Below w0.heap.size w0 W) (hJ:∀s A B,J s A→A.grownBy B none→J s B)
  (hY:∀pre x W1,J pre W1→pre++[x]<+:sL→YieldAt (FW none) 0 G.P l (By x).toArray W1 fun e W'=>(e=.returned (.bool true)∧J (pre++[x]) W'∧uu w0.heap.size W1 W')∨(e=.returned (.bool false)∧Jx (pre++[x]) W')) (hJ0:J [] W):
  Calls G.P 188 ([.func (.yield l) #[] #[]]:List Value).toArray W fun e W'=>(∃v,e=.returned v)∧(J sL W'∨∃pre,pre<+:sL∧Jx pre W'):=by
 have hEW:dQ W:=h0.ext (Ext.vU hW)
 have hBW:w0.heap.size≤W.heap.size:=hW.size
 have abide:∀{pre:List (Int×ByteArray)} {A B:World},J pre A→Ext A B→J pre B:=fun{pre A B} h hx=>hJ pre A B h hx.grown
 refine enter (G:=G) Tryz.func188 rfl Tryz.ntmps188 rfl ?_
 refine vA ?_
 refine ah.call rfl rfl rfl (tL W) ?_
 rintro _ w1 ⟨rfl,hn1⟩
 refine⟨_,rfl,?_⟩
 refine vA ?_
 refine Cd.loop (σ:=Nat) (fun i=>[(0,.func (.yield l) #[] #[]),(6,.slice (some ⟨W.heap.size,0,none⟩) 24 24),(7,.int .i64 24),(8,.int .i64 i)]) (fun i wr=>i≤24∧J (lz i 0) wr∧dQ wr∧dZ wr W.heap.size iE 271) (fun i=>24 - i) 0 bR ⟨by omega,abide (show J (lz 0 0) W from hJ0) hn1.ext,hEW.ext hn1.ext,hn1.aJ⟩ ?_
 rintro i wr ⟨hi,hJi,hEi,hBi⟩
 by_cases hlt:i<24
 ·obtain⟨k1,k2,k3,k4,k5,k6,k7⟩:=B5 i hlt
  have hcell:∀w',w'=wr→∀j,j<3→w'.cell? ⟨W.heap.size,0+i*3+j,none⟩=(xT (ix bQ i))[j]?:=by
   rintro _ rfl j hj
   have e:iE[i*3+j]?=(xT (ix bQ i))[j]?:=by rw[tR];exact oL 3 (fun i=>xT (ix bQ i)) 24 (fun _ _=>rfl) i j hlt hj
   rw[Nat.zero_add]
   have hs:∃u,(xT (ix bQ i))[j]?=some u:=⟨_,List.getElem?_eq_getElem (by simpa[xT]using hj)⟩
   obtain⟨u,hu⟩:=hs
   rw[hu]at e ⊢
   exact hBi.cell e
  have hpre:=fun k=>zf (i:=i) (k:=k) hlt
  have hnext:=xy hlt
  have htake:=fun k (h:k<(Lib.fields (ix bQ i).2.2).length)=>uY h
  refine vA ?_
  refine ah.y (Yl.nE (cs:=xT (ix bQ i)) rfl rfl rfl rfl rfl hcell) rfl ?_
  refine FR ?_
  rintro _ w2 ⟨rfl,hn2⟩
  refine ah.e0 (bB.aM (ti:=CW) (cs:=xT (ix bQ i)) rfl rfl rfl rfl rfl (by simp[xT,Value.oneCell']) hn2.aJ rfl) ?_
  rintro _ w3 ⟨hb3,hc3,hz3⟩
  have hx3:Ext wr w3:=bA.trans' hn2.ext hc3 (fun k hk e=>by omega)
  generalize hgb:wr.heap.size=b2 at*
  have c0:w3.cell? ⟨b2,0,none⟩=some (.int .i64 (ix bQ i).1):=hb3.cell rfl
  have c1:w3.cell? ⟨b2,0+1,none⟩=some (.string ⟨(ix bQ i).2.1.toArray⟩):=hb3.cell rfl
  have c2:w3.cell? ⟨b2,0+2,none⟩=some (.string ⟨(ix bQ i).2.2.toArray⟩):=hb3.cell rfl
  refine vA ?_
  have hE3:dQ w3:=hEi.ext hx3
  refine ah.call rfl rfl rfl (xD ⟨(ix bQ i).2.2.toArray⟩ w3 (show(ix bQ i).2.2.length<_ by omega) (fun j b hb=>?_) hE3.Df) ?_
  ·have:=List.all_eq_true.1 k5 b (List.mem_of_getElem? hb)
   simpa using this
  rintro _ _ ⟨rfl,rfl⟩
  refine⟨_,rfl,?_⟩
  have hn4:=uv.alloc w3 ((Lib.fields (ix bQ i).2.2).map fun l=>Value.string ⟨l.toArray⟩) 9
  generalize hw4:w3.alloc (.cells ((Lib.fields (ix bQ i).2.2).map fun l=>Value.string ⟨l.toArray⟩).toArray 9)=w4 at*
  have hx4:Ext wr w4:=hx3.trans hn4.ext
  have hb4:dZ w4 b2 (xT (ix bQ i)) 271:=hb3.aD hn4.ext id
  have hB4:dZ w4 W.heap.size iE 271:=hBi.aD hx4 id
  have hf4:=hn4.aJ
  generalize hgc:w3.heap.size=b4 at*
  have hle2:W.heap.size<b2:=by have:=hBi.lt;omega
  have hle4:b2<b4:=by have:=hb3.lt;omega
  have hJ4:J (lz i 0) w4:=abide hJi hx4
  have hE4:dQ w4:=hE3.ext hn4.ext
  clear hn4 hx4 hx3 hb3 hc3 hz3 hn2 c0 c1 c2 hE3 hEi hJi hBi hcell hw4
  refine vA ?_
  refine Cd.loop (σ:=Nat) (fun k=>[(0,.func (.yield l) #[] #[]),(3,.pointer (some ⟨b2,0,none⟩)),(6,.slice (some ⟨W.heap.size,0,none⟩) 24 24),(7,.int .i64 24),(8,.int .i64 i),(14,.slice (some ⟨b4,0,none⟩) (Lib.fields (ix bQ i).2.2).length (Lib.fields (ix bQ i).2.2).length),(15,.int .i64 ((Lib.fields (ix bQ i).2.2).length:Nat)),(16,.int .i64 k)])
   (fun k wq=>k≤(Lib.fields (ix bQ i).2.2).length∧J (lz i k) wq∧dQ wq∧dZ wq W.heap.size iE 271∧dZ wq b2 (xT (ix bQ i)) 271∧dZ wq b4 ((Lib.fields (ix bQ i).2.2).map fun l=>Value.string ⟨l.toArray⟩) 9) (fun k=>(Lib.fields (ix bQ i).2.2).length - k) 0 bR ⟨by omega,hJ4,hE4,hB4,hb4,hf4⟩ ?_
  clear hJ4 hE4 hB4 hb4 hf4
  rintro k wq ⟨hk,hJk,hEk,hBk,hb,hf⟩
  by_cases hkl:k<(Lib.fields (ix bQ i).2.2).length
  ·have c0:wq.cell? ⟨b2,0,none⟩=some (.int .i64 (ix bQ i).1):=hb.cell rfl
   have c1:wq.cell? ⟨b2,0+1,none⟩=some (.string ⟨(ix bQ i).2.1.toArray⟩):=hb.cell rfl
   have c4:wq.cell? ⟨b4,0+k,none⟩=some (.string ⟨(ix (Lib.fields (ix bQ i).2.2) k).toArray⟩):=by
    rw[Nat.zero_add]
    exact hf.cell (by rw[List.getElem?_map,gF hkl];rfl)
   have hs1:(⟨(ix bQ i).2.1.toArray⟩:ByteArray).size=(ix bQ i).2.1.length:=rfl
   have hs2:(⟨(ix (Lib.fields (ix bQ i).2.2) k).toArray⟩:ByteArray).size=(ix (Lib.fields (ix bQ i).2.2) k).length:=rfl
   have hs3:(ix (Lib.fields (ix bQ i).2.2) k).length≤100:=by
    have:=List.all_eq_true.1 k6 _ (show ix (Lib.fields (ix bQ i).2.2) k∈_ by rw[cw hkl];exact List.getElem_mem hkl)
    simpa using this
   have hstep:lz i (k+1)=lz i k++[yT (ix bQ i) k]:=by unfold lz;rw[htake k hkl,List.append_assoc]
   have hyk:=hY (lz i k) (yT (ix bQ i) k) wq hJk (by rw[←hstep];exact hpre (k+1))
   refine vA ?_
   refine Cd.vW 0 ?_
   refine um ?_
   refine cQ.round rfl rfl rfl hyk ?_
   rintro e w5 (⟨rfl,hJ5,hK5⟩|⟨rfl,hJx5⟩)
   ·refine⟨_,rfl,?_⟩
    refine um ?_
    refine dt.ofFin ?_
    refine vA ?_
    refine Fin.next (k+1) bR ⟨by omega,by rw[hstep];exact hJ5,hK5.env hEk,hK5.aJ hBk hBW (.inl rfl),hK5.aJ hb Hb (.inl rfl),hK5.aJ hf Hb (.inr (.inl rfl))⟩ Hb
   ·refine⟨_,rfl,?_⟩
    refine um ?_
    refine dt.ofFin ?_
    refine vA ?_
    refine Fin.zm rfl ⟨⟨_,rfl⟩,.inr ⟨lz i k++[yT (ix bQ i) k],?_,hJx5⟩⟩
    rw[←hstep];exact hpre (k+1)
  ·have hke:k=(Lib.fields (ix bQ i).2.2).length:=by omega
   subst hke
   refine vA ?_
   refine Fin.next (i+1) bR ⟨by omega,by rw[←hnext];exact hJk,hEk,hBk⟩ Hb
 ·have hie:i=24:=by omega
  subst hie
  refine vA ?_
  refine Fin.kJ rfl ⟨⟨_,rfl⟩,.inl (by rw[←ze];exact hJi)⟩
theorem sc (m:Nat) (w0:World) (h0:dQ w0):SeqStopsK (FW none) m G.P 188 #[] (fun x=>(By x).toArray) (uu w0.heap.size) (fun xs=>xs=sL) (fun pre=>pre<+:sL) sL.length w0:=fun l J Jx W hW hJ hJx hY hJ0=>
 mq ((uV w0 h0 l J Jx W hW (fun s A B h hg=>hJ s A B none h hg (fun r e=>by cases e)) (fun pre x W1 hj hp=>xP (hY pre x W1 hj (by have:=hp.length_le;simp at this;omega))) hJ0).mono fun _ _ h=>⟨h.1,h.2.imp (fun h=>⟨_,rfl,h⟩) id⟩)
theorem rf {fn:Func} {n:Nat} {E:Env} {w:World} {a T:Nat} {ti:TI} {v:Value} {ad:Addr} (hr:fn.results=#[.cell a T]) (ha:lk E a=some (.pointer (some ad))) (hT:G.ty T=some ti) (hag:ti.agg=false) (hc:w.cell? ad=some v):
  ∀ac,Ag n ac E→(results fn ac.tmps).run G.P w=.ok v w:=fun ac hac=>by
 have h1:=(G.eZ T ti hT).agg w
 rw[hag]at h1
 have g1:ac.tmps[a]?.getD undef=.pointer (some ad):=by have:=(hac.eq a _ ha).2;simpa using this
 simp[results,hr,g1,asAddr,loadVar,h1,hc]
def iZ (op:Int):List (Int×ByteArray)→Option ByteArray
 |[]=>none
 |x::r=>if x.1=op then some x.2 else iZ op r
def eN (op:Int):ByteArray:=(iZ op sL).getD ⟨#[]⟩
theorem oJ {op:Int}:∀{l:List (Int×ByteArray)},(∀x∈l,x.1≠op)→iZ op l=none
 |[],_=>rfl
 |x::r,h=>by rw[iZ,if_neg (h x Hc)];exact oJ (fun y hy=>h y (by simp[hy]))
theorem qL {op:Int} {x:Int×ByteArray} (hx:x.1=op) {r:List (Int×ByteArray)}:∀{l:List (Int×ByteArray)},(∀y∈l,y.1≠op)→iZ op (l++[x]++r)=some x.2
 |[],_=>by simp[iZ,hx]
 |y::l,h=>by
  show iZ op (y::(l++[x]++r))=_
  rw[iZ,if_neg (h y Hc)];exact qL hx (fun z hz=>h z (by simp[hz]))
theorem sj (w:World):Calls G.P 176 #[] w fun e w'=>e=.returned (.func (.func 188) #[] #[])∧w=w':=by
 refine enter (G:=G) Tryz.func176 rfl Tryz.ntmps176 rfl ?_
 refine bF ?_
 exact Fin.aA rfl rfl ⟨rfl,rfl⟩
theorem dZ.grown {W W':World} {row:Option Nat} {B b:Nat} {cs:List Value} {T:TypeId} (h:dZ W b cs T) (hb:b<B) (hg:W.grownBy W' row) (hr:∀r,row=some r→B≤r∧∃o:Obj,W.heap[r]?=some o∧o.isCells=false):dZ W' b cs T:=by
 unfold dZ
 rw[hg.block b h.lt (fun e=>by have:=(hr b e.symm).1;omega)];exact h
theorem Ext.yD {w W W':World} {row:Option Nat} {B:Nat} (h:Ext w W) (hB:w.heap.size≤B) (hg:W.grownBy W' row) (hr:∀r,row=some r→B≤r∧∃o:Obj,W.heap[r]?=some o∧o.isCells=false):Ext w W':=
 bA.trans' h (bA.jd hg) (fun k hk e=>by have:=(hr k e).1;omega)
theorem Ext.CS {w W:World} (h:Ext w W) {l:Nat} (hl:w.heap.size≤l) (o:Obj):Ext w (W.putObj l o):=
 bA.trans' h (T:=fun k=>k=l) ⟨rfl,rfl,rfl,by simp[World.putObj],fun k _ hk=>World.putObj_heap_other hk⟩ (fun k hk e=>by omega)
set_option maxHeartbeats 4000000 in
theorem kO (op:Int) (w:World) (h0:dQ w):Calls G.P 148 #[.int .i64 op] w fun e w'=>e=.returned (.string (eN op))∧Ext w w':=by
 refine yA (m:=5) (l:=[.int .i64 op]) Tryz.func148 rfl Tryz.ntmps148 rfl ?_
 refine um ?_
 refine cQ.e (bB.box rfl rfl) rfl rfl ?_
 rintro _ w1 ⟨rfl,hn1⟩
 refine cQ.e (bB.alloc rfl) rfl rfl ?_
 rintro _ w2 ⟨rfl,hn2⟩
 refine um ?_
 refine cQ.e (bB.call rfl rfl (sj w2) (fun e w' h=>⟨_,h.1⟩)) rfl rfl ?_
 rintro _ _ ⟨h,rfl⟩
 cases h
 refine um ?_
 have hx2:Ext w w2:=hn1.ext.trans hn2.ext
 have hs1:=hn1.size
 have hs2:=hn2.size
 have hb1:dZ w2 w.heap.size [.int .i64 op] 56:=hn1.aJ.aD hn2.ext id
 have hb2:dZ w2 w1.heap.size [.string ⟨#[]⟩] 9:=hn2.aJ
 generalize w1.heap.size=b2 at*
 generalize hgb:w.heap.size=b1 at*
 refine gP.rangeFunc (encs:=By) (Kp:=uu w2.heap.size) (S:=fun xs=>xs=sL) (Sp:=fun pre=>pre<+:sL) (N:=sL.length) rfl rfl Hb (sc _ w2 (h0.ext hx2)) (fun h k=>h.trans k) (fun W l o o' _ hl ho _=>uu.put hl ho) (uu.refl _) (fun _=>rfl) rfl
  (fun pre W=>(∀x∈pre,x.1≠op)∧dZ W b1 [.int .i64 op] 56∧dZ W b2 [.string ⟨#[]⟩] 9∧Ext w W)
  (fun c pre W=>c=.ret∧∃pre' x,pre=pre'++[x]∧x.1=op∧(∀y∈pre',y.1≠op)∧dZ W b2 [.string x.2] 9∧Ext w W)
  (fun pre W W' row ⟨h1,h2,h3,h4⟩ hg hr=>⟨h1,h2.grown Hb hg hr,h3.grown Hb hg hr,h4.yD Hb hg hr⟩)
  (fun c pre W W' row ⟨h1,p,x,h2,h3,h4,h5,h6⟩ hg hr=>⟨h1,p,x,h2,h3,h4,h5.grown Hb hg hr,h6.yD Hb hg hr⟩)
  ⟨by simp,hb1,hb2,hx2⟩ (fun x=>[(1,.pointer (some ⟨b1,0,none⟩)),(2,.pointer (some ⟨b2,0,none⟩)),(3,.int .i64 x.1),(4,.string x.2)]) ?_ ?_ ?_ ?_
 ·intro l x W K hK
  refine um ?_
  exact dt.Be (fun a ha=>hK a (ha.sub bR))
 ·rintro l pre x W ⟨h1,h2,h3,h4⟩ hN
  have c1:W.cell? ⟨b1,0,none⟩=some (.int .i64 op):=h2.cell rfl
  by_cases hx:x.1=op
  ·refine um ?_
   refine cQ.e0 (bB.vt (ti:=Eg) rfl rfl rfl rfl rfl h3 Hc) rfl ?_
   rintro _ W2 ⟨hb,hc,hz⟩
   refine um ?_
   refine⟨fun a ha=>⟨⟨by omega,fun k o hk ho hno=>?_⟩,rfl,pre,x,rfl,hx,h1,hb,?_⟩⟩
   ·rw[hc.block k (Array.getElem?_eq_some_iff.1 ho).1 Hb];exact ho
   ·exact bA.trans' h4 hc (fun k hk e=>by omega)
  ·refine um ?_
   refine⟨fun a ha=>⟨KeepsFrom.refl _ _,uu.refl _ _,fun y hy=>?_,h2,h3,h4⟩⟩
   rcases List.mem_append.1 hy with hy|hy
   ·exact h1 y hy
   ·rw[List.mem_singleton]at hy;subst hy;exact hx
 ·rintro Dn xs W hD rfl ⟨h1,h2,h3,h4⟩ hK
  refine um ?_
  refine cQ.e0 (bB.vt (ti:=Eg) rfl rfl rfl rfl rfl h3 Hc) rfl ?_
  rintro _ W2 ⟨hb,hc,hz⟩
  refine um ?_
  have hx4:Ext w W2:=bA.trans' h4 hc (fun k hk e=>by omega)
  refine dt.AF (.inl rfl) (by rw[hc.block Dn (Array.getElem?_eq_some_iff.1 hK).1 Hb];exact hK) (rf rfl rfl rfl rfl ?_) ⟨rfl,hx4.CS Hb _⟩
  rw[World.cell?_of_block (w:=W2) (World.putObj_heap_other (by show b2≠Dn;omega)),show eN op=⟨#[]⟩by unfold eN;rw[oJ h1];rfl]
  exact hb.cell rfl
 ·rintro Dn c pre W hD hp ⟨rfl,pre',x,rfl,hx,h1,hb,h4⟩ hK
  refine um ?_
  refine dt.AF (.inl rfl) hK (rf rfl rfl rfl rfl ?_) ⟨rfl,h4.CS Hb _⟩
  obtain⟨r,hr⟩:=hp
  rw[World.cell?_of_block (w:=W) (World.putObj_heap_other (by show b2≠Dn;omega)),show eN op=x.2 by unfold eN;rw[←hr,qL hx h1];rfl]
  exact hb.cell rfl
theorem mN (op:Int) (w:World) (h0:dQ w):Calls G.P 127 #[.int .i64 op] w fun e w'=>e=.returned (.bool (!(eM (eN op)==[])))∧Ext w w':=by
 refine enter (G:=G) Tryz.func127 rfl Tryz.ntmps127 rfl ?_
 refine bF ?_
 refine ah.call rfl rfl rfl (kO op w h0) ?_
 rintro _ w1 ⟨rfl,hx⟩
 refine⟨_,rfl,?_⟩
 refine bF ?_
 exact Fin.aA rfl rfl ⟨rfl,hx⟩
def uQ (op:Int):Bool:=!(eM (eN op)==[])
def gZ (op:Int):Bool:=decide (40≤op) && decide (op≤62) && uQ op
theorem qk (op:Int) (w:World) (h0:dQ w):Calls G.P 168 #[.int .i64 op] w fun e w'=>e=.returned (.bool (gZ op))∧Ext w w':=by
 refine enter (G:=G) Tryz.func168 rfl Tryz.ntmps168 rfl ?_
 unfold gZ
 rcases(show op<40∨(40≤op∧62<op)∨(40≤op∧op≤62)by omega)with h|⟨h1,h2⟩|⟨h1,h2⟩
 ·refine bF ?_
  exact Fin.aA rfl rfl ⟨by rw[decide_eq_false Hb];rfl,bA.refl _ _⟩
 ·refine bF ?_
  exact Fin.aA rfl rfl ⟨by rw[decide_eq_true h1,decide_eq_false Hb];rfl,bA.refl _ _⟩
 ·refine bF ?_
  refine ah.tj rfl rfl rfl rfl (mN op w h0) ?_
  rintro _ w1 ⟨rfl,hx⟩
  refine⟨_,rfl,?_⟩
  refine bF ?_
  exact Fin.aA rfl rfl ⟨by rw[decide_eq_true h1,decide_eq_true h2];rfl,hx⟩
theorem xu:(sL.all fun x=>decide (x.2.size≤100))=true:=by decide+kernel
theorem qN {op:Int} {s:ByteArray}:∀{l:List (Int×ByteArray)},iZ op l=some s→(op,s)∈l
 |x::r,h=>by
  rw[iZ]at h
  split at h
  ·rename_i e;cases h;subst e;simp
  ·exact List.mem_cons_of_mem _ (qN h)
theorem oV (op:Int):(eN op).size≤100:=by
 unfold eN
 cases h:iZ op sL with
 |none=>exact Nat.zero_le _
 |some s=>
  have:=List.all_eq_true.1 xu _ (qN h)
  simpa using this
def nu (s:List UInt8):Int:=
 if Lib.contains (s.drop 4) [56]=true then 1 else if Lib.contains (s.drop 4) [49,54]=true then 2 else if Lib.contains (s.drop 4) [51,50]=true then 4 else if(s.take 3==[105,51,50])=true then 4 else 8
def fO (op:Int):Int:=if gZ op=true then nu (eM (eN op))else 0
theorem sX:∀k,k<23→gZ (40+(k:Nat))=true→4≤(eN (40+(k:Nat))).size:=by decide+kernel
theorem sY {op:Int} (h:gZ op=true):4≤(eN op).size:=by
 have h':=h
 unfold gZ at h'
 simp only[Bool.and_eq_true,decide_eq_true_eq]at h'
 obtain⟨k,hk⟩:=Int.eq_ofNat_of_zero_le (show 0≤op - 40 by omega)
 have e:op=40+(k:Int):=by omega
 rw[e]at h ⊢
 exact sX k Hb h
theorem nB {s:ByteArray}:eM (s.extract 4 s.size)=(eM s).drop 4:=by
 rw[lX,List.take_of_length_le (by rw[ij];omega)]
theorem Bd {s:ByteArray}:eM (s.extract 0 3)=(eM s).take 3:=by rw[lX,List.drop_zero]
set_option maxHeartbeats 4000000 in
theorem mO (op:Int) (w:World) (h0:dQ w):Calls G.P 136 #[.int .i64 op] w fun e w'=>e=.returned (.int .i64 (fO op))∧Ext w w':=by
 refine enter (G:=G) Tryz.func136 rfl Tryz.ntmps136 rfl ?_
 refine bF ?_
 refine ah.call rfl rfl rfl (qk op w h0) ?_
 rintro _ w1 ⟨rfl,hx1⟩
 refine⟨_,rfl,?_⟩
 unfold fO
 cases ha:gZ op with
 |false=>
  refine bF ?_
  exact Fin.aA rfl rfl ⟨rfl,hx1⟩
 |true=>
  have hsz:=sY ha
  have hsm:=oV op
  refine bF ?_
  refine ah.call rfl rfl rfl (kO op w1 (h0.ext hx1)) ?_
  rintro _ w2 ⟨rfl,hx2⟩
  refine⟨_,rfl,?_⟩
  have hxb:Ext w w2:=hx1.trans hx2
  generalize eN op=s at*
  refine bF ?_
  refine ah.e (bB.buildSlice (cs:=[.int .i64 8,.int .i64 16,.int .i64 32]) (e:=3) rfl G7) rfl ?_
  rintro _ w3 ⟨rfl,hn3⟩
  have hx3:Ext w w3:=hxb.trans hn3.ext
  have b3:=hn3.aJ
  generalize w2.heap.size=bk at*
  refine bF ?_
  refine Cd.loop (σ:=Nat) (fun k=>[(3,.string s),(11,.slice (some ⟨bk,0,none⟩) 3 3),(12,.int .i64 3),(13,.int .i64 k)]) (fun k wr=>k≤3∧Ext w wr∧dZ wr bk [.int .i64 8,.int .i64 16,.int .i64 32] 3∧(0<k→Lib.contains ((eM s).drop 4) [56]=false)∧(1<k→Lib.contains ((eM s).drop 4) [49,54]=false)∧(2<k→Lib.contains ((eM s).drop 4) [51,50]=false)) (fun k=>3 - k) 0 bR ⟨by omega,hx3,b3,by omega,by omega,by omega⟩ ?_
  rintro k wr ⟨hk,hxr,hbr,g0,g1,g2⟩
  obtain⟨mx,hmx⟩:=(h0.ext hxr).mx
  rcases(show k=0∨k=1∨k=2∨k=3 by omega)with rfl|rfl|rfl|rfl
  ·have c:wr.cell? ⟨bk,0+0,none⟩=some (.int .i64 8):=hbr.cell rfl
   refine bF ?_
   refine Cd.mT ?_
   refine F8 ?_
   refine F9 ?_
   refine Ga ?_
   refine cJ.take 4 rfl G7 (Yl.quo (r:=0) rfl rfl (fun w=>by kernel_rfl)) ?_
   refine Gb ?_
   rintro _ w5 ⟨rfl,hn5⟩
   have hx5:Ext wr w5:=bA.trans ((bA.refl _ wr).drew) hn5.ext
   have c5:w5.cell? ⟨wr.drew.heap.size,0+0,none⟩=some (.string ⟨([56]:List UInt8).toArray⟩):=hn5.aJ.cell rfl
   refine cJ.take 5 rfl G7 (Yl.fX rfl rfl rfl rfl rfl (i:=0) rfl Hb) ?_
   refine cJ.yS 6 G7 rfl rfl (Yl.load rfl rfl rfl (by rintro _ rfl;exact c5)) ?_
   refine cJ.one 7 G7 rfl rfl (bB.call rfl rfl (fw (s.extract 4 s.size) ⟨([56]:List UInt8).toArray⟩ mx w5 GV (hx5.cell hmx)) (fun e w' h=>⟨_,h.1⟩)) ?_
   rintro _ w6 ⟨hv,hw6⟩
   obtain rfl:w5=w6:=hw6.symm
   cases hv
   have e5:Lib.contains (s.extract 4 s.size).data.toList (ByteArray.mk ([56]:List UInt8).toArray).data.toList=Lib.contains ((eM s).drop 4) [56]:=by rw[←nB]
   rw[e5]
   refine cJ.done G7 ?_
   have b5:dZ w5 bk [.int .i64 8,.int .i64 16,.int .i64 32] 3:=hbr.aD hx5 id
   have hxw:Ext w w5:=hxr.trans hx5
   cases hct:Lib.contains ((eM s).drop 4) [56]with
   |true=>
    refine bF ?_
    refine ah.y (Yl.quo (r:=1) rfl rfl (fun w=>by kernel_rfl)) rfl ?_
    refine bF ?_
    refine Fin.aA rfl rfl ⟨?_,hxw⟩
    rw[if_pos rfl]
    unfold nu
    simp[hct]
   |false=>
    refine bF ?_
    exact Fin.next 1 bR ⟨by omega,hxw,b5,fun _=>rfl,fun _=>by omega,fun _=>by omega⟩ Hb
  ·have c:wr.cell? ⟨bk,0+1,none⟩=some (.int .i64 16):=hbr.cell rfl
   refine bF ?_
   refine Cd.mT ?_
   refine F8 ?_
   refine F9 ?_
   refine Ga ?_
   refine cJ.take 4 rfl G7 (Yl.quo (r:=1) rfl rfl (fun w=>by kernel_rfl)) ?_
   refine Gb ?_
   rintro _ w5 ⟨rfl,hn5⟩
   have hx5:Ext wr w5:=bA.trans ((bA.refl _ wr).drew) hn5.ext
   have c5:w5.cell? ⟨wr.drew.heap.size,0+1,none⟩=some (.string ⟨([49,54]:List UInt8).toArray⟩):=hn5.aJ.cell rfl
   refine cJ.take 5 rfl G7 (Yl.fX rfl rfl rfl rfl rfl (i:=1) rfl Hb) ?_
   refine cJ.yS 6 G7 rfl rfl (Yl.load rfl rfl rfl (by rintro _ rfl;exact c5)) ?_
   refine cJ.one 7 G7 rfl rfl (bB.call rfl rfl (fw (s.extract 4 s.size) ⟨([49,54]:List UInt8).toArray⟩ mx w5 GV (hx5.cell hmx)) (fun e w' h=>⟨_,h.1⟩)) ?_
   rintro _ w6 ⟨hv,hw6⟩
   obtain rfl:w5=w6:=hw6.symm
   cases hv
   have e5:Lib.contains (s.extract 4 s.size).data.toList (ByteArray.mk ([49,54]:List UInt8).toArray).data.toList=Lib.contains ((eM s).drop 4) [49,54]:=by rw[←nB]
   rw[e5]
   refine cJ.done G7 ?_
   have b5:dZ w5 bk [.int .i64 8,.int .i64 16,.int .i64 32] 3:=hbr.aD hx5 id
   have hxw:Ext w w5:=hxr.trans hx5
   cases hct:Lib.contains ((eM s).drop 4) [49,54]with
   |true=>
    refine bF ?_
    refine ah.y (Yl.quo (r:=2) rfl rfl (fun w=>by kernel_rfl)) rfl ?_
    refine bF ?_
    refine Fin.aA rfl rfl ⟨?_,hxw⟩
    rw[if_pos rfl]
    unfold nu
    simp[hct,g0 Hb]
   |false=>
    refine bF ?_
    exact Fin.next 2 bR ⟨by omega,hxw,b5,fun _=>g0 Hb,fun _=>rfl,fun _=>by omega⟩ Hb
  ·have c:wr.cell? ⟨bk,0+2,none⟩=some (.int .i64 32):=hbr.cell rfl
   refine bF ?_
   refine Cd.mT ?_
   refine F8 ?_
   refine F9 ?_
   refine Ga ?_
   refine cJ.take 4 rfl G7 (Yl.quo (r:=2) rfl rfl (fun w=>by kernel_rfl)) ?_
   refine Gb ?_
   rintro _ w5 ⟨rfl,hn5⟩
   have hx5:Ext wr w5:=bA.trans ((bA.refl _ wr).drew) hn5.ext
   have c5:w5.cell? ⟨wr.drew.heap.size,0+2,none⟩=some (.string ⟨([51,50]:List UInt8).toArray⟩):=hn5.aJ.cell rfl
   refine cJ.take 5 rfl G7 (Yl.fX rfl rfl rfl rfl rfl (i:=2) rfl Hb) ?_
   refine cJ.yS 6 G7 rfl rfl (Yl.load rfl rfl rfl (by rintro _ rfl;exact c5)) ?_
   refine cJ.one 7 G7 rfl rfl (bB.call rfl rfl (fw (s.extract 4 s.size) ⟨([51,50]:List UInt8).toArray⟩ mx w5 GV (hx5.cell hmx)) (fun e w' h=>⟨_,h.1⟩)) ?_
   rintro _ w6 ⟨hv,hw6⟩
   obtain rfl:w5=w6:=hw6.symm
   cases hv
   have e5:Lib.contains (s.extract 4 s.size).data.toList (ByteArray.mk ([51,50]:List UInt8).toArray).data.toList=Lib.contains ((eM s).drop 4) [51,50]:=by rw[←nB]
   rw[e5]
   refine cJ.done G7 ?_
   have b5:dZ w5 bk [.int .i64 8,.int .i64 16,.int .i64 32] 3:=hbr.aD hx5 id
   have hxw:Ext w w5:=hxr.trans hx5
   cases hct:Lib.contains ((eM s).drop 4) [51,50]with
   |true=>
    refine bF ?_
    refine ah.y (Yl.quo (r:=4) rfl rfl (fun w=>by kernel_rfl)) rfl ?_
    refine bF ?_
    refine Fin.aA rfl rfl ⟨?_,hxw⟩
    rw[if_pos rfl]
    unfold nu
    simp[hct,g0 Hb,g1 Hb]
   |false=>
    refine bF ?_
    exact Fin.next 3 bR ⟨by omega,hxw,b5,fun _=>g0 Hb,fun _=>g1 Hb,fun _=>rfl⟩ Hb
  ·by_cases h3:((eM s).take 3==[105,51,50])=true
   ·refine bF ?_
    refine ah.y (Yl.cX Tryz.underlying9 rfl rfl (i:=3) rfl Hb) rfl ?_
    refine ah.y (Yl.qJ rfl rfl) rfl ?_
    rw[show(s.extract 0 3).data.toList=(eM s).take 3 from Bd,show((ByteArray.mk #[105,51,50]).data.toList)=[105,51,50]from rfl,h3]
    refine bF ?_
    refine Fin.aA rfl rfl ⟨?_,hxr⟩
    rw[if_pos rfl]
    unfold nu
    simp[g0 Hb,g1 Hb,g2 Hb,h3]
   ·refine bF ?_
    refine ah.y (Yl.cX Tryz.underlying9 rfl rfl (i:=3) rfl Hb) rfl ?_
    refine ah.y (Yl.qJ rfl rfl) rfl ?_
    rw[show(s.extract 0 3).data.toList=(eM s).take 3 from Bd,show((ByteArray.mk #[105,51,50]).data.toList)=[105,51,50]from rfl,Bool.eq_false_iff.2 h3]
    refine bF ?_
    refine Fin.aA rfl rfl ⟨?_,hxr⟩
    rw[if_pos rfl]
    unfold nu
    simp[g0 Hb,g1 Hb,g2 Hb,h3]
theorem af.eJ (F:Nat→Prop) (w:World):af F w (.slice none 0 0) []:=⟨none,0,rfl,by simp,.inl rfl⟩
theorem af.cO {w w':World} {cs:List Value} {T base n:Nat} {xs:List Int} (h:uv w w' cs T) (hx:cs=xs.map (Value.int .i64)) (hb:base≤w.heap.size) (hl:xs.length≤1000000) (hn:n=xs.length:=by rfl):af (fun k=>base≤k) w' (.slice (some ⟨w.heap.size,0,none⟩) n n) xs:=by
 subst hn;subst hx
 refine⟨_,_,rfl,by omega,?_⟩
 by_cases h0:xs=[]
 ·exact .inl h0
 ·refine .inr ⟨w.heap.size,0,rfl,hb,fun i hi=>?_⟩
  rw[Nat.zero_add]
  exact h.aJ.cell (by rw[List.getElem?_map,gF hi];rfl)
def DV (B:Nat) (w:World) (v:Value) (x:aE):Prop:=∃cs,v=.agg cs.toArray∧cv (fun k=>B≤k) w cs x
def fi (op t:Int) (s:List UInt8):aE:=
 if dW s [108,111,97,100]=true then⟨[1],[t]⟩
 else if dW s [115,116,111,114,101]=true then⟨[1,t],[]⟩
 else if(s==[101,113,122])=true then⟨[t],[1]⟩
 else if 70≤op∧op≤90 then⟨[t,t],[1]⟩
 else if(s==[99,108,122])=true∨(s==[99,116,122])=true∨(s==[112,111,112,99,110,116])=true∨dW s [101,120,116,101,110,100]=true then⟨[t],[t]⟩
 else⟨[t,t],[t]⟩
set_option maxHeartbeats 4000000 in
theorem lI (op t:Int) (s:ByteArray) (w:World):Calls G.P 150 #[.int .i64 op,.int .i64 t,.string s] w fun e w'=>(∃v,e=.returned v∧DV w.heap.size w' v (fi op t (eM s)))∧Ext w w':=by
 refine enter (G:=G) Tryz.func150 rfl Tryz.ntmps150 rfl ?_
 refine bF ?_
 refine FR ?_
 rintro _ w1 ⟨rfl,hn1⟩
 have hs1:=hn1.size
 have hb1:=hn1.aJ
 have hxw1:Ext w1 w1:=bA.refl _ _
 refine bF ?_
 refine ah.call rfl rfl rfl (cY s _ w1) ?_
 rintro _ _ ⟨rfl,rfl⟩
 refine⟨_,rfl,?_⟩
 cases h1:dW (eM s) [108,111,97,100]with
 |true=>
  have hnum:fi op t (eM s)=⟨[1],[t]⟩:=by unfold fi;simp[h1]
  refine bF ?_
  refine Gc ?_
  rintro _ wP ⟨rfl,hnP⟩
  have rP:af (fun k=>w1.heap.size≤k) wP _ [1]:=af.cO hnP rfl GX Hc
  have hxwP:Ext w1 wP:=hxw1.trans hnP.ext
  refine bF ?_
  refine Gd ?_
  rintro _ wR ⟨rfl,hnR⟩
  have rR:af (fun k=>w1.heap.size≤k) wR _ [t]:=af.cO hnR rfl GY Hc
  have hxwR:Ext w1 wR:=hxwP.trans hnR.ext
  refine bF ?_
  refine Ge ?_
  rintro _ wC ⟨rfl,hxC⟩
  refine⟨_,rfl,?_⟩
  have hxwC:Ext w1 wC:=hxwR.trans hxC
  refine bF ?_
  refine Gf ?_
  rintro _ wD ⟨hbD,hcD,-⟩
  refine bF ?_
  have hxD:Ext w wD:=bA.trans' (hn1.ext.trans hxwC) hcD (fun k hk e=>by omega)
  refine Gg ?_
  rw[hnum]
  refine⟨_,rfl,_,_,rfl,?_,?_⟩
  ·exact(((rP.aD hnR.ext (fun _ _ _ h=>h)).aD hxC (fun _ _ _ h=>h)).aD hcD (fun k _ h e=>by omega)).mono (fun k _ h=>by omega)
  ·exact((rR.aD hxC (fun _ _ _ h=>h)).aD hcD (fun k _ h e=>by omega)).mono (fun k _ h=>by omega)
 |false=>
  refine bF ?_
  refine ah.call rfl rfl rfl (cY s _ w1) ?_
  rintro _ _ ⟨rfl,rfl⟩
  refine⟨_,rfl,?_⟩
  cases h2:dW (eM s) [115,116,111,114,101]with
  |true=>
   have hnum:fi op t (eM s)=⟨[1,t],[]⟩:=by unfold fi;simp[h1,h2]
   refine bF ?_
   refine ah.e (bB.buildSlice (cs:=[.int .i64 1,.int .i64 t]) (e:=58) rfl G7) rfl ?_
   rintro _ wP ⟨rfl,hnP⟩
   have rP:af (fun k=>w1.heap.size≤k) wP _ [1,t]:=af.cO hnP rfl GX Hc
   have hxwP:Ext w1 wP:=hxw1.trans hnP.ext
   refine bF ?_
   refine ah.call rfl rfl rfl (bD _ _ _ _ _ _ wP) ?_
   rintro _ wC ⟨rfl,hxC⟩
   refine⟨_,rfl,?_⟩
   have hxwC:Ext w1 wC:=hxwP.trans hxC
   refine bF ?_
   refine Gf ?_
   rintro _ wD ⟨hbD,hcD,-⟩
   refine bF ?_
   have hxD:Ext w wD:=bA.trans' (hn1.ext.trans hxwC) hcD (fun k hk e=>by omega)
   refine Gg ?_
   rw[hnum]
   refine⟨_,rfl,_,_,rfl,?_,?_⟩
   ·exact((rP.aD hxC (fun _ _ _ h=>h)).aD hcD (fun k _ h e=>by omega)).mono (fun k _ h=>by omega)
   ·exact rg
  |false=>
   refine bF ?_
   rw[show(ByteArray.mk #[101,113,122]).data.toList=[101,113,122]from rfl,show s.data.toList=eM s from rfl]
   cases h3:(eM s==[101,113,122])with
   |true=>
    have hnum:fi op t (eM s)=⟨[t],[1]⟩:=by unfold fi;simp[h1,h2,h3]
    refine bF ?_
    refine Gd ?_
    rintro _ wP ⟨rfl,hnP⟩
    have rP:af (fun k=>w1.heap.size≤k) wP _ [t]:=af.cO hnP rfl GX Hc
    have hxwP:Ext w1 wP:=hxw1.trans hnP.ext
    refine bF ?_
    refine Gc ?_
    rintro _ wR ⟨rfl,hnR⟩
    have rR:af (fun k=>w1.heap.size≤k) wR _ [1]:=af.cO hnR rfl GY Hc
    have hxwR:Ext w1 wR:=hxwP.trans hnR.ext
    refine bF ?_
    refine Ge ?_
    rintro _ wC ⟨rfl,hxC⟩
    refine⟨_,rfl,?_⟩
    have hxwC:Ext w1 wC:=hxwR.trans hxC
    refine bF ?_
    refine Gf ?_
    rintro _ wD ⟨hbD,hcD,-⟩
    refine bF ?_
    have hxD:Ext w wD:=bA.trans' (hn1.ext.trans hxwC) hcD (fun k hk e=>by omega)
    refine Gg ?_
    rw[hnum]
    refine⟨_,rfl,_,_,rfl,?_,?_⟩
    ·exact(((rP.aD hnR.ext (fun _ _ _ h=>h)).aD hxC (fun _ _ _ h=>h)).aD hcD (fun k _ h e=>by omega)).mono (fun k _ h=>by omega)
    ·exact((rR.aD hxC (fun _ _ _ h=>h)).aD hcD (fun k _ h e=>by omega)).mono (fun k _ h=>by omega)
   |false=>
    rcases(show op<70∨(70≤op∧90<op)∨(70≤op∧op≤90)by omega)with h4|⟨h4,h4'⟩|⟨h4,h4'⟩
    ·have hr:¬(70≤op∧op≤90):=by omega
     refine bF ?_
     rw[show(ByteArray.mk #[99,108,122]).data.toList=[99,108,122]from rfl,show s.data.toList=eM s from rfl]
     cases h5:(eM s==[99,108,122])with
     |true=>
      have hnum:fi op t (eM s)=⟨[t],[t]⟩:=by unfold fi;simp[h1,h2,h3,hr,h5]
      refine bF ?_
      refine Gd ?_
      rintro _ wP ⟨rfl,hnP⟩
      have rP:af (fun k=>w1.heap.size≤k) wP _ [t]:=af.cO hnP rfl GX Hc
      have hxwP:Ext w1 wP:=hxw1.trans hnP.ext
      refine bF ?_
      refine Gd ?_
      rintro _ wR ⟨rfl,hnR⟩
      have rR:af (fun k=>w1.heap.size≤k) wR _ [t]:=af.cO hnR rfl GY Hc
      have hxwR:Ext w1 wR:=hxwP.trans hnR.ext
      refine bF ?_
      refine Ge ?_
      rintro _ wC ⟨rfl,hxC⟩
      refine⟨_,rfl,?_⟩
      have hxwC:Ext w1 wC:=hxwR.trans hxC
      refine bF ?_
      refine Gf ?_
      rintro _ wD ⟨hbD,hcD,-⟩
      refine bF ?_
      have hxD:Ext w wD:=bA.trans' (hn1.ext.trans hxwC) hcD (fun k hk e=>by omega)
      refine Gg ?_
      rw[hnum]
      refine⟨_,rfl,_,_,rfl,?_,?_⟩
      ·exact(((rP.aD hnR.ext (fun _ _ _ h=>h)).aD hxC (fun _ _ _ h=>h)).aD hcD (fun k _ h e=>by omega)).mono (fun k _ h=>by omega)
      ·exact((rR.aD hxC (fun _ _ _ h=>h)).aD hcD (fun k _ h e=>by omega)).mono (fun k _ h=>by omega)
     |false=>
      refine bF ?_
      rw[show(ByteArray.mk #[99,116,122]).data.toList=[99,116,122]from rfl,show s.data.toList=eM s from rfl]
      cases h6:(eM s==[99,116,122])with
      |true=>
       have hnum:fi op t (eM s)=⟨[t],[t]⟩:=by unfold fi;simp[h1,h2,h3,hr,h5,h6]
       refine bF ?_
       refine Gd ?_
       rintro _ wP ⟨rfl,hnP⟩
       have rP:af (fun k=>w1.heap.size≤k) wP _ [t]:=af.cO hnP rfl GX Hc
       have hxwP:Ext w1 wP:=hxw1.trans hnP.ext
       refine bF ?_
       refine Gd ?_
       rintro _ wR ⟨rfl,hnR⟩
       have rR:af (fun k=>w1.heap.size≤k) wR _ [t]:=af.cO hnR rfl GY Hc
       have hxwR:Ext w1 wR:=hxwP.trans hnR.ext
       refine bF ?_
       refine Ge ?_
       rintro _ wC ⟨rfl,hxC⟩
       refine⟨_,rfl,?_⟩
       have hxwC:Ext w1 wC:=hxwR.trans hxC
       refine bF ?_
       refine Gf ?_
       rintro _ wD ⟨hbD,hcD,-⟩
       refine bF ?_
       have hxD:Ext w wD:=bA.trans' (hn1.ext.trans hxwC) hcD (fun k hk e=>by omega)
       refine Gg ?_
       rw[hnum]
       refine⟨_,rfl,_,_,rfl,?_,?_⟩
       ·exact(((rP.aD hnR.ext (fun _ _ _ h=>h)).aD hxC (fun _ _ _ h=>h)).aD hcD (fun k _ h e=>by omega)).mono (fun k _ h=>by omega)
       ·exact((rR.aD hxC (fun _ _ _ h=>h)).aD hcD (fun k _ h e=>by omega)).mono (fun k _ h=>by omega)
      |false=>
       refine bF ?_
       rw[show(ByteArray.mk #[112,111,112,99,110,116]).data.toList=[112,111,112,99,110,116]from rfl,show s.data.toList=eM s from rfl]
       cases h7:(eM s==[112,111,112,99,110,116])with
       |true=>
        have hnum:fi op t (eM s)=⟨[t],[t]⟩:=by unfold fi;simp[h1,h2,h3,hr,h5,h6,h7]
        refine bF ?_
        refine Gd ?_
        rintro _ wP ⟨rfl,hnP⟩
        have rP:af (fun k=>w1.heap.size≤k) wP _ [t]:=af.cO hnP rfl GX Hc
        have hxwP:Ext w1 wP:=hxw1.trans hnP.ext
        refine bF ?_
        refine Gd ?_
        rintro _ wR ⟨rfl,hnR⟩
        have rR:af (fun k=>w1.heap.size≤k) wR _ [t]:=af.cO hnR rfl GY Hc
        have hxwR:Ext w1 wR:=hxwP.trans hnR.ext
        refine bF ?_
        refine Ge ?_
        rintro _ wC ⟨rfl,hxC⟩
        refine⟨_,rfl,?_⟩
        have hxwC:Ext w1 wC:=hxwR.trans hxC
        refine bF ?_
        refine Gf ?_
        rintro _ wD ⟨hbD,hcD,-⟩
        refine bF ?_
        have hxD:Ext w wD:=bA.trans' (hn1.ext.trans hxwC) hcD (fun k hk e=>by omega)
        refine Gg ?_
        rw[hnum]
        refine⟨_,rfl,_,_,rfl,?_,?_⟩
        ·exact(((rP.aD hnR.ext (fun _ _ _ h=>h)).aD hxC (fun _ _ _ h=>h)).aD hcD (fun k _ h e=>by omega)).mono (fun k _ h=>by omega)
        ·exact((rR.aD hxC (fun _ _ _ h=>h)).aD hcD (fun k _ h e=>by omega)).mono (fun k _ h=>by omega)
       |false=>
        refine bF ?_
        refine ah.tj rfl rfl rfl rfl (cY s _ w1) ?_
        rintro _ _ ⟨rfl,rfl⟩
        refine⟨_,rfl,?_⟩
        cases h8:dW (eM s) [101,120,116,101,110,100]with
        |true=>
         have hnum:fi op t (eM s)=⟨[t],[t]⟩:=by unfold fi;simp[h1,h2,h3,hr,h5,h6,h7,h8]
         refine bF ?_
         refine Gd ?_
         rintro _ wP ⟨rfl,hnP⟩
         have rP:af (fun k=>w1.heap.size≤k) wP _ [t]:=af.cO hnP rfl GX Hc
         have hxwP:Ext w1 wP:=hxw1.trans hnP.ext
         refine bF ?_
         refine Gd ?_
         rintro _ wR ⟨rfl,hnR⟩
         have rR:af (fun k=>w1.heap.size≤k) wR _ [t]:=af.cO hnR rfl GY Hc
         have hxwR:Ext w1 wR:=hxwP.trans hnR.ext
         refine bF ?_
         refine Ge ?_
         rintro _ wC ⟨rfl,hxC⟩
         refine⟨_,rfl,?_⟩
         have hxwC:Ext w1 wC:=hxwR.trans hxC
         refine bF ?_
         refine Gf ?_
         rintro _ wD ⟨hbD,hcD,-⟩
         refine bF ?_
         have hxD:Ext w wD:=bA.trans' (hn1.ext.trans hxwC) hcD (fun k hk e=>by omega)
         refine Gg ?_
         rw[hnum]
         refine⟨_,rfl,_,_,rfl,?_,?_⟩
         ·exact(((rP.aD hnR.ext (fun _ _ _ h=>h)).aD hxC (fun _ _ _ h=>h)).aD hcD (fun k _ h e=>by omega)).mono (fun k _ h=>by omega)
         ·exact((rR.aD hxC (fun _ _ _ h=>h)).aD hcD (fun k _ h e=>by omega)).mono (fun k _ h=>by omega)
        |false=>
         have hnum:fi op t (eM s)=⟨[t,t],[t]⟩:=by unfold fi;simp[h1,h2,h3,hr,h5,h6,h7,h8]
         refine bF ?_
         refine Gh ?_
         rintro _ wP ⟨rfl,hnP⟩
         have rP:af (fun k=>w1.heap.size≤k) wP _ [t,t]:=af.cO hnP rfl GX Hc
         have hxwP:Ext w1 wP:=hxw1.trans hnP.ext
         refine bF ?_
         refine Gd ?_
         rintro _ wR ⟨rfl,hnR⟩
         have rR:af (fun k=>w1.heap.size≤k) wR _ [t]:=af.cO hnR rfl GY Hc
         have hxwR:Ext w1 wR:=hxwP.trans hnR.ext
         refine bF ?_
         refine Ge ?_
         rintro _ wC ⟨rfl,hxC⟩
         refine⟨_,rfl,?_⟩
         have hxwC:Ext w1 wC:=hxwR.trans hxC
         refine bF ?_
         refine Gf ?_
         rintro _ wD ⟨hbD,hcD,-⟩
         refine bF ?_
         have hxD:Ext w wD:=bA.trans' (hn1.ext.trans hxwC) hcD (fun k hk e=>by omega)
         refine Gg ?_
         rw[hnum]
         refine⟨_,rfl,_,_,rfl,?_,?_⟩
         ·exact(((rP.aD hnR.ext (fun _ _ _ h=>h)).aD hxC (fun _ _ _ h=>h)).aD hcD (fun k _ h e=>by omega)).mono (fun k _ h=>by omega)
         ·exact((rR.aD hxC (fun _ _ _ h=>h)).aD hcD (fun k _ h e=>by omega)).mono (fun k _ h=>by omega)
    ·have hr:¬(70≤op∧op≤90):=by omega
     refine bF ?_
     rw[show(ByteArray.mk #[99,108,122]).data.toList=[99,108,122]from rfl,show s.data.toList=eM s from rfl]
     cases h5:(eM s==[99,108,122])with
     |true=>
      have hnum:fi op t (eM s)=⟨[t],[t]⟩:=by unfold fi;simp[h1,h2,h3,hr,h5]
      refine bF ?_
      refine Gd ?_
      rintro _ wP ⟨rfl,hnP⟩
      have rP:af (fun k=>w1.heap.size≤k) wP _ [t]:=af.cO hnP rfl GX Hc
      have hxwP:Ext w1 wP:=hxw1.trans hnP.ext
      refine bF ?_
      refine Gd ?_
      rintro _ wR ⟨rfl,hnR⟩
      have rR:af (fun k=>w1.heap.size≤k) wR _ [t]:=af.cO hnR rfl GY Hc
      have hxwR:Ext w1 wR:=hxwP.trans hnR.ext
      refine bF ?_
      refine Ge ?_
      rintro _ wC ⟨rfl,hxC⟩
      refine⟨_,rfl,?_⟩
      have hxwC:Ext w1 wC:=hxwR.trans hxC
      refine bF ?_
      refine Gf ?_
      rintro _ wD ⟨hbD,hcD,-⟩
      refine bF ?_
      have hxD:Ext w wD:=bA.trans' (hn1.ext.trans hxwC) hcD (fun k hk e=>by omega)
      refine Gg ?_
      rw[hnum]
      refine⟨_,rfl,_,_,rfl,?_,?_⟩
      ·exact(((rP.aD hnR.ext (fun _ _ _ h=>h)).aD hxC (fun _ _ _ h=>h)).aD hcD (fun k _ h e=>by omega)).mono (fun k _ h=>by omega)
      ·exact((rR.aD hxC (fun _ _ _ h=>h)).aD hcD (fun k _ h e=>by omega)).mono (fun k _ h=>by omega)
     |false=>
      refine bF ?_
      rw[show(ByteArray.mk #[99,116,122]).data.toList=[99,116,122]from rfl,show s.data.toList=eM s from rfl]
      cases h6:(eM s==[99,116,122])with
      |true=>
       have hnum:fi op t (eM s)=⟨[t],[t]⟩:=by unfold fi;simp[h1,h2,h3,hr,h5,h6]
       refine bF ?_
       refine Gd ?_
       rintro _ wP ⟨rfl,hnP⟩
       have rP:af (fun k=>w1.heap.size≤k) wP _ [t]:=af.cO hnP rfl GX Hc
       have hxwP:Ext w1 wP:=hxw1.trans hnP.ext
       refine bF ?_
       refine Gd ?_
       rintro _ wR ⟨rfl,hnR⟩
       have rR:af (fun k=>w1.heap.size≤k) wR _ [t]:=af.cO hnR rfl GY Hc
       have hxwR:Ext w1 wR:=hxwP.trans hnR.ext
       refine bF ?_
       refine Ge ?_
       rintro _ wC ⟨rfl,hxC⟩
       refine⟨_,rfl,?_⟩
       have hxwC:Ext w1 wC:=hxwR.trans hxC
       refine bF ?_
       refine Gf ?_
       rintro _ wD ⟨hbD,hcD,-⟩
       refine bF ?_
       have hxD:Ext w wD:=bA.trans' (hn1.ext.trans hxwC) hcD (fun k hk e=>by omega)
       refine Gg ?_
       rw[hnum]
       refine⟨_,rfl,_,_,rfl,?_,?_⟩
       ·exact(((rP.aD hnR.ext (fun _ _ _ h=>h)).aD hxC (fun _ _ _ h=>h)).aD hcD (fun k _ h e=>by omega)).mono (fun k _ h=>by omega)
       ·exact((rR.aD hxC (fun _ _ _ h=>h)).aD hcD (fun k _ h e=>by omega)).mono (fun k _ h=>by omega)
      |false=>
       refine bF ?_
       rw[show(ByteArray.mk #[112,111,112,99,110,116]).data.toList=[112,111,112,99,110,116]from rfl,show s.data.toList=eM s from rfl]
       cases h7:(eM s==[112,111,112,99,110,116])with
       |true=>
        have hnum:fi op t (eM s)=⟨[t],[t]⟩:=by unfold fi;simp[h1,h2,h3,hr,h5,h6,h7]
        refine bF ?_
        refine Gd ?_
        rintro _ wP ⟨rfl,hnP⟩
        have rP:af (fun k=>w1.heap.size≤k) wP _ [t]:=af.cO hnP rfl GX Hc
        have hxwP:Ext w1 wP:=hxw1.trans hnP.ext
        refine bF ?_
        refine Gd ?_
        rintro _ wR ⟨rfl,hnR⟩
        have rR:af (fun k=>w1.heap.size≤k) wR _ [t]:=af.cO hnR rfl GY Hc
        have hxwR:Ext w1 wR:=hxwP.trans hnR.ext
        refine bF ?_
        refine Ge ?_
        rintro _ wC ⟨rfl,hxC⟩
        refine⟨_,rfl,?_⟩
        have hxwC:Ext w1 wC:=hxwR.trans hxC
        refine bF ?_
        refine Gf ?_
        rintro _ wD ⟨hbD,hcD,-⟩
        refine bF ?_
        have hxD:Ext w wD:=bA.trans' (hn1.ext.trans hxwC) hcD (fun k hk e=>by omega)
        refine Gg ?_
        rw[hnum]
        refine⟨_,rfl,_,_,rfl,?_,?_⟩
        ·exact(((rP.aD hnR.ext (fun _ _ _ h=>h)).aD hxC (fun _ _ _ h=>h)).aD hcD (fun k _ h e=>by omega)).mono (fun k _ h=>by omega)
        ·exact((rR.aD hxC (fun _ _ _ h=>h)).aD hcD (fun k _ h e=>by omega)).mono (fun k _ h=>by omega)
       |false=>
        refine bF ?_
        refine ah.tj rfl rfl rfl rfl (cY s _ w1) ?_
        rintro _ _ ⟨rfl,rfl⟩
        refine⟨_,rfl,?_⟩
        cases h8:dW (eM s) [101,120,116,101,110,100]with
        |true=>
         have hnum:fi op t (eM s)=⟨[t],[t]⟩:=by unfold fi;simp[h1,h2,h3,hr,h5,h6,h7,h8]
         refine bF ?_
         refine Gd ?_
         rintro _ wP ⟨rfl,hnP⟩
         have rP:af (fun k=>w1.heap.size≤k) wP _ [t]:=af.cO hnP rfl GX Hc
         have hxwP:Ext w1 wP:=hxw1.trans hnP.ext
         refine bF ?_
         refine Gd ?_
         rintro _ wR ⟨rfl,hnR⟩
         have rR:af (fun k=>w1.heap.size≤k) wR _ [t]:=af.cO hnR rfl GY Hc
         have hxwR:Ext w1 wR:=hxwP.trans hnR.ext
         refine bF ?_
         refine Ge ?_
         rintro _ wC ⟨rfl,hxC⟩
         refine⟨_,rfl,?_⟩
         have hxwC:Ext w1 wC:=hxwR.trans hxC
         refine bF ?_
         refine Gf ?_
         rintro _ wD ⟨hbD,hcD,-⟩
         refine bF ?_
         have hxD:Ext w wD:=bA.trans' (hn1.ext.trans hxwC) hcD (fun k hk e=>by omega)
         refine Gg ?_
         rw[hnum]
         refine⟨_,rfl,_,_,rfl,?_,?_⟩
         ·exact(((rP.aD hnR.ext (fun _ _ _ h=>h)).aD hxC (fun _ _ _ h=>h)).aD hcD (fun k _ h e=>by omega)).mono (fun k _ h=>by omega)
         ·exact((rR.aD hxC (fun _ _ _ h=>h)).aD hcD (fun k _ h e=>by omega)).mono (fun k _ h=>by omega)
        |false=>
         have hnum:fi op t (eM s)=⟨[t,t],[t]⟩:=by unfold fi;simp[h1,h2,h3,hr,h5,h6,h7,h8]
         refine bF ?_
         refine Gh ?_
         rintro _ wP ⟨rfl,hnP⟩
         have rP:af (fun k=>w1.heap.size≤k) wP _ [t,t]:=af.cO hnP rfl GX Hc
         have hxwP:Ext w1 wP:=hxw1.trans hnP.ext
         refine bF ?_
         refine Gd ?_
         rintro _ wR ⟨rfl,hnR⟩
         have rR:af (fun k=>w1.heap.size≤k) wR _ [t]:=af.cO hnR rfl GY Hc
         have hxwR:Ext w1 wR:=hxwP.trans hnR.ext
         refine bF ?_
         refine Ge ?_
         rintro _ wC ⟨rfl,hxC⟩
         refine⟨_,rfl,?_⟩
         have hxwC:Ext w1 wC:=hxwR.trans hxC
         refine bF ?_
         refine Gf ?_
         rintro _ wD ⟨hbD,hcD,-⟩
         refine bF ?_
         have hxD:Ext w wD:=bA.trans' (hn1.ext.trans hxwC) hcD (fun k hk e=>by omega)
         refine Gg ?_
         rw[hnum]
         refine⟨_,rfl,_,_,rfl,?_,?_⟩
         ·exact(((rP.aD hnR.ext (fun _ _ _ h=>h)).aD hxC (fun _ _ _ h=>h)).aD hcD (fun k _ h e=>by omega)).mono (fun k _ h=>by omega)
         ·exact((rR.aD hxC (fun _ _ _ h=>h)).aD hcD (fun k _ h e=>by omega)).mono (fun k _ h=>by omega)
    ·skip
     have hnum:fi op t (eM s)=⟨[t,t],[1]⟩:=by unfold fi;simp[h1,h2,h3,h4,h4']
     refine bF ?_
     refine Gh ?_
     rintro _ wP ⟨rfl,hnP⟩
     have rP:af (fun k=>w1.heap.size≤k) wP _ [t,t]:=af.cO hnP rfl GX Hc
     have hxwP:Ext w1 wP:=hxw1.trans hnP.ext
     refine bF ?_
     refine Gc ?_
     rintro _ wR ⟨rfl,hnR⟩
     have rR:af (fun k=>w1.heap.size≤k) wR _ [1]:=af.cO hnR rfl GY Hc
     have hxwR:Ext w1 wR:=hxwP.trans hnR.ext
     refine bF ?_
     refine Ge ?_
     rintro _ wC ⟨rfl,hxC⟩
     refine⟨_,rfl,?_⟩
     have hxwC:Ext w1 wC:=hxwR.trans hxC
     refine bF ?_
     refine Gf ?_
     rintro _ wD ⟨hbD,hcD,-⟩
     refine bF ?_
     have hxD:Ext w wD:=bA.trans' (hn1.ext.trans hxwC) hcD (fun k hk e=>by omega)
     refine Gg ?_
     rw[hnum]
     refine⟨_,rfl,_,_,rfl,?_,?_⟩
     ·exact(((rP.aD hnR.ext (fun _ _ _ h=>h)).aD hxC (fun _ _ _ h=>h)).aD hcD (fun k _ h e=>by omega)).mono (fun k _ h=>by omega)
     ·exact((rR.aD hxC (fun _ _ _ h=>h)).aD hcD (fun k _ h e=>by omega)).mono (fun k _ h=>by omega)
def gk (op:Int):Option aE:=
 if op=1∨op=64525∨op=64521 then some ⟨[],[]⟩
 else if op=65∨op=63∨op=64528 then some ⟨[],[1]⟩
 else if op=66 then some ⟨[],[2]⟩
 else if op=210 then some ⟨[],[3]⟩
 else if op=64 then some ⟨[1],[1]⟩
 else if op=64523∨op=64522∨op=64520∨op=64526∨op=64524 then some ⟨[1,1,1],[]⟩
 else if op=167 then some ⟨[2],[1]⟩
 else if op=172∨op=173 then some ⟨[1],[2]⟩
 else if dW (eM (eN op)) [105,51,50,46]=true∨dW (eM (eN op)) [105,54,52,46]=true then some (fi op (zS (eM (eN op))) ((eM (eN op)).drop 4))
 else none
theorem oO {s p:List UInt8} (h:dW s p=true):p.length≤s.length:=by
 unfold dW at h;simp only[Bool.and_eq_true,decide_eq_true_eq]at h;exact h.1
def zM (w:World) (r:Option aE) (e:Ending) (w':World):Prop:=(∃v,e=.returned (.tuple #[v,.bool r.isSome])∧DV w.heap.size w' v (r.getD ⟨[],[]⟩))∧Ext w w'
set_option maxHeartbeats 4000000 in
theorem uX (op:Int) (w:World) (h0:dQ w):Calls G.P 107 #[.int .i64 op] w (zM w (gk op)):=by
 refine enter (G:=G) Tryz.func107 rfl Tryz.ntmps107 rfl ?_
 refine bF ?_
 refine FR ?_
 rintro _ w1 ⟨rfl,hn1⟩
 have hs1:=hn1.size
 refine bF ?_
 refine ah.e (bB.buildSlice (cs:=[.int .i64 1,.int .i64 1,.int .i64 1]) (e:=58) rfl G7) rfl ?_
 rintro _ w2 ⟨rfl,hn2⟩
 have hb1:=hn1.aJ.aD hn2.ext id
 have r3:af (fun k=>w1.heap.size≤k) w2 (.slice (some ⟨w1.heap.size,0,none⟩) 3 3) [1,1,1]:=af.cO hn2 rfl Hb Hc
 have r1:af (fun k=>w1.heap.size≤k) w2 (.slice (some ⟨w1.heap.size,0,none⟩) 1 3) [1]:=⟨_,_,rfl,by simp,.inr ⟨_,0,rfl,Nat.le_refl _,fun i hi=>by
  obtain rfl:i=0:=by simpa using hi
  exact hn2.aJ.cell rfl⟩⟩
 have hxw2:Ext w w2:=hn1.ext.trans hn2.ext
 have hx2:Ext w2 w2:=bA.refl _ _
 rcases(show op=1∨op=64525∨op=64521∨op=65∨op=63∨op=64528∨op=66∨op=210∨op=64∨op=64523∨op=64522∨op=64520∨op=64526∨op=64524∨op=167∨op=172∨op=173∨(op≠1∧op≠64525∧op≠64521∧op≠65∧op≠63∧op≠64528∧op≠66∧op≠210∧op≠64∧op≠64523∧op≠64522∧op≠64520∧op≠64526∧op≠64524∧op≠167∧op≠172∧op≠173)from by omega)with hc_|hc_|hc_|hc_|hc_|hc_|hc_|hc_|hc_|hc_|hc_|hc_|hc_|hc_|hc_|hc_|hc_|⟨hc1_,hc64525_,hc64521_,hc65_,hc63_,hc64528_,hc66_,hc210_,hc64_,hc64523_,hc64522_,hc64520_,hc64526_,hc64524_,hc167_,hc172_,hc173_⟩
 ·have hsg:gk op=some ⟨[],[]⟩:=by rw[hc_];rfl
  refine bF ?_
  refine Gi ?_
  rintro _ wD ⟨hbD,hcD,-⟩
  refine bF ?_
  have hxD:Ext w wD:=bA.trans' hxw2 hcD (fun k hk e=>by omega)
  refine Fin.bn (.inl rfl) rfl rfl rfl rfl rfl hbD rfl rfl ⟨⟨_,by rw[hsg];rfl,?_⟩,hxD⟩
  rw[hsg]
  refine⟨_,rfl,_,_,rfl,?_,?_⟩
  ·exact rg
  ·exact rg
 ·have hsg:gk op=some ⟨[],[]⟩:=by rw[hc_];rfl
  refine bF ?_
  refine Gi ?_
  rintro _ wD ⟨hbD,hcD,-⟩
  refine bF ?_
  have hxD:Ext w wD:=bA.trans' hxw2 hcD (fun k hk e=>by omega)
  refine Fin.bn (.inl rfl) rfl rfl rfl rfl rfl hbD rfl rfl ⟨⟨_,by rw[hsg];rfl,?_⟩,hxD⟩
  rw[hsg]
  refine⟨_,rfl,_,_,rfl,?_,?_⟩
  ·exact rg
  ·exact rg
 ·have hsg:gk op=some ⟨[],[]⟩:=by rw[hc_];rfl
  refine bF ?_
  refine Gi ?_
  rintro _ wD ⟨hbD,hcD,-⟩
  refine bF ?_
  have hxD:Ext w wD:=bA.trans' hxw2 hcD (fun k hk e=>by omega)
  refine Fin.bn (.inl rfl) rfl rfl rfl rfl rfl hbD rfl rfl ⟨⟨_,by rw[hsg];rfl,?_⟩,hxD⟩
  rw[hsg]
  refine⟨_,rfl,_,_,rfl,?_,?_⟩
  ·exact rg
  ·exact rg
 ·have hsg:gk op=some ⟨[],[1]⟩:=by rw[hc_];rfl
  refine bF ?_
  refine Gc ?_
  rintro _ wR ⟨rfl,hnR⟩
  have qR:af (fun k=>w1.heap.size≤k) wR _ [1]:=af.cO hnR rfl GU Hc
  have hxR:Ext w2 wR:=hx2.trans hnR.ext
  refine bF ?_
  refine Ge ?_
  rintro _ wC ⟨rfl,hxC⟩
  refine⟨_,rfl,?_⟩
  have hxwC:Ext w2 wC:=hxR.trans hxC
  refine bF ?_
  refine Gf ?_
  rintro _ wD ⟨hbD,hcD,-⟩
  refine bF ?_
  have hxD:Ext w wD:=bA.trans' (hxw2.trans hxwC) hcD (fun k hk e=>by omega)
  refine Fin.bn (.inl rfl) rfl rfl rfl rfl rfl hbD rfl rfl ⟨⟨_,by rw[hsg];rfl,?_⟩,hxD⟩
  rw[hsg]
  refine⟨_,rfl,_,_,rfl,?_,?_⟩
  ·exact rg
  ·exact((qR.aD hxC (fun _ _ _ h=>h)).aD hcD (fun k _ h e=>by omega)).mono (fun k _ h=>by omega)
 ·have hsg:gk op=some ⟨[],[1]⟩:=by rw[hc_];rfl
  refine bF ?_
  refine Gc ?_
  rintro _ wR ⟨rfl,hnR⟩
  have qR:af (fun k=>w1.heap.size≤k) wR _ [1]:=af.cO hnR rfl GU Hc
  have hxR:Ext w2 wR:=hx2.trans hnR.ext
  refine bF ?_
  refine Ge ?_
  rintro _ wC ⟨rfl,hxC⟩
  refine⟨_,rfl,?_⟩
  have hxwC:Ext w2 wC:=hxR.trans hxC
  refine bF ?_
  refine Gf ?_
  rintro _ wD ⟨hbD,hcD,-⟩
  refine bF ?_
  have hxD:Ext w wD:=bA.trans' (hxw2.trans hxwC) hcD (fun k hk e=>by omega)
  refine Fin.bn (.inl rfl) rfl rfl rfl rfl rfl hbD rfl rfl ⟨⟨_,by rw[hsg];rfl,?_⟩,hxD⟩
  rw[hsg]
  refine⟨_,rfl,_,_,rfl,?_,?_⟩
  ·exact rg
  ·exact((qR.aD hxC (fun _ _ _ h=>h)).aD hcD (fun k _ h e=>by omega)).mono (fun k _ h=>by omega)
 ·have hsg:gk op=some ⟨[],[1]⟩:=by rw[hc_];rfl
  refine bF ?_
  refine Gc ?_
  rintro _ wR ⟨rfl,hnR⟩
  have qR:af (fun k=>w1.heap.size≤k) wR _ [1]:=af.cO hnR rfl GU Hc
  have hxR:Ext w2 wR:=hx2.trans hnR.ext
  refine bF ?_
  refine Ge ?_
  rintro _ wC ⟨rfl,hxC⟩
  refine⟨_,rfl,?_⟩
  have hxwC:Ext w2 wC:=hxR.trans hxC
  refine bF ?_
  refine Gf ?_
  rintro _ wD ⟨hbD,hcD,-⟩
  refine bF ?_
  have hxD:Ext w wD:=bA.trans' (hxw2.trans hxwC) hcD (fun k hk e=>by omega)
  refine Fin.bn (.inl rfl) rfl rfl rfl rfl rfl hbD rfl rfl ⟨⟨_,by rw[hsg];rfl,?_⟩,hxD⟩
  rw[hsg]
  refine⟨_,rfl,_,_,rfl,?_,?_⟩
  ·exact rg
  ·exact((qR.aD hxC (fun _ _ _ h=>h)).aD hcD (fun k _ h e=>by omega)).mono (fun k _ h=>by omega)
 ·have hsg:gk op=some ⟨[],[2]⟩:=by rw[hc_];rfl
  refine bF ?_
  refine Gj ?_
  rintro _ wR ⟨rfl,hnR⟩
  have qR:af (fun k=>w1.heap.size≤k) wR _ [2]:=af.cO hnR rfl GU Hc
  have hxR:Ext w2 wR:=hx2.trans hnR.ext
  refine bF ?_
  refine Ge ?_
  rintro _ wC ⟨rfl,hxC⟩
  refine⟨_,rfl,?_⟩
  have hxwC:Ext w2 wC:=hxR.trans hxC
  refine bF ?_
  refine Gf ?_
  rintro _ wD ⟨hbD,hcD,-⟩
  refine bF ?_
  have hxD:Ext w wD:=bA.trans' (hxw2.trans hxwC) hcD (fun k hk e=>by omega)
  refine Fin.bn (.inl rfl) rfl rfl rfl rfl rfl hbD rfl rfl ⟨⟨_,by rw[hsg];rfl,?_⟩,hxD⟩
  rw[hsg]
  refine⟨_,rfl,_,_,rfl,?_,?_⟩
  ·exact rg
  ·exact((qR.aD hxC (fun _ _ _ h=>h)).aD hcD (fun k _ h e=>by omega)).mono (fun k _ h=>by omega)
 ·have hsg:gk op=some ⟨[],[3]⟩:=by rw[hc_];rfl
  refine bF ?_
  refine ah.e (bB.buildSlice (cs:=[.int .i64 3]) (e:=58) rfl G7) rfl ?_
  rintro _ wR ⟨rfl,hnR⟩
  have qR:af (fun k=>w1.heap.size≤k) wR _ [3]:=af.cO hnR rfl GU Hc
  have hxR:Ext w2 wR:=hx2.trans hnR.ext
  refine bF ?_
  refine Ge ?_
  rintro _ wC ⟨rfl,hxC⟩
  refine⟨_,rfl,?_⟩
  have hxwC:Ext w2 wC:=hxR.trans hxC
  refine bF ?_
  refine Gf ?_
  rintro _ wD ⟨hbD,hcD,-⟩
  refine bF ?_
  have hxD:Ext w wD:=bA.trans' (hxw2.trans hxwC) hcD (fun k hk e=>by omega)
  refine Fin.bn (.inl rfl) rfl rfl rfl rfl rfl hbD rfl rfl ⟨⟨_,by rw[hsg];rfl,?_⟩,hxD⟩
  rw[hsg]
  refine⟨_,rfl,_,_,rfl,?_,?_⟩
  ·exact rg
  ·exact((qR.aD hxC (fun _ _ _ h=>h)).aD hcD (fun k _ h e=>by omega)).mono (fun k _ h=>by omega)
 ·have hsg:gk op=some ⟨[1],[1]⟩:=by rw[hc_];rfl
  refine bF ?_
  refine ah.y (Yl.cn rfl rfl rfl rfl rfl (i:=1) rfl Hb) rfl ?_
  refine bF ?_
  refine Gc ?_
  rintro _ wR ⟨rfl,hnR⟩
  have qR:af (fun k=>w1.heap.size≤k) wR _ [1]:=af.cO hnR rfl GU Hc
  have hxR:Ext w2 wR:=hx2.trans hnR.ext
  refine bF ?_
  refine Ge ?_
  rintro _ wC ⟨rfl,hxC⟩
  refine⟨_,rfl,?_⟩
  have hxwC:Ext w2 wC:=hxR.trans hxC
  refine bF ?_
  refine Gf ?_
  rintro _ wD ⟨hbD,hcD,-⟩
  refine bF ?_
  have hxD:Ext w wD:=bA.trans' (hxw2.trans hxwC) hcD (fun k hk e=>by omega)
  refine Fin.bn (.inl rfl) rfl rfl rfl rfl rfl hbD rfl rfl ⟨⟨_,by rw[hsg];rfl,?_⟩,hxD⟩
  rw[hsg]
  refine⟨_,rfl,_,_,rfl,?_,?_⟩
  ·exact(((r1.aD hnR.ext (fun _ _ _ h=>h)).aD hxC (fun _ _ _ h=>h)).aD hcD (fun k _ h e=>by omega)).mono (fun k _ h=>by omega)
  ·exact((qR.aD hxC (fun _ _ _ h=>h)).aD hcD (fun k _ h e=>by omega)).mono (fun k _ h=>by omega)
 ·have hsg:gk op=some ⟨[1,1,1],[]⟩:=by rw[hc_];rfl
  refine bF ?_
  refine Gk ?_
  rintro _ wC ⟨rfl,hxC⟩
  refine⟨_,rfl,?_⟩
  have hxwC:Ext w2 wC:=hx2.trans hxC
  refine bF ?_
  refine Gf ?_
  rintro _ wD ⟨hbD,hcD,-⟩
  refine bF ?_
  have hxD:Ext w wD:=bA.trans' (hxw2.trans hxwC) hcD (fun k hk e=>by omega)
  refine Fin.bn (.inl rfl) rfl rfl rfl rfl rfl hbD rfl rfl ⟨⟨_,by rw[hsg];rfl,?_⟩,hxD⟩
  rw[hsg]
  refine⟨_,rfl,_,_,rfl,?_,?_⟩
  ·exact((r3.aD hxC (fun _ _ _ h=>h)).aD hcD (fun k _ h e=>by omega)).mono (fun k _ h=>by omega)
  ·exact rg
 ·have hsg:gk op=some ⟨[1,1,1],[]⟩:=by rw[hc_];rfl
  refine bF ?_
  refine Gk ?_
  rintro _ wC ⟨rfl,hxC⟩
  refine⟨_,rfl,?_⟩
  have hxwC:Ext w2 wC:=hx2.trans hxC
  refine bF ?_
  refine Gf ?_
  rintro _ wD ⟨hbD,hcD,-⟩
  refine bF ?_
  have hxD:Ext w wD:=bA.trans' (hxw2.trans hxwC) hcD (fun k hk e=>by omega)
  refine Fin.bn (.inl rfl) rfl rfl rfl rfl rfl hbD rfl rfl ⟨⟨_,by rw[hsg];rfl,?_⟩,hxD⟩
  rw[hsg]
  refine⟨_,rfl,_,_,rfl,?_,?_⟩
  ·exact((r3.aD hxC (fun _ _ _ h=>h)).aD hcD (fun k _ h e=>by omega)).mono (fun k _ h=>by omega)
  ·exact rg
 ·have hsg:gk op=some ⟨[1,1,1],[]⟩:=by rw[hc_];rfl
  refine bF ?_
  refine Gk ?_
  rintro _ wC ⟨rfl,hxC⟩
  refine⟨_,rfl,?_⟩
  have hxwC:Ext w2 wC:=hx2.trans hxC
  refine bF ?_
  refine Gf ?_
  rintro _ wD ⟨hbD,hcD,-⟩
  refine bF ?_
  have hxD:Ext w wD:=bA.trans' (hxw2.trans hxwC) hcD (fun k hk e=>by omega)
  refine Fin.bn (.inl rfl) rfl rfl rfl rfl rfl hbD rfl rfl ⟨⟨_,by rw[hsg];rfl,?_⟩,hxD⟩
  rw[hsg]
  refine⟨_,rfl,_,_,rfl,?_,?_⟩
  ·exact((r3.aD hxC (fun _ _ _ h=>h)).aD hcD (fun k _ h e=>by omega)).mono (fun k _ h=>by omega)
  ·exact rg
 ·have hsg:gk op=some ⟨[1,1,1],[]⟩:=by rw[hc_];rfl
  refine bF ?_
  refine Gk ?_
  rintro _ wC ⟨rfl,hxC⟩
  refine⟨_,rfl,?_⟩
  have hxwC:Ext w2 wC:=hx2.trans hxC
  refine bF ?_
  refine Gf ?_
  rintro _ wD ⟨hbD,hcD,-⟩
  refine bF ?_
  have hxD:Ext w wD:=bA.trans' (hxw2.trans hxwC) hcD (fun k hk e=>by omega)
  refine Fin.bn (.inl rfl) rfl rfl rfl rfl rfl hbD rfl rfl ⟨⟨_,by rw[hsg];rfl,?_⟩,hxD⟩
  rw[hsg]
  refine⟨_,rfl,_,_,rfl,?_,?_⟩
  ·exact((r3.aD hxC (fun _ _ _ h=>h)).aD hcD (fun k _ h e=>by omega)).mono (fun k _ h=>by omega)
  ·exact rg
 ·have hsg:gk op=some ⟨[1,1,1],[]⟩:=by rw[hc_];rfl
  refine bF ?_
  refine Gk ?_
  rintro _ wC ⟨rfl,hxC⟩
  refine⟨_,rfl,?_⟩
  have hxwC:Ext w2 wC:=hx2.trans hxC
  refine bF ?_
  refine Gf ?_
  rintro _ wD ⟨hbD,hcD,-⟩
  refine bF ?_
  have hxD:Ext w wD:=bA.trans' (hxw2.trans hxwC) hcD (fun k hk e=>by omega)
  refine Fin.bn (.inl rfl) rfl rfl rfl rfl rfl hbD rfl rfl ⟨⟨_,by rw[hsg];rfl,?_⟩,hxD⟩
  rw[hsg]
  refine⟨_,rfl,_,_,rfl,?_,?_⟩
  ·exact((r3.aD hxC (fun _ _ _ h=>h)).aD hcD (fun k _ h e=>by omega)).mono (fun k _ h=>by omega)
  ·exact rg
 ·have hsg:gk op=some ⟨[2],[1]⟩:=by rw[hc_];rfl
  refine bF ?_
  refine Gj ?_
  rintro _ wP ⟨rfl,hnP⟩
  have qP:af (fun k=>w1.heap.size≤k) wP _ [2]:=af.cO hnP rfl GU Hc
  have hxP:Ext w2 wP:=hx2.trans hnP.ext
  refine bF ?_
  refine Gc ?_
  rintro _ wR ⟨rfl,hnR⟩
  have qR:af (fun k=>w1.heap.size≤k) wR _ [1]:=af.cO hnR rfl (by have:=hn2.ext.size;have:=hxP.size;omega) Hc
  have hxR:Ext w2 wR:=hxP.trans hnR.ext
  refine bF ?_
  refine Ge ?_
  rintro _ wC ⟨rfl,hxC⟩
  refine⟨_,rfl,?_⟩
  have hxwC:Ext w2 wC:=hxR.trans hxC
  refine bF ?_
  refine Gf ?_
  rintro _ wD ⟨hbD,hcD,-⟩
  refine bF ?_
  have hxD:Ext w wD:=bA.trans' (hxw2.trans hxwC) hcD (fun k hk e=>by omega)
  refine Fin.bn (.inl rfl) rfl rfl rfl rfl rfl hbD rfl rfl ⟨⟨_,by rw[hsg];rfl,?_⟩,hxD⟩
  rw[hsg]
  refine⟨_,rfl,_,_,rfl,?_,?_⟩
  ·exact(((qP.aD hnR.ext (fun _ _ _ h=>h)).aD hxC (fun _ _ _ h=>h)).aD hcD (fun k _ h e=>by omega)).mono (fun k _ h=>by omega)
  ·exact((qR.aD hxC (fun _ _ _ h=>h)).aD hcD (fun k _ h e=>by omega)).mono (fun k _ h=>by omega)
 ·have hsg:gk op=some ⟨[1],[2]⟩:=by rw[hc_];rfl
  refine bF ?_
  refine ah.y (Yl.cn rfl rfl rfl rfl rfl (i:=1) rfl Hb) rfl ?_
  refine bF ?_
  refine Gj ?_
  rintro _ wR ⟨rfl,hnR⟩
  have qR:af (fun k=>w1.heap.size≤k) wR _ [2]:=af.cO hnR rfl GU Hc
  have hxR:Ext w2 wR:=hx2.trans hnR.ext
  refine bF ?_
  refine Ge ?_
  rintro _ wC ⟨rfl,hxC⟩
  refine⟨_,rfl,?_⟩
  have hxwC:Ext w2 wC:=hxR.trans hxC
  refine bF ?_
  refine Gf ?_
  rintro _ wD ⟨hbD,hcD,-⟩
  refine bF ?_
  have hxD:Ext w wD:=bA.trans' (hxw2.trans hxwC) hcD (fun k hk e=>by omega)
  refine Fin.bn (.inl rfl) rfl rfl rfl rfl rfl hbD rfl rfl ⟨⟨_,by rw[hsg];rfl,?_⟩,hxD⟩
  rw[hsg]
  refine⟨_,rfl,_,_,rfl,?_,?_⟩
  ·exact(((r1.aD hnR.ext (fun _ _ _ h=>h)).aD hxC (fun _ _ _ h=>h)).aD hcD (fun k _ h e=>by omega)).mono (fun k _ h=>by omega)
  ·exact((qR.aD hxC (fun _ _ _ h=>h)).aD hcD (fun k _ h e=>by omega)).mono (fun k _ h=>by omega)
 ·have hsg:gk op=some ⟨[1],[2]⟩:=by rw[hc_];rfl
  refine bF ?_
  refine ah.y (Yl.cn rfl rfl rfl rfl rfl (i:=1) rfl Hb) rfl ?_
  refine bF ?_
  refine Gj ?_
  rintro _ wR ⟨rfl,hnR⟩
  have qR:af (fun k=>w1.heap.size≤k) wR _ [2]:=af.cO hnR rfl GU Hc
  have hxR:Ext w2 wR:=hx2.trans hnR.ext
  refine bF ?_
  refine Ge ?_
  rintro _ wC ⟨rfl,hxC⟩
  refine⟨_,rfl,?_⟩
  have hxwC:Ext w2 wC:=hxR.trans hxC
  refine bF ?_
  refine Gf ?_
  rintro _ wD ⟨hbD,hcD,-⟩
  refine bF ?_
  have hxD:Ext w wD:=bA.trans' (hxw2.trans hxwC) hcD (fun k hk e=>by omega)
  refine Fin.bn (.inl rfl) rfl rfl rfl rfl rfl hbD rfl rfl ⟨⟨_,by rw[hsg];rfl,?_⟩,hxD⟩
  rw[hsg]
  refine⟨_,rfl,_,_,rfl,?_,?_⟩
  ·exact(((r1.aD hnR.ext (fun _ _ _ h=>h)).aD hxC (fun _ _ _ h=>h)).aD hcD (fun k _ h e=>by omega)).mono (fun k _ h=>by omega)
  ·exact((qR.aD hxC (fun _ _ _ h=>h)).aD hcD (fun k _ h e=>by omega)).mono (fun k _ h=>by omega)
 ·have hsg:gk op=if dW (eM (eN op)) [105,51,50,46]=true∨dW (eM (eN op)) [105,54,52,46]=true then some (fi op (zS (eM (eN op))) ((eM (eN op)).drop 4))else none:=by
   unfold gk
   rw[if_neg Hb,if_neg Hb,if_neg Hb,if_neg Hb,if_neg Hb,if_neg Hb,if_neg Hb,if_neg Hb]
  have hsm:=oV op
  refine bF ?_
  refine ah.call rfl rfl rfl (kO op w2 (h0.ext hxw2)) ?_
  rintro _ w3 ⟨rfl,hx3⟩
  refine⟨_,rfl,?_⟩
  generalize eN op=s at*
  refine bF ?_
  refine ah.call rfl rfl rfl (cY s _ w3) ?_
  rintro _ _ ⟨rfl,rfl⟩
  refine⟨_,rfl,?_⟩
  cases h1:dW (eM s) [105,51,50,46]with
  |true=>
   have h4:4≤s.size:=by have:=oO h1;rw[ij]at this;exact this
   rw[if_pos (by simp[h1])]at hsg
   refine bF ?_
   refine Cd.mT ?_
   refine F8 ?_
   refine cJ.take 1 rfl G7 (Yl.move rfl) ?_
   refine Ga ?_
   refine cJ.take 4 rfl G7 (Yl.cq Tryz.underlying9 rfl rfl (i:=4) rfl Hb) ?_
   refine cJ.one 2 G7 rfl rfl (bB.call rfl rfl (lH s _) (fun e w' h=>⟨_,h.1⟩)) ?_
   rintro _ w3' ⟨hv3,hw3⟩
   cases hv3
   obtain rfl:w3.drew=w3':=hw3
   refine cJ.one 5 G7 rfl rfl (bB.call rfl rfl (lI op _ _ _) (fun e w' h=>by obtain⟨⟨v,h,_⟩,_⟩:=h;exact⟨v,h⟩)) ?_
   rintro _ w4 ⟨⟨v,hv4,cs,hcs,hv⟩,hx4'⟩
   cases hv4
   subst hcs
   rw[nB]at hv
   have hx4:Ext w3 w4:=bA.trans ((bA.refl _ w3).drew) hx4'
   obtain⟨v0,v1,rfl,q0,q1⟩:=hv
   obtain⟨p0,c0,rfl,-⟩:=q0.slice
   obtain⟨p1,c1,rfl,-⟩:=q1.slice
   refine cJ.CR 6 G7 rfl (bB.aM (ti:=eY) (cs:=[_,_]) rfl rfl rfl rfl rfl GZ (hb1.aD (hx3.trans hx4) id) rfl) ?_
   rintro _ wD ⟨hbD,hcD,-⟩
   refine cJ.yS 7 G7 rfl rfl (Yl.assign rfl) ?_
   refine cJ.done G7 ?_
   refine bF ?_
   have hxD:Ext w wD:=bA.trans' ((hxw2.trans hx3).trans hx4) hcD (fun k hk e=>by omega)
   refine Fin.bn (.inl rfl) rfl rfl rfl rfl rfl hbD rfl rfl ⟨⟨_,by rw[hsg];rfl,?_⟩,hxD⟩
   rw[hsg]
   have hsz:w1.heap.size≤w3.heap.size:=Nat.le_trans hn2.ext.size hx3.size
   have hdz:w3.drew.heap.size=w3.heap.size:=rfl
   refine⟨_,rfl,_,_,rfl,?_,?_⟩
   ·have:=(q0.aD hcD (fun k _ h e=>by omega)).mono (H:=fun k=>w.heap.size≤k) (fun k _ h=>by omega);exact this
   ·have:=(q1.aD hcD (fun k _ h e=>by omega)).mono (H:=fun k=>w.heap.size≤k) (fun k _ h=>by omega);exact this
  |false=>
   refine bF ?_
   refine ah.tj rfl rfl rfl rfl (cY s _ w3) ?_
   rintro _ _ ⟨rfl,rfl⟩
   refine⟨_,rfl,?_⟩
   cases h2:dW (eM s) [105,54,52,46]with
   |true=>
    have h4:4≤s.size:=by have:=oO h2;rw[ij]at this;exact this
    rw[if_pos (by simp[h2])]at hsg
    refine bF ?_
    refine Cd.mT ?_
    refine F8 ?_
    refine cJ.take 1 rfl G7 (Yl.move rfl) ?_
    refine Ga ?_
    refine cJ.take 4 rfl G7 (Yl.cq Tryz.underlying9 rfl rfl (i:=4) rfl Hb) ?_
    refine cJ.one 2 G7 rfl rfl (bB.call rfl rfl (lH s _) (fun e w' h=>⟨_,h.1⟩)) ?_
    rintro _ w3' ⟨hv3,hw3⟩
    cases hv3
    obtain rfl:w3.drew=w3':=hw3
    refine cJ.one 5 G7 rfl rfl (bB.call rfl rfl (lI op _ _ _) (fun e w' h=>by obtain⟨⟨v,h,_⟩,_⟩:=h;exact⟨v,h⟩)) ?_
    rintro _ w4 ⟨⟨v,hv4,cs,hcs,hv⟩,hx4'⟩
    cases hv4
    subst hcs
    rw[nB]at hv
    have hx4:Ext w3 w4:=bA.trans ((bA.refl _ w3).drew) hx4'
    obtain⟨v0,v1,rfl,q0,q1⟩:=hv
    obtain⟨p0,c0,rfl,-⟩:=q0.slice
    obtain⟨p1,c1,rfl,-⟩:=q1.slice
    refine cJ.CR 6 G7 rfl (bB.aM (ti:=eY) (cs:=[_,_]) rfl rfl rfl rfl rfl GZ (hb1.aD (hx3.trans hx4) id) rfl) ?_
    rintro _ wD ⟨hbD,hcD,-⟩
    refine cJ.yS 7 G7 rfl rfl (Yl.assign rfl) ?_
    refine cJ.done G7 ?_
    refine bF ?_
    have hxD:Ext w wD:=bA.trans' ((hxw2.trans hx3).trans hx4) hcD (fun k hk e=>by omega)
    refine Fin.bn (.inl rfl) rfl rfl rfl rfl rfl hbD rfl rfl ⟨⟨_,by rw[hsg];rfl,?_⟩,hxD⟩
    rw[hsg]
    have hsz:w1.heap.size≤w3.heap.size:=Nat.le_trans hn2.ext.size hx3.size
    have hdz:w3.drew.heap.size=w3.heap.size:=rfl
    refine⟨_,rfl,_,_,rfl,?_,?_⟩
    ·have:=(q0.aD hcD (fun k _ h e=>by omega)).mono (H:=fun k=>w.heap.size≤k) (fun k _ h=>by omega);exact this
    ·have:=(q1.aD hcD (fun k _ h e=>by omega)).mono (H:=fun k=>w.heap.size≤k) (fun k _ h=>by omega);exact this
   |false=>
    rw[h1,h2,if_neg Hc]at hsg
    refine bF ?_
    refine ah.e0 (bB.aM (ti:=eY) (cs:=[.slice none 0 0,.slice none 0 0]) rfl rfl rfl rfl rfl GZ (hb1.aD hx3 id) rfl) ?_
    rintro _ wD ⟨hbD,hcD,-⟩
    refine bF ?_
    have hxD:Ext w wD:=bA.trans' (hxw2.trans hx3) hcD (fun k hk e=>by omega)
    refine Fin.bn (.inl rfl) rfl rfl rfl rfl rfl hbD rfl rfl ⟨⟨_,by rw[hsg];rfl,?_⟩,hxD⟩
    rw[hsg]
    exact⟨_,rfl,_,_,rfl,af.eJ _ _,af.eJ _ _⟩
structure AP where
 funcs:Int
 instrs:Int
 blocks:Int
 loops:Int
 calls:Int
 yM:Int
 vu:Int
 consts:Int
 deriving Inhabited,DecidableEq
def Cu (b:Bool):Int:=if b then 1 else 0
end Go.Proofs.YtceedealggognaaGreatDoor
