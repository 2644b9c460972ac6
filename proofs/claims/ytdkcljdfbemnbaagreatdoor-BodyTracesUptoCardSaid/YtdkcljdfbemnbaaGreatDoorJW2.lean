import Derived.Test.YtdkcljdfbemnbaaGreatDoorJIo
import Derived.Test.YtdkcljdfbemnbaaGreatDoorJR7
namespace Go.Proofs.YtdkcljdfbemnbaaGreatDoor
open Go.RowKit _root_.Go.Proofs.Tryz
set_option maxHeartbeats 4000000
open List renaming all_eq_true→PC,append_assoc→P8,append_nil→PS,flatMap_append→PY,take_length→PA
set_option maxRecDepth 100000
abbrev hG (s:ByteArray):List UInt8:=s.data.toList
variable {B:Nat} {W:World} {l:Nat} {o o':Obj} (s:ByteArray) (w:World)
theorem kQ:(hG s).length=s.size:=rfl
def gl (s p:List UInt8):Bool:=p.length≤s.length && s.take p.length==p
theorem jZ (i j:Nat):hG (s.extract i j)=((hG s).take j).drop i:=by
 simp only[hG,ByteArray.data_extract,Array.toList_extract,List.extract_eq_drop_take']
theorem tP (s p:ByteArray) (w:World):Calls G.P 174 #[.string s,.string p] w fun e w'=>e=.returned (.bool (gl (hG s) (hG p)))∧w=w':=by
 refine enter (G:=G) func174 rfl ntmps174 rfl ?_
 have hs:=kQ s
 have hp:=kQ p
 by_cases h:p.size≤s.size
 ·refine cA ?_
  refine Fin.aG rfl rfl ⟨?_,rfl⟩
  unfold gl
  rw[hp,hs,decide_eq_true h,Bool.true_and,←hp]
  congr 2
  have:=jZ s 0 p.size
  rw[List.drop_zero]at this
  rw[hp];exact congrArg (·==hG p) this
 ·refine cA ?_
  refine Fin.aG rfl rfl ⟨?_,rfl⟩
  unfold gl
  rw[hp,hs,decide_eq_false h,Bool.false_and]
theorem eI (s p:ByteArray) (w:World):Calls G.P 146 #[.string s,.string p] w fun e w'=>e=.returned (.bool (gl (hG s) (hG p)))∧w=w':=by
 refine enter (G:=G) func146 rfl ntmps146 rfl ?_
 refine cA ?_
 refine aq.call rfl rfl rfl (tP s p w) ?_
 rintro _ _ ⟨rfl,rfl⟩
 refine⟨_,rfl,?_⟩
 refine cA ?_
 exact Fin.aG rfl rfl ⟨rfl,rfl⟩
def Gw (s:List UInt8):Int:=if gl s [105,54,52]then 2 else 1
theorem pC:Calls G.P 148 #[.string s] w fun e w'=>e=.returned (.int .i64 (Gw (hG s)))∧w=w':=by
 refine enter (G:=G) func148 rfl ntmps148 rfl ?_
 refine cA ?_
 refine aq.call rfl rfl rfl (eI s _ w) ?_
 rintro _ _ ⟨rfl,rfl⟩
 refine⟨_,rfl,?_⟩
 unfold Gw
 cases gl (hG s) [105,54,52]<;>(refine cA ?_;exact Fin.aG rfl rfl ⟨rfl,rfl⟩)
theorem cD (a b:Option Addr) (l c l2 c2:Nat) (w:World):Calls G.P 144 #[.slice a l c,.slice b l2 c2] w fun e w'=>e=.returned (.agg #[.slice a l c,.slice b l2 c2])∧Ext w w':=by
 refine enter (G:=G) func144 rfl ntmps144 rfl ?_
 refine cA ?_
 refine NB ?_
 rintro _ w1 ⟨rfl,hn⟩
 refine cA ?_
 refine aq.e0 (bU.bn (ti:=iK) (cs:=[.slice a l c,.slice b l2 c2]) rfl rfl rfl rfl rfl O3 hn.aW rfl) ?_
 rintro _ w2 ⟨hb,hc,_⟩
 refine cA ?_
 exact Fin.bB (.inl rfl) rfl rfl rfl rfl rfl hb rfl ⟨rfl,bX.trans' hn.ext hc (fun k hk e=>by omega)⟩
structure fK (w:World):Prop where
 JS:∀c:Nat,c<256→w.cell? ⟨0,c,none⟩=some (.int .u8 (if Lib.isSp (UInt8.ofNat c)then 1 else 0))
 mx:∃m,w.cell? ⟨1,0,none⟩=some (.int .i64 m)
theorem fK.ext {w w':World} (h:fK w) (hx:Ext w w'):fK w':=⟨fun c hc=>hx.cell (h.JS c hc),by obtain⟨m,hm⟩:=h.mx;exact⟨m,hx.cell hm⟩⟩
theorem fK.put (h:fK W) (hl:W.heap[l]?=some o) (_ho:o.isCells=false):fK (W.putObj l o'):=by
 have key:∀{p:Addr} {v:Value},W.cell? p=some v→(W.putObj l o').cell? p=some v:=fun{p v} hc=>by
  have hne:p.block≠l:=by
   intro e
   unfold World.cell? at hc
   rw[e,hl]at hc
   cases o<;>simp_all [Obj.isCells]
  rw[World.cell?_of_block (w:=W) (by simp[World.putObj,Ne.symm hne])];exact hc
 exact⟨fun c hc=>key (h.JS c hc),by obtain⟨m,hm⟩:=h.mx;exact⟨m,key hm⟩⟩
def de:List (Int×List UInt8×List UInt8):=[(0,[],[117,110,114,101,97,99,104,97,98,108,101,32,110,111,112,32,98,108,111,99,107,32,108,111,111,112,32,105,102,32,101,108,115,101]),(11,[],[101,110,100,32,98,114,32,98,114,95,105,102,32,98,114,95,116,97,98,108,101,32,114,101,116,117,114,110,32,99,97,108,108,32,99,97,108,108,95,105,110,100,105,114,101,99,116]),(26,[],[100,114,111,112,32,115,101,108,101,99,116,32,115,101,108,101,99,116]),(32,[108,111,99,97,108,46],[103,101,116,32,115,101,116,32,116,101,101]),(35,[103,108,111,98,97,108,46],[103,101,116,32,115,101,116]),(37,[116,97,98,108,101,46],[103,101,116,32,115,101,116]),(40,[],[105,51,50,46,108,111,97,100,32,105,54,52,46,108,111,97,100]),(44,[105,51,50,46],[108,111,97,100,56,95,115,32,108,111,97,100,56,95,117,32,108,111,97,100,49,54,95,115,32,108,111,97,100,49,54,95,117]),(48,[105,54,52,46],[108,111,97,100,56,95,115,32,108,111,97,100,56,95,117,32,108,111,97,100,49,54,95,115,32,108,111,97,100,49,54,95,117,32,108,111,97,100,51,50,95,115,32,108,111,97,100,51,50,95,117]),(54,[],[105,51,50,46,115,116,111,114,101,32,105,54,52,46,115,116,111,114,101]),(58,[105,51,50,46],[115,116,111,114,101,56,32,115,116,111,114,101,49,54]),(60,[105,54,52,46],[115,116,111,114,101,56,32,115,116,111,114,101,49,54,32,115,116,111,114,101,51,50]),(63,[109,101,109,111,114,121,46],[115,105,122,101,32,103,114,111,119]),(65,[],[105,51,50,46,99,111,110,115,116,32,105,54,52,46,99,111,110,115,116]),(69,[105,51,50,46],[101,113,122,32,101,113,32,110,101,32,108,116,95,115,32,108,116,95,117,32,103,116,95,115,32,103,116,95,117,32,108,101,95,115,32,108,101,95,117,32,103,101,95,115,32,103,101,95,117]),(80,[105,54,52,46],[101,113,122,32,101,113,32,110,101,32,108,116,95,115,32,108,116,95,117,32,103,116,95,115,32,103,116,95,117,32,108,101,95,115,32,108,101,95,117,32,103,101,95,115,32,103,101,95,117]),(103,[105,51,50,46],[99,108,122,32,99,116,122,32,112,111,112,99,110,116,32,97,100,100,32,115,117,98,32,109,117,108,32,100,105,118,95,115,32,100,105,118,95,117,32,114,101,109,95,115,32,114,101,109,95,117,32,97,110,100,32,111,114,32,120,111,114,32,115,104,108,32,115,104,114,95,115,32,115,104,114,95,117,32,114,111,116,108,32,114,111,116,114]),(121,[105,54,52,46],[99,108,122,32,99,116,122,32,112,111,112,99,110,116,32,97,100,100,32,115,117,98,32,109,117,108,32,100,105,118,95,115,32,100,105,118,95,117,32,114,101,109,95,115,32,114,101,109,95,117,32,97,110,100,32,111,114,32,120,111,114,32,115,104,108,32,115,104,114,95,115,32,115,104,114,95,117,32,114,111,116,108,32,114,111,116,114]),(167,[],[105,51,50,46,119,114,97,112,95,105,54,52]),(172,[105,54,52,46],[101,120,116,101,110,100,95,105,51,50,95,115,32,101,120,116,101,110,100,95,105,51,50,95,117]),(192,[105,51,50,46],[101,120,116,101,110,100,56,95,115,32,101,120,116,101,110,100,49,54,95,115]),(194,[105,54,52,46],[101,120,116,101,110,100,56,95,115,32,101,120,116,101,110,100,49,54,95,115,32,101,120,116,101,110,100,51,50,95,115]),(208,[114,101,102,46],[110,117,108,108,32,105,115,95,110,117,108,108,32,102,117,110,99]),(64520,[],[109,101,109,111,114,121,46,105,110,105,116,32,100,97,116,97,46,100,114,111,112,32,109,101,109,111,114,121,46,99,111,112,121,32,109,101,109,111,114,121,46,102,105,108,108,32,116,97,98,108,101,46,105,110,105,116,32,101,108,101,109,46,100,114,111,112,32,116,97,98,108,101,46,99,111,112,121,32,116,97,98,108,101,46,103,114,111,119,32,116,97,98,108,101,46,115,105,122,101,32,116,97,98,108,101,46,102,105,108,108])]
def EA (r:Int×List UInt8×List UInt8):List Value:=[.int .i64 r.1,.string ⟨r.2.1.toArray⟩,.string ⟨r.2.2.toArray⟩]
def k8:List Value:=de.flatMap EA
def opsOf (r:Int×List UInt8×List UInt8):List (Int×ByteArray):=(Lib.fields r.2.2).zipIdx.map fun p=>(r.1+p.2,⟨r.2.1.toArray⟩++⟨p.1.toArray⟩)
def zd:List (Int×ByteArray):=de.flatMap opsOf
theorem zX:Calls G.P 186 #[] w fun e w'=>e=.returned (.slice (some ⟨w.heap.size,0,none⟩) 24 24)∧zk w w' k8 268:=by
 refine enter (G:=G) func186 rfl ntmps186 rfl ?_
 refine cA ?_
 refine aq.e (bU.buildSlice (cs:=k8) (e:=268) rfl Pb) rfl ?_
 rintro _ w1 ⟨rfl,hn⟩
 refine cA ?_
 exact Fin.aG rfl rfl ⟨rfl,hn⟩
theorem AE:k8=(List.range 24).flatMap (fun i=>EA (ix de i)):=by kernel_rfl
theorem rK:de.length=24:=rfl
theorem Iu:∀i,i<24→0≤(ix de i).1∧(ix de i).1≤70000∧(ix de i).2.1.length≤100∧(ix de i).2.2.length≤1000∧((ix de i).2.2.all fun b=>decide (b.toNat<128))=true∧((Lib.fields (ix de i).2.2).all fun f=>decide (f.length≤100))=true∧(Lib.fields (ix de i).2.2).length≤100:=by decide+kernel
def FF (r:Int×List UInt8×List UInt8) (k:Nat):Int×ByteArray:=(r.1+k,⟨r.2.1.toArray⟩++⟨(ix (Lib.fields r.2.2) k).toArray⟩)
theorem xA (r:Int×List UInt8×List UInt8):(opsOf r).length=(Lib.fields r.2.2).length:=by simp[opsOf]
theorem BE {r:Int×List UInt8×List UInt8} {k:Nat} (h:k<(Lib.fields r.2.2).length):(opsOf r).take (k+1)=(opsOf r).take k++[FF r k]:=by
 have hl:k<(opsOf r).length:=by rw[xA];exact h
 rw[List.take_succ_eq_append_getElem hl]
 congr 2
 simp only[opsOf,List.getElem_map,List.getElem_zipIdx,FF,cz h]
 simp
def ph (i k:Nat):List (Int×ByteArray):=(de.take i).flatMap opsOf++(opsOf (ix de i)).take k
theorem FO {i k:Nat} (hi:i<24):ph i k<+:zd:=by
 refine⟨(opsOf (ix de i)).drop k++(de.drop (i+1)).flatMap opsOf,?_⟩
 have e:de=de.take i++([ix de i]++de.drop (i+1)):=by
  rw[←P8,←bN (by rw[rK];exact hi),List.take_append_drop]
 unfold ph zd
 conv=>rhs;rw[e]
 simp only[PY,List.flatMap_cons,List.flatMap_nil,PS]
 rw[P8,←P8 (List.take k _),List.take_append_drop]
theorem DY {i:Nat} (hi:i<24):ph i (Lib.fields (ix de i).2.2).length=ph (i+1) 0:=by
 unfold ph
 rw[←xA,PA,List.take_zero,PS,bN (by rw[rK];exact hi),PY]
 simp
theorem FN:ph 24 0=zd:=by unfold ph zd;rw[List.take_zero,PS,←rK,PA]
def TK (T:TypeId):Prop:=T=268∨T=9∨T=150
structure AZ (B:Nat) (W W':World):Prop where
 size:W.heap.size≤W'.heap.size
 same:∀(k:Nat) (cs:List Value) (T:TypeId),B≤k→TK T→gQ W k cs T→gQ W' k cs T
 env:fK W→fK W'
theorem AZ.refl (B:Nat) (W:World):AZ B W W:=⟨Nat.le_refl _,fun _ _ _ _ _ h=>h,id⟩
theorem AZ.trans {X Y Z:World} (h:AZ B X Y) (k:AZ B Y Z):AZ B X Z:=⟨Nat.le_trans h.size k.size,fun i cs T hB hT hi=>k.same i cs T hB hT (h.same i cs T hB hT hi),fun e=>k.env (h.env e)⟩
theorem AZ.put (hl:W.heap[l]?=some o) (ho:o.isCells=false):AZ B W (W.putObj l o'):=
 ⟨by simp[World.putObj],fun k cs T _ _ hk=>by
  have:k≠l:=by rintro rfl;unfold gQ at hk;rw[hl]at hk;cases hk;cases ho
  unfold gQ;rw[World.putObj_heap_other this];exact hk,fun e=>e.put hl ho⟩
theorem AZ.aW {W W':World} (h:AZ B W W') {b:Nat} {cs:List Value} {T:TypeId} (hb:gQ W b cs T) (hB:B≤b) (hT:TK T):gQ W' b cs T:=h.same b cs T hB hT hb
theorem Ext.grown {W W':World} (h:Ext W W'):W.grownBy W' none:=⟨h.os,h.tape,h.output,h.size,fun k hk _=>h.block k hk id⟩
def H6 (x:Int×ByteArray):List Value:=[.int .i64 x.1,.string x.2]
theorem Ex {ro ro':Option Nat} {m m':Nat} {l:Nat} {args:Array Value} {W:World} {R:Ending→World→Prop} (h:YieldAt (FW ro) m G.P l args W R):YieldAt (FW ro') m' G.P l args W R:=by
 obtain⟨fn,tmps,assign,body,hy,hR⟩:=h
 exact⟨fn,tmps,assign,body,hy,trivial,fun c cs _=>hR.2 c cs (fun d hd=>by cases hd)⟩
theorem Bv (w0:World) (h0:fK w0) (l:Nat) (J Jx:List (Int×ByteArray)→World→Prop) (W:World) (hW:Below w0.heap.size w0 W) (hJ:∀s A B,J s A→A.grownBy B none→J s B)
  (hY:∀pre x W1,J pre W1→pre++[x]<+:zd→YieldAt (FW none) 0 G.P l (H6 x).toArray W1 fun e W'=>(e=.returned (.bool true)∧J (pre++[x]) W'∧AZ w0.heap.size W1 W')∨(e=.returned (.bool false)∧Jx (pre++[x]) W')) (hJ0:J [] W):
  Calls G.P 185 ([.func (.yield l) #[] #[]]:List Value).toArray W fun e W'=>(∃v,e=.returned v)∧(J zd W'∨∃pre,pre<+:zd∧Jx pre W'):=by
 have hEW:fK W:=h0.ext (Ext.CK hW)
 have hBW:w0.heap.size≤W.heap.size:=hW.size
 have abide:∀{pre:List (Int×ByteArray)} {A B:World},J pre A→Ext A B→J pre B:=fun{pre A B} h hx=>hJ pre A B h hx.grown
 refine enter (G:=G) func185 rfl ntmps185 rfl ?_
 refine Cl ?_
 refine aq.call rfl rfl rfl (zX W) ?_
 rintro _ w1 ⟨rfl,hn1⟩
 refine⟨_,rfl,?_⟩
 refine Cl ?_
 refine Cd.loop (σ:=Nat) (fun i=>[(0,.func (.yield l) #[] #[]),(6,.slice (some ⟨W.heap.size,0,none⟩) 24 24),(7,.int .i64 24),(8,.int .i64 i)]) (fun i wr=>i≤24∧J (ph i 0) wr∧fK wr∧gQ wr W.heap.size k8 268) (fun i=>24 - i) 0 bH ⟨by omega,abide (show J (ph 0 0) W from hJ0) hn1.ext,hEW.ext hn1.ext,hn1.aW⟩ ?_
 rintro i wr ⟨hi,hJi,hEi,hBi⟩
 by_cases hlt:i<24
 ·obtain⟨k1,k2,k3,k4,k5,k6,k7⟩:=Iu i hlt
  have hcell:∀w',w'=wr→∀j,j<3→w'.cell? ⟨W.heap.size,0+i*3+j,none⟩=(EA (ix de i))[j]?:=by
   rintro _ rfl j hj
   have e:k8[i*3+j]?=(EA (ix de i))[j]?:=by rw[AE];exact tF 3 (fun i=>EA (ix de i)) 24 (fun _ _=>rfl) i j hlt hj
   rw[Nat.zero_add]
   have hs:∃u,(EA (ix de i))[j]?=some u:=⟨_,List.getElem?_eq_getElem (by simpa[EA]using hj)⟩
   obtain⟨u,hu⟩:=hs
   rw[hu]at e ⊢
   exact hBi.cell e
  have hpre:=fun k=>FO (i:=i) (k:=k) hlt
  have hnext:=DY hlt
  have htake:=fun k (h:k<(Lib.fields (ix de i).2.2).length)=>BE h
  refine Cl ?_
  refine aq.y (Yl.rZ (cs:=EA (ix de i)) rfl rfl rfl rfl rfl hcell) rfl ?_
  refine NB ?_
  rintro _ w2 ⟨rfl,hn2⟩
  refine aq.e0 (bU.bn (ti:=Ju) (cs:=EA (ix de i)) rfl rfl rfl rfl rfl (by simp[EA,Value.oneCell']) hn2.aW rfl) ?_
  rintro _ w3 ⟨hb3,hc3,hz3⟩
  have hx3:Ext wr w3:=bX.trans' hn2.ext hc3 (fun k hk e=>by omega)
  generalize hgb:wr.heap.size=b2 at*
  have c0:w3.cell? ⟨b2,0,none⟩=some (.int .i64 (ix de i).1):=hb3.cell rfl
  have c1:w3.cell? ⟨b2,0+1,none⟩=some (.string ⟨(ix de i).2.1.toArray⟩):=hb3.cell rfl
  have c2:w3.cell? ⟨b2,0+2,none⟩=some (.string ⟨(ix de i).2.2.toArray⟩):=hb3.cell rfl
  refine Cl ?_
  have hE3:fK w3:=hEi.ext hx3
  refine aq.call rfl rfl rfl (Ej ⟨(ix de i).2.2.toArray⟩ w3 (show(ix de i).2.2.length<_ by omega) (fun j b hb=>?_) hE3.JS) ?_
  ·have:=PC.1 k5 b (List.mem_of_getElem? hb)
   simpa using this
  rintro _ _ ⟨rfl,rfl⟩
  refine⟨_,rfl,?_⟩
  have hn4:=zk.alloc w3 ((Lib.fields (ix de i).2.2).map fun l=>Value.string ⟨l.toArray⟩) 9
  generalize hw4:w3.alloc (.cells ((Lib.fields (ix de i).2.2).map fun l=>Value.string ⟨l.toArray⟩).toArray 9)=w4 at*
  have hx4:Ext wr w4:=hx3.trans hn4.ext
  have hb4:gQ w4 b2 (EA (ix de i)) 268:=hb3.aN hn4.ext id
  have hB4:gQ w4 W.heap.size k8 268:=hBi.aN hx4 id
  have hf4:=hn4.aW
  generalize hgc:w3.heap.size=b4 at*
  have hle2:W.heap.size<b2:=by have:=hBi.lt;omega
  have hle4:b2<b4:=by have:=hb3.lt;omega
  have hJ4:J (ph i 0) w4:=abide hJi hx4
  have hE4:fK w4:=hE3.ext hn4.ext
  clear hn4 hx4 hx3 hb3 hc3 hz3 hn2 c0 c1 c2 hE3 hEi hJi hBi hcell hw4
  refine Cl ?_
  refine Cd.loop (σ:=Nat) (fun k=>[(0,.func (.yield l) #[] #[]),(3,.pointer (some ⟨b2,0,none⟩)),(6,.slice (some ⟨W.heap.size,0,none⟩) 24 24),(7,.int .i64 24),(8,.int .i64 i),(14,.slice (some ⟨b4,0,none⟩) (Lib.fields (ix de i).2.2).length (Lib.fields (ix de i).2.2).length),(15,.int .i64 ((Lib.fields (ix de i).2.2).length:Nat)),(16,.int .i64 k)])
   (fun k wq=>k≤(Lib.fields (ix de i).2.2).length∧J (ph i k) wq∧fK wq∧gQ wq W.heap.size k8 268∧gQ wq b2 (EA (ix de i)) 268∧gQ wq b4 ((Lib.fields (ix de i).2.2).map fun l=>Value.string ⟨l.toArray⟩) 9) (fun k=>(Lib.fields (ix de i).2.2).length - k) 0 bH ⟨by omega,hJ4,hE4,hB4,hb4,hf4⟩ ?_
  clear hJ4 hE4 hB4 hb4 hf4
  rintro k wq ⟨hk,hJk,hEk,hBk,hb,hf⟩
  by_cases hkl:k<(Lib.fields (ix de i).2.2).length
  ·have c0:wq.cell? ⟨b2,0,none⟩=some (.int .i64 (ix de i).1):=hb.cell rfl
   have c1:wq.cell? ⟨b2,0+1,none⟩=some (.string ⟨(ix de i).2.1.toArray⟩):=hb.cell rfl
   have c4:wq.cell? ⟨b4,0+k,none⟩=some (.string ⟨(ix (Lib.fields (ix de i).2.2) k).toArray⟩):=by
    rw[Nat.zero_add]
    exact hf.cell (by rw[List.getElem?_map,iz hkl];rfl)
   have hs1:(⟨(ix de i).2.1.toArray⟩:ByteArray).size=(ix de i).2.1.length:=rfl
   have hs2:(⟨(ix (Lib.fields (ix de i).2.2) k).toArray⟩:ByteArray).size=(ix (Lib.fields (ix de i).2.2) k).length:=rfl
   have hs3:(ix (Lib.fields (ix de i).2.2) k).length≤100:=by
    have:=PC.1 k6 _ (show ix (Lib.fields (ix de i).2.2) k∈_ by rw[cz hkl];exact List.getElem_mem hkl)
    simpa using this
   have hstep:ph i (k+1)=ph i k++[FF (ix de i) k]:=by unfold ph;rw[htake k hkl,P8]
   have hyk:=hY (ph i k) (FF (ix de i) k) wq hJk (by rw[←hstep];exact hpre (k+1))
   refine Cl ?_
   refine Cd.CR 0 ?_
   refine AX ?_
   refine eE.round rfl rfl rfl hyk ?_
   rintro e w5 (⟨rfl,hJ5,hK5⟩|⟨rfl,hJx5⟩)
   ·refine⟨_,rfl,?_⟩
    refine AX ?_
    refine fh.ofFin ?_
    refine Cl ?_
    refine Fin.next (k+1) bH ⟨by omega,by rw[hstep];exact hJ5,hK5.env hEk,hK5.aW hBk hBW (.inl rfl),hK5.aW hb Pi (.inl rfl),hK5.aW hf Pi (.inr (.inl rfl))⟩ Pi
   ·refine⟨_,rfl,?_⟩
    refine AX ?_
    refine fh.ofFin ?_
    refine Cl ?_
    refine Fin.F5 rfl ⟨⟨_,rfl⟩,.inr ⟨ph i k++[FF (ix de i) k],?_,hJx5⟩⟩
    rw[←hstep];exact hpre (k+1)
  ·have hke:k=(Lib.fields (ix de i).2.2).length:=by omega
   subst hke
   refine Cl ?_
   refine Fin.next (i+1) bH ⟨by omega,by rw[←hnext];exact hJk,hEk,hBk⟩ Pi
 ·have hie:i=24:=by omega
  subst hie
  refine Cl ?_
  refine Fin.oe rfl ⟨⟨_,rfl⟩,.inl (by rw[←FN];exact hJi)⟩
theorem yr (m:Nat) (w0:World) (h0:fK w0):SeqStopsK (FW none) m G.P 185 #[] (fun x=>(H6 x).toArray) (AZ w0.heap.size) (fun xs=>xs=zd) (fun pre=>pre<+:zd) zd.length w0:=fun l J Jx W hW hJ hJx hY hJ0=>
 qt ((Bv w0 h0 l J Jx W hW (fun s A B h hg=>hJ s A B none h hg (fun r e=>by cases e)) (fun pre x W1 hj hp=>Ex (hY pre x W1 hj (by have:=hp.length_le;simp at this;omega))) hJ0).mono fun _ _ h=>⟨h.1,h.2.imp (fun h=>⟨_,rfl,h⟩) id⟩)
theorem xI {fn:Func} {n:Nat} {E:Env} {w:World} {a T:Nat} {ti:TI} {v:Value} {ad:Addr} (hr:fn.results=#[.cell a T]) (ha:lk E a=some (.pointer (some ad))) (hT:G.ty T=some ti) (hag:ti.agg=false) (hc:w.cell? ad=some v):
  ∀ac,Ag n ac E→(results fn ac.tmps).run G.P w=.ok v w:=fun ac hac=>by
 have h1:=(G.iT T ti hT).agg w
 rw[hag]at h1
 have g1:ac.tmps[a]?.getD undef=.pointer (some ad):=by have:=(hac.eq a _ ha).2;simpa using this
 simp[results,hr,g1,asAddr,loadVar,h1,hc]
def lT (op:Int):List (Int×ByteArray)→Option ByteArray
 |[]=>none
 |x::r=>if x.1=op then some x.2 else lT op r
def ia (op:Int):ByteArray:=(lT op zd).getD ⟨#[]⟩
theorem tE {op:Int}:∀{l:List (Int×ByteArray)},(∀x∈l,x.1≠op)→lT op l=none
 |[],_=>rfl
 |x::r,h=>by rw[lT,if_neg (h x Pj)];exact tE (fun y hy=>h y (by simp[hy]))
theorem xk {op:Int} {x:Int×ByteArray} (hx:x.1=op) {r:List (Int×ByteArray)}:∀{l:List (Int×ByteArray)},(∀y∈l,y.1≠op)→lT op (l++[x]++r)=some x.2
 |[],_=>by simp[lT,hx]
 |y::l,h=>by
  show lT op (y::(l++[x]++r))=_
  rw[lT,if_neg (h y Pj)];exact xk hx (fun z hz=>h z (by simp[hz]))
theorem yz:Calls G.P 173 #[] w fun e w'=>e=.returned (.func (.func 185) #[] #[])∧w=w':=by
 refine enter (G:=G) func173 rfl ntmps173 rfl ?_
 refine cA ?_
 exact Fin.aG rfl rfl ⟨rfl,rfl⟩
theorem gQ.grown {W W':World} {row:Option Nat} {B b:Nat} {cs:List Value} {T:TypeId} (h:gQ W b cs T) (_hb:b<B) (hg:W.grownBy W' row) (hr:∀r,row=some r→B≤r∧∃o:Obj,W.heap[r]?=some o∧o.isCells=false):gQ W' b cs T:=by
 unfold gQ
 rw[hg.block b h.lt (fun e=>by have:=(hr b e.symm).1;omega)];exact h
theorem Ext.Fj {w W W':World} {row:Option Nat} {B:Nat} (h:Ext w W) (_hB:w.heap.size≤B) (hg:W.grownBy W' row) (hr:∀r,row=some r→B≤r∧∃o:Obj,W.heap[r]?=some o∧o.isCells=false):Ext w W':=
 bX.trans' h (bX.lX hg) (fun k hk e=>by have:=(hr k e).1;omega)
theorem Ext.Jo {w W:World} (h:Ext w W) {l:Nat} (_hl:w.heap.size≤l) (o:Obj):Ext w (W.putObj l o):=
 bX.trans' h (T:=fun k=>k=l) ⟨rfl,rfl,rfl,by simp[World.putObj],fun k _ hk=>World.putObj_heap_other hk⟩ (fun k hk e=>by omega)
theorem ow (op:Int) (w:World) (h0:fK w):Calls G.P 145 #[.int .i64 op] w fun e w'=>e=.returned (.string (ia op))∧Ext w w':=by
 refine Fb (m:=5) (l:=[.int .i64 op]) func145 rfl ntmps145 rfl ?_
 refine AX ?_
 refine eE.e (bU.box rfl rfl) rfl rfl ?_
 rintro _ w1 ⟨rfl,hn1⟩
 refine eE.e (bU.alloc rfl) rfl rfl ?_
 rintro _ w2 ⟨rfl,hn2⟩
 refine AX ?_
 refine eE.e (bU.call rfl rfl (yz w2) (fun e w' h=>⟨_,h.1⟩)) rfl rfl ?_
 rintro _ _ ⟨h,rfl⟩
 cases h
 refine AX ?_
 have hx2:Ext w w2:=hn1.ext.trans hn2.ext
 have hs1:=hn1.size
 have hs2:=hn2.size
 have hb1:gQ w2 w.heap.size [.int .i64 op] 63:=hn1.aW.aN hn2.ext id
 have hb2:gQ w2 w1.heap.size [.string ⟨#[]⟩] 9:=hn2.aW
 generalize w1.heap.size=b2 at*
 generalize hgb:w.heap.size=b1 at*
 refine kx.rangeFunc (encs:=H6) (Kp:=AZ w2.heap.size) (S:=fun xs=>xs=zd) (Sp:=fun pre=>pre<+:zd) (N:=zd.length) rfl rfl Pi (yr _ w2 (h0.ext hx2)) (fun h k=>h.trans k) (fun W l o o' _ hl ho _=>AZ.put hl ho) (AZ.refl _) (fun _=>rfl) rfl
  (fun pre W=>(∀x∈pre,x.1≠op)∧gQ W b1 [.int .i64 op] 63∧gQ W b2 [.string ⟨#[]⟩] 9∧Ext w W)
  (fun c pre W=>c=.ret∧∃pre' x,pre=pre'++[x]∧x.1=op∧(∀y∈pre',y.1≠op)∧gQ W b2 [.string x.2] 9∧Ext w W)
  (fun pre W W' row ⟨h1,h2,h3,h4⟩ hg hr=>⟨h1,h2.grown Pi hg hr,h3.grown Pi hg hr,h4.Fj Pi hg hr⟩)
  (fun c pre W W' row ⟨h1,p,x,h2,h3,h4,h5,h6⟩ hg hr=>⟨h1,p,x,h2,h3,h4,h5.grown Pi hg hr,h6.Fj Pi hg hr⟩)
  ⟨by simp,hb1,hb2,hx2⟩ (fun x=>[(1,.pointer (some ⟨b1,0,none⟩)),(2,.pointer (some ⟨b2,0,none⟩)),(3,.int .i64 x.1),(4,.string x.2)]) ?_ ?_ ?_ ?_
 ·intro l x W K hK
  refine AX ?_
  exact fh.HQ (fun a ha=>hK a (ha.sub bH))
 ·rintro l pre x W ⟨h1,h2,h3,h4⟩ hN
  have c1:W.cell? ⟨b1,0,none⟩=some (.int .i64 op):=h2.cell rfl
  by_cases hx:x.1=op
  ·refine AX ?_
   refine eE.e0 (bU.B9 (ti:=KG) rfl rfl rfl rfl rfl h3 Pj) rfl ?_
   rintro _ W2 ⟨hb,hc,hz⟩
   refine AX ?_
   refine⟨fun a ha=>⟨⟨by omega,fun k o hk ho hno=>?_⟩,rfl,pre,x,rfl,hx,h1,hb,?_⟩⟩
   ·rw[hc.block k (Array.getElem?_eq_some_iff.1 ho).1 Pi];exact ho
   ·exact bX.trans' h4 hc (fun k hk e=>by omega)
  ·refine AX ?_
   refine⟨fun a ha=>⟨KeepsFrom.refl _ _,AZ.refl _ _,fun y hy=>?_,h2,h3,h4⟩⟩
   rcases List.mem_append.1 hy with hy|hy
   ·exact h1 y hy
   ·rw[List.mem_singleton]at hy;subst hy;exact hx
 ·rintro Dn xs W hD rfl ⟨h1,h2,h3,h4⟩ hK
  refine AX ?_
  refine eE.e0 (bU.B9 (ti:=KG) rfl rfl rfl rfl rfl h3 Pj) rfl ?_
  rintro _ W2 ⟨hb,hc,hz⟩
  refine AX ?_
  have hx4:Ext w W2:=bX.trans' h4 hc (fun k hk e=>by omega)
  refine fh.He (.inl rfl) (by rw[hc.block Dn (Array.getElem?_eq_some_iff.1 hK).1 Pi];exact hK) (xI rfl rfl rfl rfl ?_) ⟨rfl,hx4.Jo Pi _⟩
  rw[World.cell?_of_block (w:=W2) (World.putObj_heap_other (by show b2≠Dn;omega)),show ia op=⟨#[]⟩by unfold ia;rw[tE h1];rfl]
  exact hb.cell rfl
 ·rintro Dn c pre W hD hp ⟨rfl,pre',x,rfl,hx,h1,hb,h4⟩ hK
  refine AX ?_
  refine fh.He (.inl rfl) hK (xI rfl rfl rfl rfl ?_) ⟨rfl,h4.Jo Pi _⟩
  obtain⟨r,hr⟩:=hp
  rw[World.cell?_of_block (w:=W) (World.putObj_heap_other (by show b2≠Dn;omega)),show ia op=x.2 by unfold ia;rw[←hr,xk hx h1];rfl]
  exact hb.cell rfl
theorem qO (op:Int) (w:World) (h0:fK w):Calls G.P 124 #[.int .i64 op] w fun e w'=>e=.returned (.bool (!(hG (ia op)==[])))∧Ext w w':=by
 refine enter (G:=G) func124 rfl ntmps124 rfl ?_
 refine cA ?_
 refine aq.call rfl rfl rfl (ow op w h0) ?_
 rintro _ w1 ⟨rfl,hx⟩
 refine⟨_,rfl,?_⟩
 refine cA ?_
 exact Fin.aG rfl rfl ⟨rfl,hx⟩
def Bo (op:Int):Bool:=!(hG (ia op)==[])
def kD (op:Int):Bool:=decide (40≤op) && decide (op≤62) && Bo op
theorem vU (op:Int) (w:World) (h0:fK w):Calls G.P 165 #[.int .i64 op] w fun e w'=>e=.returned (.bool (kD op))∧Ext w w':=by
 refine enter (G:=G) func165 rfl ntmps165 rfl ?_
 unfold kD
 rcases(show op<40∨(40≤op∧62<op)∨(40≤op∧op≤62)by omega)with h|⟨h1,h2⟩|⟨h1,h2⟩
 ·refine cA ?_
  exact Fin.aG rfl rfl ⟨by rw[decide_eq_false Pi];rfl,bX.refl _ _⟩
 ·refine cA ?_
  exact Fin.aG rfl rfl ⟨by rw[decide_eq_true h1,decide_eq_false Pi];rfl,bX.refl _ _⟩
 ·refine cA ?_
  refine aq.xg rfl rfl rfl rfl (qO op w h0) ?_
  rintro _ w1 ⟨rfl,hx⟩
  refine⟨_,rfl,?_⟩
  refine cA ?_
  exact Fin.aG rfl rfl ⟨by rw[decide_eq_true h1,decide_eq_true h2];rfl,hx⟩
theorem DV:(zd.all fun x=>decide (x.2.size≤100))=true:=by decide+kernel
theorem xn {op:Int} {s:ByteArray}:∀{l:List (Int×ByteArray)},lT op l=some s→(op,s)∈l
 |x::r,h=>by
  rw[lT]at h
  split at h
  ·rename_i e;cases h;subst e;simp
  ·exact List.mem_cons_of_mem _ (xn h)
theorem tR (op:Int):(ia op).size≤100:=by
 unfold ia
 cases h:lT op zd with
 |none=>exact Nat.zero_le _
 |some s=>
  have:=PC.1 DV _ (xn h)
  simpa using this
def rQ (s:List UInt8):Int:=
 if Lib.contains (s.drop 4) [56]=true then 1 else if Lib.contains (s.drop 4) [49,54]=true then 2 else if Lib.contains (s.drop 4) [51,50]=true then 4 else if(s.take 3==[105,51,50])=true then 4 else 8
def iL (op:Int):Int:=if kD op=true then rQ (hG (ia op))else 0
theorem zq:∀k,k<23→kD (40+(k:Nat))=true→4≤(ia (40+(k:Nat))).size:=by decide+kernel
theorem zt {op:Int} (h:kD op=true):4≤(ia op).size:=by
 have h':=h
 unfold kD at h'
 simp only[Bool.and_eq_true,decide_eq_true_eq]at h'
 obtain⟨k,hk⟩:=Int.eq_ofNat_of_zero_le (show 0≤op - 40 by omega)
 have e:op=40+(k:Int):=by omega
 rw[e]at h ⊢
 exact zq k Pi h
theorem rT {s:ByteArray}:hG (s.extract 4 s.size)=(hG s).drop 4:=by
 rw[jZ,List.take_of_length_le (by rw[kQ];omega)]
theorem HP {s:ByteArray}:hG (s.extract 0 3)=(hG s).take 3:=by rw[jZ,List.drop_zero]
theorem qQ (op:Int) (w:World) (h0:fK w):Calls G.P 133 #[.int .i64 op] w fun e w'=>e=.returned (.int .i64 (iL op))∧Ext w w':=by
 refine enter (G:=G) func133 rfl ntmps133 rfl ?_
 refine cA ?_
 refine aq.call rfl rfl rfl (vU op w h0) ?_
 rintro _ w1 ⟨rfl,hx1⟩
 refine⟨_,rfl,?_⟩
 unfold iL
 cases ha:kD op with
 |false=>
  refine cA ?_
  exact Fin.aG rfl rfl ⟨rfl,hx1⟩
 |true=>
  have hsz:=zt ha
  have hsm:=tR op
  refine cA ?_
  refine aq.call rfl rfl rfl (ow op w1 (h0.ext hx1)) ?_
  rintro _ w2 ⟨rfl,hx2⟩
  refine⟨_,rfl,?_⟩
  have hxb:Ext w w2:=hx1.trans hx2
  generalize ia op=s at*
  refine cA ?_
  refine aq.e (bU.buildSlice (cs:=[.int .i64 8,.int .i64 16,.int .i64 32]) (e:=3) rfl Pb) rfl ?_
  rintro _ w3 ⟨rfl,hn3⟩
  have hx3:Ext w w3:=hxb.trans hn3.ext
  have b3:=hn3.aW
  generalize w2.heap.size=bk at*
  refine cA ?_
  refine Cd.loop (σ:=Nat) (fun k=>[(3,.string s),(11,.slice (some ⟨bk,0,none⟩) 3 3),(12,.int .i64 3),(13,.int .i64 k)]) (fun k wr=>k≤3∧Ext w wr∧gQ wr bk [.int .i64 8,.int .i64 16,.int .i64 32] 3∧(0<k→Lib.contains ((hG s).drop 4) [56]=false)∧(1<k→Lib.contains ((hG s).drop 4) [49,54]=false)∧(2<k→Lib.contains ((hG s).drop 4) [51,50]=false)) (fun k=>3 - k) 0 bH ⟨by omega,hx3,b3,by omega,by omega,by omega⟩ ?_
  rintro k wr ⟨hk,hxr,hbr,g0,g1,g2⟩
  obtain⟨mx,hmx⟩:=(h0.ext hxr).mx
  rcases(show k=0∨k=1∨k=2∨k=3 by omega)with rfl|rfl|rfl|rfl
  ·have c:wr.cell? ⟨bk,0+0,none⟩=some (.int .i64 8):=hbr.cell rfl
   refine cA ?_
   refine Cd.qV ?_
   refine NC ?_
   refine ND ?_
   refine NE ?_
   refine ek.take 4 rfl Pb (Yl.quo (r:=0) rfl rfl (fun w=>by kernel_rfl)) ?_
   refine NF ?_
   rintro _ w5 ⟨rfl,hn5⟩
   have hx5:Ext wr w5:=bX.trans ((bX.refl _ wr).drew) hn5.ext
   have c5:w5.cell? ⟨wr.drew.heap.size,0+0,none⟩=some (.string ⟨([56]:List UInt8).toArray⟩):=hn5.aW.cell rfl
   refine ek.take 5 rfl Pb (Yl.gn rfl rfl rfl rfl rfl (i:=0) rfl Pi) ?_
   refine ek.FE 6 Pb rfl rfl (Yl.load rfl rfl rfl (by rintro _ rfl;exact c5)) ?_
   refine ek.one 7 Pb rfl rfl (bU.call rfl rfl (iX (s.extract 4 s.size) ⟨([56]:List UInt8).toArray⟩ mx w5 OV (hx5.cell hmx)) (fun e w' h=>⟨_,h.1⟩)) ?_
   rintro _ w6 ⟨hv,hw6⟩
   obtain rfl:w5=w6:=hw6.symm
   cases hv
   have e5:Lib.contains (s.extract 4 s.size).data.toList (ByteArray.mk ([56]:List UInt8).toArray).data.toList=Lib.contains ((hG s).drop 4) [56]:=by rw[←rT]
   rw[e5]
   refine ek.done Pb ?_
   have b5:gQ w5 bk [.int .i64 8,.int .i64 16,.int .i64 32] 3:=hbr.aN hx5 id
   have hxw:Ext w w5:=hxr.trans hx5
   cases hct:Lib.contains ((hG s).drop 4) [56]with
   |true=>
    refine cA ?_
    refine aq.y (Yl.quo (r:=1) rfl rfl (fun w=>by kernel_rfl)) rfl ?_
    refine cA ?_
    refine Fin.aG rfl rfl ⟨?_,hxw⟩
    rw[if_pos rfl]
    unfold rQ
    simp[hct]
   |false=>
    refine cA ?_
    exact Fin.next 1 bH ⟨by omega,hxw,b5,fun _=>rfl,fun _=>by omega,fun _=>by omega⟩ Pi
  ·have c:wr.cell? ⟨bk,0+1,none⟩=some (.int .i64 16):=hbr.cell rfl
   refine cA ?_
   refine Cd.qV ?_
   refine NC ?_
   refine ND ?_
   refine NE ?_
   refine ek.take 4 rfl Pb (Yl.quo (r:=1) rfl rfl (fun w=>by kernel_rfl)) ?_
   refine NF ?_
   rintro _ w5 ⟨rfl,hn5⟩
   have hx5:Ext wr w5:=bX.trans ((bX.refl _ wr).drew) hn5.ext
   have c5:w5.cell? ⟨wr.drew.heap.size,0+1,none⟩=some (.string ⟨([49,54]:List UInt8).toArray⟩):=hn5.aW.cell rfl
   refine ek.take 5 rfl Pb (Yl.gn rfl rfl rfl rfl rfl (i:=1) rfl Pi) ?_
   refine ek.FE 6 Pb rfl rfl (Yl.load rfl rfl rfl (by rintro _ rfl;exact c5)) ?_
   refine ek.one 7 Pb rfl rfl (bU.call rfl rfl (iX (s.extract 4 s.size) ⟨([49,54]:List UInt8).toArray⟩ mx w5 OV (hx5.cell hmx)) (fun e w' h=>⟨_,h.1⟩)) ?_
   rintro _ w6 ⟨hv,hw6⟩
   obtain rfl:w5=w6:=hw6.symm
   cases hv
   have e5:Lib.contains (s.extract 4 s.size).data.toList (ByteArray.mk ([49,54]:List UInt8).toArray).data.toList=Lib.contains ((hG s).drop 4) [49,54]:=by rw[←rT]
   rw[e5]
   refine ek.done Pb ?_
   have b5:gQ w5 bk [.int .i64 8,.int .i64 16,.int .i64 32] 3:=hbr.aN hx5 id
   have hxw:Ext w w5:=hxr.trans hx5
   cases hct:Lib.contains ((hG s).drop 4) [49,54]with
   |true=>
    refine cA ?_
    refine aq.y (Yl.quo (r:=2) rfl rfl (fun w=>by kernel_rfl)) rfl ?_
    refine cA ?_
    refine Fin.aG rfl rfl ⟨?_,hxw⟩
    rw[if_pos rfl]
    unfold rQ
    simp[hct,g0 Pi]
   |false=>
    refine cA ?_
    exact Fin.next 2 bH ⟨by omega,hxw,b5,fun _=>g0 Pi,fun _=>rfl,fun _=>by omega⟩ Pi
  ·have c:wr.cell? ⟨bk,0+2,none⟩=some (.int .i64 32):=hbr.cell rfl
   refine cA ?_
   refine Cd.qV ?_
   refine NC ?_
   refine ND ?_
   refine NE ?_
   refine ek.take 4 rfl Pb (Yl.quo (r:=2) rfl rfl (fun w=>by kernel_rfl)) ?_
   refine NF ?_
   rintro _ w5 ⟨rfl,hn5⟩
   have hx5:Ext wr w5:=bX.trans ((bX.refl _ wr).drew) hn5.ext
   have c5:w5.cell? ⟨wr.drew.heap.size,0+2,none⟩=some (.string ⟨([51,50]:List UInt8).toArray⟩):=hn5.aW.cell rfl
   refine ek.take 5 rfl Pb (Yl.gn rfl rfl rfl rfl rfl (i:=2) rfl Pi) ?_
   refine ek.FE 6 Pb rfl rfl (Yl.load rfl rfl rfl (by rintro _ rfl;exact c5)) ?_
   refine ek.one 7 Pb rfl rfl (bU.call rfl rfl (iX (s.extract 4 s.size) ⟨([51,50]:List UInt8).toArray⟩ mx w5 OV (hx5.cell hmx)) (fun e w' h=>⟨_,h.1⟩)) ?_
   rintro _ w6 ⟨hv,hw6⟩
   obtain rfl:w5=w6:=hw6.symm
   cases hv
   have e5:Lib.contains (s.extract 4 s.size).data.toList (ByteArray.mk ([51,50]:List UInt8).toArray).data.toList=Lib.contains ((hG s).drop 4) [51,50]:=by rw[←rT]
   rw[e5]
   refine ek.done Pb ?_
   have b5:gQ w5 bk [.int .i64 8,.int .i64 16,.int .i64 32] 3:=hbr.aN hx5 id
   have hxw:Ext w w5:=hxr.trans hx5
   cases hct:Lib.contains ((hG s).drop 4) [51,50]with
   |true=>
    refine cA ?_
    refine aq.y (Yl.quo (r:=4) rfl rfl (fun w=>by kernel_rfl)) rfl ?_
    refine cA ?_
    refine Fin.aG rfl rfl ⟨?_,hxw⟩
    rw[if_pos rfl]
    unfold rQ
    simp[hct,g0 Pi,g1 Pi]
   |false=>
    refine cA ?_
    exact Fin.next 3 bH ⟨by omega,hxw,b5,fun _=>g0 Pi,fun _=>g1 Pi,fun _=>rfl⟩ Pi
  ·by_cases h3:((hG s).take 3==[105,51,50])=true
   ·refine cA ?_
    refine aq.y (Yl.ed underlying9 rfl rfl (i:=3) rfl Pi) rfl ?_
    refine aq.y (Yl.xj rfl rfl) rfl ?_
    rw[show(s.extract 0 3).data.toList=(hG s).take 3 from HP,show((ByteArray.mk #[105,51,50]).data.toList)=[105,51,50]from rfl,h3]
    refine cA ?_
    refine Fin.aG rfl rfl ⟨?_,hxr⟩
    rw[if_pos rfl]
    unfold rQ
    simp[g0 Pi,g1 Pi,g2 Pi,h3]
   ·refine cA ?_
    refine aq.y (Yl.ed underlying9 rfl rfl (i:=3) rfl Pi) rfl ?_
    refine aq.y (Yl.xj rfl rfl) rfl ?_
    rw[show(s.extract 0 3).data.toList=(hG s).take 3 from HP,show((ByteArray.mk #[105,51,50]).data.toList)=[105,51,50]from rfl,Bool.eq_false_iff.2 h3]
    refine cA ?_
    refine Fin.aG rfl rfl ⟨?_,hxr⟩
    rw[if_pos rfl]
    unfold rQ
    simp[g0 Pi,g1 Pi,g2 Pi,h3]
theorem ai.cH (F:Nat→Prop) (w:World):ai F w (.slice none 0 0) []:=⟨none,0,rfl,by simp,.inl rfl⟩
theorem ai.dR {w w':World} {cs:List Value} {T base n:Nat} {xs:List Int} (h:zk w w' cs T) (hx:cs=xs.map (Value.int .i64)) (hb:base≤w.heap.size) (_hl:xs.length≤1000000) (hn:n=xs.length:=by rfl):ai (fun k=>base≤k) w' (.slice (some ⟨w.heap.size,0,none⟩) n n) xs:=by
 subst hn;subst hx
 refine⟨_,_,rfl,by omega,?_⟩
 by_cases h0:xs=[]
 ·exact .inl h0
 ·refine .inr ⟨w.heap.size,0,rfl,hb,fun i hi=>?_⟩
  rw[Nat.zero_add]
  exact h.aW.cell OX
def Kq (B:Nat) (w:World) (v:Value) (x:aO):Prop:=∃cs,v=.agg cs.toArray∧dM (fun k=>B≤k) w cs x
def iQ (op t:Int) (s:List UInt8):aO:=
 if gl s [108,111,97,100]=true then⟨[1],[t]⟩
 else if gl s [115,116,111,114,101]=true then⟨[1,t],[]⟩
 else if(s==[101,113,122])=true then⟨[t],[1]⟩
 else if 70≤op∧op≤90 then⟨[t,t],[1]⟩
 else if(s==[99,108,122])=true∨(s==[99,116,122])=true∨(s==[112,111,112,99,110,116])=true∨gl s [101,120,116,101,110,100]=true then⟨[t],[t]⟩
 else⟨[t,t],[t]⟩
theorem pD (op t:Int) (s:ByteArray) (w:World):Calls G.P 147 #[.int .i64 op,.int .i64 t,.string s] w fun e w'=>(∃v,e=.returned v∧Kq w.heap.size w' v (iQ op t (hG s)))∧Ext w w':=by
 refine enter (G:=G) func147 rfl ntmps147 rfl ?_
 refine cA ?_
 refine NB ?_
 rintro _ w1 ⟨rfl,hn1⟩
 have hs1:=hn1.size
 have hb1:=hn1.aW
 have hxw1:Ext w1 w1:=bX.refl _ _
 refine cA ?_
 refine aq.call rfl rfl rfl (eI s _ w1) ?_
 rintro _ _ ⟨rfl,rfl⟩
 refine⟨_,rfl,?_⟩
 cases h1:gl (hG s) [108,111,97,100]with
 |true=>
  have hnum:iQ op t (hG s)=⟨[1],[t]⟩:=by unfold iQ;simp[h1]
  refine cA ?_
  refine NG ?_
  rintro _ wP ⟨rfl,hnP⟩
  have rP:ai (fun k=>w1.heap.size≤k) wP _ [1]:=ai.dR hnP rfl O1 Pj
  have hxwP:Ext w1 wP:=hxw1.trans hnP.ext
  refine cA ?_
  refine NH ?_
  rintro _ wR ⟨rfl,hnR⟩
  have rR:ai (fun k=>w1.heap.size≤k) wR _ [t]:=ai.dR hnR rfl O2 Pj
  have hxwR:Ext w1 wR:=hxwP.trans hnR.ext
  refine cA ?_
  refine NI ?_
  rintro _ wC ⟨rfl,hxC⟩
  refine⟨_,rfl,?_⟩
  have hxwC:Ext w1 wC:=hxwR.trans hxC
  refine cA ?_
  refine NJ ?_
  rintro _ wD ⟨hbD,hcD,-⟩
  refine cA ?_
  have hxD:Ext w wD:=bX.trans' (hn1.ext.trans hxwC) hcD (fun k hk e=>by omega)
  refine NK ?_
  rw[hnum]
  refine⟨_,rfl,_,_,rfl,?_,?_⟩
  ·exact(((rP.aN hnR.ext (fun _ _ _ h=>h)).aN hxC (fun _ _ _ h=>h)).aN hcD (fun k _ h e=>by omega)).mono (fun k _ h=>by omega)
  ·exact((rR.aN hxC (fun _ _ _ h=>h)).aN hcD (fun k _ h e=>by omega)).mono (fun k _ h=>by omega)
 |false=>
  refine cA ?_
  refine aq.call rfl rfl rfl (eI s _ w1) ?_
  rintro _ _ ⟨rfl,rfl⟩
  refine⟨_,rfl,?_⟩
  cases h2:gl (hG s) [115,116,111,114,101]with
  |true=>
   have hnum:iQ op t (hG s)=⟨[1,t],[]⟩:=by unfold iQ;simp[h1,h2]
   refine cA ?_
   refine aq.e (bU.buildSlice (cs:=[.int .i64 1,.int .i64 t]) (e:=59) rfl Pb) rfl ?_
   rintro _ wP ⟨rfl,hnP⟩
   have rP:ai (fun k=>w1.heap.size≤k) wP _ [1,t]:=ai.dR hnP rfl O1 Pj
   have hxwP:Ext w1 wP:=hxw1.trans hnP.ext
   refine cA ?_
   refine aq.call rfl rfl rfl (cD _ _ _ _ _ _ wP) ?_
   rintro _ wC ⟨rfl,hxC⟩
   refine⟨_,rfl,?_⟩
   have hxwC:Ext w1 wC:=hxwP.trans hxC
   refine cA ?_
   refine NJ ?_
   rintro _ wD ⟨hbD,hcD,-⟩
   refine cA ?_
   have hxD:Ext w wD:=bX.trans' (hn1.ext.trans hxwC) hcD (fun k hk e=>by omega)
   refine NK ?_
   rw[hnum]
   refine⟨_,rfl,_,_,rfl,?_,?_⟩
   ·exact((rP.aN hxC (fun _ _ _ h=>h)).aN hcD (fun k _ h e=>by omega)).mono (fun k _ h=>by omega)
   ·exact Mh
  |false=>
   refine cA ?_
   rw[show(ByteArray.mk #[101,113,122]).data.toList=[101,113,122]from rfl,show s.data.toList=hG s from rfl]
   cases h3:(hG s==[101,113,122])with
   |true=>
    have hnum:iQ op t (hG s)=⟨[t],[1]⟩:=by unfold iQ;simp[h1,h2,h3]
    refine cA ?_
    refine NH ?_
    rintro _ wP ⟨rfl,hnP⟩
    have rP:ai (fun k=>w1.heap.size≤k) wP _ [t]:=ai.dR hnP rfl O1 Pj
    have hxwP:Ext w1 wP:=hxw1.trans hnP.ext
    refine cA ?_
    refine NG ?_
    rintro _ wR ⟨rfl,hnR⟩
    have rR:ai (fun k=>w1.heap.size≤k) wR _ [1]:=ai.dR hnR rfl O2 Pj
    have hxwR:Ext w1 wR:=hxwP.trans hnR.ext
    refine cA ?_
    refine NI ?_
    rintro _ wC ⟨rfl,hxC⟩
    refine⟨_,rfl,?_⟩
    have hxwC:Ext w1 wC:=hxwR.trans hxC
    refine cA ?_
    refine NJ ?_
    rintro _ wD ⟨hbD,hcD,-⟩
    refine cA ?_
    have hxD:Ext w wD:=bX.trans' (hn1.ext.trans hxwC) hcD (fun k hk e=>by omega)
    refine NK ?_
    rw[hnum]
    refine⟨_,rfl,_,_,rfl,?_,?_⟩
    ·exact(((rP.aN hnR.ext (fun _ _ _ h=>h)).aN hxC (fun _ _ _ h=>h)).aN hcD (fun k _ h e=>by omega)).mono (fun k _ h=>by omega)
    ·exact((rR.aN hxC (fun _ _ _ h=>h)).aN hcD (fun k _ h e=>by omega)).mono (fun k _ h=>by omega)
   |false=>
    rcases(show op<70∨(70≤op∧90<op)∨(70≤op∧op≤90)by omega)with h4|⟨h4,h4'⟩|⟨h4,h4'⟩
    ·have hr:¬(70≤op∧op≤90):=by omega
     refine cA ?_
     rw[show(ByteArray.mk #[99,108,122]).data.toList=[99,108,122]from rfl,show s.data.toList=hG s from rfl]
     cases h5:(hG s==[99,108,122])with
     |true=>
      have hnum:iQ op t (hG s)=⟨[t],[t]⟩:=by unfold iQ;simp[h1,h2,h3,hr,h5]
      refine cA ?_
      refine NH ?_
      rintro _ wP ⟨rfl,hnP⟩
      have rP:ai (fun k=>w1.heap.size≤k) wP _ [t]:=ai.dR hnP rfl O1 Pj
      have hxwP:Ext w1 wP:=hxw1.trans hnP.ext
      refine cA ?_
      refine NH ?_
      rintro _ wR ⟨rfl,hnR⟩
      have rR:ai (fun k=>w1.heap.size≤k) wR _ [t]:=ai.dR hnR rfl O2 Pj
      have hxwR:Ext w1 wR:=hxwP.trans hnR.ext
      refine cA ?_
      refine NI ?_
      rintro _ wC ⟨rfl,hxC⟩
      refine⟨_,rfl,?_⟩
      have hxwC:Ext w1 wC:=hxwR.trans hxC
      refine cA ?_
      refine NJ ?_
      rintro _ wD ⟨hbD,hcD,-⟩
      refine cA ?_
      have hxD:Ext w wD:=bX.trans' (hn1.ext.trans hxwC) hcD (fun k hk e=>by omega)
      refine NK ?_
      rw[hnum]
      refine⟨_,rfl,_,_,rfl,?_,?_⟩
      ·exact(((rP.aN hnR.ext (fun _ _ _ h=>h)).aN hxC (fun _ _ _ h=>h)).aN hcD (fun k _ h e=>by omega)).mono (fun k _ h=>by omega)
      ·exact((rR.aN hxC (fun _ _ _ h=>h)).aN hcD (fun k _ h e=>by omega)).mono (fun k _ h=>by omega)
     |false=>
      refine cA ?_
      rw[show(ByteArray.mk #[99,116,122]).data.toList=[99,116,122]from rfl,show s.data.toList=hG s from rfl]
      cases h6:(hG s==[99,116,122])with
      |true=>
       have hnum:iQ op t (hG s)=⟨[t],[t]⟩:=by unfold iQ;simp[h1,h2,h3,hr,h5,h6]
       refine cA ?_
       refine NH ?_
       rintro _ wP ⟨rfl,hnP⟩
       have rP:ai (fun k=>w1.heap.size≤k) wP _ [t]:=ai.dR hnP rfl O1 Pj
       have hxwP:Ext w1 wP:=hxw1.trans hnP.ext
       refine cA ?_
       refine NH ?_
       rintro _ wR ⟨rfl,hnR⟩
       have rR:ai (fun k=>w1.heap.size≤k) wR _ [t]:=ai.dR hnR rfl O2 Pj
       have hxwR:Ext w1 wR:=hxwP.trans hnR.ext
       refine cA ?_
       refine NI ?_
       rintro _ wC ⟨rfl,hxC⟩
       refine⟨_,rfl,?_⟩
       have hxwC:Ext w1 wC:=hxwR.trans hxC
       refine cA ?_
       refine NJ ?_
       rintro _ wD ⟨hbD,hcD,-⟩
       refine cA ?_
       have hxD:Ext w wD:=bX.trans' (hn1.ext.trans hxwC) hcD (fun k hk e=>by omega)
       refine NK ?_
       rw[hnum]
       refine⟨_,rfl,_,_,rfl,?_,?_⟩
       ·exact(((rP.aN hnR.ext (fun _ _ _ h=>h)).aN hxC (fun _ _ _ h=>h)).aN hcD (fun k _ h e=>by omega)).mono (fun k _ h=>by omega)
       ·exact((rR.aN hxC (fun _ _ _ h=>h)).aN hcD (fun k _ h e=>by omega)).mono (fun k _ h=>by omega)
      |false=>
       refine cA ?_
       rw[show(ByteArray.mk #[112,111,112,99,110,116]).data.toList=[112,111,112,99,110,116]from rfl,show s.data.toList=hG s from rfl]
       cases h7:(hG s==[112,111,112,99,110,116])with
       |true=>
        have hnum:iQ op t (hG s)=⟨[t],[t]⟩:=by unfold iQ;simp[h1,h2,h3,hr,h5,h6,h7]
        refine cA ?_
        refine NH ?_
        rintro _ wP ⟨rfl,hnP⟩
        have rP:ai (fun k=>w1.heap.size≤k) wP _ [t]:=ai.dR hnP rfl O1 Pj
        have hxwP:Ext w1 wP:=hxw1.trans hnP.ext
        refine cA ?_
        refine NH ?_
        rintro _ wR ⟨rfl,hnR⟩
        have rR:ai (fun k=>w1.heap.size≤k) wR _ [t]:=ai.dR hnR rfl O2 Pj
        have hxwR:Ext w1 wR:=hxwP.trans hnR.ext
        refine cA ?_
        refine NI ?_
        rintro _ wC ⟨rfl,hxC⟩
        refine⟨_,rfl,?_⟩
        have hxwC:Ext w1 wC:=hxwR.trans hxC
        refine cA ?_
        refine NJ ?_
        rintro _ wD ⟨hbD,hcD,-⟩
        refine cA ?_
        have hxD:Ext w wD:=bX.trans' (hn1.ext.trans hxwC) hcD (fun k hk e=>by omega)
        refine NK ?_
        rw[hnum]
        refine⟨_,rfl,_,_,rfl,?_,?_⟩
        ·exact(((rP.aN hnR.ext (fun _ _ _ h=>h)).aN hxC (fun _ _ _ h=>h)).aN hcD (fun k _ h e=>by omega)).mono (fun k _ h=>by omega)
        ·exact((rR.aN hxC (fun _ _ _ h=>h)).aN hcD (fun k _ h e=>by omega)).mono (fun k _ h=>by omega)
       |false=>
        refine cA ?_
        refine aq.xg rfl rfl rfl rfl (eI s _ w1) ?_
        rintro _ _ ⟨rfl,rfl⟩
        refine⟨_,rfl,?_⟩
        cases h8:gl (hG s) [101,120,116,101,110,100]with
        |true=>
         have hnum:iQ op t (hG s)=⟨[t],[t]⟩:=by unfold iQ;simp[h1,h2,h3,hr,h5,h6,h7,h8]
         refine cA ?_
         refine NH ?_
         rintro _ wP ⟨rfl,hnP⟩
         have rP:ai (fun k=>w1.heap.size≤k) wP _ [t]:=ai.dR hnP rfl O1 Pj
         have hxwP:Ext w1 wP:=hxw1.trans hnP.ext
         refine cA ?_
         refine NH ?_
         rintro _ wR ⟨rfl,hnR⟩
         have rR:ai (fun k=>w1.heap.size≤k) wR _ [t]:=ai.dR hnR rfl O2 Pj
         have hxwR:Ext w1 wR:=hxwP.trans hnR.ext
         refine cA ?_
         refine NI ?_
         rintro _ wC ⟨rfl,hxC⟩
         refine⟨_,rfl,?_⟩
         have hxwC:Ext w1 wC:=hxwR.trans hxC
         refine cA ?_
         refine NJ ?_
         rintro _ wD ⟨hbD,hcD,-⟩
         refine cA ?_
         have hxD:Ext w wD:=bX.trans' (hn1.ext.trans hxwC) hcD (fun k hk e=>by omega)
         refine NK ?_
         rw[hnum]
         refine⟨_,rfl,_,_,rfl,?_,?_⟩
         ·exact(((rP.aN hnR.ext (fun _ _ _ h=>h)).aN hxC (fun _ _ _ h=>h)).aN hcD (fun k _ h e=>by omega)).mono (fun k _ h=>by omega)
         ·exact((rR.aN hxC (fun _ _ _ h=>h)).aN hcD (fun k _ h e=>by omega)).mono (fun k _ h=>by omega)
        |false=>
         have hnum:iQ op t (hG s)=⟨[t,t],[t]⟩:=by unfold iQ;simp[h1,h2,h3,hr,h5,h6,h7,h8]
         refine cA ?_
         refine NL ?_
         rintro _ wP ⟨rfl,hnP⟩
         have rP:ai (fun k=>w1.heap.size≤k) wP _ [t,t]:=ai.dR hnP rfl O1 Pj
         have hxwP:Ext w1 wP:=hxw1.trans hnP.ext
         refine cA ?_
         refine NH ?_
         rintro _ wR ⟨rfl,hnR⟩
         have rR:ai (fun k=>w1.heap.size≤k) wR _ [t]:=ai.dR hnR rfl O2 Pj
         have hxwR:Ext w1 wR:=hxwP.trans hnR.ext
         refine cA ?_
         refine NI ?_
         rintro _ wC ⟨rfl,hxC⟩
         refine⟨_,rfl,?_⟩
         have hxwC:Ext w1 wC:=hxwR.trans hxC
         refine cA ?_
         refine NJ ?_
         rintro _ wD ⟨hbD,hcD,-⟩
         refine cA ?_
         have hxD:Ext w wD:=bX.trans' (hn1.ext.trans hxwC) hcD (fun k hk e=>by omega)
         refine NK ?_
         rw[hnum]
         refine⟨_,rfl,_,_,rfl,?_,?_⟩
         ·exact(((rP.aN hnR.ext (fun _ _ _ h=>h)).aN hxC (fun _ _ _ h=>h)).aN hcD (fun k _ h e=>by omega)).mono (fun k _ h=>by omega)
         ·exact((rR.aN hxC (fun _ _ _ h=>h)).aN hcD (fun k _ h e=>by omega)).mono (fun k _ h=>by omega)
    ·have hr:¬(70≤op∧op≤90):=by omega
     refine cA ?_
     rw[show(ByteArray.mk #[99,108,122]).data.toList=[99,108,122]from rfl,show s.data.toList=hG s from rfl]
     cases h5:(hG s==[99,108,122])with
     |true=>
      have hnum:iQ op t (hG s)=⟨[t],[t]⟩:=by unfold iQ;simp[h1,h2,h3,hr,h5]
      refine cA ?_
      refine NH ?_
      rintro _ wP ⟨rfl,hnP⟩
      have rP:ai (fun k=>w1.heap.size≤k) wP _ [t]:=ai.dR hnP rfl O1 Pj
      have hxwP:Ext w1 wP:=hxw1.trans hnP.ext
      refine cA ?_
      refine NH ?_
      rintro _ wR ⟨rfl,hnR⟩
      have rR:ai (fun k=>w1.heap.size≤k) wR _ [t]:=ai.dR hnR rfl O2 Pj
      have hxwR:Ext w1 wR:=hxwP.trans hnR.ext
      refine cA ?_
      refine NI ?_
      rintro _ wC ⟨rfl,hxC⟩
      refine⟨_,rfl,?_⟩
      have hxwC:Ext w1 wC:=hxwR.trans hxC
      refine cA ?_
      refine NJ ?_
      rintro _ wD ⟨hbD,hcD,-⟩
      refine cA ?_
      have hxD:Ext w wD:=bX.trans' (hn1.ext.trans hxwC) hcD (fun k hk e=>by omega)
      refine NK ?_
      rw[hnum]
      refine⟨_,rfl,_,_,rfl,?_,?_⟩
      ·exact(((rP.aN hnR.ext (fun _ _ _ h=>h)).aN hxC (fun _ _ _ h=>h)).aN hcD (fun k _ h e=>by omega)).mono (fun k _ h=>by omega)
      ·exact((rR.aN hxC (fun _ _ _ h=>h)).aN hcD (fun k _ h e=>by omega)).mono (fun k _ h=>by omega)
     |false=>
      refine cA ?_
      rw[show(ByteArray.mk #[99,116,122]).data.toList=[99,116,122]from rfl,show s.data.toList=hG s from rfl]
      cases h6:(hG s==[99,116,122])with
      |true=>
       have hnum:iQ op t (hG s)=⟨[t],[t]⟩:=by unfold iQ;simp[h1,h2,h3,hr,h5,h6]
       refine cA ?_
       refine NH ?_
       rintro _ wP ⟨rfl,hnP⟩
       have rP:ai (fun k=>w1.heap.size≤k) wP _ [t]:=ai.dR hnP rfl O1 Pj
       have hxwP:Ext w1 wP:=hxw1.trans hnP.ext
       refine cA ?_
       refine NH ?_
       rintro _ wR ⟨rfl,hnR⟩
       have rR:ai (fun k=>w1.heap.size≤k) wR _ [t]:=ai.dR hnR rfl O2 Pj
       have hxwR:Ext w1 wR:=hxwP.trans hnR.ext
       refine cA ?_
       refine NI ?_
       rintro _ wC ⟨rfl,hxC⟩
       refine⟨_,rfl,?_⟩
       have hxwC:Ext w1 wC:=hxwR.trans hxC
       refine cA ?_
       refine NJ ?_
       rintro _ wD ⟨hbD,hcD,-⟩
       refine cA ?_
       have hxD:Ext w wD:=bX.trans' (hn1.ext.trans hxwC) hcD (fun k hk e=>by omega)
       refine NK ?_
       rw[hnum]
       refine⟨_,rfl,_,_,rfl,?_,?_⟩
       ·exact(((rP.aN hnR.ext (fun _ _ _ h=>h)).aN hxC (fun _ _ _ h=>h)).aN hcD (fun k _ h e=>by omega)).mono (fun k _ h=>by omega)
       ·exact((rR.aN hxC (fun _ _ _ h=>h)).aN hcD (fun k _ h e=>by omega)).mono (fun k _ h=>by omega)
      |false=>
       refine cA ?_
       rw[show(ByteArray.mk #[112,111,112,99,110,116]).data.toList=[112,111,112,99,110,116]from rfl,show s.data.toList=hG s from rfl]
       cases h7:(hG s==[112,111,112,99,110,116])with
       |true=>
        have hnum:iQ op t (hG s)=⟨[t],[t]⟩:=by unfold iQ;simp[h1,h2,h3,hr,h5,h6,h7]
        refine cA ?_
        refine NH ?_
        rintro _ wP ⟨rfl,hnP⟩
        have rP:ai (fun k=>w1.heap.size≤k) wP _ [t]:=ai.dR hnP rfl O1 Pj
        have hxwP:Ext w1 wP:=hxw1.trans hnP.ext
        refine cA ?_
        refine NH ?_
        rintro _ wR ⟨rfl,hnR⟩
        have rR:ai (fun k=>w1.heap.size≤k) wR _ [t]:=ai.dR hnR rfl O2 Pj
        have hxwR:Ext w1 wR:=hxwP.trans hnR.ext
        refine cA ?_
        refine NI ?_
        rintro _ wC ⟨rfl,hxC⟩
        refine⟨_,rfl,?_⟩
        have hxwC:Ext w1 wC:=hxwR.trans hxC
        refine cA ?_
        refine NJ ?_
        rintro _ wD ⟨hbD,hcD,-⟩
        refine cA ?_
        have hxD:Ext w wD:=bX.trans' (hn1.ext.trans hxwC) hcD (fun k hk e=>by omega)
        refine NK ?_
        rw[hnum]
        refine⟨_,rfl,_,_,rfl,?_,?_⟩
        ·exact(((rP.aN hnR.ext (fun _ _ _ h=>h)).aN hxC (fun _ _ _ h=>h)).aN hcD (fun k _ h e=>by omega)).mono (fun k _ h=>by omega)
        ·exact((rR.aN hxC (fun _ _ _ h=>h)).aN hcD (fun k _ h e=>by omega)).mono (fun k _ h=>by omega)
       |false=>
        refine cA ?_
        refine aq.xg rfl rfl rfl rfl (eI s _ w1) ?_
        rintro _ _ ⟨rfl,rfl⟩
        refine⟨_,rfl,?_⟩
        cases h8:gl (hG s) [101,120,116,101,110,100]with
        |true=>
         have hnum:iQ op t (hG s)=⟨[t],[t]⟩:=by unfold iQ;simp[h1,h2,h3,hr,h5,h6,h7,h8]
         refine cA ?_
         refine NH ?_
         rintro _ wP ⟨rfl,hnP⟩
         have rP:ai (fun k=>w1.heap.size≤k) wP _ [t]:=ai.dR hnP rfl O1 Pj
         have hxwP:Ext w1 wP:=hxw1.trans hnP.ext
         refine cA ?_
         refine NH ?_
         rintro _ wR ⟨rfl,hnR⟩
         have rR:ai (fun k=>w1.heap.size≤k) wR _ [t]:=ai.dR hnR rfl O2 Pj
         have hxwR:Ext w1 wR:=hxwP.trans hnR.ext
         refine cA ?_
         refine NI ?_
         rintro _ wC ⟨rfl,hxC⟩
         refine⟨_,rfl,?_⟩
         have hxwC:Ext w1 wC:=hxwR.trans hxC
         refine cA ?_
         refine NJ ?_
         rintro _ wD ⟨hbD,hcD,-⟩
         refine cA ?_
         have hxD:Ext w wD:=bX.trans' (hn1.ext.trans hxwC) hcD (fun k hk e=>by omega)
         refine NK ?_
         rw[hnum]
         refine⟨_,rfl,_,_,rfl,?_,?_⟩
         ·exact(((rP.aN hnR.ext (fun _ _ _ h=>h)).aN hxC (fun _ _ _ h=>h)).aN hcD (fun k _ h e=>by omega)).mono (fun k _ h=>by omega)
         ·exact((rR.aN hxC (fun _ _ _ h=>h)).aN hcD (fun k _ h e=>by omega)).mono (fun k _ h=>by omega)
        |false=>
         have hnum:iQ op t (hG s)=⟨[t,t],[t]⟩:=by unfold iQ;simp[h1,h2,h3,hr,h5,h6,h7,h8]
         refine cA ?_
         refine NL ?_
         rintro _ wP ⟨rfl,hnP⟩
         have rP:ai (fun k=>w1.heap.size≤k) wP _ [t,t]:=ai.dR hnP rfl O1 Pj
         have hxwP:Ext w1 wP:=hxw1.trans hnP.ext
         refine cA ?_
         refine NH ?_
         rintro _ wR ⟨rfl,hnR⟩
         have rR:ai (fun k=>w1.heap.size≤k) wR _ [t]:=ai.dR hnR rfl O2 Pj
         have hxwR:Ext w1 wR:=hxwP.trans hnR.ext
         refine cA ?_
         refine NI ?_
         rintro _ wC ⟨rfl,hxC⟩
         refine⟨_,rfl,?_⟩
         have hxwC:Ext w1 wC:=hxwR.trans hxC
         refine cA ?_
         refine NJ ?_
         rintro _ wD ⟨hbD,hcD,-⟩
         refine cA ?_
         have hxD:Ext w wD:=bX.trans' (hn1.ext.trans hxwC) hcD (fun k hk e=>by omega)
         refine NK ?_
         rw[hnum]
         refine⟨_,rfl,_,_,rfl,?_,?_⟩
         ·exact(((rP.aN hnR.ext (fun _ _ _ h=>h)).aN hxC (fun _ _ _ h=>h)).aN hcD (fun k _ h e=>by omega)).mono (fun k _ h=>by omega)
         ·exact((rR.aN hxC (fun _ _ _ h=>h)).aN hcD (fun k _ h e=>by omega)).mono (fun k _ h=>by omega)
    ·skip
     have hnum:iQ op t (hG s)=⟨[t,t],[1]⟩:=by unfold iQ;simp[h1,h2,h3,h4,h4']
     refine cA ?_
     refine NL ?_
     rintro _ wP ⟨rfl,hnP⟩
     have rP:ai (fun k=>w1.heap.size≤k) wP _ [t,t]:=ai.dR hnP rfl O1 Pj
     have hxwP:Ext w1 wP:=hxw1.trans hnP.ext
     refine cA ?_
     refine NG ?_
     rintro _ wR ⟨rfl,hnR⟩
     have rR:ai (fun k=>w1.heap.size≤k) wR _ [1]:=ai.dR hnR rfl O2 Pj
     have hxwR:Ext w1 wR:=hxwP.trans hnR.ext
     refine cA ?_
     refine NI ?_
     rintro _ wC ⟨rfl,hxC⟩
     refine⟨_,rfl,?_⟩
     have hxwC:Ext w1 wC:=hxwR.trans hxC
     refine cA ?_
     refine NJ ?_
     rintro _ wD ⟨hbD,hcD,-⟩
     refine cA ?_
     have hxD:Ext w wD:=bX.trans' (hn1.ext.trans hxwC) hcD (fun k hk e=>by omega)
     refine NK ?_
     rw[hnum]
     refine⟨_,rfl,_,_,rfl,?_,?_⟩
     ·exact(((rP.aN hnR.ext (fun _ _ _ h=>h)).aN hxC (fun _ _ _ h=>h)).aN hcD (fun k _ h e=>by omega)).mono (fun k _ h=>by omega)
     ·exact((rR.aN hxC (fun _ _ _ h=>h)).aN hcD (fun k _ h e=>by omega)).mono (fun k _ h=>by omega)
def fQ (op:Int):Option aO:=
 if op=1∨op=64525∨op=64521 then some ⟨[],[]⟩
 else if op=65∨op=63∨op=64528 then some ⟨[],[1]⟩
 else if op=66 then some ⟨[],[2]⟩
 else if op=210 then some ⟨[],[3]⟩
 else if op=64 then some ⟨[1],[1]⟩
 else if op=64523∨op=64522∨op=64520∨op=64526∨op=64524 then some ⟨[1,1,1],[]⟩
 else if op=167 then some ⟨[2],[1]⟩
 else if op=172∨op=173 then some ⟨[1],[2]⟩
 else if gl (hG (ia op)) [105,51,50,46]=true∨gl (hG (ia op)) [105,54,52,46]=true then some (iQ op (Gw (hG (ia op))) ((hG (ia op)).drop 4))
 else none
theorem tJ {s p:List UInt8} (h:gl s p=true):p.length≤s.length:=by
 unfold gl at h;simp only[Bool.and_eq_true,decide_eq_true_eq]at h;exact h.1
def Gr (w:World) (r:Option aO) (e:Ending) (w':World):Prop:=(∃v,e=.returned (.tuple #[v,.bool r.isSome])∧Kq w.heap.size w' v (r.getD ⟨[],[]⟩))∧Ext w w'
theorem BD (op:Int) (w:World) (h0:fK w):Calls G.P 104 #[.int .i64 op] w (Gr w (fQ op)):=by
 refine enter (G:=G) func104 rfl ntmps104 rfl ?_
 refine cA ?_
 refine NB ?_
 rintro _ w1 ⟨rfl,hn1⟩
 have hs1:=hn1.size
 refine cA ?_
 refine aq.e (bU.buildSlice (cs:=[.int .i64 1,.int .i64 1,.int .i64 1]) (e:=59) rfl Pb) rfl ?_
 rintro _ w2 ⟨rfl,hn2⟩
 have hb1:=hn1.aW.aN hn2.ext id
 have r3:ai (fun k=>w1.heap.size≤k) w2 (.slice (some ⟨w1.heap.size,0,none⟩) 3 3) [1,1,1]:=ai.dR hn2 rfl Pi Pj
 have r1:ai (fun k=>w1.heap.size≤k) w2 (.slice (some ⟨w1.heap.size,0,none⟩) 1 3) [1]:=⟨_,_,rfl,by simp,.inr ⟨_,0,rfl,Nat.le_refl _,fun i hi=>by
  obtain rfl:i=0:=by simpa using hi
  exact hn2.aW.cell rfl⟩⟩
 have hxw2:Ext w w2:=hn1.ext.trans hn2.ext
 have hx2:Ext w2 w2:=bX.refl _ _
 rcases(show op=1∨op=64525∨op=64521∨op=65∨op=63∨op=64528∨op=66∨op=210∨op=64∨op=64523∨op=64522∨op=64520∨op=64526∨op=64524∨op=167∨op=172∨op=173∨(op≠1∧op≠64525∧op≠64521∧op≠65∧op≠63∧op≠64528∧op≠66∧op≠210∧op≠64∧op≠64523∧op≠64522∧op≠64520∧op≠64526∧op≠64524∧op≠167∧op≠172∧op≠173)from by omega)with hc_|hc_|hc_|hc_|hc_|hc_|hc_|hc_|hc_|hc_|hc_|hc_|hc_|hc_|hc_|hc_|hc_|⟨hc1_,hc64525_,hc64521_,hc65_,hc63_,hc64528_,hc66_,hc210_,hc64_,hc64523_,hc64522_,hc64520_,hc64526_,hc64524_,hc167_,hc172_,hc173_⟩
 ·have hsg:fQ op=some ⟨[],[]⟩:=by rw[hc_];rfl
  refine cA ?_
  refine NM ?_
  rintro _ wD ⟨hbD,hcD,-⟩
  refine cA ?_
  have hxD:Ext w wD:=bX.trans' hxw2 hcD (fun k hk e=>by omega)
  refine Fin.aM (.inl rfl) rfl rfl rfl rfl rfl hbD rfl rfl ⟨⟨_,by rw[hsg];rfl,?_⟩,hxD⟩
  rw[hsg]
  refine⟨_,rfl,_,_,rfl,?_,?_⟩
  ·exact Mh
  ·exact Mh
 ·have hsg:fQ op=some ⟨[],[]⟩:=by rw[hc_];rfl
  refine cA ?_
  refine NM ?_
  rintro _ wD ⟨hbD,hcD,-⟩
  refine cA ?_
  have hxD:Ext w wD:=bX.trans' hxw2 hcD (fun k hk e=>by omega)
  refine Fin.aM (.inl rfl) rfl rfl rfl rfl rfl hbD rfl rfl ⟨⟨_,by rw[hsg];rfl,?_⟩,hxD⟩
  rw[hsg]
  refine⟨_,rfl,_,_,rfl,?_,?_⟩
  ·exact Mh
  ·exact Mh
 ·have hsg:fQ op=some ⟨[],[]⟩:=by rw[hc_];rfl
  refine cA ?_
  refine NM ?_
  rintro _ wD ⟨hbD,hcD,-⟩
  refine cA ?_
  have hxD:Ext w wD:=bX.trans' hxw2 hcD (fun k hk e=>by omega)
  refine Fin.aM (.inl rfl) rfl rfl rfl rfl rfl hbD rfl rfl ⟨⟨_,by rw[hsg];rfl,?_⟩,hxD⟩
  rw[hsg]
  refine⟨_,rfl,_,_,rfl,?_,?_⟩
  ·exact Mh
  ·exact Mh
 ·have hsg:fQ op=some ⟨[],[1]⟩:=by rw[hc_];rfl
  refine cA ?_
  refine NG ?_
  rintro _ wR ⟨rfl,hnR⟩
  have qR:ai (fun k=>w1.heap.size≤k) wR _ [1]:=ai.dR hnR rfl OU Pj
  have hxR:Ext w2 wR:=hx2.trans hnR.ext
  refine cA ?_
  refine NI ?_
  rintro _ wC ⟨rfl,hxC⟩
  refine⟨_,rfl,?_⟩
  have hxwC:Ext w2 wC:=hxR.trans hxC
  refine cA ?_
  refine NJ ?_
  rintro _ wD ⟨hbD,hcD,-⟩
  refine cA ?_
  have hxD:Ext w wD:=bX.trans' (hxw2.trans hxwC) hcD (fun k hk e=>by omega)
  refine Fin.aM (.inl rfl) rfl rfl rfl rfl rfl hbD rfl rfl ⟨⟨_,by rw[hsg];rfl,?_⟩,hxD⟩
  rw[hsg]
  refine⟨_,rfl,_,_,rfl,?_,?_⟩
  ·exact Mh
  ·exact((qR.aN hxC (fun _ _ _ h=>h)).aN hcD (fun k _ h e=>by omega)).mono (fun k _ h=>by omega)
 ·have hsg:fQ op=some ⟨[],[1]⟩:=by rw[hc_];rfl
  refine cA ?_
  refine NG ?_
  rintro _ wR ⟨rfl,hnR⟩
  have qR:ai (fun k=>w1.heap.size≤k) wR _ [1]:=ai.dR hnR rfl OU Pj
  have hxR:Ext w2 wR:=hx2.trans hnR.ext
  refine cA ?_
  refine NI ?_
  rintro _ wC ⟨rfl,hxC⟩
  refine⟨_,rfl,?_⟩
  have hxwC:Ext w2 wC:=hxR.trans hxC
  refine cA ?_
  refine NJ ?_
  rintro _ wD ⟨hbD,hcD,-⟩
  refine cA ?_
  have hxD:Ext w wD:=bX.trans' (hxw2.trans hxwC) hcD (fun k hk e=>by omega)
  refine Fin.aM (.inl rfl) rfl rfl rfl rfl rfl hbD rfl rfl ⟨⟨_,by rw[hsg];rfl,?_⟩,hxD⟩
  rw[hsg]
  refine⟨_,rfl,_,_,rfl,?_,?_⟩
  ·exact Mh
  ·exact((qR.aN hxC (fun _ _ _ h=>h)).aN hcD (fun k _ h e=>by omega)).mono (fun k _ h=>by omega)
 ·have hsg:fQ op=some ⟨[],[1]⟩:=by rw[hc_];rfl
  refine cA ?_
  refine NG ?_
  rintro _ wR ⟨rfl,hnR⟩
  have qR:ai (fun k=>w1.heap.size≤k) wR _ [1]:=ai.dR hnR rfl OU Pj
  have hxR:Ext w2 wR:=hx2.trans hnR.ext
  refine cA ?_
  refine NI ?_
  rintro _ wC ⟨rfl,hxC⟩
  refine⟨_,rfl,?_⟩
  have hxwC:Ext w2 wC:=hxR.trans hxC
  refine cA ?_
  refine NJ ?_
  rintro _ wD ⟨hbD,hcD,-⟩
  refine cA ?_
  have hxD:Ext w wD:=bX.trans' (hxw2.trans hxwC) hcD (fun k hk e=>by omega)
  refine Fin.aM (.inl rfl) rfl rfl rfl rfl rfl hbD rfl rfl ⟨⟨_,by rw[hsg];rfl,?_⟩,hxD⟩
  rw[hsg]
  refine⟨_,rfl,_,_,rfl,?_,?_⟩
  ·exact Mh
  ·exact((qR.aN hxC (fun _ _ _ h=>h)).aN hcD (fun k _ h e=>by omega)).mono (fun k _ h=>by omega)
 ·have hsg:fQ op=some ⟨[],[2]⟩:=by rw[hc_];rfl
  refine cA ?_
  refine NN ?_
  rintro _ wR ⟨rfl,hnR⟩
  have qR:ai (fun k=>w1.heap.size≤k) wR _ [2]:=ai.dR hnR rfl OU Pj
  have hxR:Ext w2 wR:=hx2.trans hnR.ext
  refine cA ?_
  refine NI ?_
  rintro _ wC ⟨rfl,hxC⟩
  refine⟨_,rfl,?_⟩
  have hxwC:Ext w2 wC:=hxR.trans hxC
  refine cA ?_
  refine NJ ?_
  rintro _ wD ⟨hbD,hcD,-⟩
  refine cA ?_
  have hxD:Ext w wD:=bX.trans' (hxw2.trans hxwC) hcD (fun k hk e=>by omega)
  refine Fin.aM (.inl rfl) rfl rfl rfl rfl rfl hbD rfl rfl ⟨⟨_,by rw[hsg];rfl,?_⟩,hxD⟩
  rw[hsg]
  refine⟨_,rfl,_,_,rfl,?_,?_⟩
  ·exact Mh
  ·exact((qR.aN hxC (fun _ _ _ h=>h)).aN hcD (fun k _ h e=>by omega)).mono (fun k _ h=>by omega)
 ·have hsg:fQ op=some ⟨[],[3]⟩:=by rw[hc_];rfl
  refine cA ?_
  refine aq.e (bU.buildSlice (cs:=[.int .i64 3]) (e:=59) rfl Pb) rfl ?_
  rintro _ wR ⟨rfl,hnR⟩
  have qR:ai (fun k=>w1.heap.size≤k) wR _ [3]:=ai.dR hnR rfl OU Pj
  have hxR:Ext w2 wR:=hx2.trans hnR.ext
  refine cA ?_
  refine NI ?_
  rintro _ wC ⟨rfl,hxC⟩
  refine⟨_,rfl,?_⟩
  have hxwC:Ext w2 wC:=hxR.trans hxC
  refine cA ?_
  refine NJ ?_
  rintro _ wD ⟨hbD,hcD,-⟩
  refine cA ?_
  have hxD:Ext w wD:=bX.trans' (hxw2.trans hxwC) hcD (fun k hk e=>by omega)
  refine Fin.aM (.inl rfl) rfl rfl rfl rfl rfl hbD rfl rfl ⟨⟨_,by rw[hsg];rfl,?_⟩,hxD⟩
  rw[hsg]
  refine⟨_,rfl,_,_,rfl,?_,?_⟩
  ·exact Mh
  ·exact((qR.aN hxC (fun _ _ _ h=>h)).aN hcD (fun k _ h e=>by omega)).mono (fun k _ h=>by omega)
 ·have hsg:fQ op=some ⟨[1],[1]⟩:=by rw[hc_];rfl
  refine cA ?_
  refine aq.y (Yl.cZ rfl rfl rfl rfl rfl (i:=1) rfl Pi) rfl ?_
  refine cA ?_
  refine NG ?_
  rintro _ wR ⟨rfl,hnR⟩
  have qR:ai (fun k=>w1.heap.size≤k) wR _ [1]:=ai.dR hnR rfl OU Pj
  have hxR:Ext w2 wR:=hx2.trans hnR.ext
  refine cA ?_
  refine NI ?_
  rintro _ wC ⟨rfl,hxC⟩
  refine⟨_,rfl,?_⟩
  have hxwC:Ext w2 wC:=hxR.trans hxC
  refine cA ?_
  refine NJ ?_
  rintro _ wD ⟨hbD,hcD,-⟩
  refine cA ?_
  have hxD:Ext w wD:=bX.trans' (hxw2.trans hxwC) hcD (fun k hk e=>by omega)
  refine Fin.aM (.inl rfl) rfl rfl rfl rfl rfl hbD rfl rfl ⟨⟨_,by rw[hsg];rfl,?_⟩,hxD⟩
  rw[hsg]
  refine⟨_,rfl,_,_,rfl,?_,?_⟩
  ·exact(((r1.aN hnR.ext (fun _ _ _ h=>h)).aN hxC (fun _ _ _ h=>h)).aN hcD (fun k _ h e=>by omega)).mono (fun k _ h=>by omega)
  ·exact((qR.aN hxC (fun _ _ _ h=>h)).aN hcD (fun k _ h e=>by omega)).mono (fun k _ h=>by omega)
 ·have hsg:fQ op=some ⟨[1,1,1],[]⟩:=by rw[hc_];rfl
  refine cA ?_
  refine NO ?_
  rintro _ wC ⟨rfl,hxC⟩
  refine⟨_,rfl,?_⟩
  have hxwC:Ext w2 wC:=hx2.trans hxC
  refine cA ?_
  refine NJ ?_
  rintro _ wD ⟨hbD,hcD,-⟩
  refine cA ?_
  have hxD:Ext w wD:=bX.trans' (hxw2.trans hxwC) hcD (fun k hk e=>by omega)
  refine Fin.aM (.inl rfl) rfl rfl rfl rfl rfl hbD rfl rfl ⟨⟨_,by rw[hsg];rfl,?_⟩,hxD⟩
  rw[hsg]
  refine⟨_,rfl,_,_,rfl,?_,?_⟩
  ·exact((r3.aN hxC (fun _ _ _ h=>h)).aN hcD (fun k _ h e=>by omega)).mono (fun k _ h=>by omega)
  ·exact Mh
 ·have hsg:fQ op=some ⟨[1,1,1],[]⟩:=by rw[hc_];rfl
  refine cA ?_
  refine NO ?_
  rintro _ wC ⟨rfl,hxC⟩
  refine⟨_,rfl,?_⟩
  have hxwC:Ext w2 wC:=hx2.trans hxC
  refine cA ?_
  refine NJ ?_
  rintro _ wD ⟨hbD,hcD,-⟩
  refine cA ?_
  have hxD:Ext w wD:=bX.trans' (hxw2.trans hxwC) hcD (fun k hk e=>by omega)
  refine Fin.aM (.inl rfl) rfl rfl rfl rfl rfl hbD rfl rfl ⟨⟨_,by rw[hsg];rfl,?_⟩,hxD⟩
  rw[hsg]
  refine⟨_,rfl,_,_,rfl,?_,?_⟩
  ·exact((r3.aN hxC (fun _ _ _ h=>h)).aN hcD (fun k _ h e=>by omega)).mono (fun k _ h=>by omega)
  ·exact Mh
 ·have hsg:fQ op=some ⟨[1,1,1],[]⟩:=by rw[hc_];rfl
  refine cA ?_
  refine NO ?_
  rintro _ wC ⟨rfl,hxC⟩
  refine⟨_,rfl,?_⟩
  have hxwC:Ext w2 wC:=hx2.trans hxC
  refine cA ?_
  refine NJ ?_
  rintro _ wD ⟨hbD,hcD,-⟩
  refine cA ?_
  have hxD:Ext w wD:=bX.trans' (hxw2.trans hxwC) hcD (fun k hk e=>by omega)
  refine Fin.aM (.inl rfl) rfl rfl rfl rfl rfl hbD rfl rfl ⟨⟨_,by rw[hsg];rfl,?_⟩,hxD⟩
  rw[hsg]
  refine⟨_,rfl,_,_,rfl,?_,?_⟩
  ·exact((r3.aN hxC (fun _ _ _ h=>h)).aN hcD (fun k _ h e=>by omega)).mono (fun k _ h=>by omega)
  ·exact Mh
 ·have hsg:fQ op=some ⟨[1,1,1],[]⟩:=by rw[hc_];rfl
  refine cA ?_
  refine NO ?_
  rintro _ wC ⟨rfl,hxC⟩
  refine⟨_,rfl,?_⟩
  have hxwC:Ext w2 wC:=hx2.trans hxC
  refine cA ?_
  refine NJ ?_
  rintro _ wD ⟨hbD,hcD,-⟩
  refine cA ?_
  have hxD:Ext w wD:=bX.trans' (hxw2.trans hxwC) hcD (fun k hk e=>by omega)
  refine Fin.aM (.inl rfl) rfl rfl rfl rfl rfl hbD rfl rfl ⟨⟨_,by rw[hsg];rfl,?_⟩,hxD⟩
  rw[hsg]
  refine⟨_,rfl,_,_,rfl,?_,?_⟩
  ·exact((r3.aN hxC (fun _ _ _ h=>h)).aN hcD (fun k _ h e=>by omega)).mono (fun k _ h=>by omega)
  ·exact Mh
 ·have hsg:fQ op=some ⟨[1,1,1],[]⟩:=by rw[hc_];rfl
  refine cA ?_
  refine NO ?_
  rintro _ wC ⟨rfl,hxC⟩
  refine⟨_,rfl,?_⟩
  have hxwC:Ext w2 wC:=hx2.trans hxC
  refine cA ?_
  refine NJ ?_
  rintro _ wD ⟨hbD,hcD,-⟩
  refine cA ?_
  have hxD:Ext w wD:=bX.trans' (hxw2.trans hxwC) hcD (fun k hk e=>by omega)
  refine Fin.aM (.inl rfl) rfl rfl rfl rfl rfl hbD rfl rfl ⟨⟨_,by rw[hsg];rfl,?_⟩,hxD⟩
  rw[hsg]
  refine⟨_,rfl,_,_,rfl,?_,?_⟩
  ·exact((r3.aN hxC (fun _ _ _ h=>h)).aN hcD (fun k _ h e=>by omega)).mono (fun k _ h=>by omega)
  ·exact Mh
 ·have hsg:fQ op=some ⟨[2],[1]⟩:=by rw[hc_];rfl
  refine cA ?_
  refine NN ?_
  rintro _ wP ⟨rfl,hnP⟩
  have qP:ai (fun k=>w1.heap.size≤k) wP _ [2]:=ai.dR hnP rfl OU Pj
  have hxP:Ext w2 wP:=hx2.trans hnP.ext
  refine cA ?_
  refine NG ?_
  rintro _ wR ⟨rfl,hnR⟩
  have qR:ai (fun k=>w1.heap.size≤k) wR _ [1]:=ai.dR hnR rfl (by have:=hn2.ext.size;have:=hxP.size;omega) Pj
  have hxR:Ext w2 wR:=hxP.trans hnR.ext
  refine cA ?_
  refine NI ?_
  rintro _ wC ⟨rfl,hxC⟩
  refine⟨_,rfl,?_⟩
  have hxwC:Ext w2 wC:=hxR.trans hxC
  refine cA ?_
  refine NJ ?_
  rintro _ wD ⟨hbD,hcD,-⟩
  refine cA ?_
  have hxD:Ext w wD:=bX.trans' (hxw2.trans hxwC) hcD (fun k hk e=>by omega)
  refine Fin.aM (.inl rfl) rfl rfl rfl rfl rfl hbD rfl rfl ⟨⟨_,by rw[hsg];rfl,?_⟩,hxD⟩
  rw[hsg]
  refine⟨_,rfl,_,_,rfl,?_,?_⟩
  ·exact(((qP.aN hnR.ext (fun _ _ _ h=>h)).aN hxC (fun _ _ _ h=>h)).aN hcD (fun k _ h e=>by omega)).mono (fun k _ h=>by omega)
  ·exact((qR.aN hxC (fun _ _ _ h=>h)).aN hcD (fun k _ h e=>by omega)).mono (fun k _ h=>by omega)
 ·have hsg:fQ op=some ⟨[1],[2]⟩:=by rw[hc_];rfl
  refine cA ?_
  refine aq.y (Yl.cZ rfl rfl rfl rfl rfl (i:=1) rfl Pi) rfl ?_
  refine cA ?_
  refine NN ?_
  rintro _ wR ⟨rfl,hnR⟩
  have qR:ai (fun k=>w1.heap.size≤k) wR _ [2]:=ai.dR hnR rfl OU Pj
  have hxR:Ext w2 wR:=hx2.trans hnR.ext
  refine cA ?_
  refine NI ?_
  rintro _ wC ⟨rfl,hxC⟩
  refine⟨_,rfl,?_⟩
  have hxwC:Ext w2 wC:=hxR.trans hxC
  refine cA ?_
  refine NJ ?_
  rintro _ wD ⟨hbD,hcD,-⟩
  refine cA ?_
  have hxD:Ext w wD:=bX.trans' (hxw2.trans hxwC) hcD (fun k hk e=>by omega)
  refine Fin.aM (.inl rfl) rfl rfl rfl rfl rfl hbD rfl rfl ⟨⟨_,by rw[hsg];rfl,?_⟩,hxD⟩
  rw[hsg]
  refine⟨_,rfl,_,_,rfl,?_,?_⟩
  ·exact(((r1.aN hnR.ext (fun _ _ _ h=>h)).aN hxC (fun _ _ _ h=>h)).aN hcD (fun k _ h e=>by omega)).mono (fun k _ h=>by omega)
  ·exact((qR.aN hxC (fun _ _ _ h=>h)).aN hcD (fun k _ h e=>by omega)).mono (fun k _ h=>by omega)
 ·have hsg:fQ op=some ⟨[1],[2]⟩:=by rw[hc_];rfl
  refine cA ?_
  refine aq.y (Yl.cZ rfl rfl rfl rfl rfl (i:=1) rfl Pi) rfl ?_
  refine cA ?_
  refine NN ?_
  rintro _ wR ⟨rfl,hnR⟩
  have qR:ai (fun k=>w1.heap.size≤k) wR _ [2]:=ai.dR hnR rfl OU Pj
  have hxR:Ext w2 wR:=hx2.trans hnR.ext
  refine cA ?_
  refine NI ?_
  rintro _ wC ⟨rfl,hxC⟩
  refine⟨_,rfl,?_⟩
  have hxwC:Ext w2 wC:=hxR.trans hxC
  refine cA ?_
  refine NJ ?_
  rintro _ wD ⟨hbD,hcD,-⟩
  refine cA ?_
  have hxD:Ext w wD:=bX.trans' (hxw2.trans hxwC) hcD (fun k hk e=>by omega)
  refine Fin.aM (.inl rfl) rfl rfl rfl rfl rfl hbD rfl rfl ⟨⟨_,by rw[hsg];rfl,?_⟩,hxD⟩
  rw[hsg]
  refine⟨_,rfl,_,_,rfl,?_,?_⟩
  ·exact(((r1.aN hnR.ext (fun _ _ _ h=>h)).aN hxC (fun _ _ _ h=>h)).aN hcD (fun k _ h e=>by omega)).mono (fun k _ h=>by omega)
  ·exact((qR.aN hxC (fun _ _ _ h=>h)).aN hcD (fun k _ h e=>by omega)).mono (fun k _ h=>by omega)
 ·have hsg:fQ op=if gl (hG (ia op)) [105,51,50,46]=true∨gl (hG (ia op)) [105,54,52,46]=true then some (iQ op (Gw (hG (ia op))) ((hG (ia op)).drop 4))else none:=by
   unfold fQ
   rw[if_neg Pi,if_neg Pi,if_neg Pi,if_neg Pi,if_neg Pi,if_neg Pi,if_neg Pi,if_neg Pi]
  have hsm:=tR op
  refine cA ?_
  refine aq.call rfl rfl rfl (ow op w2 (h0.ext hxw2)) ?_
  rintro _ w3 ⟨rfl,hx3⟩
  refine⟨_,rfl,?_⟩
  generalize ia op=s at*
  refine cA ?_
  refine aq.call rfl rfl rfl (eI s _ w3) ?_
  rintro _ _ ⟨rfl,rfl⟩
  refine⟨_,rfl,?_⟩
  cases h1:gl (hG s) [105,51,50,46]with
  |true=>
   have h4:4≤s.size:=by have:=tJ h1;rw[kQ]at this;exact this
   rw[if_pos (by simp[h1])]at hsg
   refine cA ?_
   refine Cd.qV ?_
   refine NC ?_
   refine ek.take 1 rfl Pb (Yl.move rfl) ?_
   refine NE ?_
   refine ek.take 4 rfl Pb (Yl.dC underlying9 rfl rfl (i:=4) rfl Pi) ?_
   refine ek.one 2 Pb rfl rfl (bU.call rfl rfl (pC s _) (fun e w' h=>⟨_,h.1⟩)) ?_
   rintro _ w3' ⟨hv3,hw3⟩
   cases hv3
   obtain rfl:w3.drew=w3':=hw3
   refine ek.one 5 Pb rfl rfl (bU.call rfl rfl (pD op _ _ _) (fun e w' h=>by obtain⟨⟨v,h,_⟩,_⟩:=h;exact⟨v,h⟩)) ?_
   rintro _ w4 ⟨⟨v,hv4,cs,hcs,hv⟩,hx4'⟩
   cases hv4
   subst hcs
   rw[rT]at hv
   have hx4:Ext w3 w4:=bX.trans ((bX.refl _ w3).drew) hx4'
   obtain⟨v0,v1,rfl,q0,q1⟩:=hv
   obtain⟨p0,c0,rfl,-⟩:=q0.slice
   obtain⟨p1,c1,rfl,-⟩:=q1.slice
   refine ek.Jk 6 Pb rfl (bU.bn (ti:=iK) (cs:=[_,_]) rfl rfl rfl rfl rfl O3 (hb1.aN (hx3.trans hx4) id) rfl) ?_
   rintro _ wD ⟨hbD,hcD,-⟩
   refine ek.FE 7 Pb rfl rfl (Yl.assign rfl) ?_
   refine ek.done Pb ?_
   refine cA ?_
   have hxD:Ext w wD:=bX.trans' ((hxw2.trans hx3).trans hx4) hcD (fun k hk e=>by omega)
   refine Fin.aM (.inl rfl) rfl rfl rfl rfl rfl hbD rfl rfl ⟨⟨_,by rw[hsg];rfl,?_⟩,hxD⟩
   rw[hsg]
   have hsz:w1.heap.size≤w3.heap.size:=Nat.le_trans hn2.ext.size hx3.size
   have hdz:w3.drew.heap.size=w3.heap.size:=rfl
   refine⟨_,rfl,_,_,rfl,?_,?_⟩
   ·have:=(q0.aN hcD (fun k _ h e=>by omega)).mono (H:=fun k=>w.heap.size≤k) (fun k _ h=>by omega);exact this
   ·have:=(q1.aN hcD (fun k _ h e=>by omega)).mono (H:=fun k=>w.heap.size≤k) (fun k _ h=>by omega);exact this
  |false=>
   refine cA ?_
   refine aq.xg rfl rfl rfl rfl (eI s _ w3) ?_
   rintro _ _ ⟨rfl,rfl⟩
   refine⟨_,rfl,?_⟩
   cases h2:gl (hG s) [105,54,52,46]with
   |true=>
    have h4:4≤s.size:=by have:=tJ h2;rw[kQ]at this;exact this
    rw[if_pos (by simp[h2])]at hsg
    refine cA ?_
    refine Cd.qV ?_
    refine NC ?_
    refine ek.take 1 rfl Pb (Yl.move rfl) ?_
    refine NE ?_
    refine ek.take 4 rfl Pb (Yl.dC underlying9 rfl rfl (i:=4) rfl Pi) ?_
    refine ek.one 2 Pb rfl rfl (bU.call rfl rfl (pC s _) (fun e w' h=>⟨_,h.1⟩)) ?_
    rintro _ w3' ⟨hv3,hw3⟩
    cases hv3
    obtain rfl:w3.drew=w3':=hw3
    refine ek.one 5 Pb rfl rfl (bU.call rfl rfl (pD op _ _ _) (fun e w' h=>by obtain⟨⟨v,h,_⟩,_⟩:=h;exact⟨v,h⟩)) ?_
    rintro _ w4 ⟨⟨v,hv4,cs,hcs,hv⟩,hx4'⟩
    cases hv4
    subst hcs
    rw[rT]at hv
    have hx4:Ext w3 w4:=bX.trans ((bX.refl _ w3).drew) hx4'
    obtain⟨v0,v1,rfl,q0,q1⟩:=hv
    obtain⟨p0,c0,rfl,-⟩:=q0.slice
    obtain⟨p1,c1,rfl,-⟩:=q1.slice
    refine ek.Jk 6 Pb rfl (bU.bn (ti:=iK) (cs:=[_,_]) rfl rfl rfl rfl rfl O3 (hb1.aN (hx3.trans hx4) id) rfl) ?_
    rintro _ wD ⟨hbD,hcD,-⟩
    refine ek.FE 7 Pb rfl rfl (Yl.assign rfl) ?_
    refine ek.done Pb ?_
    refine cA ?_
    have hxD:Ext w wD:=bX.trans' ((hxw2.trans hx3).trans hx4) hcD (fun k hk e=>by omega)
    refine Fin.aM (.inl rfl) rfl rfl rfl rfl rfl hbD rfl rfl ⟨⟨_,by rw[hsg];rfl,?_⟩,hxD⟩
    rw[hsg]
    have hsz:w1.heap.size≤w3.heap.size:=Nat.le_trans hn2.ext.size hx3.size
    have hdz:w3.drew.heap.size=w3.heap.size:=rfl
    refine⟨_,rfl,_,_,rfl,?_,?_⟩
    ·have:=(q0.aN hcD (fun k _ h e=>by omega)).mono (H:=fun k=>w.heap.size≤k) (fun k _ h=>by omega);exact this
    ·have:=(q1.aN hcD (fun k _ h e=>by omega)).mono (H:=fun k=>w.heap.size≤k) (fun k _ h=>by omega);exact this
   |false=>
    rw[h1,h2,if_neg Pj]at hsg
    refine cA ?_
    refine aq.e0 (bU.bn (ti:=iK) (cs:=[.slice none 0 0,.slice none 0 0]) rfl rfl rfl rfl rfl O3 (hb1.aN hx3 id) rfl) ?_
    rintro _ wD ⟨hbD,hcD,-⟩
    refine cA ?_
    have hxD:Ext w wD:=bX.trans' (hxw2.trans hx3) hcD (fun k hk e=>by omega)
    refine Fin.aM (.inl rfl) rfl rfl rfl rfl rfl hbD rfl rfl ⟨⟨_,by rw[hsg];rfl,?_⟩,hxD⟩
    rw[hsg]
    exact⟨_,rfl,_,_,rfl,ai.cH _ _,ai.cH _ _⟩
structure Hu where
 funcs:Int
 instrs:Int
 blocks:Int
 loops:Int
 calls:Int
 Fv:Int
 Ca:Int
 consts:Int
 deriving Inhabited,DecidableEq
def IU (b:Bool):Int:=if b then 1 else 0
end Go.Proofs.YtdkcljdfbemnbaaGreatDoor
