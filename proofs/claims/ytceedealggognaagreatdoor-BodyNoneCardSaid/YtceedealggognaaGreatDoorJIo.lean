/- More rules over the symbolic heap: structs and slices written out whole; rows of the call's own. -/
import Derived.Test.YtceedealggognaaGreatDoorJRa
namespace Go.Proofs.YtceedealggognaaGreatDoor
open Go.RowKit
inductive App:List Value→List Value→List Value→Prop
 |nil {b:List Value}:App [] b b
 |cons {x:Value} {a b c:List Value}:App a b c→App (x::a) b (x::c)
inductive Cells:List Value→List Value→Prop
 |nil:Cells [] []
 |agg {l vs cs out:List Value}:Cells vs cs→App l cs out→Cells (.agg l.toArray::vs) out
 |one {v:Value} {vs cs:List Value}:Cells vs cs→Cells (v::vs) (v::cs)
def pZ (s:Nat):List Value→List (Nat×Value)→Option (List Value)
 |cs,[]=>some cs
 |cs,(i,v)::r=>bif (Nat.beq v.cells.toList.length s && Nat.ble (i*s+v.cells.toList.length) cs.length)then pZ s (vR cs (i*s) v.cells.toList) r else none
theorem ss {s:Nat}:∀{parts:List (Nat×Value)} {cs c:List Value},pZ s cs parts=some c→Instr.fill (fun i=>some (i*s,s)) cs.toArray parts=some c.toArray
 |[],cs,c,h=>by simp only[pZ,Option.some.injEq]at h;subst h;rfl
 |(i,v)::r,cs,c,h=>by
  simp only[pZ]at h
  unfold Instr.fill
  dsimp only at h ⊢
  cases hb:(Nat.beq v.cells.toList.length s && Nat.ble (i*s+v.cells.toList.length) cs.length)with
  |false=>rw[hb]at h;cases h
  |true=>
   rw[hb]at h
   simp only[Bool.and_eq_true]at hb
   have h1:=Nat.eq_of_beq_eq_true hb.1
   have h2:=Nat.le_of_ble_eq_true hb.2
   have e1:v.cells.size=s:=by simpa using h1
   have e2:¬i*s+v.cells.size>cs.toArray.size:=by simpa using h2
   rw[if_neg (by simp[e1];rw[e1]at e2;simpa using e2)]
   have h3:=ss h
   rw[←h3]
   congr 1
   have:=qS v.cells.toList cs (i*s) 0
   rw[Nat.add_zero]at this
   rw[this,←Array.foldl_toList,Array.toList_zipIdx]
def wQ (len s:Nat) (zs:List Value):List Value:=(List.range (len*s)).map fun i=>zs.getD (i % zs.length) default
theorem uj {t e len s:Nat} {ti te:TI} {parts:List (Nat×Value)} {cs:List Value} (w:World) (ht:G.ty t=some ti) (he:ti.elem=some e) (hte:G.ty e=some te) (hs:te.size=s) (hlen:Nat.ble (len*s) 16777216=true) (hf:pZ s (wQ len s te.zero.cells.toList) parts=some cs):
  (Instr.buildSlice t len parts.toArray).run G.P w=.ok (.slice (some ⟨w.heap.size,0,none⟩) len len) (w.alloc (.cells cs.toArray e)):=by
 have h1:=(G.fx t ti ht).elem e he
 have h2:=(G.fx e te hte).size w
 have h3:=(G.fx e te hte).zeroV w
 rw[hs]at h2
 have h4:=ss hf
 have h5:¬len*s>2 ^ 24:=by have:=Nat.le_of_ble_eq_true hlen;omega
 by_cases h0:len*s=0
 ·have e0:(wQ len s te.zero.cells.toList).toArray=(Array.range (len*s)).map ((#[]:Array Value)[·% (#[]:Array Value).size]!):=by simp[wQ,h0]
  rw[e0]at h4
  simp[Instr.buildSlice,run_underlying h1,h2,h0,newRow]at h4 ⊢
  simp[h4]
 ·have e0:(wQ len s te.zero.cells.toList).toArray=(Array.range (len*s)).map (te.zero.cells[·% te.zero.cells.size]!):=by
   apply Array.ext'
   simp[wQ,List.getD_eq_getElem?_getD,Array.getElem!_eq_getD]
   skip
  rw[e0]at h4
  simp[Instr.buildSlice,run_underlying h1,h2,h0,h3,newRow,Nat.not_lt.2 (Nat.le_of_ble_eq_true hlen)]at h4 ⊢
  rw[h4];simp
section
variable {ops:Array Oper} {Q:Exit→Act→World→Prop} {n:Nat} {E:Env} {M M':List aU} {R:List (World→Prop)} {rest l:List Oper} {op:Op} {d:Nat} {ty:TypeId} {pos:String} {aft:Array Edge} {v:Value} {x y z:Operand} {t:TypeId} {C:World→Prop}
theorem Yl.fX {s bt:Nat} {el:Option Nat} {os:List Nat} {zs cs:List Value} {ik:Option IntKind} {parts:List (Nat×Operand)} {vs:List Value} (ht:G.ty t=some ⟨s,bt,true,el,os,.agg zs.toArray,ik⟩) (ho:os.isEmpty=false) (hv:ji E (parts.map (·.2))=some vs) (_hc:Cells vs cs) (hf:jZ (lY os s) zs ((parts.map (·.1)).zip vs)=some cs):
  Yl G n (.build t parts.toArray) E C (.agg cs.toArray):=by
 have:=Yl.dU (n:=n) (E:=E) (C:=C) (parts:=parts) ht ho hv (by rw[hf];rfl)
 rw[hf]at this;exact this
theorem Yl.fW {s bt:Nat} {el:Option Nat} {os:List Nat} {zs:List Value} {ik:Option IntKind} (ht:G.ty t=some ⟨s,bt,true,el,os,.agg zs.toArray,ik⟩) (ho:os.isEmpty=false):Yl G n (.build t #[]) E C (.agg zs.toArray):=
 Yl.dU (n:=n) (E:=E) (C:=C) (parts:=[]) (vs:=[]) ht ho rfl rfl
theorem Yl.yU {k:IntKind} {p q:Int} {t2:TypeId} (hx:ev E x=some (.int k p)) (hy:ev E y=some (.int k q)):Yl G n (.binOp .gtr t x y t2) E C (.bool (decide (q<p))):=Yl.bin hx hy (fun w=>by simp[binOp,Op.intCmp])
theorem Yl.zb {k:IntKind} {p q:Int} {t2:TypeId} (hx:ev E x=some (.int k p)) (hy:ev E y=some (.int k q)):Yl G n (.binOp .lss t x y t2) E C (.bool (decide (p<q))):=Yl.bin hx hy (fun w=>by simp[binOp,Op.intCmp])
theorem Yl.yY {k:IntKind} {p q:Int} {t2:TypeId} (hx:ev E x=some (.int k p)) (hy:ev E y=some (.int k q)):Yl G n (.binOp .leq t x y t2) E C (.bool (decide (p≤q))):=Yl.bin hx hy (fun w=>by simp[binOp,Op.intCmp])
theorem Yl.yS {k:IntKind} {p q:Int} {t2:TypeId} (hx:ev E x=some (.int k p)) (hy:ev E y=some (.int k q)):Yl G n (.binOp .geq t x y t2) E C (.bool (decide (q≤p))):=Yl.bin hx hy (fun w=>by simp[binOp,Op.intCmp])
inductive fj:List Value→Nat→List Value→Prop
 |zero {l:List Value}:fj l 0 []
 |succ {a:Value} {l out:List Value} {s:Nat}:fj l s out→fj (a::l) (s+1) (a::out)
inductive fi:List Value→Nat→Nat→List Value→Prop
 |here {l out:List Value} {s:Nat}:fj l s out→fi l 0 s out
 |drop {a:Value} {l out:List Value} {o s:Nat}:fi l o s out→fi (a::l) (o+1) s out
theorem fj.get {l out:List Value} {s:Nat} (h:fj l s out):out.length=s∧∀j,j<s→out[j]?=l[j]?∧j<l.length:=by
 induction h with
 |zero=>exact⟨rfl,fun j hj=>by omega⟩
 |succ _ ih=>
  refine⟨by simp[ih.1],fun j hj=>?_⟩
  cases j with
  |zero=>simp
  |succ j=>have:=ih.2 j FY;simpa using this
theorem fi.get {l out:List Value} {o s:Nat} (h:fi l o s out):out.length=s∧∀j,j<s→out[j]?=l[o+j]?∧o+j<l.length:=by
 induction h with
 |here h=>simpa using h.get
 |drop _ ih=>
  refine⟨ih.1,fun j hj=>?_⟩
  have:=ih.2 j hj
  rw[show∀o:Nat,o+1+j=o+j+1 from fun o=>by omega]
  simpa using this
theorem Yl.js {ti:TI} {b o T s:Nat} {cs out:List Value} (ht:G.ty t=some ti) (ha:ti.agg=true) (hx:ev E x=some (.pointer (some ⟨b,o,none⟩))) (hs:ti.size=s) (hM:Up (.aH b cs T) (.aH b cs T) M M') (hc:fi cs o s out):Yl G n (.load t x) E (Ok M R) (.agg out.toArray):=
 Yl.mW ht ha hs hx hc.get.1 fun w hw j hj=>by
  have hb:eA w b cs T:=(hw.m _ hM.mem).1
  obtain⟨h1,h2⟩:=hc.get.2 j hj
  rw[h1,List.getElem?_eq_getElem h2]
  exact hb.cell (List.getElem?_eq_getElem h2)
theorem jj {pl:List (Nat×Nat)} {cs:List Value}:jZ pl cs []=some cs:=rfl
theorem Bw {cs:List Value} {o:Nat} {v:Value}:vR cs o [v]=cs.set o v:=rfl
theorem jk {os:List Nat} {s i o:Nat} {zs cs' out:List Value} {v:Value} {r:List (Nat×Value)} (_h:os[i]?=some o) (hp:(lY os s)[i]?=some (o,1)) (hv:v.cells=#[v]) (hs:dH v zs o cs') (hr:jZ (lY os s) cs' r=some out):jZ (lY os s) zs ((i,v)::r)=some out:=by
 have:=hs.eq
 rw[jZ,hp]
 simp only[hv]
 have hb:Nat.ble (o+1) zs.length=true:=Nat.ble_eq_true_of_le this.2
 simp[Bw,this.1,hb,hr]
theorem Yl.fY {s bt:Nat} {el:Option Nat} {os:List Nat} {zs cs:List Value} {ik:Option IntKind} {parts:List (Nat×Operand)} {vs:List Value} (ht:G.ty t=some ⟨s,bt,true,el,os,.agg zs.toArray,ik⟩) (ho:os.isEmpty=false) (hv:ji E (parts.map (·.2))=some vs) (hf:jZ (lY os s) zs ((parts.map (·.1)).zip vs)=some cs):
  Yl G n (.build t parts.toArray) E C (.agg cs.toArray):=by
 have:=Yl.dU (n:=n) (E:=E) (C:=C) (parts:=parts) ht ho hv (by rw[hf];rfl)
 rw[hf]at this;exact this
theorem HE.mq {e len s:Nat} {ti te:TI} {parts:List (Nat×Operand)} {vs cs:List Value} (ht:G.ty t=some ti) (he:ti.elem=some e) (hte:G.ty e=some te) (hs:te.size=s) (hv:ji E (parts.map (·.2))=some vs) (_hc:Cells vs cs) (hlen:Nat.ble (len*s) 16777216=true) (hf:pZ s (wQ len s te.zero.cells.toList) ((parts.map (·.1)).zip vs)=some cs):
  HE n (.buildSlice t len parts.toArray) E M R (fun _:Nat=>True) (fun b=>.slice (some ⟨b,0,none⟩) len len) (fun b=>.aH b cs e::M) (fun _=>R):=
 HE.At cs hv fun w=>uj w ht he hte hs hlen hf
theorem HE.kl {f:Nat} {args:List Operand} {tys:Array TypeId} {vs:List Value} (hf:G.fb[f]?=some true) (ha:ji E args=some vs)
  (hc:∀w,Ok M R w→Calls G.P f vs.toArray w (fun e w'=>e=.returned v∧Ext w w')):HE n (.call ⟨.value (.func f),args.toArray,tys⟩) E M R (fun _:Unit=>True) (fun _=>v) (fun _=>M) (fun _=>R):=
 HE.call (fun _=>v) hf ha fun w hw=>(hc w hw).mono fun _e _w' ⟨e1,hx⟩=>⟨(),e1,trivial,hw.ext hx⟩
theorem Ok.ia {w:World} (h:Ok M R w) (B T s:Nat):Ok (.own B T s (.slice none 0 0) 0 []::M) R w:=
 h.push (bz.refl _ w) (World.ownsRow_nil w B T s) (fun k hk=>by cases(show(none:Option Nat)=some k from hk))
theorem aa.ia (B T s:Nat) (h:aa ops Q n l E (.own B T s (.slice none 0 0) 0 []::M) R):aa ops Q n l E M R:=⟨fun w hw=>h.h w (hw.ia B T s)⟩
theorem aP.ia {c:Code} (B T s:Nat) (h:aP Q n c E (.own B T s (.slice none 0 0) 0 []::M) R):aP Q n c E M R:=⟨fun w hw=>h.h w (hw.ia B T s)⟩
theorem dJ {w:World} {B T s m g cap:Nat} {xs:List Value} (h:w.ownsRow B T s (.slice (some ⟨g,0,none⟩) m cap) m xs) {j:Nat} {u:Value} (hj:xs[j]?=some u):w.cell? ⟨g,j,none⟩=some u:=by
 have:=World.ownsRow.cells h (g:=g) rfl j u hj
 have e:(⟨g,0,none⟩:Addr).add j=⟨g,j,none⟩:=by
  unfold Addr.add;split
  ·rename_i h0;rw[h0]
  ·simp
 rwa[e]at this
theorem HE.Bb {Mf:Value→List aU} {ti te:TI} {B T s m k c:Nat} {po:Option Addr} {xs:List Value} (ys:List Value) (hx:ev E x=some v) (hy:ev E y=some (.slice po k c)) (hM:∀v',Up (.own B T s v m xs) (.own B T s v' (m+k) (xs++ys)) M (Mf v'))
  (hrd:k=0∨∃bk o,po=some ⟨bk,o,none⟩∧∀w,Ok M R w→∀j u,ys[j]?=some u→w.cell? ⟨bk,o+j,none⟩=some u) (hys:ys.length=k*s)
  (ht:G.ty t=some ti) (he:ti.elem=some T) (hte:G.ty T=some te) (hs:te.size=s) (hzs:Nat.beq te.zero.cells.size te.size=true) (hsz:Nat.blt 0 te.size=true) (hbt:Nat.ble te.bytes 1000=true) (h1:∀u∈ys,u.oneCell'=true) (hlen:m+k≤100000000000) (hB:∀w,Ok M R w→B≤w.heap.size):
  HE n (.call ⟨.builtin .append,#[x,y],#[t,t]⟩) E M R (fun _:Value=>True) (fun v'=>v') Mf (fun _=>R):=
 ⟨fun w hw=>by
  subst hs
  have hm:=(hw.m _ (hM undef).mem)
  have ho:w.ownsRow B T te.size v m xs:=hm.1
  have hbt':=Nat.le_of_ble_eq_true hbt
  have hsz':0<te.size:=by simpa using hsz
  have key:∀v' w',w'.ownsRow B T te.size v' (m+k) (xs++ys)→bz (fun k=>v.ownBlock=some k) w w'→(v'.ownBlock=v.ownBlock∨v'.ownBlock=some w.heap.size)→∃x:Value,True∧v'=x∧Ok (Mf x) R w':=fun v' w' ho' hc hob=>
   ⟨v',trivial,rfl,hw.nA (hM v') hc ho' fun i hi=>⟨(ho'.lt i hi).2,fun hlt=>by
    rcases hob with e|e
    ·show v.ownBlock=some i
     rw[←e];exact hi
    ·have hk':v'.ownBlock=some i:=hi
     rw[e]at hk';cases hk';omega⟩⟩
  by_cases h0:k=0
  ·subst h0
   obtain⟨po,c,rfl,hc,_⟩:=au ho
   have hy0:ys=[]:=List.eq_nil_of_length_eq_zero (by simpa using hys)
   subst hy0
   refine(bC.uH (G:=G) ht he hte hx hc hy).mono ?_
   rintro _ _ ⟨rfl,rfl⟩
   exact key _ _ (by rw[List.append_nil];exact ho) (bz.refl _ _) (.inl rfl)
  ·obtain⟨bk,o,rfl,hr⟩:=hrd.resolve_left h0
   refine(bC.nG (G:=G) (news:=ys) ht he hte (Nat.eq_of_beq_eq_true hzs) hsz' hx ho hy hys (fun j u hj=>hr w hw j u hj) h1 FN (by have:=Nat.mul_le_mul hlen hbt';omega) (hB w hw)).mono fun v' w' ⟨a,b,c⟩=>key v' w' a b c⟩
theorem tY {w:World} {b _e s len:Nat} {cs:List Value} {T:TypeId} (h:eA w b cs T) (hs:cs.length=len*s) (hl:len≤maxLen) (B:Nat) (hB:B≤b):w.ownsRow B T s (.slice (some ⟨b,0,none⟩) len len) len cs:=
 ⟨hs,.inr ⟨b,len,cs.toArray,rfl,hB,h,Nat.le_refl _,hl,by simpa using hs,by simp[←hs]⟩⟩
theorem Ok.s6 {w:World} {b s len:Nat} {cs:List Value} {T:TypeId} (h:Ok M R w) (hM:Up (.aH b cs T) (.own 0 T s (.slice (some ⟨b,0,none⟩) len len) len cs) M M') (hs:cs.length=len*s) (hl:len≤maxLen):Ok M' R w:=
 h.nA hM (bz.refl _ w) (tY (_e:=0) (h.m _ hM.mem).1 hs hl 0 (Nat.zero_le _)) (fun k hk=>by
  have hk':some b=some k:=hk
  cases hk'
  exact⟨(h.m _ hM.mem).2 b rfl,fun _=>rfl⟩)
theorem aa.s6 {b len:Nat} {cs:List Value} {T:TypeId} (s:Nat) (hM:Up (.aH b cs T) (.own 0 T s (.slice (some ⟨b,0,none⟩) len len) len cs) M M') (hs:cs.length=len*s) (hl:len≤maxLen) (h:aa ops Q n l E M' R):aa ops Q n l E M R:=⟨fun w hw=>h.h w (hw.s6 hM hs hl)⟩
theorem nL {B T s n n':Nat} {v v':Value} {xs xs':List Value} (h1:v'=v) (h2:n'=n) (h3:xs'=xs) (h:M'.Sublist M):(aU.own B T s v' n' xs'::M').Sublist (aU.own B T s v n xs::M):=by subst h1;subst h2;subst h3;exact h.cons_cons _
end
def A8 {α:Type} (g:Nat) (lb:List Value) (encs:α→List Value) (Kp:World→World→Prop) (full:List α) (w:World):Prop:=
 ∀(l:Nat) (J Jx:List α→World→Prop) (W:World),Below w.heap.size w W→OwnFrom W.heap.size J→OwnFrom W.heap.size Jx→
  (∀pre x W1,J pre W1→pre++[x]<+:full→YieldAt (FW none) 0 G.P l (encs x).toArray W1 fun e W'=>
   (e=.returned (.bool true)∧J (pre++[x]) W'∧Kp W1 W')∨(e=.returned (.bool false)∧Jx (pre++[x]) W'∧Kp W1 W'))→
  J [] W→Calls G.P g (Value.func (.yield l) #[] #[]::lb).toArray W fun e W'=>(∃v,e=.returned v)∧(J full W'∨(∃pre,pre<+:full∧Jx pre W'))
structure rM (ps:Array Tmp) (B:Nat) (W W':World):Prop where
 size:W.heap.size≤W'.heap.size
 same:∀(k:Nat) (o:Obj),B≤k→W.heap[k]?=some o→((∃d,o=.deferred d)∨∃r,o=.loop r∧r.params=ps)→W'.heap[k]?=some o
def A7 {α:Type} (ps:Array Tmp) (B:Nat) (Kp:World→World→Prop) (I:List α→World→Prop) (Ix:Code→List α→World→Prop) (xs:List α) (W:World):Exit→Act→World→Prop
 |.normal,_,W'=>rM ps B W W'∧Kp W W'∧I xs W'
 |.ret,_,W'=>rM ps B W W'∧Kp W W'∧Ix .ret xs W'
 |.exit id,_,W'=>rM ps B W W'∧Kp W W'∧Ix (.exit id) xs W'
 |_,_,_=>False
section
variable {m:Nat} {D:List Deferred} {Q:Exit→Act→World→Prop} {n:Nat} {E:Env} {w:World}
theorem gH.AT {α:Type} {g:Operand} {ps:List Nat} {assign body:Code} {gf:Nat} {lb:List Value} (hg:ev E g=some (.func (.func gf) #[] lb.toArray)) (hf:G.fb[gf]?=some true)
  {encs:α→List Value} {Kp:World→World→Prop} {full:List α} (hseq:A8 gf lb encs Kp full w)
  (hKt:∀{A B C:World},Kp A B→Kp B C→Kp A C) (hKb:∀(W:World) (l:Nat) (r r':Loop),w.heap.size≤l→W.heap[l]?=some (.loop r)→r.params=ps.toArray→Kp W (W.putObj l (.loop r'))) (hps:∀x,(encs x).length=ps.length) (hpn:(ps.all fun p=>Nat.blt p n)=true)
  (I:List α→World→Prop) (Ix:Code→List α→World→Prop) (hI:OwnFrom w.heap.size I) (hIx:∀c,OwnFrom w.heap.size (Ix c)) (h0:I [] w) (E1:α→Env)
  (hassign:∀(l:Nat) (x:α) (W:World) (K:Act→World→Prop),(∀a,nM n [] a (E1 x)→K a W)→gH (some l) 0 [] (Exit.then K (fun _ _ _=>False)) n assign (yb (ps.zip (encs x)) E) W)
  (hbody:∀(l:Nat) (pre:List α) (x:α) (W:World),I pre W→pre++[x]<+:full→gH (some l) 0 [] (A7 ps.toArray w.heap.size Kp I Ix (pre++[x]) W) n body (E1 x) W)
  (hdone:∀(Dn:Nat) (W:World),w.heap.size≤Dn→I full W→W.heap[Dn]?=some (.deferred (some []))→dj ({target:=.collected Dn,args:=#[]}::D) Q n .normal E W)
  (hstop:∀(Dn:Nat) (c:Code) (pre:List α) (W:World),w.heap.size≤Dn→pre<+:full→Ix c pre W→W.heap[Dn]?=some (.deferred (some []))→gH none m ({target:=.collected Dn,args:=#[]}::D) Q n c E W):
  gH none m D Q n (.rangeFunc g ps.toArray assign body) E w:=⟨fun a ha=>by
 refine wpIn_rangeFunc ?_
 intro fn _
 rw[show(FW none).round=none from rfl]
 obtain⟨lr,hlr⟩:∃lr:LoopState→Option Code→Loop,lr=fun st pe=>{state:=st,pending:=pe,fn,tmps:=a.tmps,params:=ps.toArray,assign,body,defers:=w.heap.size}:=⟨_,rfl⟩
 have hp:∀st pe,(lr st pe).params=ps.toArray:=fun st pe=>by rw[hlr]
 obtain⟨W1,hW1⟩:∃W1,(w.alloc (.deferred (some []))).alloc (.loop (lr .ready none))=W1:=⟨_,rfl⟩
 have hs1:W1.heap.size=w.heap.size+2:=by rw[←hW1];simp
 have hL1:W1.heap[w.heap.size+1]?=some (.loop (lr .ready none)):=by
  rw[←hW1];have:=heap_alloc_new (w.alloc (.deferred (some []))) (.loop (lr .ready none));simpa using this
 have hK1:W1.heap[w.heap.size]?=some (.deferred (some [])):=by
  rw[←hW1];exact(Below.heap_alloc _ _ _ FZ).trans (heap_alloc_new w _)
 have hI1:I [] W1:=by rw[←hW1];exact hI.alloc _ (hI.alloc _ h0)
 have hb1:Below w.heap.size w W1:=by
  rw[←hW1];exact((Below.refl _ w).alloc (Nat.le_refl _) _).alloc FZ _
 refine⟨w.heap.size+1,[{target:=.collected w.heap.size,args:=#[]}],W1,{target:=.fn (.func gf) lb.toArray,args:=#[.func (.yield (w.heap.size+1)) #[] #[]]},W1,gf,
  (Value.func (.yield (w.heap.size+1)) #[] #[]::lb).toArray,W1,?_,?_,fun _ _=>trivial,?_,fun e=>(by cases e),?_⟩
 ·rw[←hW1,hlr];exact run_enterLoop_outer _ _ _ _ _
 ·simp only[resolve,ha.eval hg]
  simp[go_sem]
 ·simp[invoke,go_sem,G.vE gf hf]
 refine callsIn_wide.2 ((hseq (w.heap.size+1)
   (fun pre W=>I pre W∧W.heap[w.heap.size+1]?=some (.loop (lr .ready none))∧W.heap[w.heap.size]?=some (.deferred (some [])))
   (fun pre W=>∃c,Ix c pre W∧W.heap[w.heap.size+1]?=some (.loop (lr .done (some c)))∧W.heap[w.heap.size]?=some (.deferred (some [])))
   W1 hb1 ?_ ?_ ?_ ⟨hI1,hL1,hK1⟩).mono ?_)
 ·rintro s A B row ⟨h1,h2,h3⟩ hg' hr
  refine⟨hI s A B row h1 hg' fun r e=>⟨by have:=(hr r e).1;omega,(hr r e).2⟩,?_,?_⟩
  ·rw[hg'.block _ (Array.getElem?_eq_some_iff.1 h2).1 (fun e=>by have:=(hr _ e.symm).1;omega)];exact h2
  ·rw[hg'.block _ (Array.getElem?_eq_some_iff.1 h3).1 (fun e=>by have:=(hr _ e.symm).1;omega)];exact h3
 ·rintro s A B row ⟨c,h1,h2,h3⟩ hg' hr
  refine⟨c,hIx c s A B row h1 hg' fun r e=>⟨by have:=(hr r e).1;omega,(hr r e).2⟩,?_,?_⟩
  ·rw[hg'.block _ (Array.getElem?_eq_some_iff.1 h2).1 (fun e=>by have:=(hr _ e.symm).1;omega)];exact h2
  ·rw[hg'.block _ (Array.getElem?_eq_some_iff.1 h3).1 (fun e=>by have:=(hr _ e.symm).1;omega)];exact h3
 ·rintro pre x W ⟨hi,hl,hk⟩ hlen
  have hlt:w.heap.size+1<W.heap.size:=(Array.getElem?_eq_some_iff.1 hl).1
  have hy:=run_yield (P:=G.P) (args:=(encs x).toArray) hl (by rw[hp];simpa using hps x)
  have e:(ps.toArray.zip (encs x).toArray).foldl (fun t (p,v)=>t.setIfInBounds p v) a.tmps=(ps.zip (encs x)).foldl (fun t pv=>t.setIfInBounds pv.1 pv.2) a.tmps:=by
   rw[←Array.foldl_toList];simp
  have hst:(lr .ready none).state=.ready:=by rw[hlr]
  refine⟨(lr .ready none).fn,_,(lr .ready none).assign,(lr .ready none).body,hy,roundIn_of_wpIn trivial ?_⟩
  have hnew:(lr .ready none).assign=assign∧(lr .ready none).body=body∧(lr .ready none).tmps=a.tmps:=by rw[hlr];exact⟨rfl,rfl,rfl⟩
  rw[hnew.1,hnew.2.1,hnew.2.2,hp,e]
  refine(hassign (w.heap.size+1) x W _ (fun a' ha'=>?_)).h _ ⟨qA _ ⟨ha.ag.sz,rfl,ha.ag.eq⟩ (fun pv hpv=>?_),rfl⟩
  ·refine⟨_,run_beginRound hl hst,?_⟩
   have hl2:(W.putObj (w.heap.size+1) (.loop {lr .ready none with state:=.busy})).heap[w.heap.size+1]?=some (.loop {lr .ready none with state:=.busy}):=World.putObj_heap_same hlt
   have hk2:(W.putObj (w.heap.size+1) (.loop {lr .ready none with state:=.busy})).heap[w.heap.size]?=some (.deferred (some [])):=(World.putObj_heap_other FY).trans hk
   have hw2:Kp W (W.putObj (w.heap.size+1) (.loop {lr .ready none with state:=.busy})):=hKb _ _ _ _ FY hl (hp _ _)
   refine wpIn_mono ((hbody (w.heap.size+1) pre x _ (hI.putObj _ hi FY hl rfl) hlen).h a' ha') ?_
   have fin:∀(jump:Option Code) (W3:World),rM ps.toArray w.heap.size (W.putObj (w.heap.size+1) (.loop {lr .ready none with state:=.busy})) W3→
     (Instr.endRound (w.heap.size+1) jump).run G.P W3=.ok (.bool jump.isNone) (W3.putObj (w.heap.size+1) (.loop (lr (if jump.isNone then .ready else .done) jump)))∧
     W3.heap[w.heap.size+1]?=some (.loop {lr .ready none with state:=.busy})∧
     (W3.putObj (w.heap.size+1) (.loop (lr (if jump.isNone then .ready else .done) jump))).heap[w.heap.size+1]?=some (.loop (lr (if jump.isNone then .ready else .done) jump))∧
     (W3.putObj (w.heap.size+1) (.loop (lr (if jump.isNone then .ready else .done) jump))).heap[w.heap.size]?=some (.deferred (some [])):=fun jump W3 hk3=>by
    have hl3:=hk3.same _ _ FY hl2 (.inr ⟨_,rfl,hp _ _⟩)
    have hr3:=run_endRound (P:=G.P) jump hl3
    refine⟨?_,hl3,World.putObj_heap_same (Array.getElem?_eq_some_iff.1 hl3).1,(World.putObj_heap_other FY).trans (hk3.same _ _ (Nat.le_refl _) hk2 (.inl ⟨_,rfl⟩))⟩
    rw[hlr]at hr3 ⊢;exact hr3
   rintro e3 a3 W3 hpx
   cases e3 with
   |normal=>
    obtain⟨hk3,hkp3,hi3⟩:=hpx
    obtain⟨hr,hl3,hl4,hk4⟩:=fin none W3 hk3
    exact⟨_,_,hr,.inl ⟨rfl,⟨hI.putObj _ hi3 FY hl3 rfl,hl4,hk4⟩,hKt (hKt hw2 hkp3) (hKb _ _ _ _ FY hl3 (hp _ _))⟩⟩
   |ret=>
    obtain⟨hk3,hkp3,hi3⟩:=hpx
    obtain⟨hr,hl3,hl4,hk4⟩:=fin (some .ret) W3 hk3
    exact⟨_,_,hr,.inr ⟨rfl,⟨.ret,(hIx _).putObj _ hi3 FY hl3 rfl,hl4,hk4⟩,hKt (hKt hw2 hkp3) (hKb _ _ _ _ FY hl3 (hp _ _))⟩⟩
   |exit id=>
    obtain⟨hk3,hkp3,hi3⟩:=hpx
    obtain⟨hr,hl3,hl4,hk4⟩:=fin (some (.exit id)) W3 hk3
    exact⟨_,_,hr,.inr ⟨rfl,⟨.exit id,(hIx _).putObj _ hi3 FY hl3 rfl,hl4,hk4⟩,hKt (hKt hw2 hkp3) (hKb _ _ _ _ FY hl3 (hp _ _))⟩⟩
   |goto t=>exact hpx.elim
   |panic ch=>exact hpx.elim
   |outgrown=>exact hpx.elim
  ·have:=List.all_eq_true.1 hpn pv.1 (List.of_mem_zip (show(pv.1,pv.2)∈_ from hpv)).1
   simpa using this
 ·rintro e W2 ⟨⟨v,rfl⟩,(⟨hi,hl,hk⟩|⟨pre,hSp,c,hi,hl,hk⟩)⟩
  ·refine⟨none,_,by have:=run_endLoop (P:=G.P) hl (by rw[hlr];simp);rw[hlr]at this;exact this,?_⟩
   exact(hdone _ _ (Nat.le_refl _) (hI.putObj _ hi FY hl rfl) ((World.putObj_heap_other FY).trans hk)).h _ ⟨⟨ha.ag.sz,rfl,ha.ag.eq⟩,by simp[ha.df]⟩
  ·refine⟨some c,_,by have:=run_endLoop (P:=G.P) hl (by rw[hlr];simp);rw[hlr]at this;exact this,?_⟩
   exact(hstop _ c pre _ (Nat.le_refl _) hSp ((hIx c).putObj _ hi FY hl rfl) ((World.putObj_heap_other FY).trans hk)).h _ ⟨⟨ha.ag.sz,rfl,ha.ag.eq⟩,by simp[ha.df]⟩⟩
end
end Go.Proofs.YtceedealggognaaGreatDoor
