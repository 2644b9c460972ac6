/- A range over a function whose iterator may itself hold such a range: the invariants abide the turns of its records. -/
import Derived.Test.YtdkcljdfbemnbaaGreatDoorJRa
import Derived.Test.YtdkcljdfbemnbaaGreatDoorJSb
import Derived.Test.YtdkcljdfbemnbaaGreatDoorJRt
namespace Go.Proofs.YtdkcljdfbemnbaaGreatDoor
open Go.RowKit
open List renaming length_append→Pt,length_take→Ps
open Nat renaming le_refl→Pr,sub_self→PO
def ID {α:Type} (g:Nat) (lb:List Value) (encs:α→List Value) (Kp:World→World→Prop) (full:List α) (w:World):Prop:=
 ∀(l:Nat) (J Jx:List α→World→Prop) (W:World),Below w.heap.size w W→OwnFrom W.heap.size J→OwnFrom W.heap.size Jx→
  (∀pre x W1,J pre W1→pre++[x]<+:full→YieldAt (FW none) 0 G.P l (encs x).toArray W1 fun e W'=>
   (e=.returned (.bool true)∧J (pre++[x]) W'∧Kp W1 W')∨(e=.returned (.bool false)∧Jx (pre++[x]) W'∧Kp W1 W'))→
  J [] W→Calls G.P g (Value.func (.yield l) #[] #[]::lb).toArray W fun e W'=>(∃v,e=.returned v)∧(J full W'∨(∃pre,pre<+:full∧Jx pre W'))
structure zd (ps:Array Tmp) (B:Nat) (W W':World):Prop where
 size:W.heap.size≤W'.heap.size
 same:∀(k:Nat) (o:Obj),B≤k→W.heap[k]?=some o→((∃d,o=.deferred d)∨∃r,o=.loop r∧r.params=ps)→W'.heap[k]?=some o
def IB {α:Type} (ps:Array Tmp) (B:Nat) (Kp:World→World→Prop) (I:List α→World→Prop) (Ix:Code→List α→World→Prop) (xs:List α) (W:World):Exit→Act→World→Prop
 |.normal,_,W'=>zd ps B W W'∧Kp W W'∧I xs W'
 |.ret,_,W'=>zd ps B W W'∧Kp W W'∧Ix .ret xs W'
 |.exit id,_,W'=>zd ps B W W'∧Kp W W'∧Ix (.exit id) xs W'
 |_,_,_=>False
section
variable {m:Nat} {D:List Deferred} {Q:Exit→Act→World→Prop} {n:Nat} {E:Env} {w:World}
theorem kx.Ii {α:Type} {g:Operand} {ps:List Nat} {assign body:Code} {gf:Nat} {lb:List Value} (hg:ev E g=some (.func (.func gf) #[] lb.toArray)) (hf:G.fb[gf]?=some true)
  {encs:α→List Value} {Kp:World→World→Prop} {full:List α} (hseq:ID gf lb encs Kp full w)
  (hKt:∀{A B C:World},Kp A B→Kp B C→Kp A C) (hKb:∀(W:World) (l:Nat) (r r':Loop),w.heap.size≤l→W.heap[l]?=some (.loop r)→r.params=ps.toArray→Kp W (W.putObj l (.loop r'))) (hps:∀x,(encs x).length=ps.length) (hpn:(ps.all fun p=>Nat.blt p n)=true)
  (I:List α→World→Prop) (Ix:Code→List α→World→Prop) (hI:OwnFrom w.heap.size I) (hIx:∀c,OwnFrom w.heap.size (Ix c)) (h0:I [] w) (E1:α→Env)
  (hassign:∀(l:Nat) (x:α) (W:World) (K:Act→World→Prop),(∀a,td n [] a (E1 x)→K a W)→kx (some l) 0 [] (Exit.then K (fun _ _ _=>False)) n assign (FM (ps.zip (encs x)) E) W)
  (hbody:∀(l:Nat) (pre:List α) (x:α) (W:World),I pre W→pre++[x]<+:full→kx (some l) 0 [] (IB ps.toArray w.heap.size Kp I Ix (pre++[x]) W) n body (E1 x) W)
  (hdone:∀(Dn:Nat) (W:World),w.heap.size≤Dn→I full W→W.heap[Dn]?=some (.deferred (some []))→fh ({target:=.collected Dn,args:=#[]}::D) Q n .normal E W)
  (hstop:∀(Dn:Nat) (c:Code) (pre:List α) (W:World),w.heap.size≤Dn→pre<+:full→Ix c pre W→W.heap[Dn]?=some (.deferred (some []))→kx none m ({target:=.collected Dn,args:=#[]}::D) Q n c E W):
  kx none m D Q n (.rangeFunc g ps.toArray assign body) E w:=⟨fun a ha=>by
 refine wpIn_rangeFunc ?_
 intro fn _
 rw[show(FW none).round=none from rfl]
 obtain⟨lr,hlr⟩:∃lr:LoopState→Option Code→Loop,lr=fun st pe=>{state:=st,pending:=pe,fn,tmps:=a.tmps,params:=ps.toArray,assign,body,defers:=w.heap.size}:=⟨_,rfl⟩
 have hp:∀st pe,(lr st pe).params=ps.toArray:=fun st pe=>by rw[hlr]
 obtain⟨W1,hW1⟩:∃W1,(w.alloc (.deferred (some []))).alloc (.loop (lr .ready none))=W1:=⟨_,rfl⟩
 have hs1:W1.heap.size=w.heap.size+2:=by rw[←hW1];simp
 have hL1:W1.heap[w.heap.size+1]?=some (.loop (lr .ready none)):=by
  rw[←hW1];have:=heap_alloc_new (w.alloc (.deferred (some []))) (.loop (lr .ready none));simpa using this
 have hK1:W1.heap[w.heap.size]?=some (.deferred (some [])):=by
  rw[←hW1];exact(Below.heap_alloc _ _ _ Pd).trans (heap_alloc_new w _)
 have hI1:I [] W1:=by rw[←hW1];exact hI.alloc _ (hI.alloc _ h0)
 have hb1:Below w.heap.size w W1:=by
  rw[←hW1];exact((Below.refl _ w).alloc (Pr _) _).alloc Pd _
 refine⟨w.heap.size+1,[{target:=.collected w.heap.size,args:=#[]}],W1,{target:=.fn (.func gf) lb.toArray,args:=#[.func (.yield (w.heap.size+1)) #[] #[]]},W1,gf,
  (Value.func (.yield (w.heap.size+1)) #[] #[]::lb).toArray,W1,?_,?_,fun _ _=>trivial,?_,fun e=>(by cases e),?_⟩
 ·rw[←hW1,hlr];exact run_enterLoop_outer _ _ _ _ _
 ·simp only[resolve,ha.eval hg]
  simp[go_sem]
 ·simp[invoke,go_sem,G.Dk gf hf]
 refine callsIn_wide.2 ((hseq (w.heap.size+1)
   (fun pre W=>I pre W∧W.heap[w.heap.size+1]?=some (.loop (lr .ready none))∧W.heap[w.heap.size]?=some (.deferred (some [])))
   (fun pre W=>∃c,Ix c pre W∧W.heap[w.heap.size+1]?=some (.loop (lr .done (some c)))∧W.heap[w.heap.size]?=some (.deferred (some [])))
   W1 hb1 ?_ ?_ ?_ ⟨hI1,hL1,hK1⟩).mono ?_)
 ·rintro s A B row ⟨h1,h2,h3⟩ hg' hr
  refine⟨hI s A B row h1 hg' fun r e=>⟨by have:=(hr r e).1;omega,(hr r e).2⟩,?_,?_⟩
  ·rw[hg'.block _ (Array.getElem?_eq_some_iff.1 h2).1 (fun e=>by have:=(hr _ e.symm).1;omega)];exact h2
  ·rw[hg'.block _ (Array.getElem?_eq_some_iff.1 h3).1 (fun e=>by have:=(hr _ e.symm).1;omega)];exact h3
 ·rintro s A B row ⟨c,h1,h2,h3⟩ hg' hr
  refine⟨c,hIx c s A B row h1 hg' fun r e=>⟨by have:=(hr r e).1;omega,(hr r e).2⟩,?_,?_⟩
  ·rw[hg'.block _ (Array.getElem?_eq_some_iff.1 h2).1 (fun e=>by have:=(hr _ e.symm).1;omega)];exact h2
  ·rw[hg'.block _ (Array.getElem?_eq_some_iff.1 h3).1 (fun e=>by have:=(hr _ e.symm).1;omega)];exact h3
 ·rintro pre x W ⟨hi,hl,hk⟩ hlen
  have hlt:w.heap.size+1<W.heap.size:=(Array.getElem?_eq_some_iff.1 hl).1
  have hy:=run_yield (P:=G.P) (args:=(encs x).toArray) hl (by rw[hp];simpa using hps x)
  have e:(ps.toArray.zip (encs x).toArray).foldl (fun t (p,v)=>t.setIfInBounds p v) a.tmps=(ps.zip (encs x)).foldl (fun t pv=>t.setIfInBounds pv.1 pv.2) a.tmps:=by
   rw[←Array.foldl_toList];simp
  have hst:(lr .ready none).state=.ready:=by rw[hlr]
  refine⟨(lr .ready none).fn,_,(lr .ready none).assign,(lr .ready none).body,hy,roundIn_of_wpIn trivial ?_⟩
  have hnew:(lr .ready none).assign=assign∧(lr .ready none).body=body∧(lr .ready none).tmps=a.tmps:=by rw[hlr];exact⟨rfl,rfl,rfl⟩
  rw[hnew.1,hnew.2.1,hnew.2.2,hp,e]
  refine(hassign (w.heap.size+1) x W _ (fun a' ha'=>?_)).h _ ⟨xM _ ⟨ha.ag.sz,rfl,ha.ag.eq⟩ (fun pv hpv=>?_),rfl⟩
  ·refine⟨_,run_beginRound hl hst,?_⟩
   have hl2:(W.putObj (w.heap.size+1) (.loop {lr .ready none with state:=.busy})).heap[w.heap.size+1]?=some (.loop {lr .ready none with state:=.busy}):=World.putObj_heap_same hlt
   have hk2:(W.putObj (w.heap.size+1) (.loop {lr .ready none with state:=.busy})).heap[w.heap.size]?=some (.deferred (some [])):=(World.putObj_heap_other Pc).trans hk
   have hw2:Kp W (W.putObj (w.heap.size+1) (.loop {lr .ready none with state:=.busy})):=hKb _ _ _ _ Pc hl (hp _ _)
   refine wpIn_mono ((hbody (w.heap.size+1) pre x _ (hI.putObj _ hi Pc hl rfl) hlen).h a' ha') ?_
   have fin:∀(jump:Option Code) (W3:World),zd ps.toArray w.heap.size (W.putObj (w.heap.size+1) (.loop {lr .ready none with state:=.busy})) W3→
     (Instr.endRound (w.heap.size+1) jump).run G.P W3=.ok (.bool jump.isNone) (W3.putObj (w.heap.size+1) (.loop (lr (if jump.isNone then .ready else .done) jump)))∧
     W3.heap[w.heap.size+1]?=some (.loop {lr .ready none with state:=.busy})∧
     (W3.putObj (w.heap.size+1) (.loop (lr (if jump.isNone then .ready else .done) jump))).heap[w.heap.size+1]?=some (.loop (lr (if jump.isNone then .ready else .done) jump))∧
     (W3.putObj (w.heap.size+1) (.loop (lr (if jump.isNone then .ready else .done) jump))).heap[w.heap.size]?=some (.deferred (some [])):=fun jump W3 hk3=>by
    have hl3:=hk3.same _ _ Pc hl2 (.inr ⟨_,rfl,hp _ _⟩)
    have hr3:=run_endRound (P:=G.P) jump hl3
    refine⟨?_,hl3,World.putObj_heap_same (Array.getElem?_eq_some_iff.1 hl3).1,(World.putObj_heap_other Pc).trans (hk3.same _ _ (Pr _) hk2 (.inl ⟨_,rfl⟩))⟩
    rw[hlr]at hr3 ⊢;exact hr3
   rintro e3 a3 W3 hpx
   cases e3 with
   |normal=>
    obtain⟨hk3,hkp3,hi3⟩:=hpx
    obtain⟨hr,hl3,hl4,hk4⟩:=fin none W3 hk3
    exact⟨_,_,hr,.inl ⟨rfl,⟨hI.putObj _ hi3 Pc hl3 rfl,hl4,hk4⟩,hKt (hKt hw2 hkp3) (hKb _ _ _ _ Pc hl3 (hp _ _))⟩⟩
   |ret=>
    obtain⟨hk3,hkp3,hi3⟩:=hpx
    obtain⟨hr,hl3,hl4,hk4⟩:=fin (some .ret) W3 hk3
    exact⟨_,_,hr,.inr ⟨rfl,⟨.ret,(hIx _).putObj _ hi3 Pc hl3 rfl,hl4,hk4⟩,hKt (hKt hw2 hkp3) (hKb _ _ _ _ Pc hl3 (hp _ _))⟩⟩
   |exit id=>
    obtain⟨hk3,hkp3,hi3⟩:=hpx
    obtain⟨hr,hl3,hl4,hk4⟩:=fin (some (.exit id)) W3 hk3
    exact⟨_,_,hr,.inr ⟨rfl,⟨.exit id,(hIx _).putObj _ hi3 Pc hl3 rfl,hl4,hk4⟩,hKt (hKt hw2 hkp3) (hKb _ _ _ _ Pc hl3 (hp _ _))⟩⟩
   |goto t=>exact hpx.elim
   |panic ch=>exact hpx.elim
   |outgrown=>exact hpx.elim
  ·have:=List.all_eq_true.1 hpn pv.1 (List.of_mem_zip (show(pv.1,pv.2)∈_ from hpv)).1
   simpa using this
 ·rintro e W2 ⟨⟨v,rfl⟩,(⟨hi,hl,hk⟩|⟨pre,hSp,c,hi,hl,hk⟩)⟩
  ·refine⟨none,_,by have:=run_endLoop (P:=G.P) hl (by rw[hlr];simp);rw[hlr]at this;exact this,?_⟩
   exact(hdone _ _ (Pr _) (hI.putObj _ hi Pc hl rfl) ((World.putObj_heap_other Pc).trans hk)).h _ ⟨⟨ha.ag.sz,rfl,ha.ag.eq⟩,by simp[ha.df]⟩
  ·refine⟨some c,_,by have:=run_endLoop (P:=G.P) hl (by rw[hlr];simp);rw[hlr]at this;exact this,?_⟩
   exact(hstop _ c pre _ (Pr _) hSp ((hIx c).putObj _ hi Pc hl rfl) ((World.putObj_heap_other Pc).trans hk)).h _ ⟨⟨ha.ag.sz,rfl,ha.ag.eq⟩,by simp[ha.df]⟩⟩
end
variable {c:dv} {s:ck} {fs:List nS} {f:nS}
theorem ck.II {a:Int} {b:Bool} {r:List (Int×Bool)} (h:s.ps=r++[(a,b)]):s.at_=a∧s.loose=b:=by
 have e:ix s.ps (s.ps.length - 1)=(a,b):=by rw[h,Pt,List.length_singleton,Nat.add_sub_cancel,gJ (Pr _),PO];rfl
 unfold ck.at_ ck.loose;rw[e];exact⟨rfl,rfl⟩
theorem ck.Ok.at_ (h:s.Ok):0≤s.at_∧s.at_≤s.ts.length:=by
 have:=h.some
 exact h.le _ Pc
structure ck.Wf (s:ck):Prop where
 some:0<s.ps.length
 pos:∀i,i<s.ps.length→0≤(ix s.ps i).1
 mono:∀i j,i≤j→j<s.ps.length→(ix s.ps i).1≤(ix s.ps j).1
 top:s.at_≤s.ts.length
theorem ck.Wf.ok (h:s.Wf):s.Ok:=⟨h.some,fun i hi=>⟨h.pos i hi,by
 have:=h.mono i (s.ps.length - 1) Pc Pc
 have h2:(ix s.ps (s.ps.length - 1)).1≤s.ts.length:=h.top
 omega⟩⟩
theorem ck.Wf.at_ (h:s.Wf):0≤s.at_∧s.at_≤s.ts.length:=h.ok.at_
theorem qK (h:s.Wf) (l:List Int):(aS s l).Wf:=⟨h.some,h.pos,h.mono,by have:=h.top;show s.at_≤((s.ts++l).length:Int);rw[Pt];omega⟩
theorem FG (h:s.Wf):(aW s).Wf:=by
 have e:(aW s).at_=(s.ts.length:Int):=(ck.II (s:=aW s) (a:=(s.ts.length:Int)) (b:=false) (r:=s.ps) rfl).1
 have e2:∀i,i<s.ps.length→ix (aW s).ps i=ix s.ps i:=fun i hi=>iF hi
 have e3:(ix (aW s).ps s.ps.length).1=(s.ts.length:Int):=by show(ix (s.ps++[((s.ts.length:Int),false)]) s.ps.length).1=_;rw[gJ (Pr _),PO];rfl
 have hl:(aW s).ps.length=s.ps.length+1:=by simp[aW]
 refine⟨by rw[hl];omega,fun i hi=>?_,fun i j hij hj=>?_,by rw[e];exact Int.le_refl _⟩
 ·by_cases hlt:i<s.ps.length
  ·rw[e2 i hlt];exact h.pos i hlt
  ·have:i=s.ps.length:=by omega
   subst this;rw[e3];omega
 ·by_cases hlt:j<s.ps.length
  ·rw[e2 i Pc,e2 j hlt];exact h.mono i j hij hlt
  ·have:j=s.ps.length:=by omega
   subst this
   rw[e3]
   by_cases hi:i<s.ps.length
   ·rw[e2 i hi];exact(h.ok.le i hi).2
   ·have:i=s.ps.length:=by omega
    subst this;rw[e3];exact Int.le_refl _
theorem CS (h:s.Wf) {n:Nat} (hn:s.at_≤n) (hl:n≤s.ts.length):({s with ts:=s.ts.take n}:ck).Wf:=⟨h.some,h.pos,h.mono,by show s.at_≤((s.ts.take n).length:Int);rw[Ps];omega⟩
theorem dE (h:s.Wf) (l:List Int):(aK s l).1.Wf:=by
 unfold aK
 dsimp only
 split
 ·rename_i h0
  have:=jM l.reverse s.ts.length h.top h0
  exact CS h this.1 this.2
 ·exact h
theorem fm (s:ck) (l:List Int):(aK s l).1.ps=s.ps:=by unfold aK;dsimp only;split<;>rfl
theorem jn (h:s.Wf):(aY s).1.Wf:=by
 unfold aY
 split
 ·exact CS h Pc Pc
 ·split<;>exact h
theorem DF (h:s.Wf):(dG s).Wf:=by
 have h0:=h.some
 have e:∀i,i<s.ps.length→(ix (s.ps.set (s.ps.length - 1) (s.at_,true)) i).1=(ix s.ps i).1:=fun i hi=>by
  rw[cz (by simpa using hi),List.getElem_set,cz hi]
  split
  ·rename_i e;subst e
   show s.at_=_
   unfold ck.at_;rw[cz Pc]
  ·rfl
 have ea:(dG s).at_=s.at_:=by
  show(ix (s.ps.set (s.ps.length - 1) (s.at_,true)) ((s.ps.set (s.ps.length - 1) (s.at_,true)).length - 1)).1=_
  rw[List.length_set,e _ Pc];rfl
 have hl:(dG s).ps.length=s.ps.length:=List.length_set
 have h2:=h.at_
 refine⟨by rw[hl];exact h0,fun i hi=>?_,fun i j hij hj=>?_,?_⟩
 ·rw[hl]at hi
  show 0≤(ix (s.ps.set (s.ps.length - 1) (s.at_,true)) i).1
  rw[e i hi];exact h.pos i hi
 ·rw[hl]at hj
  show(ix (s.ps.set (s.ps.length - 1) (s.at_,true)) i).1≤(ix (s.ps.set (s.ps.length - 1) (s.at_,true)) j).1
  rw[e i Pc,e j hj];exact h.mono i j hij hj
 ·rw[ea]
  show s.at_≤((s.ts.take s.at_.toNat).length:Int)
  rw[Ps];omega
theorem jl {α:Type} [Inhabited α] {l:List α} {n i:Nat} (hi:i<n) (hl:n≤l.length):ix (l.take n) i=ix l i:=by
 rw[cz OT,cz Pc];simp
theorem vl (h:s.Wf) (l:List Int):(cP s l).1.Wf:=by
 unfold cP
 dsimp only
 split
 ·exact h
 ·rename_i h0
  split
  ·exact h
  ·rename_i h1
   have h2:=jM l.reverse s.ts.length h.top Pc
   have h3:=h.at_
   have h4:=h.some
   by_cases h5:s.ps.length=1
   ·rw[if_pos h5]
    refine⟨by simp,fun i hi=>?_,fun i j hij hj=>?_,?_⟩
    ·have:i=0:=by simpa using hi
     subst this;exact Int.le_refl _
    ·have:j=0:=by simpa using hj
     subst this
     have:i=0:=by omega
     subst this;exact Int.le_refl _
    ·show(0:Int)≤((s.ts.take _).length:Int);omega
   ·rw[if_neg h5]
    have hl:(s.ps.take (s.ps.length - 1)).length=s.ps.length - 1:=by rw[Ps];omega
    refine⟨by dsimp only;rw[hl];omega,fun i hi=>?_,fun i j hij hj=>?_,?_⟩
    ·dsimp only at hi ⊢;rw[hl]at hi;rw[jl hi Pc];exact h.pos i Pc
    ·dsimp only at hj ⊢;rw[hl]at hj;rw[jl hj Pc,jl Pc Pc];exact h.mono i j hij Pc
    ·show(ix (s.ps.take (s.ps.length - 1)) ((s.ps.take (s.ps.length - 1)).length - 1)).1≤((s.ts.take (eU s l.reverse s.ts.length).1).length:Int)
     rw[hl,jl Pc Pc]
     have h6:=h.mono (s.ps.length - 1 - 1) (s.ps.length - 1) Pc Pc
     have h7:(ix s.ps (s.ps.length - 1)).1=s.at_:=rfl
     rw[Ps];omega
theorem vk {l:List Int} (h:(cP s l).2=0):(cP s l).1.ps=if s.ps.length=1 then[(0,false)]else s.ps.take (s.ps.length - 1):=by
 unfold cP at h ⊢
 dsimp only at h ⊢
 split at h
 ·contradiction
 ·rename_i h0
  rw[if_neg h0]
  split at h
  ·cases h
  ·rename_i h1
   rw[if_neg h1]
structure zc (fs:List nS):Prop where
 kinds:∀i,i<fs.length→(ix fs i).kind=0∨(ix fs i).kind=2∨(ix fs i).kind=3∨(ix fs i).kind=4
 other:∀i,i<fs.length→(ix fs i).other=true→(ix fs i).kind=4
 first:0<fs.length→(ix fs 0).lq=true∧(ix fs 0).kind=0
theorem zc.snoc (h:zc fs) (hk:f.kind=0∨f.kind=2∨f.kind=3∨f.kind=4) (ho:f.other=true→f.kind=4) (hw:0<fs.length):zc (fs++[f]):=by
 have hl:(fs++[f]).length=fs.length+1:=by simp
 have e:∀i,i<fs.length→ix (fs++[f]) i=ix fs i:=fun i hi=>iF hi
 have e2:ix (fs++[f]) fs.length=f:=by rw[gJ (Pr _),PO];rfl
 refine⟨fun i hi=>?_,fun i hi=>?_,fun _=>by rw[e 0 hw];exact h.first hw⟩
 ·by_cases hlt:i<fs.length
  ·rw[e i hlt];exact h.kinds i hlt
  ·have:i=fs.length:=by omega
   subst this;rw[e2];exact hk
 ·by_cases hlt:i<fs.length
  ·rw[e i hlt];exact h.other i hlt
  ·have:i=fs.length:=by omega
   subst this;rw[e2];exact ho
theorem zc.take (h:zc fs) {n:Nat} (hn:n≤fs.length):zc (fs.take n):=by
 have hl:(fs.take n).length=n:=by rw[Ps];omega
 refine⟨fun i hi=>?_,fun i hi=>?_,fun h0=>?_⟩
 ·rw[hl]at hi;rw[jl hi hn];exact h.kinds i Pc
 ·rw[hl]at hi;rw[jl hi hn];exact h.other i Pc
 ·rw[hl]at h0;rw[jl h0 hn];exact h.first Pc
structure dv.Wf (c:dv):Prop where
 ao:c.ao.Wf
 many:c.ao.ps.length=c.fs.length+1
 fr:zc c.fs
 ended:c.fs.length=0→c.live=true
theorem GW (r:List Int):(jR r).Wf:=by
 refine⟨⟨by simp[jR],fun i hi=>?_,fun i j hij hj=>?_,show(0:Int)≤0 from Int.le_refl _⟩,rfl,⟨fun i hi=>?_,fun i hi h=>?_,fun _=>⟨rfl,rfl⟩⟩,fun h=>by simp[jR]at h⟩
 ·have:i=0∨i=1:=by simp[jR]at hi;omega
  rcases this with rfl|rfl<;>simp[jR,ix]
 ·have:(i=0∨i=1)∧(j=0∨j=1):=by simp[jR]at hj;omega
  obtain⟨rfl|rfl,rfl|rfl⟩:=this<;>simp[jR,ix]
 ·have:i=0:=by simp[jR]at hi;exact hi
  subst this;exact .inl rfl
 ·have:i=0:=by simp[jR]at hi;exact hi
  subst this;cases h
theorem wX (hs:s.Wf) (hm:s.ps.length=fs.length+1) (hf:zc (fs++[f])):(gW c s fs f).Wf:=
 ⟨qK (FG hs) _,by show(s.ps++[((s.ts.length:Int),false)]).length=(fs++[f]).length+1;simp[hm],hf,fun h=>by have h':(fs++[f]).length=0:=h;simp at h'⟩
theorem Dj (h:c.Wf) (op:Int) (par res:List Int):(jv c op par res).1.Wf:=by
 unfold jv
 split
 ·exact h
 ·split
  ·exact h
  ·rename_i hop
   split
   ·exact h
   ·rename_i hn
    have ha:(if op=4 then aK c.ao [1]else(c.ao,0)).1.Wf∧(if op=4 then aK c.ao [1]else(c.ao,0)).1.ps=c.ao.ps:=by
     split
     ·exact⟨dE h.ao _,fm _ _⟩
     ·exact⟨h.ao,rfl⟩
    revert ha
    generalize (if op=4 then aK c.ao [1]else(c.ao,0))=a
    intro ha
    dsimp only
    split
    ·exact⟨h.ao,h.many,h.fr,h.ended⟩
    ·split
     ·exact⟨ha.1,by show a.1.ps.length=_;rw[ha.2];exact h.many,h.fr,h.ended⟩
     ·exact wX (dE ha.1 _) (by rw[fm,ha.2];exact h.many) (h.fr.snoc O0 (fun h=>by cases h) Pc)
theorem E6 (h:c.Wf):(my c).1.Wf:=by
 unfold my
 split
 ·exact h
 ·split
  ·exact h
  ·rename_i hb hn
   simp only[not_or,Bool.not_eq_true]at hn
   obtain⟨h0,h4,h5⟩:=hn
   have h4':c.top.kind=4:=by omega
   dsimp only
   split
   ·exact⟨h.ao,h.many,h.fr,h.ended⟩
   ·rename_i he
    have hl:1<c.fs.length:=by
     rcases Nat.lt_or_ge 1 c.fs.length with h1|h1
     ·exact h1
     ·have h6:c.fs.length - 1=0:=by omega
      have:=(h.fr.first Pc).2
      have h7:(ix c.fs (c.fs.length - 1)).kind=4:=h4'
      rw[h6]at h7;omega
    refine wX (vl h.ao _) ?_ ?_
    ·have hm:=h.many
     rw[vk Pc,if_neg Pc,Ps,Ps];omega
    ·exact(h.fr.take Pc).snoc (.inr (.inr (.inr h4'))) (fun _=>h4') OT
theorem DA (h:c.Wf):(ke c).1.Wf:=by
 unfold ke
 split
 ·exact h
 ·split
  ·exact h
  ·rename_i hb h0
   dsimp only
   have hm:=h.many
   split
   ·exact⟨h.ao,h.many,h.fr,h.ended⟩
   ·rename_i he
    have hps:(cP c.ao c.top.res).1.ps.length=c.fs.length:=by
     rw[vk Pc,if_neg Pc,Ps];omega
    have hfl:(c.fs.take (c.fs.length - 1)).length=c.fs.length - 1:=by rw[Ps];omega
    split
    ·rename_i hk
     refine⟨vl h.ao _,by show(cP c.ao c.top.res).1.ps.length=(c.fs.take (c.fs.length - 1)).length+1;omega,h.fr.take Pc,fun hz=>?_⟩
     have hz':(c.fs.take (c.fs.length - 1)).length=0:=hz
     have h6:c.fs.length - 1=0:=by omega
     have h7:(ix c.fs (c.fs.length - 1)).kind=4:=hk.1
     rw[h6]at h7
     have:=(h.fr.first Pc).2
     omega
    ·refine⟨qK (vl h.ao _) _,by show(cP c.ao c.top.res).1.ps.length=(c.fs.take (c.fs.length - 1)).length+1;omega,h.fr.take Pc,fun hz=>?_⟩
     have hz':(c.fs.take (c.fs.length - 1)).length=0:=hz
     have h6:c.fs.length - 1=0:=by omega
     show(ix c.fs (c.fs.length - 1)).lq=true
     rw[h6];exact(h.fr.first Pc).1
theorem EY (h:c.Wf):(iE c).Wf:=by
 unfold iE
 split
 ·exact h
 ·rename_i hn
  simp only[not_or]at hn
  exact⟨DF h.ao,by show(c.ao.ps.set _ _).length=_;rw[List.length_set];exact h.many,h.fr,fun hz=>absurd hz hn.2⟩
end Go.Proofs.YtdkcljdfbemnbaaGreatDoor
