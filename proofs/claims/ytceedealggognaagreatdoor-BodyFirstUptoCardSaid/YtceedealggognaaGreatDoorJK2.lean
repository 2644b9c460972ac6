/- A region that draws its order and holds operations that write or make memory: the operations that only read are taken first; whenever one that writes is taken, it alone can come. One walk in that order serves every order. -/
import Derived.Test.YtceedealggognaaGreatDoorProg
import Derived.Still
import Derived.Orders
import Derived.Laws.World
import Derived.WalkKit
import Derived.KernelRfl
import Derived.Deep.Quiet
import Derived.StillTail
import Derived.WalkSmall
import Derived.Lib.Hide
import Derived.Scope
namespace Go.Proofs.YtceedealggognaaGreatDoor
def mn:Op→Bool
 |.move _|.assign _|.pick _ _ _|.build _ _|.load _ _|.nilCheck _|.binOp _ _ _ _ _|.unOp _ _ _|.convert _ _ _|.makeFunc _ _ _|.slice _ _ _ _ _|.fieldAddr _ _ _|.field _ _ _|.indexAddr _ _ _|.index _ _ _|.extract _ _|.lookup _ _ _ _|.makeInterface _ _=>true
 |.call c=>match c.callee with
  |.builtin .len=>true
  |_=>false
 |_=>false
section
variable {P:Program} {ops:Array Oper} {md:Region.Mode} {C:World→Prop}
def iY (P:Program) (K:Value→World→Prop):Result Next→Prop
 |.ok (.value v) w'=>K v w'
 |.ok .skip w'=>K undef w'
 |.ok (.enter f args) w'=>Calls P f args w' (fun e w''=>∃v,e=.returned v∧K v w'')
 |_=>False
theorem bZ {K K':Value→World→Prop} {r:Result Next} (h:iY P K r) (hk:∀v w,K v w→K' v w):iY P K' r:=by
 cases r with
 |ok n w=>
  cases n<;>simp only[iY]at h ⊢
  case value v=>exact hk _ _ h
  case skip=>exact hk _ _ h
  case enter f args=>exact h.mono fun e w' ⟨v,e1,h1⟩=>⟨v,e1,hk _ _ h1⟩
 |halt x w=>exact h.elim
def qi (P:Program) (ops:Array Oper) (C:World→Prop) (z:Nat) (i:Nat) (K:Act→World→Prop) (a:Act) (w:World):Prop:=
 match ops[i]? with
 |none=>K a w
 |some o=>if Region.wanted o (yielded ops a.tmps)then iY P (fun v w'=>(i=z∨C w')∧K (a.put o.dst v) w') ((execOp a.eval o).run P w)else K (a.put o.dst undef) w
def kf (P:Program) (md:Region.Mode) (ops:Array Oper) (C:World→Prop) (z:Nat) (K:Act→World→Prop):Nat→Array Bool→Act→World→Prop
 |0,listed,a,w=>Region.ready md ops listed=[]∧K a w
 |fuel+1,listed,a,w=>
  (Region.ready md ops listed=[]→K a w)∧
  ∀i∈Region.ready md ops listed,qi P ops C z i (kf P md ops C z K fuel (listed.setIfInBounds i true)) a w
theorem ur {z i:Nat} {a:Act} {w:World} {K K':Act→World→Prop} {Q:Exit→Act→World→Prop} (hk:∀a w,K a w→K' a w) (h:qi P ops C z i K a w):wpOp P ops Q i K' a w:=by
 unfold qi at h
 unfold wpOp
 cases ho:ops[i]? with
 |none=>simp only[ho]at h ⊢;exact hk _ _ h
 |some o=>
  simp only[ho]at h ⊢
  split
  ·rename_i hw
   simp only[hw,if_true]at h
   refine .inl ?_
   unfold Oper.wp
   generalize (execOp a.eval o).run P w=r at*
   cases r with
   |ok n w'=>
    cases n<;>simp only[iY]at h<;>simp only[Oper.upon]
    case value v=>exact hk _ _ h.2
    case skip=>exact hk _ _ h.2
    case enter f args=>
     refine h.mono fun e w'' ⟨v,e1,h1,h2⟩=>?_
     subst e1
     exact hk _ _ h2
   |halt x w'=>exact h.elim
  ·rename_i hw
   simp only[hw]at h
   exact hk _ _ h
theorem ki {z:Nat} {K:Act→World→Prop} {Q:Exit→Act→World→Prop} (hQ:∀a w,K a w→Q .normal a w):∀(fuel:Nat) (listed:Array Bool) (a:Act) (w:World),kf P md ops C z K fuel listed a w→wpAny P md ops Q fuel listed a w
 |0,_,_,_,h=>⟨h.1,hQ _ _ h.2⟩
 |fuel+1,_,_,_,h=>⟨fun h0=>hQ _ _ (h.1 h0),fun i hi=>ur (fun a w hk=>ki hQ fuel _ a w hk) (h.2 i hi)⟩
def YV (P:Program) (ops:Array Oper) (C:World→Prop) (o:Oper) (v:Value) (a:Act):Prop:=
 (Region.wanted o (yielded ops a.tmps)=true∧∀w,C w→(execOp a.eval o).run P w=.ok (.value v) w)∨(Region.wanted o (yielded ops a.tmps)=false∧v=undef)
theorem YV.of_same {o:Oper} {v:Value} {a a':Act} (hy:YV P ops C o v a) (he:execOp a'.eval o=execOp a.eval o) (hw:Region.wanted o (yielded ops a'.tmps)=Region.wanted o (yielded ops a.tmps)):YV P ops C o v a':=by
 unfold YV at*;rw[he,hw];exact hy
theorem YV.qi {z i:Nat} {o:Oper} {v:Value} {a:Act} {w:World} (hi:ops[i]?=some o) (hy:YV P ops C o v a) (hC:C w) {K:Act→World→Prop} (h:K (a.put o.dst v) w):qi P ops C z i K a w:=by
 unfold Go.Proofs.YtceedealggognaaGreatDoor.qi
 simp only[hi]
 rcases hy with⟨hw,hv⟩|⟨hw,rfl⟩
 ·simp only[hw,if_true,hv w hC,iY];exact⟨.inr hC,h⟩
 ·simp only[hw,Bool.false_eq_true,if_false];exact h
theorem yN {z i:Nat} {a:Act} {w:World} {K K':Act→World→Prop} (hi:i≠z) (hC:C w) (hk:∀a w,C w→K a w→K' a w) (h:qi P ops C z i K a w):qi P ops C z i K' a w:=by
 unfold qi at*
 cases ho:ops[i]? with
 |none=>simp only[ho]at h ⊢;exact hk _ _ hC h
 |some o=>
  simp only[ho]at h ⊢
  split
  ·rename_i hw;simp only[hw,if_true]at h;exact bZ h fun v w ⟨h1,h2⟩=>⟨h1,hk _ _ (h1.resolve_left hi) h2⟩
  ·rename_i hw;simp only[hw]at h;exact hk _ _ hC h
theorem Ap {z j:Nat} {oi oj:Oper} {v:Value} (hj:ops[j]?=some oj) (hap:oi.apart ops oj=true) (hsi:∀cs b,oi.op≠.select cs b) (hsj:∀cs b,oj.op≠.select cs b) {K:Act→World→Prop} {a:Act} {w:World}
  (hy:YV P ops C oi v a) (h:qi P ops C z j K (a.put oi.dst v) w):qi P ops C z j (fun a' w'=>YV P ops C oi v a'∧K (a'.put oi.dst v) w') a w:=by
 obtain⟨h1,h2,h3⟩:=Oper.apart_spec hap
 have w8:∀u,YV P ops C oi v (a.put oj.dst u):=fun u=>hy.of_same (execOp_put oi hsi a oj.dst u h3) (wanted_put oi a oj.dst u h3)
 unfold qi at*
 simp only[hj]at*
 rw[wanted_put oj a oi.dst v h1,execOp_put oj hsj a oi.dst v h1]at h
 split
 ·rename_i hw
  simp only[hw,if_true]at h
  refine bZ h fun u w' ⟨g1,g2⟩=>⟨g1,w8 u,?_⟩
  rw[←Act.put_comm a v u h2];exact g2
 ·rename_i hw
  simp only[hw]at h
  exact⟨w8 _,by rw[←Act.put_comm a v undef h2];exact h⟩
def sM (md:Region.Mode) (ops:Array Oper) (listed:Array Bool):Prop:=∀j o,ops[j]?=some o→listed.getD j false=true→∀e∈o.after,Region.binds md e=true→listed.getD e.on false=true
theorem lG {listed:Array Bool} {i k:Nat} (h:listed.getD k false=true):(listed.setIfInBounds i true).getD k false=true:=by
 by_cases e:i=k
 ·subst e
  have hs:i<listed.size:=by
   rcases Nat.lt_or_ge i listed.size with h'|h'
   ·exact h'
   ·simp[Array.getElem?_eq_none h']at h
  simp[hs]
 ·rw[getD_set_ne false e];exact h
theorem sM.set {listed:Array Bool} {i:Nat} (h:sM md ops listed) (hi:i∈Region.ready md ops listed):sM md ops (listed.setIfInBounds i true):=by
 intro j o ho hj e he hb
 by_cases ej:i=j
 ·subst ej
  obtain⟨_,o2,ho2,hall⟩:=mem_ready.1 hi
  rw[ho]at ho2;cases ho2
  exact lG (hall e he hb)
 ·rw[getD_set_ne false ej]at hj
  exact lG (h j o ho hj e he hb)
theorem sM.start (n:Nat):sM md ops (Array.replicate n false):=by
 intro j o _ hj
 rcases Nat.lt_or_ge j n with h|h
 ·simp[h]at hj
 ·simp[Nat.not_lt.2 h]at hj
theorem kg {z:Nat} {K:Act→World→Prop} {i:Nat} {oi:Oper} {v:Value} (hi:ops[i]?=some oi) (hsel:∀(j:Nat) (o:Oper) cs b,ops[j]?=some o→o.op≠.select cs b)
  (hz:∀listed:Array Bool,sM md ops listed→listed.getD i true=false→i≠z→z ∉ Region.ready md ops listed) (hiz:i≠z):
  ∀(fuel:Nat) (listed:Array Bool) (a:Act) (w:World),C w→sM md ops listed→
   (∀j oj,ops[j]?=some oj→j≠i→listed.getD j true=false→(∀e∈oj.after,Region.binds md e=true→e.on≠i)→oi.apart ops oj=true)→
   i∈Region.ready md ops listed→YV P ops C oi v a→
   kf P md ops C z K fuel (listed.setIfInBounds i true) (a.put oi.dst v) w→kf P md ops C z K (fuel+1) listed a w:=by
 intro fuel
 induction fuel with
 |zero=>
  intro listed a w hC _ _ hr hy H
  refine⟨fun h=>(by rw[h]at hr;cases hr),fun j hj=>?_⟩
  by_cases hji:j=i
  ·subst hji;exact hy.qi hi hC H
  ·have:=ready_mono hj hji
   rw[H.1]at this
   cases this
 |succ fuel ih=>
  intro listed a w hC hcl hfree hr hy H
  refine⟨fun h=>(by rw[h]at hr;cases hr),fun j hj=>?_⟩
  by_cases hji:j=i
  ·subst hji;exact hy.qi hi hC H
  ·have h1:=H.2 j (ready_mono hj hji)
   obtain⟨hjun,oj,hoj,hall⟩:=mem_ready.1 hj
   have hnot:∀e∈oj.after,Region.binds md e=true→e.on≠i:=fun e he hb heq=>by
    have h1:=hall e he hb
    have h0:=(mem_ready.1 hr).1
    rw[heq]at h1
    rcases Nat.lt_or_ge i listed.size with h'|h'
    ·simp[h']at h0 h1;rw[h0]at h1;cases h1
    ·simp[Array.getElem?_eq_none h']at h1
   have h2:=Ap hoj (hfree j oj hoj hji hjun hnot) (fun cs b=>hsel i oi cs b hi) (fun cs b=>hsel j oj cs b hoj) hy h1
   have hfree':∀k ok,ops[k]?=some ok→k≠i→(listed.setIfInBounds j true).getD k true=false→
     (∀e∈ok.after,Region.binds md e=true→e.on≠i)→oi.apart ops ok=true:=fun k ok hk hki hun hno=>by
    refine hfree k ok hk hki ?_ hno
    by_cases hjk:j=k
    ·subst hjk;exact hjun
    ·rw[getD_set_ne true hjk]at hun;exact hun
   have hjz:j≠z:=fun e=>by subst e;exact hz listed hcl (mem_ready.1 hr).1 hiz hj
   refine yN hjz hC (fun a' w' hC' h3=>ih (listed.setIfInBounds j true) a' w' hC' (hcl.set hj) hfree' (ready_mono hr (Ne.symm hji)) h3.1 ?_) h2
   rw[Array.setIfInBounds_comm _ _ hji]
   exact h3.2
def jm (P:Program) (ops:Array Oper) (C:World→Prop) (sk:Bool) (K:Act→World→Prop):List Oper→Act→World→Prop
  |[],a,w=>K a w
  |o::rest,a,w=>
    if Region.wanted o (yielded ops a.tmps)then
      (if mn o.op then∃v,(∀w,C w→(execOp a.eval o).run P w=.ok (.value v) w)∧jm P ops C sk K rest (a.put o.dst v) w
       else iY P (fun v w'=>((sk=true∧rest=[])∨C w')∧jm P ops C sk K rest (a.put o.dst v) w') ((execOp a.eval o).run P w))
    else jm P ops C sk K rest (a.put o.dst undef) w
def uS (md:Region.Mode) (ops:Array Oper):List Nat→Array Bool→Bool
  |[],listed=>(Region.ready md ops listed).isEmpty
  |k::r,listed=>
    (match ops[k]? with
     |some o=>if mn o.op then(Region.ready md ops listed).contains k && Region.free md ops listed k else Region.ready md ops listed==[k]
     |none=>false) && uS md ops r (listed.setIfInBounds k true)
def pick (l:List Oper):List Nat→List Oper
 |[]=>[]
 |i::r=>l.getD i default::pick l r
def ye (md:Region.Mode) (ops:Array Oper):Nat→Nat→Nat→Bool
 |0,_,_=>false
 |f+1,z,k=>match ops[z]? with
  |some o=>o.after.any fun e=>Region.binds md e && (e.on==k || ye md ops f e.on k)
  |none=>false
theorem qD {listed:Array Bool} (hcl:sM md ops listed):∀(f z k:Nat),(∀o,ops[z]?=some o→∀e∈o.after,Region.binds md e=true→listed.getD e.on false=true)→ye md ops f z k=true→listed.getD k false=true
 |0,_,_,_,h=>by simp[ye]at h
 |f+1,z,k,hz,h=>by
  unfold ye at h
  cases ho:ops[z]? with
  |none=>simp[ho]at h
  |some o=>
   simp only[ho,Array.any_eq_true',Bool.and_eq_true,Bool.or_eq_true,beq_iff_eq]at h
   obtain⟨e,he,hb,h1⟩:=h
   have h2:=hz o ho e he hb
   rcases h1 with h1|h1
   ·rw[←h1];exact h2
   ·exact qD hcl f e.on k (fun o2 ho2 e2 he2 hb2=>hcl e.on o2 ho2 h2 e2 he2 hb2) h1
def sinkB (md:Region.Mode) (ops:Array Oper) (z:Nat):Bool:=
 (List.range ops.size).all fun k=>k==z || ye md ops 16 z k
theorem pO {z i:Nat} (h:sinkB md ops z=true) (hi:i<ops.size) (hne:i≠z) {listed:Array Bool} (hcl:sM md ops listed) (hl:listed.getD i true=false):z ∉ Region.ready md ops listed:=by
 intro hz
 obtain⟨_,o,ho,hall⟩:=mem_ready.1 hz
 simp only[sinkB,List.all_eq_true,List.mem_range]at h
 have h1:=h i hi
 simp only[Bool.or_eq_true,beq_iff_eq,hne,false_or]at h1
 have h2:=qD hcl 16 z i (fun o2 ho2 e he hb=>by rw[ho]at ho2;cases ho2;exact hall e he hb) h1
 rcases Nat.lt_or_ge i listed.size with h'|h'
 ·simp[h']at hl h2;rw[hl]at h2;cases h2
 ·simp[Array.getElem?_eq_none h']at h2
theorem kh {l:List Oper} {sk:Bool} {z:Nat} {K:Act→World→Prop} (hs:Region.noSelect l.toArray=true) (hz:z<l.length→sinkB md l.toArray z=true):∀(ord:List Nat) (listed:Array Bool) (a:Act) (w:World),C w→sM md l.toArray listed→(sk=true→ord.getLast?=some z)→(∀k∈ord,k=z→∃r,ord=r++[z]∧z ∉ r)→(z<l.length→mn (l.getD z default).op=false)→
  uS md l.toArray ord listed=true→jm P l.toArray C sk K (pick l ord) a w→kf P md l.toArray C z K ord.length listed a w
 |[],_,_,_,_,_,_,_,_,hB,h=>⟨by simpa[uS]using hB,h⟩
 |k::r,listed,a,w,hC,hcl,hsk,hone,hzq,hB,h=>by
  simp only[uS,Bool.and_eq_true]at hB
  obtain⟨hB1,hB2⟩:=hB
  cases ho:l.toArray[k]? with
  |none=>simp[ho]at hB1
  |some o=>
   have hl:l[k]?=some o:=by simpa using ho
   have hkl:k<l.length:=(List.getElem?_eq_some_iff.1 hl).1
   have hp:pick l (k::r)=o::pick l r:=by simp[pick,hl]
   rw[hp]at h
   simp only[ho]at hB1
   have hsk':r≠[]→sk=true→r.getLast?=some z:=fun hr e=>by
    have:=hsk e
    rw[List.getLast?_cons]at this
    cases hrl:r.getLast? with
    |none=>simp at hrl;exact absurd hrl hr
    |some y=>rw[hrl]at this;simpa using this
   have hone':∀q∈r,q=z→∃r',r=r'++[z]∧z ∉ r':=fun q hq e=>by
    obtain⟨r',e1,e2⟩:=hone q (List.mem_cons_of_mem _ hq) e
    cases r' with
    |nil=>simp at e1;rw[e1.2]at hq;cases hq
    |cons y r''=>simp at e1;exact⟨r'',e1.2,fun h=>e2 (List.mem_cons_of_mem _ h)⟩
   by_cases hq:mn o.op=true
   ·simp only[hq,if_true,Bool.and_eq_true]at hB1
    have hkz:k≠z:=fun e=>by
     subst e
     have:=hzq hkl
     rw[List.getD_eq_getElem?_getD,hl]at this
     simp[hq]at this
    have hy:∃v,YV P l.toArray C o v a∧jm P l.toArray C sk K (pick l r) (a.put o.dst v) w:=by
     unfold jm at h
     by_cases hw:Region.wanted o (yielded l.toArray a.tmps)=true
     ·simp only[hw,hq,if_true]at h
      obtain⟨v,h1,h2⟩:=h
      exact⟨v,.inl ⟨hw,h1⟩,h2⟩
     ·simp only[hw]at h
      exact⟨undef,.inr ⟨by simpa using hw,rfl⟩,h⟩
    obtain⟨v,hy,hK⟩:=hy
    have hsk2:sk=true→r.getLast?=some z:=fun e=>by
     by_cases hr:r=[]
     ·subst hr;have:=hsk e;simp at this;exact absurd this hkz
     ·exact hsk' hr e
    have hkr:k∈Region.ready md l.toArray listed:=by simpa using hB1.1
    refine kg ho (Region.noSelect_spec hs) (fun listed hcl2 hl2 hne=>?_) hkz r.length listed a w hC hcl (Region.free_spec ho hB1.2) hkr hy (kh hs hz r _ _ _ hC (hcl.set hkr) hsk2 hone' hzq hB2 hK)
    by_cases hzl:z<l.length
    ·exact pO (hz hzl) (by simpa using hkl) hne hcl2 hl2
    ·intro hz2
     obtain⟨_,o2,ho2,_⟩:=mem_ready.1 hz2
     have:z<l.length:=by
      have:=(Array.getElem?_eq_some_iff.1 ho2).1
      simpa using this
     exact hzl this
   ·simp only[hq]at hB1
    have hr:Region.ready md l.toArray listed=[k]:=by simpa using hB1
    refine⟨fun h0=>(by rw[hr]at h0;cases h0),fun i hi=>?_⟩
    rw[hr]at hi
    obtain rfl:i=k:=by simpa using hi
    unfold qi
    simp only[ho]
    unfold jm at h
    by_cases hw:Region.wanted o (yielded l.toArray a.tmps)=true
    ·simp only[hw,hq,if_true]at h ⊢
     refine bZ h fun v w' ⟨g1,g2⟩=>?_
     by_cases hrn:r=[]
     ·subst hrn
      refine⟨?_,?_⟩
      ·rcases g1 with⟨e,_⟩|g1
       ·have:=hsk e;simp at this;exact .inl this
       ·exact .inr g1
      ·exact⟨by simpa[uS]using hB2,g2⟩
     ·have hpr:pick l r≠[]:=by cases r with
       |nil=>exact absurd rfl hrn
       |cons y r'=>simp[pick]
      have hC':C w':=by
       rcases g1 with⟨_,e⟩|g1
       ·exact absurd e hpr
       ·exact g1
      exact⟨.inr hC',kh hs hz r _ _ _ hC' (hcl.set (by rw[hr];simp)) (hsk' hrn) hone' hzq hB2 g2⟩
    ·simp only[hw]at h ⊢
     by_cases hrn:r=[]
     ·subst hrn;exact⟨by simpa[uS]using hB2,h⟩
     ·exact kh hs hz r _ _ _ hC (hcl.set (by rw[hr];simp)) (hsk' hrn) hone' hzq hB2 h
def CP (l:List Oper) (ord:List Nat):Bool:=Region.noSelect l.toArray && (ord.length==l.length) && uS .any l.toArray ord (Array.replicate l.length false)
def vT (l:List Oper) (ord:List Nat) (z:Nat):Bool:=CP l (ord++[z]) && sinkB .any l.toArray z && !ord.contains z && !mn (l.getD z default).op
theorem qc {id:Nat} {Q:Exit→Act→World→Prop} {a:Act} {w:World} {l:List Oper} (ord:List Nat) (z:Nat) (hm:P.follows .mixedOrders=true) (hB:vT l ord z=true) (hC:C w.drew)
  (h:jm P l.toArray C true (Q .normal) (pick l (ord++[z])) a w.drew):(Code.region id l.toArray true).wp P Q a w:=by
 simp only[vT,CP,Bool.and_eq_true,beq_iff_eq,Bool.not_eq_true']at hB
 obtain⟨⟨⟨⟨⟨h1,h2⟩,h3⟩,h4⟩,h5⟩,h6⟩:=hB
 have h5':z ∉ ord:=by intro e;rw[List.contains_iff_mem.2 e]at h5;cases h5
 refine wp_region_any hm (ki (C:=C) (z:=z) (K:=Q .normal) (fun _ _ h=>h) _ _ _ _ ?_)
 have:=kh (md:=.any) (z:=z) (sk:=true) h1 (fun _=>h4) (ord++[z]) (Array.replicate l.length false) a w.drew hC (sM.start _) (fun _=>by simp) (fun k hk e=>⟨ord,rfl,h5'⟩) (fun _=>h6) h3 h
 rw[h2]at this
 simpa using this
end
open Go.RowKit
abbrev Env:=List (Nat×Value)
def lk:Env→Nat→Option Value
 |[],_=>none
 |(t,v)::r,n=>bif Nat.beq t n then some v else lk r n
def ev (E:Env):Operand→Option Value
 |.tmp t=>lk E t
 |.const v=>some v
 |.global g=>some (.pointer (some ⟨g,0,none⟩))
 |.func f=>some (.func (.func f) #[] #[])
def ju (E:Env):List Operand→Option (List Value)
 |[]=>some []
 |x::r=>match ev E x,ju E r with
  |some v,some vs=>some (v::vs)
  |_,_=>none
structure Ag (n:Nat) (a:Act) (E:Env):Prop where
 sz:a.tmps.size=n
 df:a.defers=[]
 eq:∀t v,lk E t=some v→t<n∧a.tmps.getD t undef=v
theorem rZ (t:Nat) (v:Value) (E:Env) (n:Nat):lk ((t,v)::E) n=if t=n then some v else lk E n:=by
 simp only[lk]
 by_cases h:t=n
 ·subst h;simp
 ·rw[if_neg h]
  have:Nat.beq t n=false:=by
   rw[Bool.eq_false_iff];intro e;exact h (Nat.eq_of_beq_eq_true e)
  rw[this];rfl
theorem Ag.eval {n:Nat} {a:Act} {E:Env} (h:Ag n a E) {x:Operand} {v:Value} (hx:ev E x=some v):a.eval x=v:=by
 cases x with
 |tmp t=>exact(h.eq t v hx).2
 |const u=>simp only[ev,Option.some.injEq]at hx;exact hx
 |global g=>simp only[ev,Option.some.injEq]at hx;exact hx
 |func f=>simp only[ev,Option.some.injEq]at hx;exact hx
theorem Ag.lF {n:Nat} {a:Act} {E:Env} (h:Ag n a E):∀{xs:List Operand} {vs:List Value},ju E xs=some vs→xs.map a.eval=vs
 |[],vs,hx=>by simp[ju]at hx;simp[hx]
 |x::r,vs,hx=>by
  simp only[ju]at hx
  cases h1:ev E x with
  |none=>simp[h1]at hx
  |some v=>
   cases h2:ju E r with
   |none=>simp[h1,h2]at hx
   |some us=>
    simp only[h1,h2,Option.some.injEq]at hx
    subst hx
    simp[h.eval h1,h.lF h2]
theorem Ag.put {n:Nat} {a:Act} {E:Env} (h:Ag n a E) {d:Nat} (hd:d<n) (v:Value):Ag n (a.put (some d) v) ((d,v)::E):=by
 refine⟨by simp[Act.put,h.sz],by simp[Act.put,h.df],fun t u ht=>?_⟩
 rw[rZ]at ht
 by_cases e:d=t
 ·subst e
  rw[if_pos rfl]at ht
  cases ht
  refine⟨hd,?_⟩
  have hs:d<a.tmps.size:=by rw[h.sz];exact hd
  simp[Act.put,Array.getD,hs]
 ·rw[if_neg e]at ht
  obtain⟨h1,h2⟩:=h.eq t u ht
  refine⟨h1,?_⟩
  rw[←h2]
  have ht':t<a.tmps.size:=by rw[h.sz];exact h1
  simp[Act.put,Array.getD,ht',e]
structure Sub (E E':Env):Prop where
 h:∀t v,lk E' t=some v→lk E t=some v
theorem Sub.nil (E:Env):Sub E []:=⟨fun _ _ h=>by cases h⟩
theorem Sub.cons {E r:Env} {t:Nat} {v u:Value} (h1:lk E t=some u) (h2:u=v) (h:Sub E r):Sub E ((t,v)::r):=⟨fun s x hs=>by
 rw[rZ]at hs
 by_cases e:t=s
 ·subst e;rw[if_pos rfl]at hs;cases hs;rw[h1,h2]
 ·rw[if_neg e]at hs;exact h.h s x hs⟩
theorem Ag.sub {n:Nat} {a:Act} {E E':Env} (h:Ag n a E) (hs:Sub E E'):Ag n a E':=⟨h.sz,h.df,fun t v ht=>h.eq t v (hs.h t v ht)⟩
structure TI where
 size:Nat
 bytes:Nat
 agg:Bool
 elem:Option Nat
 ly:List Nat
 zero:Value
 ik:Option IntKind
structure wv (P:Program) (t:Nat) (i:TI):Prop where
 info:(P.info? t).map (fun j=>(j.zero,j.size,j.bytes))=some (some i.zero,i.size,i.bytes)
 size:∀w,(sizeOf t).run P w=.ok i.size w
 zeroV:∀w,(zeroValue t).run P w=.ok i.zero w
 agg:∀w,(isAgg t).run P w=.ok i.agg w
 elem:∀e,i.elem=some e→P.underlying t=some (.slice e)
 CE:∀k,i.ik=some k→P.underlying t=some (.int k)
 ly:∀f o,i.ly[f]?=some o→∀w a,(Instr.fieldAt t (.pointer (some a)) f).run P w=.ok (.pointer (some (a.add o))) w
def Ac (P:Program) (f:Nat):Bool:=
 match P.funcs[f]? with
 |some fn=>fn.body.isSome && !(fn.name== "runtime.NumGoroutine")
 |none=>false
theorem Ad {P:Program} {f:Nat} (h:Ac P f=true) (vs:Array Value) (w:World):(callFunc f vs).run P w=.ok (.enter f vs) w:=by
 unfold Ac at h
 cases hf:P.funcs[f]? with
 |none=>simp[hf]at h
 |some fn=>
  simp only[hf,Bool.and_eq_true,Bool.not_eq_true']at h
  obtain⟨h1,h2⟩:=h
  have h3:fn.body≠none:=by intro e;simp[e]at h1
  have h4:fn.name≠ "runtime.NumGoroutine" :=by intro e;simp[e]at h2
  simp[callFunc,program,Sem.run,hf,h3,h4]
def C2 (P:Program):List Bool→Nat→Bool
 |[],_=>true
 |b::r,i=>(!b || Ac P i) && C2 P r (i+1)
theorem yB {P:Program}:∀(l:List Bool) (i:Nat),C2 P l i=true→∀f,l[f]?=some true→Ac P (i+f)=true
 |[],_,_,_,h=>by simp at h
 |b::r,i,h,f,hf=>by
  simp only[C2,Bool.and_eq_true]at h
  cases f with
  |zero=>simp at hf;subst hf;simpa using h.1
  |succ f=>
   have:=yB r (i+1) h.2 f (by simpa using hf)
   rwa[show i+(f+1)=i+1+f by omega]
def km (P:Program):List (Option TI)→Nat→Prop
 |[],_=>True
 |none::r,k=>km P r (k+1)
 |some i::r,k=>wv P k i∧km P r (k+1)
theorem km.get {P:Program}:∀(l:List (Option TI)) (k:Nat),km P l k→∀t i,(l[t]?).bind id=some i→wv P (k+t) i
 |[],_,_,t,i,h=>by simp at h
 |none::r,k,ha,t,i,h=>by
  cases t with
  |zero=>simp at h
  |succ t=>
   have:=km.get r (k+1) ha t i (by simpa using h)
   rwa[show k+(t+1)=k+1+t by omega]
 |some j::r,k,ha,t,i,h=>by
  cases t with
  |zero=>simp at h;subst h;exact ha.1
  |succ t=>
   have:=km.get r (k+1) ha.2 t i (by simpa using h)
   rwa[show k+(t+1)=k+1+t by omega]
structure sR where
 P:Program
 tb:List (Option TI)
 fb:List Bool
 eZ:∀t i,(tb[t]?).bind id=some i→wv P t i
 wN:∀f,fb[f]?=some true→∀vs w,(callFunc f vs).run P w=.ok (.enter f vs) w
 mixed:P.follows .mixedOrders=true
def sR.ty (G:sR) (t:Nat):Option TI:=(G.tb[t]?).bind id
inductive Mode where
 |list (Q:Exit→Act→World→Prop) (w:World)
 |still (K:Act→Prop) (w:World)
 |quiet (K:Act→Prop) (C:World→Prop)
 |mix (sk:Bool) (Q:Exit→Act→World→Prop) (C:World→Prop) (w:World)
def Mode.run (G:sR) (ops:Array Oper):Mode→List Oper→Act→Prop
 |.list Q w=>fun l a=>wpList G.P ops Q l a w
 |.still K w=>fun l a=>wpStill G.P ops w K l a
 |.quiet K C=>fun l a=>wpQuiet G.P ops C K l a
 |.mix sk Q C w=>fun l a=>jm G.P ops C sk (Q .normal) l a w
def Mode.C:Mode→World→Prop
 |.list _ w=>fun w'=>w'=w
 |.still _ w=>fun w'=>w'=w
 |.quiet _ C=>C
 |.mix _ _ C _=>C
structure ah (G:sR) (ops:Array Oper) (M:Mode) (n:Nat) (l:List Oper) (E:Env):Prop where
 h:∀a,Ag n a E→M.run G ops l a
structure Cd (G:sR) (Q:Exit→Act→World→Prop) (n:Nat) (c:Code) (E:Env) (w:World):Prop where
 h:∀a,Ag n a E→c.wp G.P Q a w
structure Fin (Q:Exit→Act→World→Prop) (n:Nat) (e:Exit) (E:Env) (w:World):Prop where
 h:∀a,Ag n a E→Q e a w
section code
variable {G:sR} {Q:Exit→Act→World→Prop} {n:Nat} {E:Env} {w:World}
theorem Cd.seq {x y:Code} (h:Cd G (Exit.then (y.wp G.P Q) Q) n x E w):Cd G Q n (.seq x y) E w:=⟨fun a ha=>wp_seq (h.h a ha)⟩
theorem Cd.block {id:Nat} {c:Code} (h:Cd G (Exit.inBlock id Q) n c E w):Cd G Q n (.block id c) E w:=⟨fun a ha=>wp_block (h.h a ha)⟩
theorem Cd.skip (h:Fin Q n .normal E w):Cd G Q n .skip E w:=⟨fun a ha=>wp_skip (h.h a ha)⟩
theorem Cd.label {l:Nat} (h:Fin Q n .normal E w):Cd G Q n (.label l) E w:=⟨fun a ha=>wp_label (h.h a ha)⟩
theorem Cd.exit {id:Nat} (h:Fin Q n (.exit id) E w):Cd G Q n (.exit id) E w:=⟨fun a ha=>wp_exit (h.h a ha)⟩
theorem Cd.ret (h:Fin Q n .ret E w):Cd G Q n .ret E w:=⟨fun a ha=>wp_ret (h.h a ha)⟩
theorem Cd.region {id:Nat} {l:List Oper} (h:ah G l.toArray (.list Q w) n l E):Cd G Q n (.region id l.toArray false) E w:=⟨fun a ha=>wp_region_lit (h.h a ha)⟩
theorem Cd.fC {c:Operand} {x y:Code} (hc:ev E c=some (.bool true)) (h:Cd G Q n x E w):Cd G Q n (.cond c x y) E w:=⟨fun a ha=>wp_cond_true (ha.eval hc) (h.h a ha)⟩
theorem Cd.fB {c:Operand} {x y:Code} (hc:ev E c=some (.bool false)) (h:Cd G Q n y E w):Cd G Q n (.cond c x y) E w:=⟨fun a ha=>wp_cond_false (ha.eval hc) (h.h a ha)⟩
theorem Cd.AB {id:Nat} {l:List Oper} (C:World→Prop) (hB:Region.lexB .any l.toArray=true) (hC:C w.drew)
  (h:ah G l.toArray (.quiet (fun a'=>∀w',C w'→Q .normal a' w') C) n l E):Cd G Q n (.region id l.toArray true) E w:=
 ⟨fun a ha=>wp_region_quiet G.mixed hB hC (by have:=h.h a ha;simp only[Mode.run]at this;simpa using this)⟩
theorem Cd.so {id:Nat} {l:List Oper} (k:Nat) (hB:Region.lexTailB .any l.toArray k=true)
  (h:ah G l.toArray (.still (fun a'=>wpList G.P l.toArray Q (l.drop k) a' w.drew) w.drew) n (l.take k) E):Cd G Q n (.region id l.toArray true) E w:=
 ⟨fun a ha=>wp_region_still_tail k G.mixed hB (h.h a ha)⟩
theorem Cd.cA {id:Nat} {l:List Oper} (ord:List Nat) (z:Nat) (C:World→Prop) (hB:vT l ord z=true) (hC:C w.drew)
  (h:ah G l.toArray (.mix true Q C w.drew) n (pick l (ord++[z])) E):Cd G Q n (.region id l.toArray true) E w:=
 ⟨fun a ha=>qc ord z G.mixed hB hC (h.h a ha)⟩
theorem ah.xq {ops:Array Oper} {sk:Bool} {C:World→Prop} (h:Fin Q n .normal E w):ah G ops (.mix sk Q C w) n [] E:=⟨fun a ha=>h.h a ha⟩
theorem ah.nil {ops:Array Oper} (h:Fin Q n .normal E w):ah G ops (.list Q w) n [] E:=⟨fun a ha=>h.h a ha⟩
theorem ah.At {ops:Array Oper} {l:List Oper} (h:ah G ops (.list Q w) n l E):ah G ops (.still (fun a'=>wpList G.P ops Q l a' w) w) n [] E:=⟨fun a ha=>h.h a ha⟩
theorem Fin.iG {y:Code} (h:Cd G Q n y E w):Fin (Exit.then (y.wp G.P Q) Q) n .normal E w:=⟨fun a ha=>h.h a ha⟩
theorem Fin.iH {K:Act→World→Prop} (h:Fin Q n .ret E w):Fin (Exit.then K Q) n .ret E w:=⟨fun a ha=>h.h a ha⟩
theorem Fin.iI {K:Act→World→Prop} {id:Nat} (h:Fin Q n (.exit id) E w):Fin (Exit.then K Q) n (.exit id) E w:=⟨fun a ha=>h.h a ha⟩
theorem Fin.lT {id:Nat} (h:Fin Q n .normal E w):Fin (Exit.inBlock id Q) n .normal E w:=⟨fun a ha=>h.h a ha⟩
theorem Fin.lU {id:Nat} (h:Fin Q n .ret E w):Fin (Exit.inBlock id Q) n .ret E w:=⟨fun a ha=>h.h a ha⟩
theorem Fin.lV {id:Nat} (h:Fin Q n .normal E w):Fin (Exit.inBlock id Q) n (.exit id) E w:=⟨fun a ha=>by simp only[Exit.inBlock,if_true];exact h.h a ha⟩
theorem Fin.rE {id id':Nat} (hne:Nat.beq id' id=false) (h:Fin Q n (.exit id') E w):Fin (Exit.inBlock id Q) n (.exit id') E w:=⟨fun a ha=>by
 have:id'≠id:=fun e=>by subst e;simp at hne
 simp only[Exit.inBlock,if_neg this];exact h.h a ha⟩
theorem ah.sub {ops:Array Oper} {M:Mode} {l:List Oper} {E':Env} (hs:Sub E E') (h:ah G ops M n l E'):ah G ops M n l E:=⟨fun a ha=>h.h a (ha.sub hs)⟩
theorem wp_loop_ghost {P:Program} {c:Code} (I:Nat→Act→World→Prop) {a:Act} (h0:∃m,I m a w)
  (round:∀m a w,I m a w→c.wp P (Exit.then (fun a' w'=>∃m',m'<m∧I m' a' w') Q) a w):(Code.loop c).wp P Q a w:=by
 intro b k cs
 have key:∀m a w,I m a w→∃e a' w',Q e a' w'∧Arrives P (lone (b.at a (.code c::.inLoop c::k)) cs w) b k cs e a' w':=by
  intro m
  induction m using Nat.strongRecOn with
  |_ m ih=>
   intro a w hI
   obtain⟨e,a₁,w₁,hq,harr⟩:=round m a w hI b (.inLoop c::k) cs
   cases e with
   |normal=>
    obtain⟨m',hlt,hI₁⟩:=hq
    obtain⟨e₂,a₂,w₂,hq₂,harr₂⟩:=ih m' hlt a₁ w₁ hI₁
    exact⟨e₂,a₂,w₂,hq₂,.of_steps (Steps.trans harr (.one step_inLoop)) harr₂⟩
   |exit id=>exact⟨_,a₁,w₁,hq,.pass (x:=.inLoop c) rfl (fun _ _=>.inl (by simp)) harr⟩
   |goto l=>exact⟨_,a₁,w₁,hq,.pass (x:=.inLoop c) rfl (fun _ _=>.inl (by simp)) harr⟩
   |ret=>exact⟨_,a₁,w₁,hq,.pass (x:=.inLoop c) rfl (fun _ _=>.inl (by simp)) harr⟩
   |panic ch=>exact⟨_,a₁,w₁,hq,.pass (x:=.inLoop c) rfl (fun _ _=>.inl (by simp)) harr⟩
   |outgrown=>exact⟨_,a₁,w₁,hq,.pass (x:=.inLoop c) rfl (fun _ _=>.inl (by simp)) harr⟩
 obtain⟨m,hm⟩:=h0
 obtain⟨e,a',w',hq,harr⟩:=key m a w hm
 exact⟨e,a',w',hq,.of_steps (.one step_loop) harr⟩
def oD {σ:Type} (n:Nat) (Ei:σ→Env) (Wi:σ→World→Prop) (μ:σ→Nat) (s:σ):Act→World→Prop:=
 fun a w=>∃s',μ s'<μ s∧Ag n a (Ei s')∧Wi s' w
theorem Cd.loop {σ:Type} {c:Code} (Ei:σ→Env) (Wi:σ→World→Prop) (μ:σ→Nat) (s0:σ) (hE:Sub E (Ei s0)) (hW:Wi s0 w)
  (round:∀s w,Wi s w→Cd G (Exit.then (oD n Ei Wi μ s) Q) n c (Ei s) w):Cd G Q n (.loop c) E w:=⟨fun a ha=>by
 refine wp_loop_ghost (fun m a w=>∃s,μ s=m∧Ag n a (Ei s)∧Wi s w) ⟨_,s0,rfl,ha.sub hE,hW⟩ ?_
 rintro m a w ⟨s,rfl,hs,hw⟩
 refine Code.wp_mono ?_ ((round s w hw).h a hs)
 intro e a' w' q
 cases e with
 |normal=>
  obtain⟨s',h1,h2,h3⟩:=q
  exact⟨μ s',h1,s',rfl,h2,h3⟩
 |_=>exact q⟩
theorem Fin.next {σ:Type} {Ei:σ→Env} {Wi:σ→World→Prop} {μ:σ→Nat} {s:σ} (s':σ) (hE:Sub E (Ei s')) (hW:Wi s' w) (hμ:μ s'<μ s):
  Fin (Exit.then (oD n Ei Wi μ s) Q) n .normal E w:=⟨fun _ ha=>⟨s',hμ,ha.sub hE,hW⟩⟩
end code
def uC:Nat→List Value→Env
 |_,[]=>[]
 |i,v::r=>(i,v)::uC (i+1) r
theorem rY:∀(l:List Value) (i t:Nat) (v:Value),lk (uC i l) t=some v→i≤t∧l[t - i]?=some v
 |[],_,_,_,h=>by cases h
 |u::r,i,t,v,h=>by
  rw[uC,rZ]at h
  by_cases e:i=t
  ·subst e;rw[if_pos rfl]at h;simp[←h]
  ·rw[if_neg e]at h
   obtain⟨h1,h2⟩:=rY r (i+1) t v h
   refine⟨by omega,?_⟩
   have:t - i=(t - (i+1))+1:=by omega
   rw[this];simpa using h2
theorem enter {G:sR} {f:FuncId} {fn:Func} {c:Code} {n:Nat} {l:List Value} {w:World} {R:Ending→World→Prop} (hf:G.P.funcs[f]?=some fn) (hb:fn.body=some c) (hn:fn.ntmps=n) (hl:Nat.ble l.length n=true)
  (h:Cd G (bodyPost G.P fn R) n c (uC 0 l) w):Calls G.P f l.toArray w R:=by
 refine calls_of_wp hf hb (h.h _ ?_)
 have hl':l.length≤n:=Nat.le_of_ble_eq_true hl
 refine⟨by simp[hn];omega,rfl,fun t v ht=>?_⟩
 obtain⟨_,h2⟩:=rY l 0 t v ht
 rw[Nat.sub_zero]at h2
 obtain⟨h3,h4⟩:=List.getElem?_eq_some_iff.1 h2
 refine⟨by omega,?_⟩
 have:t<(l.toArray++Array.replicate (fn.ntmps - l.toArray.size) undef).size:=by simp;omega
 simp only[Array.getD,this,dite_true]
 rw[Array.getInternal_eq_getElem,Array.getElem_append_left (by simpa using h3)]
 simpa using h4
section ends
variable {P:Program} {fn:Func} {R:Ending→World→Prop} {n:Nat} {E:Env} {w:World}
theorem Fin.nG {e:Exit} {v:Value} (he:e=.ret∨e=.normal) (hr:∀a,Ag n a E→(results fn a.tmps).run P w=.ok v w) (hR:R (.returned v) w):Fin (bodyPost P fn R) n e E w:=⟨fun a ha=>by
 rcases he with rfl|rfl
 ·exact⟨ha.df,v,hr a ha,hR⟩
 ·exact⟨ha.df,v,hr a ha,hR⟩⟩
theorem Fin.zm (hr:fn.results=#[]) (hR:R (.returned (.tuple #[])) w):Fin (bodyPost P fn R) n .ret E w:=
 Fin.nG (.inl rfl) (fun a _=>results_none hr a.tmps P w) hR
theorem Fin.kJ (hr:fn.results=#[]) (hR:R (.returned (.tuple #[])) w):Fin (bodyPost P fn R) n .normal E w:=
 Fin.nG (.inr rfl) (fun a _=>results_none hr a.tmps P w) hR
theorem Fin.aA {t:Nat} {v:Value} (hr:fn.results=#[.tmp t]) (hv:lk E t=some v) (hR:R (.returned v) w):Fin (bodyPost P fn R) n .ret E w:=
 Fin.nG (.inl rfl) (fun a ha=>by rw[results_tmp hr,(ha.eq t v hv).2]) hR
theorem Fin.iD {t u:Nat} {v x:Value} (hr:fn.results=#[.tmp t,.tmp u]) (hv:lk E t=some v) (hx:lk E u=some x) (hR:R (.returned (.tuple #[v,x])) w):Fin (bodyPost P fn R) n .ret E w:=
 Fin.nG (.inl rfl) (fun a ha=>by rw[results_tmp2 hr,(ha.eq t v hv).2,(ha.eq u x hx).2]) hR
end ends
structure Yl (G:sR) (n:Nat) (op:Op) (E:Env) (C:World→Prop) (v:Value):Prop where
 h:∀w,C w→∀a,Ag n a E→∀d ty pos aft gd,(execOp a.eval ⟨d,op,ty,pos,aft,gd⟩).run G.P w=.ok (.value v) w
def mm (ops:Array Oper) (E:Env) (j:Nat):Option Bool:=
 match ((ops[j]?).bind (·.dst)).bind (lk E)with
 |some (.bool b)=>some b
 |_=>none
def C3 (ops:Array Oper) (E:Env) (j:Nat):Bool:=
 match ((ops[j]?).bind (·.dst)).bind (lk E)with
 |some (.bool _)=>false
 |some _=>true
 |none=>false
section
variable {G:sR} {ops:Array Oper} {M:Mode} {n:Nat} {E:Env} {rest:List Oper} {op:Op} {ty:TypeId} {pos:String} {aft:Array Edge} {v:Value} {d:Nat}
theorem kj {a:Act} (ha:Ag n a E) {j:Nat} {b:Bool} (h:mm ops E j=some b):yielded ops a.tmps j=some b:=by
 unfold mm at h
 unfold yielded
 cases h1:(ops[j]?).bind (·.dst)with
 |none=>simp[h1]at h
 |some t=>
  simp only[h1,Option.bind_some]at h ⊢
  cases h2:lk E t with
  |none=>simp[h2]at h
  |some u=>
   obtain⟨h3,h4⟩:=ha.eq t u h2
   have ht:t<a.tmps.size:=by rw[ha.sz];exact h3
   have:a.tmps[t]?=some u:=by
    rw[Array.getElem?_eq_getElem ht];simp[Array.getD,ht]at h4;rw[h4]
   rw[this]
   cases u<;>simp_all
theorem sK {a:Act} (ha:Ag n a E) {j:Nat} (h:C3 ops E j=true):yielded ops a.tmps j=none:=by
 unfold C3 at h
 unfold yielded
 cases h1:(ops[j]?).bind (·.dst)with
 |none=>simp[h1]at h
 |some t=>
  simp only[h1,Option.bind_some]at h ⊢
  cases h2:lk E t with
  |none=>simp[h2]at h
  |some u=>
   obtain⟨h3,h4⟩:=ha.eq t u h2
   have ht:t<a.tmps.size:=by rw[ha.sz];exact h3
   have:a.tmps[t]?=some u:=by
    rw[Array.getElem?_eq_getElem ht];simp[Array.getD,ht]at h4;rw[h4]
   rw[this]
   cases u<;>simp_all
theorem Bb {a:Act} {o:Oper} (hq:mn o.op=true) (hg:Region.wanted o (yielded ops a.tmps)=true) (hr:∀w,M.C w→(execOp a.eval o).run G.P w=.ok (.value v) w) (hn:M.run G ops rest (a.put o.dst v)):M.run G ops (o::rest) a:=by
 cases M with
 |list Q w=>
  simp only[Mode.run,wpList,hg,if_true]at*
  refine .inl ?_
  unfold Oper.wp
  rw[hr w rfl]
  exact hn
 |still K w=>
  simp only[Mode.run,wpStill,hg,if_true]at*
  unfold Oper.still
  rw[hr w rfl]
  exact⟨rfl,hn⟩
 |quiet K C=>
  simp only[Mode.run,wpQuiet,hg,if_true]at*
  refine⟨v,fun w hw=>?_,hn⟩
  unfold Oper.quietAt
  rw[hr w hw]
  exact⟨rfl,rfl⟩
 |mix sk Q C w=>
  simp only[Mode.run,jm,hg,hq,if_true]at*
  exact⟨v,hr,hn⟩
theorem tW {a:Act} {o:Oper} (hg:Region.wanted o (yielded ops a.tmps)=false) (hn:M.run G ops rest (a.put o.dst undef)):M.run G ops (o::rest) a:=by
 cases M with
 |list Q w=>simp only[Mode.run,wpList,hg]at*;exact hn
 |still K w=>simp only[Mode.run,wpStill,hg]at*;exact hn
 |quiet K C=>simp only[Mode.run,wpQuiet,hg]at*;exact hn
 |mix sk Q C w=>simp only[Mode.run,jm,hg]at*;exact hn
theorem ah.y (hy:Yl G n op E M.C v) (hd:(mn op && Nat.blt d n)=true) (h:ah G ops M n rest ((d,v)::E)):ah G ops M n (⟨some d,op,ty,pos,aft,none⟩::rest) E:=
 ⟨fun a ha=>Bb (by simp only[Bool.and_eq_true]at hd;exact hd.1) (by simp[Region.wanted]) (fun w hw=>hy.h w hw a ha _ _ _ _ _) (h.h _ (ha.put (by simp only[Bool.and_eq_true]at hd;simpa using hd.2) v))⟩
theorem ah.yg {j:Nat} {b:Bool} (hg:mm ops E j=some b) (hy:Yl G n op E M.C v) (hd:(mn op && Nat.blt d n)=true) (h:ah G ops M n rest ((d,v)::E)):ah G ops M n (⟨some d,op,ty,pos,aft,some (j,b)⟩::rest) E:=
 ⟨fun a ha=>Bb (by simp only[Bool.and_eq_true]at hd;exact hd.1) (by simp[Region.wanted,kj ha hg]) (fun w hw=>hy.h w hw a ha _ _ _ _ _) (h.h _ (ha.put (by simp only[Bool.and_eq_true]at hd;simpa using hd.2) v))⟩
theorem ah.gs {j:Nat} {b b':Bool} (hg:mm ops E j=some b') (hb:b'=!b) (hd:Nat.blt d n=true) (h:ah G ops M n rest ((d,undef)::E)):ah G ops M n (⟨some d,op,ty,pos,aft,some (j,b)⟩::rest) E:=
 ⟨fun a ha=>tW (by subst hb;cases b<;>simp[Region.wanted,kj ha hg]) (h.h _ (ha.put (by simpa using hd) undef))⟩
theorem ah.gu {j:Nat} {b:Bool} (hg:C3 ops E j=true) (hd:Nat.blt d n=true) (h:ah G ops M n rest ((d,undef)::E)):ah G ops M n (⟨some d,op,ty,pos,aft,some (j,b)⟩::rest) E:=
 ⟨fun a ha=>tW (by simp[Region.wanted,sK ha hg]) (h.h _ (ha.put (by simpa using hd) undef))⟩
end
section
variable {G:sR} {n:Nat} {E:Env} {C:World→Prop} {v u:Value} {x y z:Operand} {t t2:TypeId} {p q:Int} {k:IntKind}
theorem Yl.move (hx:ev E x=some v):Yl G n (.move x) E C v:=⟨fun w _ a ha d ty pos aft gd=>by simp[execOp,ha.eval hx]⟩
theorem Yl.assign (hx:ev E x=some v):Yl G n (.assign x) E C v:=⟨fun w _ a ha d ty pos aft gd=>by simp[execOp,ha.eval hx]⟩
theorem Yl.dP (hc:ev E x=some (.bool true)) (hx:ev E y=some v):Yl G n (.pick x y z) E C v:=⟨fun w _ a ha d ty pos aft gd=>by simp[execOp,ha.eval hx,ha.eval hc,asBool]⟩
theorem Yl.dO (hc:ev E x=some (.bool false)) (hx:ev E z=some v):Yl G n (.pick x y z) E C v:=⟨fun w _ a ha d ty pos aft gd=>by simp[execOp,ha.eval hx,ha.eval hc,asBool]⟩
theorem Yl.bin {bo:BinOp} (hx:ev E x=some (.int k p)) (hy:ev E y=some (.int k q)) (hr:∀w,(binOp bo t (.int k p) (.int k q)).run G.P w=.ok v w):Yl G n (.binOp bo t x y t2) E C v:=
 ⟨fun w _ a ha d ty pos aft gd=>by
  have hg:∀b c:Operand,(eqGuard bo t b c (.int k p) (.int k q)).run G.P w=.ok () w:=by
   intro b c;unfold eqGuard;split<;>simp
  simp[execOp,ha.eval hx,ha.eval hy,hg,hr]⟩
theorem Yl.iU (hx:ev E x=some (.int k p)) (hy:ev E y=some (.int k q)) (h:p<q):Yl G n (.binOp .lss t x y t2) E C (.bool true):=Yl.bin hx hy (fun w=>by simp[binOp,Op.intCmp,h])
theorem Yl.iT (hx:ev E x=some (.int k p)) (hy:ev E y=some (.int k q)) (h:q≤p):Yl G n (.binOp .lss t x y t2) E C (.bool false):=Yl.bin hx hy (fun w=>by simp[binOp,Op.intCmp,Int.not_lt.2 h])
theorem Yl.iS (hx:ev E x=some (.int k p)) (hy:ev E y=some (.int k q)) (h:p≤q):Yl G n (.binOp .leq t x y t2) E C (.bool true):=Yl.bin hx hy (fun w=>by simp[binOp,Op.intCmp,h])
theorem Yl.iR (hx:ev E x=some (.int k p)) (hy:ev E y=some (.int k q)) (h:q<p):Yl G n (.binOp .leq t x y t2) E C (.bool false):=Yl.bin hx hy (fun w=>by simp[binOp,Op.intCmp,Int.not_le.2 h])
theorem Yl.iQ (hx:ev E x=some (.int k p)) (hy:ev E y=some (.int k q)) (h:q<p):Yl G n (.binOp .gtr t x y t2) E C (.bool true):=Yl.bin hx hy (fun w=>by simp[binOp,Op.intCmp,h])
theorem Yl.iP (hx:ev E x=some (.int k p)) (hy:ev E y=some (.int k q)) (h:p≤q):Yl G n (.binOp .gtr t x y t2) E C (.bool false):=Yl.bin hx hy (fun w=>by simp[binOp,Op.intCmp,Int.not_lt.2 h])
theorem Yl.iO (hx:ev E x=some (.int k p)) (hy:ev E y=some (.int k q)) (h:q≤p):Yl G n (.binOp .geq t x y t2) E C (.bool true):=Yl.bin hx hy (fun w=>by simp[binOp,Op.intCmp,h])
theorem Yl.iN (hx:ev E x=some (.int k p)) (hy:ev E y=some (.int k q)) (h:p<q):Yl G n (.binOp .geq t x y t2) E C (.bool false):=Yl.bin hx hy (fun w=>by simp[binOp,Op.intCmp,Int.not_le.2 h])
theorem Yl.iL (hx:ev E x=some (.int k p)) (hy:ev E y=some (.int k q)) (h:p=q):Yl G n (.binOp .eql t x y t2) E C (.bool true):=Yl.bin hx hy (fun w=>by simp[binOp,Op.intCmp,h])
theorem Yl.iK (hx:ev E x=some (.int k p)) (hy:ev E y=some (.int k q)) (h:p≠q):Yl G n (.binOp .eql t x y t2) E C (.bool false):=Yl.bin hx hy (fun w=>by simp[binOp,Op.intCmp,h])
theorem Yl.iW (hx:ev E x=some (.int k p)) (hy:ev E y=some (.int k q)) (h:p≠q):Yl G n (.binOp .neq t x y t2) E C (.bool true):=Yl.bin hx hy (fun w=>by simp[binOp,Op.intCmp,h])
theorem Yl.iV (hx:ev E x=some (.int k p)) (hy:ev E y=some (.int k q)) (h:p=q):Yl G n (.binOp .neq t x y t2) E C (.bool false):=Yl.bin hx hy (fun w=>by simp[binOp,Op.intCmp,h])
theorem Yl.add (hx:ev E x=some (.int .i64 p)) (hy:ev E y=some (.int .i64 q)) (h:-9223372036854775808≤p+q∧p+q≤9223372036854775807):Yl G n (.binOp .add t x y t2) E C (.int .i64 (p+q)):=
 Yl.bin hx hy (fun w=>by simp only[binOp,Op.intArith,ne_eq,not_true_eq_false,if_false,IntWalk.i64_in _ h];rfl)
theorem Yl.sub (hx:ev E x=some (.int .i64 p)) (hy:ev E y=some (.int .i64 q)) (h:-9223372036854775808≤p - q∧p - q≤9223372036854775807):Yl G n (.binOp .sub t x y t2) E C (.int .i64 (p - q)):=
 Yl.bin hx hy (fun w=>by simp only[binOp,Op.intArith,ne_eq,not_true_eq_false,if_false,IntWalk.i64_in _ h];rfl)
theorem Yl.CQ {a b:Bool} (hx:ev E x=some (.bool a)) (hy:ev E y=some (.bool b)) (ht:∀w,(Op.equal t (.bool a) (.bool b)).run G.P w=.ok (a==b) w):Yl G n (.binOp .neq t x y t2) E C (.bool (a !=b)):=
 ⟨fun w _ ac ha d ty pos aft gd=>by simp[execOp,ha.eval hx,ha.eval hy,eqGuard,binOp,ht,bne]⟩
theorem Yl.not {b:Bool} (hx:ev E x=some (.bool b)):Yl G n (.unOp .not t x) E C (.bool (!b)):=⟨fun w _ a ha d ty pos aft gd=>by simp[execOp,ha.eval hx,Op.unary]⟩
theorem Yl.extract {vs:Array Value} {i:Nat} (hx:ev E x=some (.tuple vs)) (hi:vs[i]?=some v):Yl G n (.extract x i) E C v:=⟨fun w _ a ha d ty pos aft gd=>by simp[execOp,ha.eval hx,Instr.extract,hi]⟩
theorem Yl.nilCheck {ad:Addr} (hx:ev E x=some (.pointer (some ad))):Yl G n (.nilCheck x) E C (.pointer (some ad)):=⟨fun w _ a ha d ty pos aft gd=>by simp[execOp,ha.eval hx]⟩
theorem Yl.makeFunc {fn:Fn} {first cap:List Operand} {fs cs:List Value} (h1:ju E first=some fs) (h2:ju E cap=some cs):Yl G n (.makeFunc fn first.toArray cap.toArray) E C (.func fn fs.toArray cs.toArray):=
 ⟨fun w _ a ha d ty pos aft gd=>by
  have e1:=ha.lF h1
  have e2:=ha.lF h2
  simp[execOp,Instr.makeFunc,e1,e2]⟩
theorem Yl.len {ti:TI} {e:Nat} {po:Option Addr} {l c:Nat} (ht:G.ty t=some ti) (he:ti.elem=some e) (hx:ev E x=some (.slice po l c)):Yl G n (.call ⟨.builtin .len,#[x],#[t]⟩) E C (.int .i64 l):=
 ⟨fun w _ a ha d ty pos aft gd=>by
  have:=(G.eZ t ti ht).elem e he
  simp[execOp,resolve,invoke,builtin,Builtin.len_,ha.eval hx,run_underlying this,goInt]⟩
theorem Yl.field {ti:TI} {f o bk of_:Nat} (ht:G.ty t=some ti) (ho:ti.ly[f]?=some o) (hx:ev E x=some (.pointer (some ⟨bk,of_,none⟩))):Yl G n (.fieldAddr t x f) E C (.pointer (some ⟨bk,of_+o,none⟩)):=
 ⟨fun w _ a ha d ty pos aft gd=>by
  have:=(G.eZ t ti ht).ly f o ho w ⟨bk,of_,none⟩
  have e:(⟨bk,of_,none⟩:Addr).add o=⟨bk,of_+o,none⟩:=by unfold Addr.add;split<;>simp_all
  simp[execOp,ha.eval hx,this,e]⟩
theorem Yl.ep {ti:TI} {f bk of_:Nat} (ht:G.ty t=some ti) (ho:ti.ly[f]?=some 0) (hx:ev E x=some (.pointer (some ⟨bk,of_,none⟩))):Yl G n (.fieldAddr t x f) E C (.pointer (some ⟨bk,of_,none⟩)):=Yl.field ht ho hx
theorem Yl.idx {ti:TI} {e bk of_ l c i s bt:Nat} {ag:Bool} {el:Option Nat} {os:List Nat} {zr:Value} {ik:Option IntKind} (ht:G.ty t=some ti) (he:ti.elem=some e) (hte:G.ty e=some ⟨s,bt,ag,el,os,zr,ik⟩) (hx:ev E x=some (.slice (some ⟨bk,of_,none⟩) l c)) (hi:ev E y=some (.int k p)) (hp:p=(i:Int)) (hl:i<l):
  Yl G n (.indexAddr t x y) E C (.pointer (some ⟨bk,of_+i*s,none⟩)):=
 ⟨fun w _ a ha d ty pos aft gd=>by
  have h1:=(G.eZ t ti ht).elem e he
  have h2:(sizeOf e).run G.P w=.ok s w:=(G.eZ e _ hte).size w
  subst hp
  have e1:(⟨bk,of_,none⟩:Addr).add (i*s)=⟨bk,of_+i*s,none⟩:=by
   unfold Addr.add;split
   ·rename_i h;rw[h];rfl
   ·rfl
  simp[execOp,ha.eval hx,ha.eval hi,Instr.indexAt,asIntOf,run_underlying h1,hl,h2,e1]⟩
theorem Yl.fX {ti:TI} {e bk of_ l c i bt:Nat} {ag:Bool} {el:Option Nat} {os:List Nat} {zr:Value} {ik:Option IntKind} (ht:G.ty t=some ti) (he:ti.elem=some e) (hte:G.ty e=some ⟨1,bt,ag,el,os,zr,ik⟩) (hx:ev E x=some (.slice (some ⟨bk,of_,none⟩) l c)) (hi:ev E y=some (.int k p)) (hp:p=(i:Int)) (hl:i<l):
  Yl G n (.indexAddr t x y) E C (.pointer (some ⟨bk,of_+i,none⟩)):=by
 have:=Yl.idx (G:=G) (n:=n) (E:=E) (C:=C) ht he hte hx hi hp hl
 rwa[Nat.mul_one]at this
theorem Yl.conv {ti td:TI} {k1 k2:IntKind} {p':Int} (hs:G.ty t=some ti) (hs':ti.ik=some k1) (hd:G.ty t2=some td) (hd':td.ik=some k2) (hx:ev E x=some (.int k p)) (hr:k2.wrap p=p'):Yl G n (.convert t t2 x) E C (.int k2 p'):=
 ⟨fun w _ a ha d ty pos aft gd=>by
  have h1:=(G.eZ t ti hs).CE k1 hs'
  have h2:=(G.eZ t2 td hd).CE k2 hd'
  simp[execOp,ha.eval hx,convert,run_underlying h1,run_underlying h2,Conv.intToInt,hr]⟩
theorem Yl.fp {ti td:TI} {k1:IntKind} (hs:G.ty t=some ti) (hs':ti.ik=some k1) (hd:G.ty t2=some td) (hd':td.ik=some .i64) (hx:ev E x=some (.int k p)) (h:-9223372036854775808≤p∧p≤9223372036854775807):Yl G n (.convert t t2 x) E C (.int .i64 p):=Yl.conv hs hs' hd hd' hx (IntWalk.i64_in _ h)
theorem Yl.fF {ti:TI} {e:Nat} {po:Option Addr} {l c:Nat} (ht:G.ty t=some ti) (he:ti.elem=some e) (hx:ev E x=some (.slice po l c)) (hy:ev E y=some (.slice none 0 0)):Yl G n (.binOp .eql t x y t2) E C (.bool po.isNone):=
 ⟨fun w _ a ha d ty pos aft gd=>by
  have h1:=(G.eZ t ti ht).elem e he
  have h2:∀m,(Op.equalIn (m+1) t (.slice po l c) (.slice none 0 0)).run G.P w=.ok po.isNone w:=by
   intro m;cases po<;>simp[Op.equalIn,run_underlying h1]
  have h3:(Op.equal t (.slice po l c) (.slice none 0 0)).run G.P w=.ok po.isNone w:=h2 9999
  simp[execOp,ha.eval hx,ha.eval hy,eqGuard,binOp,h3]⟩
theorem Yl.load {ti:TI} {ad:Addr} (ht:G.ty t=some ti) (ha:ti.agg=false) (hx:ev E x=some (.pointer (some ad))) (hc:∀w,C w→w.cell? ad=some v):Yl G n (.load t x) E C v:=
 ⟨fun w hw a ha' d ty pos aft gd=>by
  have:=(G.eZ t ti ht).agg w
  rw[ha]at this
  simp[execOp,ha'.eval hx,Instr.loadAt,Instr.sureAddr,loadVar,this,hc w hw]⟩
theorem run_loadCells {P:Program} {w:World} {bk:Nat}:∀(cs:List Value) (i o:Nat) (acc:Array Value),(∀j,j<cs.length→w.cell? ⟨bk,o+i+j,none⟩=cs[j]?)→(loadCellsFrom ⟨bk,o,none⟩ i cs.length acc).run P w=.ok (acc++cs.toArray) w
 |[],i,o,acc,_=>by simp[loadCellsFrom]
 |c::r,i,o,acc,h=>by
  have h0:=h 0 (by simp)
  have e:(⟨bk,o,none⟩:Addr).add i=⟨bk,o+i,none⟩:=by
   unfold Addr.add;split
   ·rename_i h;rw[h];rfl
   ·rfl
  have ih:=run_loadCells (P:=P) (w:=w) (bk:=bk) r (i+1) o (acc.push c) (fun j hj=>by
   have:=h (j+1) (by simp;omega)
   have e2:o+(i+1)+j=o+i+(j+1):=by omega
   rw[e2,this];simp)
  simp only[List.length_cons,loadCellsFrom,e]
  simp only[Nat.add_zero,List.getElem?_cons_zero]at h0
  simp[h0,ih]
theorem Yl.nE {ti:TI} {bk of_ s:Nat} {cs:List Value} (ht:G.ty t=some ti) (ha:ti.agg=true) (hs:ti.size=s) (hx:ev E x=some (.pointer (some ⟨bk,of_,none⟩))) (hl:cs.length=s) (hc:∀w,C w→∀j,j<s→w.cell? ⟨bk,of_+j,none⟩=cs[j]?):Yl G n (.load t x) E C (.agg cs.toArray):=
 ⟨fun w hw a ha' d ty pos aft gd=>by
  have h1:=(G.eZ t ti ht).agg w
  have h2:=(G.eZ t ti ht).size w
  rw[ha]at h1
  subst hl
  have h3:=run_loadCells (P:=G.P) (w:=w) (bk:=bk) cs 0 of_ #[] (fun j hj=>by simpa using hc w hw j hj)
  simp[execOp,ha'.eval hx,Instr.loadAt,Instr.sureAddr,loadVar,h1,h2,hs,loadCells,h3]⟩
end
/-! which kind of operation stands next -/
section
variable {G:sR} {ops:Array Oper} {M:Mode} {n:Nat} {E:Env} {rest l:List Oper} {op:Op} {ty:TypeId} {pos:String} {aft:Array Edge} {d:Option Nat} {gd:Option (Nat×Bool)} {x y:Operand} {t t2:TypeId} {w:World} {Q:Exit→Act→World→Prop}
theorem ah.is (h:ah G ops M n l E):ah G ops M n l E:=h
theorem Cd.is {c:Code} (h:Cd G Q n c E w):Cd G Q n c E w:=h
theorem Fin.is {e:Exit} (h:Fin Q n e E w):Fin Q n e E w:=h
theorem ah.wY {jb:Nat×Bool} (h:ah G ops M n (⟨d,op,ty,pos,aft,some jb⟩::rest) E):ah G ops M n (⟨d,op,ty,pos,aft,some jb⟩::rest) E:=h
theorem ah.an {bo:BinOp} (h:ah G ops M n (⟨d,.binOp bo t x y t2,ty,pos,aft,gd⟩::rest) E):ah G ops M n (⟨d,.binOp bo t x y t2,ty,pos,aft,gd⟩::rest) E:=h
theorem ah.dK (h:ah G ops M n (⟨d,.indexAddr t x y,ty,pos,aft,gd⟩::rest) E):ah G ops M n (⟨d,.indexAddr t x y,ty,pos,aft,gd⟩::rest) E:=h
theorem ah.isField {f:Nat} (h:ah G ops M n (⟨d,.fieldAddr t x f,ty,pos,aft,gd⟩::rest) E):ah G ops M n (⟨d,.fieldAddr t x f,ty,pos,aft,gd⟩::rest) E:=h
theorem ah.bX (h:ah G ops M n (⟨d,.load t x,ty,pos,aft,gd⟩::rest) E):ah G ops M n (⟨d,.load t x,ty,pos,aft,gd⟩::rest) E:=h
end
theorem DU {k:IntKind} {a b:Int} (h:a=b):Value.int k a=Value.int k b:=by rw[h]
structure bA (S:Nat→Prop) (w w':World):Prop where
 os:w'.os=w.os
 tape:w'.tape=w.tape
 output:w'.output=w.output
 size:w.heap.size≤w'.heap.size
 block:∀k,k<w.heap.size→¬S k→w'.heap[k]?=w.heap[k]?
abbrev Ext (w w':World):Prop:=bA (fun _=>False) w w'
theorem bA.refl (S:Nat→Prop) (w:World):bA S w w:=⟨rfl,rfl,rfl,Nat.le_refl _,fun _ _ _=>rfl⟩
theorem bA.trans {S:Nat→Prop} {a b c:World} (h:bA S a b) (k:bA S b c):bA S a c:=
 ⟨k.os.trans h.os,k.tape.trans h.tape,k.output.trans h.output,Nat.le_trans h.size k.size,
  fun i hi hs=>(k.block i (Nat.lt_of_lt_of_le hi h.size) hs).trans (h.block i hi hs)⟩
theorem bA.trans' {S T:Nat→Prop} {a b c:World} (h:bA S a b) (k:bA T b c) (hT:∀i,i<a.heap.size→T i→S i):bA S a c:=
 ⟨k.os.trans h.os,k.tape.trans h.tape,k.output.trans h.output,Nat.le_trans h.size k.size,
  fun i hi hs=>(k.block i (Nat.lt_of_lt_of_le hi h.size) (fun ht=>hs (hT i hi ht))).trans (h.block i hi hs)⟩
theorem bA.mono {S T:Nat→Prop} {w w':World} (h:bA S w w') (hST:∀k,k<w.heap.size→S k→T k):bA T w w':=
 ⟨h.os,h.tape,h.output,h.size,fun k hk hs=>h.block k hk (fun hk'=>hs (hST k hk hk'))⟩
theorem Ext.any {S:Nat→Prop} {w w':World} (h:Ext w w'):bA S w w':=h.mono (fun _ _ hk=>hk.elim)
theorem bA.drew {S:Nat→Prop} {a w:World} (h:bA S a w):bA S a w.drew:=⟨h.os,h.tape,h.output,h.size,h.block⟩
theorem bA.alloc {S:Nat→Prop} {a w:World} (h:bA S a w) (o:Obj):bA S a (w.alloc o):=
 h.trans ⟨rfl,rfl,rfl,by simp,fun k hk _=>Below.heap_alloc _ _ _ hk⟩
theorem bA.setCell {S:Nat→Prop} {a w:World} (h:bA S a w) {p:Addr} (hp:p.block<a.heap.size→S p.block) (u:Value):bA S a (w.setCell p u):=
 h.trans' (T:=fun k=>k=p.block) ⟨rfl,rfl,rfl,by simp[World.setCell],fun k _ hs=>Below.heap_setCell _ _ _ _ hs⟩ (fun i hi e=>by subst e;exact hp hi)
theorem bA.jd {w w':World} {row:Option Nat} (hg:w.grownBy w' row):bA (fun k=>row=some k) w w':=
 ⟨hg.os,hg.tape,hg.output,hg.size,fun k hk hs=>hg.block k hk (fun e=>hs e.symm)⟩
theorem bA.below {S:Nat→Prop} {B:Nat} {w w':World} (h:bA S w w') (hB:B≤w.heap.size) (hS:∀k,k<B→¬S k):Below B w w':=
 ⟨h.os,h.tape,h.output,h.size,fun k hk=>h.block k (by omega) (hS k hk)⟩
theorem Ext.vU {w w':World} (h:Below w.heap.size w w'):Ext w w':=
 ⟨h.os,h.tape,h.output,h.size,fun k hk _=>h.block k hk⟩
theorem Ext.below {w w':World} (h:Ext w w'):Below w.heap.size w w':=bA.below h (Nat.le_refl _) (fun _ _ h=>h)
theorem ed {w:World} {p:Addr} {v:Value} (hc:w.cell? p=some v):p.block<w.heap.size:=by
 by_cases hlt:p.block<w.heap.size
 ·exact hlt
 ·simp[World.cell?,Array.getElem?_eq_none (Nat.le_of_not_lt hlt)]at hc
theorem bA.cell {S:Nat→Prop} {w w':World} (h:bA S w w') {p:Addr} {v:Value} (hp:¬S p.block) (hc:w.cell? p=some v):w'.cell? p=some v:=by
 rw[World.cell?_of_block (w:=w) (h.block p.block (ed hc) hp)];exact hc
theorem Ext.cell {w w':World} (h:Ext w w') {p:Addr} {v:Value} (hc:w.cell? p=some v):w'.cell? p=some v:=bA.cell h id hc
theorem nF {w:World} {p:Addr} {v:Value} {q:Nat} (h:w.cell? p=some v):∀w',w'=w.drewN q→w'.cell? p=some v:=by rintro _ rfl;exact h
def dZ (w:World) (b:Nat) (cs:List Value) (T:TypeId):Prop:=w.heap[b]?=some (.cells cs.toArray T (0,0))
theorem dZ.lt {w:World} {b:Nat} {cs:List Value} {T:TypeId} (h:dZ w b cs T):b<w.heap.size:=by
 by_cases hlt:b<w.heap.size
 ·exact hlt
 ·simp[dZ,Array.getElem?_eq_none (Nat.le_of_not_lt hlt)]at h
theorem dZ.cell {w:World} {b:Nat} {cs:List Value} {T:TypeId} (h:dZ w b cs T) {j:Nat} {v:Value} (hj:cs[j]?=some v):w.cell? ⟨b,j,none⟩=some v:=by
 unfold dZ at h;simp[World.cell?,h,hj]
theorem dZ.free {w:World} {b:Nat} {cs:List Value} {T:TypeId} (h:dZ w b cs T) (j:Nat):w.frozen? ⟨b,j,none⟩=false:=by
 unfold dZ at h;simp[World.frozen?,h]
theorem dZ.aD {S:Nat→Prop} {w w':World} {b:Nat} {cs:List Value} {T:TypeId} (h:dZ w b cs T) (hc:bA S w w') (hb:¬S b):dZ w' b cs T:=by
 unfold dZ at*;rw[hc.block b (dZ.lt h) hb];exact h
theorem dZ.set {w:World} {b:Nat} {cs:List Value} {T:TypeId} (h:dZ w b cs T) (j:Nat) (v:Value):dZ (w.setCell ⟨b,j,none⟩ v) b (cs.set j v) T:=by
 unfold dZ at*
 simp[World.setCell,Array.getElem?_modify,h]
structure uv (w w':World) (cs:List Value) (T:TypeId):Prop where
 ext:Ext w w'
 size:w'.heap.size=w.heap.size+1
 aJ:dZ w' w.heap.size cs T
theorem uv.alloc (w:World) (cs:List Value) (T:TypeId):uv w (w.alloc (.cells cs.toArray T)) cs T:=
 ⟨(bA.refl _ _).alloc _,by simp,heap_alloc_new w _⟩
section
variable {G:sR} {ops:Array Oper} {Q:Exit→Act→World→Prop} {C:World→Prop} {n:Nat} {E:Env} {w:World} {rest:List Oper} {op:Op} {ty:TypeId} {pos:String} {aft:Array Edge} {v:Value} {d:Nat} {x y z:Operand} {t:TypeId} {K:Value→World→Prop}
structure bB (G:sR) (n:Nat) (op:Op) (E:Env) (w:World) (K:Value→World→Prop):Prop where
 h:∀a,Ag n a E→∀d ty pos aft gd,iY G.P K ((execOp a.eval ⟨d,op,ty,pos,aft,gd⟩).run G.P w)
theorem vn {a:Act} {o:Oper} (hg:Region.wanted o (yielded ops a.tmps)=true) (h:iY G.P (fun v w'=>wpList G.P ops Q rest (a.put o.dst v) w') ((execOp a.eval o).run G.P w)):wpList G.P ops Q (o::rest) a w:=by
 unfold wpList
 simp only[hg,if_true]
 refine .inl ?_
 unfold Oper.wp
 generalize (execOp a.eval o).run G.P w=r at*
 cases r with
 |ok k w'=>
  cases k<;>simp only[iY]at h<;>simp only[Oper.upon]
  case value v=>exact h
  case skip=>exact h
  case enter f args=>
   refine h.mono fun e w'' ⟨v,e1,h1⟩=>?_
   subst e1
   exact h1
 |halt x w'=>exact h.elim
theorem ah.e (he:bB G n op E w K) (hd:Nat.blt d n=true) (h:∀v w',K v w'→ah G ops (.list Q w') n rest ((d,v)::E)):ah G ops (.list Q w) n (⟨some d,op,ty,pos,aft,none⟩::rest) E:=
 ⟨fun a ha=>vn (by simp[Region.wanted]) (bZ (he.h a ha _ _ _ _ _) fun v w' hk=>(h v w' hk).h _ (ha.put (by simpa using hd) v))⟩
theorem ah.e0 (he:bB G n op E w K) (h:∀v w',K v w'→ah G ops (.list Q w') n rest E):ah G ops (.list Q w) n (⟨none,op,ty,pos,aft,none⟩::rest) E:=
 ⟨fun a ha=>vn (by simp[Region.wanted]) (bZ (he.h a ha _ _ _ _ _) fun v w' hk=>(h v w' hk).h _ ha)⟩
theorem ah.eg {j:Nat} {b:Bool} (hg:mm ops E j=some b) (he:bB G n op E w K) (hd:Nat.blt d n=true) (h:∀v w',K v w'→ah G ops (.list Q w') n rest ((d,v)::E)):ah G ops (.list Q w) n (⟨some d,op,ty,pos,aft,some (j,b)⟩::rest) E:=
 ⟨fun a ha=>vn (by simp[Region.wanted,kj ha hg]) (bZ (he.h a ha _ _ _ _ _) fun v w' hk=>(h v w' hk).h _ (ha.put (by simpa using hd) v))⟩
theorem ah.m {sk:Bool} (he:bB G n op E w K) (hd:(!mn op && Nat.blt d n)=true) (h:∀v w',K v w'→C w'∧ah G ops (.mix sk Q C w') n rest ((d,v)::E)):ah G ops (.mix sk Q C w) n (⟨some d,op,ty,pos,aft,none⟩::rest) E:=
 ⟨fun a ha=>by
  simp only[Bool.and_eq_true,Bool.not_eq_true']at hd
  simp only[Mode.run,jm,Region.wanted,hd.1,if_true]
  exact bZ (he.h a ha _ _ _ _ _) fun v w' hk=>⟨.inr (h v w' hk).1,(h v w' hk).2.h _ (ha.put (by simpa using hd.2) v)⟩⟩
theorem ah.mz (he:bB G n op E w K) (hd:(!mn op && Nat.blt d n)=true) (h:∀v w',K v w'→ah G ops (.mix true Q C w') n [] ((d,v)::E)):ah G ops (.mix true Q C w) n [⟨some d,op,ty,pos,aft,none⟩] E:=
 ⟨fun a ha=>by
  simp only[Bool.and_eq_true,Bool.not_eq_true']at hd
  simp only[Mode.run,jm,Region.wanted,hd.1,if_true]
  exact bZ (he.h a ha _ _ _ _ _) fun v w' hk=>⟨.inl (by simp),(h v w' hk).h _ (ha.put (by simpa using hd.2) v)⟩⟩
theorem ah.EV (he:bB G n op E w K) (hd:mn op=false) (h:∀v w',K v w'→ah G ops (.mix true Q C w') n [] E):ah G ops (.mix true Q C w) n [⟨none,op,ty,pos,aft,none⟩] E:=
 ⟨fun a ha=>by
  simp only[Mode.run,jm,Region.wanted,hd,if_true]
  exact bZ (he.h a ha _ _ _ _ _) fun v w' hk=>⟨.inl (by simp),(h v w' hk).h _ ha⟩⟩
theorem bB.of {w':World} (hr:∀a,Ag n a E→∀d ty pos aft gd,(execOp a.eval ⟨d,op,ty,pos,aft,gd⟩).run G.P w=.ok (.value v) w') (hk:K v w'):bB G n op E w K:=⟨fun a ha d ty pos aft gd=>by rw[hr a ha];exact hk⟩
theorem bB.nj {w':World} (hr:∀a,Ag n a E→∀d ty pos aft gd,(execOp a.eval ⟨d,op,ty,pos,aft,gd⟩).run G.P w=.ok .skip w') (hk:K undef w'):bB G n op E w K:=⟨fun a ha d ty pos aft gd=>by rw[hr a ha];exact hk⟩
theorem bB.mono {K':Value→World→Prop} (h:bB G n op E w K) (hk:∀v w,K v w→K' v w):bB G n op E w K':=⟨fun a ha d ty pos aft gd=>bZ (h.h a ha d ty pos aft gd) hk⟩
theorem bB.alloc {ti:TI} (ht:G.ty t=some ti):bB G n (.alloc t) E w (fun v w'=>v=.pointer (some ⟨w.heap.size,0,none⟩)∧uv w w' ti.zero.cells.toList t):=by
 refine bB.of (w':=w.alloc (.cells ti.zero.cells t)) (v:=.pointer (some ⟨w.heap.size,0,none⟩)) (fun a _ d ty pos aft gd=>?_) ⟨rfl,?_⟩
 ·have:=(G.eZ t ti ht).zeroV w
  simp[execOp,Instr.alloc,this,newVar,newRow]
 ·have:=uv.alloc w ti.zero.cells.toList t
  simpa using this
theorem bB.box {cs:List Value} (hx:ev E x=some v) (hcs:v.cells=cs.toArray):bB G n (.box t x) E w (fun v w'=>v=.pointer (some ⟨w.heap.size,0,none⟩)∧uv w w' cs t):=by
 refine bB.of (w':=w.alloc (.cells cs.toArray t)) (v:=.pointer (some ⟨w.heap.size,0,none⟩)) (fun a ha d ty pos aft gd=>?_) ⟨rfl,uv.alloc w cs t⟩
 simp[execOp,Instr.box,ha.eval hx,newVar,newRow,hcs]
theorem rl (f:Operand→Value) (parts:List (Nat×Operand)):(parts.map fun(i,x)=>(i,f x))=(parts.map (·.1)).zip ((parts.map (·.2)).map f):=by
 induction parts with
 |nil=>rfl
 |cons p r ih=>simp[ih]
theorem bB.buildSlice {e len:Nat} {parts:List (Nat×Operand)} {vs cs:List Value} (hv:ju E (parts.map (·.2))=some vs)
  (hr:(Instr.buildSlice t len ((parts.map (·.1)).zip vs).toArray).run G.P w=.ok (.slice (some ⟨w.heap.size,0,none⟩) len len) (w.alloc (.cells cs.toArray e))):
  bB G n (.buildSlice t len parts.toArray) E w (fun v w'=>v=.slice (some ⟨w.heap.size,0,none⟩) len len∧uv w w' cs e):=by
 refine bB.of (w':=w.alloc (.cells cs.toArray e)) (v:=.slice (some ⟨w.heap.size,0,none⟩) len len) (fun a ha d ty pos aft gd=>?_) ⟨rfl,uv.alloc w cs e⟩
 have e1:(parts.map fun(i,x)=>(i,a.eval x))=(parts.map (·.1)).zip vs:=by
  rw[←ha.lF hv]
  exact rl a.eval parts
 simp only[execOp,List.map_toArray,e1]
 simp[hr]
theorem Yl.build {parts:List (Nat×Operand)} {vs:List Value} (hv:ju E (parts.map (·.2))=some vs) (hr:∀w,(Instr.build t ((parts.map (·.1)).zip vs).toArray).run G.P w=.ok v w):
  Yl G n (.build t parts.toArray) E C v:=⟨fun w _ a ha d ty pos aft gd=>by
 have e1:(parts.map fun(i,x)=>(i,a.eval x))=(parts.map (·.1)).zip vs:=by
  rw[←ha.lF hv]
  exact rl a.eval parts
 simp only[execOp,List.map_toArray,e1]
 simp[hr]⟩
theorem bB.store {ti:TI} {ad:Addr} {old:Value} (ht:G.ty t=some ti) (hs:ti.size=1) (hx:ev E x=some (.pointer (some ad))) (hy:ev E y=some v) (hv:v.oneCell'=true) (hc:w.cell? ad=some old) (hf:w.frozen? ad=false):
  bB G n (.store t x y) E w (fun _ w'=>w'=w.setCell ad v):=by
 refine bB.nj (w':=w.setCell ad v) (fun a ha d ty pos aft gd=>?_) rfl
 have h1:=(G.eZ t ti ht).size w
 rw[hs]at h1
 have e1:v.cells=#[v]:=by cases v<;>simp_all [Value.cells,Value.oneCell']
 have e2:ad.add 0=ad:=by simp[Addr.add]
 have h2:=run_store G.P w ad v .plain hv
 rw[hc]at h2
 simp only[hf]at h2
 simp[execOp,ha.eval hx,ha.eval hy,Instr.storeAt,Instr.sureAddr,storeVar,h1,e1,storeCells,e2,h2]
theorem bB.vt {ti:TI} {b j T:Nat} {cs:List Value} (ht:G.ty t=some ti) (hs:ti.size=1) (hx:ev E x=some (.pointer (some ⟨b,j,none⟩))) (hy:ev E y=some v) (hv:v.oneCell'=true) (hb:dZ w b cs T) (hj:j<cs.length):
  bB G n (.store t x y) E w (fun _ w'=>dZ w' b (cs.set j v) T∧bA (fun k=>k=b) w w'∧w'.heap.size=w.heap.size):=
 (bB.store ht hs hx hy hv (hb.cell (List.getElem?_eq_getElem hj)) (hb.free j)).mono fun _ w' e=>by
  subst e
  exact⟨hb.set j v,bA.setCell (S:=fun k=>k=b) (p:=⟨b,j,none⟩) (bA.refl _ w) (fun _=>rfl) v,by simp[World.setCell]⟩
theorem bB.aM {ti:TI} {b T:Nat} {old cs:List Value} (ht:G.ty t=some ti) (hx:ev E x=some (.pointer (some ⟨b,0,none⟩))) (hy:ev E y=some v) (hcs:v.cells=cs.toArray) (hs:ti.size=cs.length) (hv:∀u∈cs,u.oneCell'=true)
  (hb:dZ w b old T) (hl:old.length=cs.length):bB G n (.store t x y) E w (fun _ w'=>dZ w' b cs T∧bA (fun k=>k=b) w w'∧w'.heap.size=w.heap.size):=by
 have h3:=run_storeCells_at (P:=G.P) b 0 T cs 0 old.toArray w hb (by simp;omega) hv
 have e3:(old.toArray.toList.take (0+0)++cs++old.toArray.toList.drop (0+0+cs.length)).toArray=cs.toArray:=by simp[hl]
 rw[e3]at h3
 have hset:∀k,k≠b→(w.setRow b cs.toArray).heap[k]?=w.heap[k]?:=fun k hk=>by
  simp only[World.setRow,Array.getElem?_modify]
  rw[if_neg (fun e=>hk e.symm)]
 refine bB.nj (w':=w.setRow b cs.toArray) (fun a ha d ty pos aft gd=>?_) ⟨setRow_heap w b _ _ T _ hb,⟨rfl,rfl,rfl,by simp[World.setRow],fun k _ hk=>hset k hk⟩,by simp[World.setRow]⟩
 have h1:=(G.eZ t ti ht).size w
 simp[execOp,ha.eval hx,ha.eval hy,Instr.storeAt,Instr.sureAddr,storeVar,h1,hcs,hs,h3]
theorem Yl.cn {k:IntKind} {p:Int} {ti te:TI} {e l c i:Nat} {po:Option Addr} (ht:G.ty t=some ti) (he:ti.elem=some e) (hte:G.ty e=some te) (hx:ev E x=some (.slice po l c)) (hi:ev E y=some (.int k p)) (hp:p=(i:Int)) (hc:i≤c):
  Yl G n (.slice t x none (some y) none) E C (.slice po i c):=⟨fun w _ a ha d ty pos aft gd=>by
 have h1:=(G.eZ t ti ht).elem e he
 have h2:=(G.eZ e te hte).size w
 subst hp
 have e1:∀ad:Addr,ad.add 0=ad:=fun ad=>by simp[Addr.add]
 by_cases hc0:c=0
 ·subst hc0
  obtain rfl:i=0:=by omega
  cases po<;>simp[execOp,ha.eval hx,ha.eval hi,Instr.sliceAt,Instr.slice,Instr.sliceBounds,Instr.sliceBound,asIntOf,run_underlying h1,h2]
 ·cases po<;>simp[execOp,ha.eval hx,ha.eval hi,Instr.sliceAt,Instr.slice,Instr.sliceBounds,Instr.sliceBound,asIntOf,run_underlying h1,h2,hc,e1]⟩
theorem rz {P:Program} {w:World} {base:Nat} {t ty e:TypeId} {i:TypeInfo} {z:Value} (ht:P.underlying t=some (.slice e)) (hi:P.info? e=some i) (hz:i.zero=some z)
  {v:Value} {n:Nat} {xs:List Value} (hown:w.ownsRow base e i.size v n xs) {a:Addr} {m c:Nat} {news:List Value} (hl:news.length=m*i.size) (hnews:∀j u,news[j]?=some u→w.cell? (a.add j)=some u) (h1:∀u∈news,u.oneCell'=true)
  (h63:n+m≤maxLen) (hbytes:(n+m)*i.bytes≤140737488355328) {v':Value} {w':World} (hr:(Builtin.append_ #[t,t] ty #[v,.slice (some a) m c]).run P w=.ok v' w'):v'.ownBlock=v.ownBlock∨v'.ownBlock=some w.heap.size:=by
 have hsmall:n+m≤9223372036854775807:=by simp only[maxLen]at h63;omega
 rcases hown.2 with⟨rfl,rfl⟩|⟨g,cap,cur,rfl,hbg,hg,hnc,hcm,hcs,htake⟩
 ·by_cases hm:m=0
  ·subst hm
   have hr':(Builtin.append_ #[t,t] ty #[.slice none 0 0,.slice (some a) 0 c]).run P w=.ok (.slice none 0 0) w:=by
    simp[Builtin.append_,run_underlying ht,sizeOf,typeInfo,hi,Builtin.lenOf,Builtin.firstCells,loadCells,loadCellsFrom]
   rw[hr']at hr;cases hr;exact .inl rfl
  ·have hr':=run_append_nil (P:=P) w t ty e i z ht hi hz a m c news hl hnews (by omega) (by omega) (by have hb:=hbytes;simp only[Nat.zero_add]at hb;omega)
   rw[hr']at hr;cases hr;exact .inr rfl
 ·by_cases hroom:n+m≤cap
  ·have hfit:n*i.size+news.length≤cur.size:=by rw[hl,hcs,←Nat.add_mul];exact Nat.mul_le_mul_right _ hroom
   have hr':=run_append_room (P:=P) w t ty e i ht hi g n cap cur hg a m c news hl hnews h1 hroom hfit
   rw[hr']at hr;cases hr;exact .inl rfl
  ·have holds:∀j u,xs[j]?=some u→w.cell? ((⟨g,0,none⟩:Addr).add j)=some u:=hown.cells (g:=g) rfl
   have hr':=run_append_grow (P:=P) w t ty e i z ht hi hz ⟨g,0,none⟩ n cap xs hown.1 holds a m c news hl hnews (by omega) (by omega) (growslice_fits (by omega) hbytes)
   rw[hr']at hr;cases hr;exact .inr rfl
theorem bB.ou {ti te:TI} {e base len m c bk of_:Nat} {xs news:List Value} (ht:G.ty t=some ti) (he:ti.elem=some e) (hte:G.ty e=some te) (hzs:te.zero.cells.size=te.size) (hsz:0<te.size)
  (hx:ev E x=some v) (hown:w.ownsRow base e te.size v len xs) (hy:ev E y=some (.slice (some ⟨bk,of_,none⟩) m c)) (hl:news.length=m*te.size) (hnews:∀j u,news[j]?=some u→w.cell? ⟨bk,of_+j,none⟩=some u) (h1:∀u∈news,u.oneCell'=true)
  (h63:len+m≤maxLen) (hbytes:(len+m)*te.bytes≤140737488355328) (hbase:base≤w.heap.size):
  bB G n (.call ⟨.builtin .append,#[x,y],#[t,t]⟩) E w (fun v' w'=>w'.ownsRow base e te.size v' (len+m) (xs++news)∧bA (fun k=>v.ownBlock=some k) w w'∧(v'.ownBlock=v.ownBlock∨v'.ownBlock=some w.heap.size)):=by
 obtain⟨i,hi,hz,hs,hb⟩:=info_parts (G.eZ e te hte).info
 have e1:∀j,(⟨bk,of_,none⟩:Addr).add j=⟨bk,of_+j,none⟩:=fun j=>by
  unfold Addr.add;split
  ·rename_i h;rw[h];rfl
  ·rfl
 obtain⟨v',w',hr,ho,hg,_⟩:=run_append_own (P:=G.P) w base t 0 e i te.zero te.size te.bytes ((G.eZ t ti ht).elem e he) hi hz hs hb hzs hsz v len xs hown ⟨bk,of_,none⟩ m c news hl (fun j u hj=>by rw[e1];exact hnews j u hj) h1 h63 hbytes hbase
 have hob:v'.ownBlock=v.ownBlock∨v'.ownBlock=some w.heap.size:=rz (i:=i) (z:=te.zero) ((G.eZ t ti ht).elem e he) hi hz (by rw[hs];exact hown) (by rw[hs];exact hl) (fun j u hj=>by rw[e1];exact hnews j u hj) h1 h63 (by rw[hb];exact hbytes) hr
 refine bB.of (w':=w') (v:=v') (fun a ha d ty pos aft gd=>?_) ⟨ho,bA.jd hg,hob⟩
 have hr':(Builtin.append_ #[t,t] ty #[v,.slice (some ⟨bk,of_,none⟩) m c]).run G.P w=.ok v' w':=hr
 simp[execOp,resolve,invoke,builtin,ha.eval hx,ha.eval hy,hr']
theorem bB.vI {ti te:TI} {e l c c2:Nat} {po p2:Option Addr} (ht:G.ty t=some ti) (he:ti.elem=some e) (hte:G.ty e=some te) (hx:ev E x=some (.slice po l c)) (hlc:l≤c) (hy:ev E y=some (.slice p2 0 c2)):
  bB G n (.call ⟨.builtin .append,#[x,y],#[t,t]⟩) E w (fun v' w'=>v'=.slice po l c∧w'=w):=by
 have h1:=(G.eZ t ti ht).elem e he
 have h2:=(G.eZ e te hte).size w
 refine bB.of (w':=w) (v:=.slice po l c) (fun a ha d ty pos aft gd=>?_) ⟨rfl,rfl⟩
 cases po<;>cases p2<;>simp[execOp,resolve,invoke,builtin,ha.eval hx,ha.eval hy,Builtin.append_,run_underlying h1,h2,Builtin.lenOf,Builtin.firstCells,hlc,loadCells,loadCellsFrom,storeCells]
theorem bB.make {ti te:TI} {e base len:Nat} (ht:G.ty t=some ti) (he:ti.elem=some e) (hte:G.ty e=some te) (hx:ev E x=some (.int .i64 (len:Int))) (hbytes:te.bytes*len≤140737488355328) (h63:len≤maxLen) (hbase:base≤w.heap.size):
  bB G n (.makeSlice t x x) E w (fun v w'=>v=.slice (some ⟨w.heap.size,0,none⟩) len len∧w'.ownsRow base e te.size (.slice (some ⟨w.heap.size,0,none⟩) len len) len (madeCells te.zero.cells (len*te.size)).toList∧Ext w w'∧w.heap.size<w'.heap.size):=by
 obtain⟨i,hi,hz,hs,hb⟩:=info_parts (G.eZ e te hte).info
 obtain⟨w',hr,ho,hg⟩:=run_make_full (P:=G.P) w base t e i te.zero te.size ((G.eZ t ti ht).elem e he) hi hz hs .i64 .i64 len (by rw[hb];omega) h63 hbase
 refine bB.of (w':=w') (fun a ha d ty pos aft gd=>?_) ⟨rfl,ho,(bA.jd hg).mono (fun _ _ h=>by cases h),(ho.lt w.heap.size rfl).2⟩
 simp[execOp,ha.eval hx,hr]
theorem bB.call {f:Nat} {args:List Operand} {tys:Array TypeId} {vs:List Value} {R:Ending→World→Prop} (hf:G.fb[f]?=some true) (ha:ju E args=some vs) (hc:Calls G.P f vs.toArray w R) (hR:∀e w',R e w'→∃v,e=.returned v):
  bB G n (.call ⟨.value (.func f),args.toArray,tys⟩) E w (fun v w'=>R (.returned v) w'):=⟨fun a hag d ty pos aft gd=>by
 have e1:=hag.lF ha
 have hr:(execOp a.eval ⟨d,.call ⟨.value (.func f),args.toArray,tys⟩,ty,pos,aft,gd⟩).run G.P w=.ok (.enter f vs.toArray) w:=by
  have h2:=G.wN f hf vs.toArray w
  simp[execOp,resolve,Deferred.ofValue,Act.eval,invoke,e1,h2]
 rw[hr]
 exact hc.mono fun e w' h=>by obtain⟨v,rfl⟩:=hR e w' h;exact⟨v,rfl,h⟩⟩
theorem bB.kp {f:Nat} {fo:Operand} {cap:List Value} {args:List Operand} {tys:Array TypeId} {vs:List Value} {R:Ending→World→Prop} (hfo:ev E fo=some (.func (.func f) #[] cap.toArray)) (hf:G.fb[f]?=some true) (ha:ju E args=some vs) (hc:Calls G.P f (vs++cap).toArray w R) (hR:∀e w',R e w'→∃v,e=.returned v):
  bB G n (.call ⟨.value fo,args.toArray,tys⟩) E w (fun v w'=>R (.returned v) w'):=⟨fun a hag d ty pos aft gd=>by
 have e1:=hag.lF ha
 have hr:(execOp a.eval ⟨d,.call ⟨.value fo,args.toArray,tys⟩,ty,pos,aft,gd⟩).run G.P w=.ok (.enter f (vs++cap).toArray) w:=by
  have h2:=G.wN f hf (vs++cap).toArray w
  simp[execOp,resolve,Deferred.ofValue,hag.eval hfo,invoke,e1]at h2 ⊢
  exact h2
 rw[hr]
 exact hc.mono fun e w' h=>by obtain⟨v,rfl⟩:=hR e w' h;exact⟨v,rfl,h⟩⟩
theorem ah.call {f:Nat} {args:List Operand} {tys:Array TypeId} {vs:List Value} {R:Ending→World→Prop} (hf:G.fb[f]?=some true) (ha:ju E args=some vs) (hd:Nat.blt d n=true) (hc:Calls G.P f vs.toArray w R)
  (h:∀e w',R e w'→∃v,e=.returned v∧ah G ops (.list Q w') n rest ((d,v)::E)):ah G ops (.list Q w) n (⟨some d,.call ⟨.value (.func f),args.toArray,tys⟩,ty,pos,aft,none⟩::rest) E:=
 ah.e (bB.call hf ha hc fun e w' hR=>⟨_,(h e w' hR).choose_spec.1⟩) hd fun v w' hR=>by obtain⟨u,e1,h1⟩:=h _ _ hR;cases e1;exact h1
theorem ah.tj {f j:Nat} {b:Bool} {args:List Operand} {tys:Array TypeId} {vs:List Value} {R:Ending→World→Prop} (hg:mm ops E j=some b) (hf:G.fb[f]?=some true) (ha:ju E args=some vs) (hd:Nat.blt d n=true) (hc:Calls G.P f vs.toArray w R)
  (h:∀e w',R e w'→∃v,e=.returned v∧ah G ops (.list Q w') n rest ((d,v)::E)):ah G ops (.list Q w) n (⟨some d,.call ⟨.value (.func f),args.toArray,tys⟩,ty,pos,aft,some (j,b)⟩::rest) E:=
 ah.eg hg (bB.call hf ha hc fun e w' hR=>⟨_,(h e w' hR).choose_spec.1⟩) hd fun v w' hR=>by obtain⟨u,e1,h1⟩:=h _ _ hR;cases e1;exact h1
theorem ah.Cy {K:Act→Prop} {f:Nat} {args:List Operand} {tys:Array TypeId} {vs:List Value} (hf:G.fb[f]?=some true) (ha:ju E args=some vs) (hd:Nat.blt d n=true) (hc:∀w,C w→Calls G.P f vs.toArray w (fun e w'=>e=.returned v∧C w'))
  (h:ah G ops (.quiet K C) n rest ((d,v)::E)):ah G ops (.quiet K C) n (⟨some d,.call ⟨.value (.func f),args.toArray,tys⟩,ty,pos,aft,none⟩::rest) E:=⟨fun a hag=>by
 have e1:=hag.lF ha
 simp only[Mode.run,wpQuiet,Region.wanted,if_true]
 refine⟨v,fun w hw=>?_,h.h _ (hag.put (by simpa using hd) v)⟩
 unfold Oper.quietAt
 have hr:(execOp a.eval ⟨some d,.call ⟨.value (.func f),args.toArray,tys⟩,ty,pos,aft,none⟩).run G.P w=.ok (.enter f vs.toArray) w:=by
  have h2:=G.wN f hf vs.toArray w
  simp[execOp,resolve,Deferred.ofValue,Act.eval,invoke,e1,h2]
 rw[hr]
 exact⟨rfl,hc w hw⟩⟩
theorem ah.Bv {K:Act→Prop} {f j:Nat} {b:Bool} {args:List Operand} {tys:Array TypeId} {vs:List Value} (hg:mm ops E j=some b) (hf:G.fb[f]?=some true) (ha:ju E args=some vs) (hd:Nat.blt d n=true) (hc:∀w,C w→Calls G.P f vs.toArray w (fun e w'=>e=.returned v∧C w'))
  (h:ah G ops (.quiet K C) n rest ((d,v)::E)):ah G ops (.quiet K C) n (⟨some d,.call ⟨.value (.func f),args.toArray,tys⟩,ty,pos,aft,some (j,b)⟩::rest) E:=⟨fun a hag=>by
 have e1:=hag.lF ha
 have hw:Region.wanted ⟨some d,.call ⟨.value (.func f),args.toArray,tys⟩,ty,pos,aft,some (j,b)⟩ (yielded ops a.tmps)=true:=by simp[Region.wanted,kj hag hg]
 simp only[Mode.run,wpQuiet,hw,if_true]
 refine⟨v,fun w hw=>?_,h.h _ (hag.put (by simpa using hd) v)⟩
 unfold Oper.quietAt
 have hr:(execOp a.eval ⟨some d,.call ⟨.value (.func f),args.toArray,tys⟩,ty,pos,aft,some (j,b)⟩).run G.P w=.ok (.enter f vs.toArray) w:=by
  have h2:=G.wN f hf vs.toArray w
  simp[execOp,resolve,Deferred.ofValue,Act.eval,invoke,e1,h2]
 rw[hr]
 exact⟨rfl,hc w hw⟩⟩
end
theorem run_equalIn_bool {P:Program} {t:TypeId} (ht:P.underlying t=some .bool) (d:Nat) (a b:Bool) (w:World):(Op.equalIn (d+1) t (.bool a) (.bool b)).run P w=.ok (a==b) w:=by
 simp[Op.equalIn,run_underlying ht]
theorem run_equal_bool {P:Program} {t:TypeId} (ht:P.underlying t=some .bool) (a b:Bool) (w:World):(Op.equal t (.bool a) (.bool b)).run P w=.ok (a==b) w:=run_equalIn_bool ht 9999 a b w
theorem Yl.jr {G:sR} {n:Nat} {E:Env} {C:World→Prop} {x y:Operand} {t t2:TypeId} {a b:Bool} (ht:G.P.underlying t=some .bool) (hx:ev E x=some (.bool a)) (hy:ev E y=some (.bool b)):Yl G n (.binOp .neq t x y t2) E C (.bool (a !=b)):=
 Yl.CQ hx hy (run_equal_bool ht a b)
structure ek (p:Prop):Prop where
 out:p
theorem am {g:Prop} (h:g:=by first|(exfalso;omega)|exact ai.aA rfl rfl fun w' hw'=>⟨by clear hw' gT gM gE gnd ho ha h;refine congrArg Ending.returned (congrArg (Value.int .i64) ?_);simp only[dM,if_true,if_false,reduceIte,Int.reduceEq,Int.reduceNe, *];first|done|rfl|simp_all|(simp_all<;>(intros;omega)),hw'.at⟩):g:=h
theorem ap {g:Prop} (h:g:=by exact ai.aA rfl rfl fun w' hw'=>⟨rfl,hw'.at⟩):g:=h
theorem bi {g:Prop} (h:g:=by exact ai.next (j+1) bR bN aY ⟨by omega,by rw[hst,hi]⟩ (by omega)):g:=h
theorem ci {g:Prop} (h:g:=by exact ai.aA rfl rfl fun w' hw'=>⟨by clear hw' hl hk ho hu;simp_all [bh],hw'.at⟩):g:=h
theorem em {g:Prop} (h:g:=by first|omega|exact ai.aA rfl rfl fun w' hw'=>aq.mM (x:=(tv2,pv2)) trivial hS hw' cT ao):g:=h
theorem ex {g:Prop} (h:g:=by exact ai.aA rfl rfl fun w' hw'=>aq.mM (x:=(tv3,pv3)) trivial hS hw' cT ao):g:=h
theorem fd {g:Prop} (h:g:=by first|omega|exact ai.aA rfl rfl fun w' hw'=>aq.mM (x:=(tv1,pv1)) trivial hS hw' cT ao):g:=h
theorem f8 {g:Prop} (h:g:=by first|omega|exact ai.aA rfl rfl fun w' hw'=>ar.ok (r:=(c1,0)) (⟨sp1,tv1,pv1,bv1,rv1,fv1,D1,L1⟩:fU) rfl hg1 hS hw' (by dsimp only[aw,ay,List.cons_append,List.nil_append];exact cT) ao):g:=h
theorem gc {g:Prop} (h:g:=by first|omega|exact ai.aA rfl rfl fun w' hw'=>ar.err e1 rfl he1 hS hw' ao):g:=h
theorem ge {g:Prop} (h:g:=by first|omega|exact ai.aA rfl rfl fun w' hw'=>ar.err 16 rfl (by decide) hS hw' ao):g:=h
theorem gt {g:Prop} (h:g:=by exact ai.aA rfl rfl fun w' hw'=>ar.ok y rfl hy hS hw' (gK.app _ _) ao):g:=h
theorem ii {g:Prop} (h:g:=by exact ai.aA rfl rfl fun w' hw'=>ar.err e2 rfl he2 hS hw' ao):g:=h
theorem ip {g:Prop} (h:g:=by exact ai.aA rfl rfl fun w' hw'=>ar.ok (r:=(fD {c with aG:=s1},0)) (⟨sp2,tv2,pv2,bv2,rv2,fv2,D2,L2⟩:fU) rfl hg2 hS hw' (by dsimp only[aw,ay,List.cons_append,List.nil_append];exact cT) ao):g:=h
theorem jp {g:Prop} (h:g:=by first|(exfalso;omega)|exact ai.aA rfl rfl fun w' hw'=>ar.err 12 (by show(cD c x).2=12;rw[hbr]) (by decide) hS hw' ao):g:=h
theorem kw {g:Prop} (h:g:=by exact ai.aA rfl rfl fun w' hw'=>⟨by rw[decide_eq_true heq],hw'.at⟩):g:=h
theorem li {g:Prop} (h:g:=by first|omega|exact ai.aA rfl rfl fun w' hw'=>⟨by rw[decide_eq_false];intro e;exact hlen (by rw[e]),hw'.at⟩):g:=h
theorem lm {g:Prop} (h:g:=by exact ai.bn (.inl rfl) rfl rfl rfl rfl rfl bJ rfl rfl fun w' hw'=>⟨by rw[e];rfl,hw'.at⟩):g:=h
theorem lw {g:Prop} (h:g:=by first|omega|exact ai.bn (.inl rfl) rfl rfl rfl rfl rfl bJ rfl rfl fun w' hw'=>⟨by rw[e];rfl,hw'.at⟩):g:=h
theorem mp {g:Prop} (h:g:=by exact ai.bn (.inl rfl) rfl rfl rfl rfl rfl bJ rfl rfl fun w' hw'=>⟨by rfl,hw'.at⟩):g:=h
theorem mt {g:Prop} (h:g:=by exact ai.aA rfl rfl fun w' hw'=>⟨by rfl,hw'.at⟩):g:=h
theorem ne {g:Prop} (h:g:=by first|omega|exact ai.bn (.inl rfl) rfl rfl rfl rfl rfl bJ rfl rfl fun w' hw'=>⟨⟨(_,_),rfl,eP,eP⟩,hw'.at⟩):g:=h
theorem ol {g:Prop} (h:g:=by first|omega|exact ai.bn (.inl rfl) rfl rfl rfl rfl rfl bJ rfl rfl fun w' hw'=>⟨⟨(_,_),rfl,by first|exact af.eJ _ _|fail,by first|exact af.eJ _ _|fail⟩,hw'.at⟩):g:=h
theorem pi {g:Prop} (h:g:=by exact ai.aA rfl rfl fun w' hw'=>ar.ok ⟨sp,tvc,pvc,bv2,rv,fv.take (c.fs.length - 1),D,L⟩ rfl ((hg.pop s2 tvb pvb bv2 (c.fs.length - 1)).mono rfl rfl rfl rfl (fun _ h=>h)) hS hw' (by dsimp only[aw,ay,List.cons_append,List.nil_append];exact cT) ao):g:=h
theorem pm {g:Prop} (h:g:=by exact Fin.next (i+1,v6) bR ⟨by omega,hn,hallS hck,hfin w5 w6 v6 hn5 ho6 hc6 hb6⟩ (by dsimp only;omega)):g:=h
theorem qr {g:Prop} (h:g:=by exact ai.aA rfl rfl fun w' hw'=>aq.nj (x:=(_,_)) trivial hS hw' (gH rfl rfl rfl rfl rfl rfl rfl rfl) ao):g:=h
theorem rd {g:Prop} (h:g:=by first|(exfalso;omega)|exact ai.aA rfl rfl fun w' hw'=>⟨rfl,hw'.at⟩):g:=h
theorem rg {g:Prop} (h:g:=by exact af.eJ _ _):g:=h
theorem rt {g g':Prop} (h:g') (hw:ek g'→g:=by(intro hk_;refine aj (l:=[_,_]) Tryz.func105 rfl Tryz.ntmps105 rfl (Ok.start w) ?_;exact hk_.out)):g:=hw ⟨h⟩
theorem rx {g g':Prop} (h:g') (hw:ek g'→g:=by(intro hk_;refine aQ.ef (by kernel_rfl) ?_;exact hk_.out)):g:=hw ⟨h⟩
theorem t6 {g g':Prop} (h:g') (hw:ek g'→g:=by(intro hk_;refine aj (l:=[_]) Tryz.func83 rfl Tryz.ntmps83 rfl (Ok.start w) ?_;exact hk_.out)):g:=hw ⟨h⟩
theorem t7 {g g':Prop} (h:g') (hw:ek g'→g:=by(intro hk_;refine aQ.loop (σ:=Nat) (fun j=>[(133,.slice pl labels.length cl),(134,.int .i64 labels.length),(135,.int .i64 j)]) (fun _=>[]) (fun _=>[Ext w]) (fun j=>j≤labels.length∧(labels.take j).all aL=true) (fun j=>labels.length - j) 0 bR bN aY ⟨by omega,by simp⟩ ?_;exact hk_.out)):g:=hw ⟨h⟩
theorem t8 {g g':Prop} (h:g') (hw:ek g'→g:=by(intro hk_;refine aa.he (HE.aW (M0:=ay sp s1 (tv1,pv1)) cE rfl rfl (fun w' hw'=>jJ sp s1 (tv1,pv1) w' (hw'.bV cT (fun p hp=>absurd hp (by simp))) wf1.some wf1.at_.1)) rfl ?_;exact hk_.out)):g:=hw ⟨h⟩
theorem ul {g g':Prop} (h:g') (hw:ek g'→g:=by(intro hk_;refine aa.he (HE.aW (M0:=aw cp c ⟨sp,tv,pv,bv,rv,fv,D,L⟩) cE rfl rfl (fun w' hw'=>(hk w' (hw'.bV cT aY)).mono fun _ _ h=>h.wS rfl)) rfl ?_;exact hk_.out)):g:=hw ⟨h⟩
theorem ut {g g':Prop} (h:g') (hw:ek g'→g:=by(intro hk_;refine aa.he (HE.aW (M0:=aw cp c ⟨sp,tv,pv,bv,rv,fv,D,L⟩) cE rfl rfl (fun w' hw'=>(hk w' (hw'.bV cT aY)).mono fun _ _ h=>h.bad (q:=e1) rfl he1)) rfl ?_;exact hk_.out)):g:=hw ⟨h⟩
theorem wd {g g':Prop} (h:g') (hw:ek g'→g:=by(intro hk_;refine aQ.de [.aJ b5 [.slice q1 par.length d1,.slice q2 res.length d2] Ch,.aJ cp [.pointer (some ⟨sp,0,none⟩),.slice p c.fs.length cc,rv,.bool c.live,.int .i64 c.broken] fA] [fun w=>fa ⟨par,res⟩ Dt w (.slice q1 par.length d1,.slice q2 res.length d2)] bN aY ?_;exact hk_.out)):g:=hw ⟨h⟩
theorem wl {g g':Prop} (h:g') (hw:ek g'→g:=by(intro hk_;refine aQ.ox 7 [.aJ b5 [.slice q1 par.length d1,.slice q2 res.length d2] Ch,.aJ cp [.pointer (some ⟨sp,0,none⟩),.slice p c.fs.length cc,rv,.bool c.live,.int .i64 c.broken] fA] [fun w=>fa ⟨par,res⟩ Dt w (.slice q1 par.length d1,.slice q2 res.length d2)] bN aY ?_;exact hk_.out)):g:=hw ⟨h⟩
theorem wn {g g':Prop} (h:g') (hw:ek g'→g:=by(intro hk_;refine aQ.kN (q1:=.own 0 fl 1 (.slice ppar_ par.length cpar_) par.length (aU par)) (q2:=.own 0 fl 1 (.slice pres_ res.length cres_) res.length (aU res)) (q:=.iM (fa ⟨par,res⟩) (fa.fr ⟨par,res⟩) (fun k=>(Value.slice ppar_ par.length cpar_).ownBlock=some k∨(Value.slice pres_ res.length cres_).ownBlock=some k) (.slice ppar_ par.length cpar_,.slice pres_ res.length cres_)) hU hU (fun k h=>h) (fun w h1 h2=>⟨(dI h1 hl1).mono fun _ _ h=>.inl h,(dI h2 hl2).mono fun _ _ h=>.inr h⟩) ?_;exact hk_.out)):g:=hw ⟨h⟩
theorem ws {g g':Prop} (h:g') (hw:ek g'→g:=by(intro hk_;refine aQ.kN (q1:=.iM fx fx.fr D L) (q2:=.iM (fa ⟨par,res⟩) (fa.fr ⟨par,res⟩) D0 (.slice ppar_ par.length cpar_,.slice pres_ res.length cres_)) (q:=.iM fx fx.fr (fun k=>D k∨D0 k) ((⟨par,res⟩,.slice ppar_ par.length cpar_,.slice pres_ res.length cres_)::L)) hU hU (fun k h=>h) (fun w h1 h2=>fx.cons h1 h2) ?_;exact hk_.out)):g:=hw ⟨h⟩
theorem wt {g g':Prop} (h:g') (hw:ek g'→g:=by(intro hk_;refine aQ.cA [0,1,2,3,4,5,6,7] 8 _ _ (by kernel_rfl) (List.Sublist.refl _) (fun _ h=>h) ?_;exact hk_.out)):g:=hw ⟨h⟩
theorem ww {g g':Prop} (h:g') (hw:ek g'→g:=by(intro hk_;refine aa.he (HE.aW (M0:=[.aJ cp [.pointer (some ⟨sp,0,none⟩),.slice p c.fs.length cc,rv,.bool c.live,.int .i64 c.broken] fA]) cE rfl rfl (fun w' hw'=>fK cp _ _ _ _ _ e2 w' (hw'.bV cT (fun p h=>by cases h)))) rfl ?_;exact hk_.out)):g:=hw ⟨h⟩
theorem AC {g g':Prop} (h:g') (hw:ek g'→g:=by(intro hk_;refine aa.he (HE.ml rfl rfl rfl rfl rfl fT (by rfl) (by rfl)) rfl ?_;exact hk_.out)):g:=hw ⟨h⟩
theorem Eq {g g':Prop} (h:g') (hw:ek g'→g:=by(intro hk_;refine aa.he (HE.aW (M0:=[]) lD.nil rfl rfl (fun w' hw'=>iX cp c ⟨sp,tv,pv,bv,rv,fv,D,L⟩ w' ((hw'.bV (M':=aw cp c ⟨sp,tv,pv,bv,rv,fv,D,L⟩) cT (fun _ h=>h)).vN (List.Sublist.refl _)) hg hb)) rfl ?_;exact hk_.out)):g:=hw ⟨h⟩
theorem EQ {g g':Prop} (h:g') (hw:ek g'→g:=by(intro hk_;refine aa.he (HE.aW (M0:=aw cp {c with aG:=s1} ⟨sp,tv1,pv1,bv,rv,fv,D,L⟩) cE rfl rfl (fun w' hw'=>lg cp {c with aG:=s1} ⟨sp,tv1,pv1,bv,rv,fv,D,L⟩ w' (hw'.bV cT (fun p hp=>absurd hp (by simp))) ⟨hg.len,hg.fr,hg.rs⟩ hb hwf1)) rfl ?_;exact hk_.out)):g:=hw ⟨h⟩
theorem Fd {g g':Prop} (h:g') (hw:ek g'→g:=by(intro hk_;refine aa.he (HE.aW (M0:=[]) lD.nil rfl rfl (fun w' hw'=>lY cp c ⟨sp,tv,pv,bv,rv,fv,D,L⟩ x.a w' ((hw'.bV (M':=aw cp c ⟨sp,tv,pv,bv,rv,fv,D,L⟩) cT (fun _ h=>h)).vN (List.Sublist.refl _)) hg hb)) rfl ?_;exact hk_.out)):g:=hw ⟨h⟩
theorem FI {g g':Prop} (h:g') (hw:ek g'→g:=by(intro hk_;refine aa.freeze (q:=.own 0 fl 1 (.slice pu l.length cu) l.length (aU l)) (fun w=>af (fun k=>(Value.slice pu l.length cu).ownBlock=some k) w (.slice pu l.length cu) l) hU (fun w' h _=>dI h (by omega)) ?_;exact hk_.out)):g:=hw ⟨h⟩
theorem FJ {g g':Prop} (h:g') (hw:ek g'→g:=by(intro hk_;refine aa.he (HE.aW (M0:=ay sp s (tv,pv)) cE rfl rfl (fun w' hw'=>jJ sp s (tv,pv) w' (hw'.bV cT (fun p hp=>absurd hp (by simp))) hwf.some hwf.at_.1)) rfl ?_;exact hk_.out)):g:=hw ⟨h⟩
theorem FK {g g':Prop} (h:g') (hw:ek g'→g:=by(intro hk_;refine aj (l:=[_,_]) Tryz.func102 rfl Tryz.ntmps102 rfl (Ok.start w) ?_;exact hk_.out)):g:=hw ⟨h⟩
theorem FL {g g':Prop} (h:g') (hw:ek g'→g:=by(intro hk_;refine aj (l:=[_,_]) Tryz.func103 rfl Tryz.ntmps103 rfl (Ok.start w) ?_;exact hk_.out)):g:=hw ⟨h⟩
theorem FM {g g':Prop} (h:g') (hw:ek g'→g:=by(intro hk_;refine aj (l:=[_,_]) Tryz.func52 rfl Tryz.ntmps52 rfl (Ok.start w) ?_;exact hk_.out)):g:=hw ⟨h⟩
theorem FN {g g':Prop} (h:g') (hw:ek g'→g:=by(intro hk_;refine aj (l:=[_,_]) Tryz.func99 rfl Tryz.ntmps99 rfl (Ok.start w) ?_;exact hk_.out)):g:=hw ⟨h⟩
theorem FO {g g':Prop} (h:g') (hw:ek g'→g:=by(intro hk_;refine aj (l:=[_,_]) Tryz.func100 rfl Tryz.ntmps100 rfl (Ok.start w) ?_;exact hk_.out)):g:=hw ⟨h⟩
theorem FP {g g':Prop} (h:g') (hw:ek g'→g:=by(intro hk_;refine aQ.de [.aJ cp [.pointer (some ⟨sp,0,none⟩),.slice (some ⟨g,0,none⟩) c.fs.length cc,rv,.bool c.live,.int .i64 c.broken] fA,.own 0 nO 5 (.slice (some ⟨g,0,none⟩) c.fs.length cc) c.fs.length (cM c.fs fv)] [] bN aY ?_;exact hk_.out)):g:=hw ⟨h⟩
theorem FQ {g g':Prop} (h:g') (hw:ek g'→g:=by(intro hk_;refine aa.he (HE.aW (M0:=[.aJ cp [.pointer (some ⟨sp,0,none⟩),.slice (some ⟨g,0,none⟩) c.fs.length cc,rv,.bool c.live,.int .i64 c.broken] fA]) cE rfl rfl (fun w' hw'=>fK cp _ _ _ _ _ e2 w' (hw'.bV cT (fun p h=>by cases h)))) rfl ?_;exact hk_.out)):g:=hw ⟨h⟩
theorem FR {g g':Prop} (h:g') (hw:ek g'→g:=by(intro hk_;refine ah.e (bB.alloc rfl) rfl ?_;exact hk_.out)):g:=hw ⟨h⟩
theorem FS {g g':Prop} (h:g') (hw:ek g'→g:=by(intro hk_;refine ah.y (Yl.build (v:=.agg #[.slice none 0 0,.slice none 0 0,.slice none 0 0,.slice none 0 0]) rfl (fun _=>by kernel_rfl)) rfl ?_;exact hk_.out)):g:=hw ⟨h⟩
theorem FT {g g':Prop} (h:g') (hw:ek g'→g:=by(intro hk_;refine ah.e0 (bB.aM rfl rfl rfl rfl rfl (by simp[Value.oneCell']) hls4.res rfl) ?_;exact hk_.out)):g:=hw ⟨h⟩
theorem FU {g g':Prop} (h:g') (hw:ek g'→g:=by(intro hk_;refine ah.y (Yl.build (v:=.agg #[.int .i64 (i:Int),.bool false]) rfl (fun _=>by kernel_rfl)) rfl ?_;exact hk_.out)):g:=hw ⟨h⟩
theorem FV {g g':Prop} (h:g') (hw:ek g'→g:=by(intro hk_;refine ah.e (bB.buildSlice (cs:=[.int .i64 (i:Int),.bool false]) (e:=176) rfl (by kernel_rfl)) rfl ?_;exact hk_.out)):g:=hw ⟨h⟩
theorem FX {g g':Prop} (h:g') (hw:ek g'→g:=by(intro hk_;refine aN.he (HE.ml rfl rfl rfl rfl rfl fT (by rfl) (by rfl)) rfl (fun _=>bN) (fun _=>aY) ?_;exact hk_.out)):g:=hw ⟨h⟩
theorem FY {g g':Prop} (h:g') (hw:ek g'→g:=by(intro hk_;refine aN.he (HE.app rfl rfl (fun _=>bJ) bJ rfl rfl rfl (by rfl) (by rfl) (by rfl) (by rfl) (by rfl) (by rfl) (by omega) (fun _ _=>Nat.zero_le _)) rfl (fun _=>bN) (fun _=>aY) ?_;exact hk_.out)):g:=hw ⟨h⟩
theorem FZ {g g':Prop} (h:g') (hw:ek g'→g:=by(intro hk_;refine aj (l:=[_,_,_]) Tryz.func59 rfl Tryz.ntmps59 rfl (Ok.start w) ?_;exact hk_.out)):g:=hw ⟨h⟩
theorem F0 {g g':Prop} (h:g') (hw:ek g'→g:=by(intro hk_;refine aQ.cA [0,1,2,3,4,5,6,7,8,9,10] 11 [.aJ b _ yb,.aJ bx [.pointer (some ⟨sp,0,none⟩)] mw,.aJ sp [tv,fv,bv,mv,gv,ev,.int .i64 X.aS,.map (some im),.map (some dm)] sW] [] (by kernel_rfl) bN aY ?_;exact hk_.out)):g:=hw ⟨h⟩
theorem F4 {g g':Prop} (h:g') (hw:ek g'→g:=by(intro hk_;refine aN.he (HE.app rfl rfl (fun _=>bJ) bJ rfl rfl rfl (by rfl) (by rfl) (by rfl) (by rfl) (by rfl) (by rfl) (by omega) (fun w' hw'=>Nat.le_trans hB (show bA S0 w w' from hw'.at).size)) rfl (fun _=>bN) (fun _=>aY) ?_;exact hk_.out)):g:=hw ⟨h⟩
theorem F5 {g g':Prop} (h:g') (hw:ek g'→g:=by(intro hk_;refine aN.hG (gj.er rfl rfl rfl rfl hone bJ mi) rfl ?_;exact hk_.out)):g:=hw ⟨h⟩
theorem F6 {g g':Prop} (h:g') (hw:ek g'→g:=by(intro hk_;refine aa.y_ (Yl.fY rfl rfl rfl ao (by rfl) (by rfl) hc5) rfl ?_;exact hk_.out)):g:=hw ⟨h⟩
theorem F7 {g g':Prop} (h:g') (hw:ek g'→g:=by(intro hk_;refine aN.he (HE.app rfl rfl (fun _=>bJ) bJ rfl rfl rfl (by rfl) (by rfl) (by rfl) (by rfl) (by rfl) (by rfl) (by omega) xJ) rfl (fun _=>bN) (fun _=>aY) ?_;exact hk_.out)):g:=hw ⟨h⟩
theorem F8 {g g':Prop} (h:g') (hw:ek g'→g:=by(intro hk_;refine cJ.take 0 rfl (by kernel_rfl) (Yl.move rfl) ?_;exact hk_.out)):g:=hw ⟨h⟩
theorem F9 {g g':Prop} (h:g') (hw:ek g'→g:=by(intro hk_;refine cJ.take 1 rfl (by kernel_rfl) (Yl.cq Tryz.underlying9 rfl rfl (i:=4) rfl (by omega)) ?_;exact hk_.out)):g:=hw ⟨h⟩
theorem Ga {g g':Prop} (h:g') (hw:ek g'→g:=by(intro hk_;refine cJ.take 3 rfl (by kernel_rfl) (Yl.move rfl) ?_;exact hk_.out)):g:=hw ⟨h⟩
theorem Gb {g g':Prop} (h:g') (hw:ek g'→g:=by(intro hk_;refine cJ.one 2 (by kernel_rfl) rfl rfl (bB.buildSlice (cs:=[.string ⟨#[56]⟩,.string ⟨#[49,54]⟩,.string ⟨#[51,50]⟩]) (e:=9) rfl (by kernel_rfl)) ?_;exact hk_.out)):g:=hw ⟨h⟩
theorem Gc {g g':Prop} (h:g') (hw:ek g'→g:=by(intro hk_;refine ah.e (bB.buildSlice (cs:=[.int .i64 1]) (e:=58) rfl (by kernel_rfl)) rfl ?_;exact hk_.out)):g:=hw ⟨h⟩
theorem Gd {g g':Prop} (h:g') (hw:ek g'→g:=by(intro hk_;refine ah.e (bB.buildSlice (cs:=[.int .i64 t]) (e:=58) rfl (by kernel_rfl)) rfl ?_;exact hk_.out)):g:=hw ⟨h⟩
theorem Ge {g g':Prop} (h:g') (hw:ek g'→g:=by(intro hk_;refine ah.call rfl rfl rfl (bD _ _ _ _ _ _ wR) ?_;exact hk_.out)):g:=hw ⟨h⟩
theorem Gf {g g':Prop} (h:g') (hw:ek g'→g:=by(intro hk_;refine ah.e0 (bB.aM (ti:=eY) (cs:=[_,_]) rfl rfl rfl rfl rfl (by simp[Value.oneCell']) (hb1.aD hxwC id) rfl) ?_;exact hk_.out)):g:=hw ⟨h⟩
theorem Gg {g g':Prop} (h:g') (hw:ek g'→g:=by(intro hk_;refine Fin.fG (.inl rfl) rfl rfl rfl rfl rfl hbD rfl ⟨⟨_,rfl,?_⟩,hxD⟩;exact hk_.out)):g:=hw ⟨h⟩
theorem Gh {g g':Prop} (h:g') (hw:ek g'→g:=by(intro hk_;refine ah.e (bB.buildSlice (cs:=[.int .i64 t,.int .i64 t]) (e:=58) rfl (by kernel_rfl)) rfl ?_;exact hk_.out)):g:=hw ⟨h⟩
theorem Gi {g g':Prop} (h:g') (hw:ek g'→g:=by(intro hk_;refine ah.e0 (bB.aM (ti:=eY) (cs:=[.slice none 0 0,.slice none 0 0]) rfl rfl rfl rfl rfl (by simp[Value.oneCell']) hb1 rfl) ?_;exact hk_.out)):g:=hw ⟨h⟩
theorem Gj {g g':Prop} (h:g') (hw:ek g'→g:=by(intro hk_;refine ah.e (bB.buildSlice (cs:=[.int .i64 2]) (e:=58) rfl (by kernel_rfl)) rfl ?_;exact hk_.out)):g:=hw ⟨h⟩
theorem Gk {g g':Prop} (h:g') (hw:ek g'→g:=by(intro hk_;refine ah.call rfl rfl rfl (bD _ _ _ _ _ _ w2) ?_;exact hk_.out)):g:=hw ⟨h⟩
theorem Gl {g:Prop} {g':Nat→Prop} (h:∀b,g' b) (hw:ek (∀b,g' b)→g:=by(intro hk_;first|exact bz hk_.out|exact aX hk_.out|exact bI hk_.out|exact bH hk_.out|exact bG hk_.out)):g:=hw ⟨h⟩
theorem Gm {g:Prop} {g':Nat→Prop} (h:∀b,g' b) (hw:ek (∀b,g' b)→g:=by(intro hk_;first|exact aX hk_.out|exact bI hk_.out|exact bH hk_.out|exact bG hk_.out)):g:=hw ⟨h⟩
theorem Gn {g:Prop} {g':Nat→Prop} (h:∀b,g' b) (hw:ek (∀b,g' b)→g:=by(intro hk_;first|exact bz hk_.out|exact aX hk_.out)):g:=hw ⟨h⟩
theorem Gp {g g':Prop} (h:g') (hw:ek g'→g:=by(intro hk_;refine aa.ak (f:=44) ?_;refine aa.az rfl rfl rfl (fun w' hw'=>eD sp s.ps.length c2 (some ⟨g2,0,none⟩) w' ((show Ext w w' from hw'.at).cell k1) hp) ?_;exact hk_.out)):g:=hw ⟨h⟩
theorem Gq {g g':Prop} (h:g') (hw:ek g'→g:=by(intro hk_;refine aa.ak (f:=33) ?_;refine aa.az rfl rfl rfl (fun w' hw'=>oW xs _ w' (q1.aD (show Ext w0 w' from hw'.at) (fun _ _ _ h=>h)) (by omega)) ?_;exact hk_.out)):g:=hw ⟨h⟩
theorem Gr {g g':Prop} (h:g') (hw:ek g'→g:=by(intro hk_;refine aa.ak (f:=42) ?_;refine aa.az rfl rfl rfl (fun w' hw'=>il cp ⟨sp,0,none⟩ c.broken w' (hw'.c1 bJ (by rfl)) (hw'.c1 bJ (by rfl))) ?_;exact hk_.out)):g:=hw ⟨h⟩
theorem Gs {g g':Prop} (h:g') (hw:ek g'→g:=by(intro hk_;refine aa.fh (f:=90) ?_;refine aa.dV xN rfl rfl rfl (fun w' hw'=>hsv w' ((show fx D w' L from(hw'.m (.iM fx fx.fr D L) gi).1) _ hin)) ?_;exact hk_.out)):g:=hw ⟨h⟩
theorem Gt {g g':Prop} (h:g') (hw:ek g'→g:=by(intro hk_;refine aa.ak (f:=44) ?_;refine aa.az rfl rfl rfl (fun w' hw'=>eD sp s.ps.length c2 (some ⟨g2,0,none⟩) w' (hw'.c1 bJ (by rfl)) hp) ?_;exact hk_.out)):g:=hw ⟨h⟩
theorem Gu {g g':Prop} (h:g') (hw:ek g'→g:=by(intro hk_;refine aa.ak (f:=134) ?_;refine aa.az rfl rfl rfl (fun w' hw'=>jK sp s.ps.length c2 g2 w' (hw'.c1 bJ (by rfl)) hp hn2) ?_;exact hk_.out)):g:=hw ⟨h⟩
theorem Gv {g g':Prop} (h:g') (hw:ek g'→g:=by(intro hk_;refine aa.ak (f:=51) ?_;refine aa.az rfl rfl rfl (fun w' hw'=>hno w' _ (hw'.sub (List.Sublist.refl _) aY)) ?_;exact hk_.out)):g:=hw ⟨h⟩
theorem Gw {g g':Prop} (h:g') (hw:ek g'→g:=by(intro hk_;refine aa.ak (f:=29) ?_;refine aa.az rfl rfl rfl (fun w' hw'=>cW cp ⟨sp,0,none⟩ w' (hw'.c1 bJ (by rfl))) ?_;exact hk_.out)):g:=hw ⟨h⟩
theorem Gx {g g':Prop} (h:g') (hw:ek g'→g:=by(intro hk_;refine aa.an ?_;refine aa.yg (by first|rfl|exact ux rfl dG|exact vS rfl dG) (Yl.yO rfl rfl) rfl ?_;exact hk_.out)):g:=hw ⟨h⟩
theorem Gy {g g':Prop} (h:g') (hw:ek g'→g:=by(intro hk_;refine aa.ak (f:=8) ?_;refine aa.az rfl rfl rfl (fun w' hw'=>eW w' (h0.ext hw'.at)) ?_;exact hk_.out)):g:=hw ⟨h⟩
theorem Gz {g g':Prop} (h:g') (hw:ek g'→g:=by(intro hk_;refine aa.ak (f:=127) ?_;refine aa.az rfl rfl rfl (fun w' hw'=>hk w' hw'.at) ?_;exact hk_.out)):g:=hw ⟨h⟩
theorem GA {g g':Prop} (h:g') (hw:ek g'→g:=by(intro hk_;refine aa.ak (f:=126) ?_;refine aa.az rfl rfl rfl (fun w' hw'=>hu w' hw'.at) ?_;exact hk_.out)):g:=hw ⟨h⟩
theorem GB {g g':Prop} (h:g') (hw:ek g'→g:=by(intro hk_;refine aa.ak (f:=98) ?_;refine aa.az rfl rfl rfl (fun w' hw'=>ho w' hw'.at) ?_;exact hk_.out)):g:=hw ⟨h⟩
theorem GC {g g':Prop} (h:g') (hw:ek g'→g:=by(intro hk_;refine aa.fh (f:=128) ?_;refine aa.dV xN rfl rfl rfl (fun w' hw'=>bE _ w') ?_;exact hk_.out)):g:=hw ⟨h⟩
theorem GD {g g':Prop} (h:g') (hw:ek g'→g:=by(intro hk_;refine aa.an ?_;refine aa.y_ (Yl.lu Tryz.underlying109 rfl rfl) rfl ?_;exact hk_.out)):g:=hw ⟨h⟩
theorem GE {g g':Prop} (h:g') (hw:ek g'→g:=by(intro hk_;refine aa.ak (f:=97) ?_;refine aa.az rfl rfl rfl (fun w' _=>k1 w') ?_;exact hk_.out)):g:=hw ⟨h⟩
theorem GF {g g':Prop} (h:g') (hw:ek g'→g:=by(intro hk_;refine aa.an ?_;refine aa.y_ (Yl.lu Tryz.underlying39 rfl rfl) rfl ?_;exact hk_.out)):g:=hw ⟨h⟩
theorem GG {p:Prop} (h:p:=by simp only[DataW.weightsEach,List.append_nil,List.mem_append];first|exact hn|exact .inl hn|exact .inr hn|exact .inr (.inl hn)|exact .inr (.inr hn)|exact .inr (.inr (.inl hn))|exact .inr (.inr (.inr hn))|exact .inr (.inr (.inr (.inl hn)))|exact .inr (.inr (.inr (.inr hn)))):p:=h
theorem GH {p:Prop} (h:p:=by intro w_;repeat(first|((with_reducible apply Ld.aJ);rfl)|(with_reducible exact Ld.cl)|((with_reducible apply Ld.vP);with_reducible assumption)|(exact Ld.cs 0 rfl rfl)|(exact Ld.cs _ rfl rfl)|apply Ld.ji|apply Ld.jj)):p:=h
theorem GI {p:Prop} (h:p:=by dsimp only;repeat(first|exact pU|refine ns (by repeat(first|with_reducible exact List.mem_cons_self|apply List.mem_cons_of_mem)) ?_)):p:=h
theorem GJ {p:Prop} (h:p:=by repeat(first|exact Cells.nil|exact App.nil|(with_reducible apply Cells.agg)|apply Cells.one|apply App.cons)):p:=h
theorem GK {p:Prop} (h:p:=by repeat(first|exact jv|(apply jw;rfl;rfl;rfl;(repeat(first|exact dR.zero|apply dR.succ))))):p:=h
theorem GL {p:Prop} (h:p:=by repeat(first|with_reducible exact List.mem_cons_self|apply List.mem_cons_of_mem)):p:=h
theorem GM {p:Prop} (h:p:=by first|(dsimp only[aw,ay,List.cons_append,List.nil_append];exact bN)|exact bN):p:=h
theorem GN {p:Prop} (h:p:=by repeat(first|exact fz.zero|apply fz.succ|apply fy.here|apply fy.drop)):p:=h
theorem GO {p:Prop} (h:p:=by unfold iF;simp only[List.cons_append,List.nil_append];exact lB):p:=h
theorem GP {p:Prop} (h:p:=by dsimp only[aw,ay,List.cons_append,List.nil_append];exact cT):p:=h
theorem GQ {p:Prop} (h:p:=by repeat(first|with_reducible exact Up.head|apply Up.tail)):p:=h
theorem GR {p:Prop} (h:p:=by intro _ hw_;cases hw_;with_reducible assumption):p:=h
theorem GS {p:Prop} (h:p:=by first|rfl|exact ux rfl dp|exact vS rfl dp|fail):p:=h
theorem GT {p:Prop} (h:p:=by repeat(first|exact dR.zero|apply dR.succ)):p:=h
theorem GU {p:Prop} (h:p:=by have:=hn2.ext.size;have:=hx2.size;omega):p:=h
theorem GV {p:Prop} (h:p:=by rw[←ij,nB,List.length_drop,ij];omega):p:=h
theorem GW {p:Prop} (h:p:=by rw[List.length_take];omega):p:=h
theorem GX {p:Prop} (h:p:=by have:=hxw1.size;omega):p:=h
theorem GY {p:Prop} (h:p:=by have:=hxwP.size;omega):p:=h
theorem GZ {p:Prop} (h:p:=by simp[Value.oneCell']):p:=h
theorem G0 {p:Prop} (h:p:=by unfold maxLen;omega):p:=h
theorem G1 {p:Prop} (h:p:=by unfold iF;exact bN):p:=h
theorem G2 {p:Prop} (h:p:=by dsimp only;omega):p:=h
theorem G3 {p:Prop} (h:p:=by rw[hS];exact ao):p:=h
theorem G4 {p:Prop} (h:p:=by simpa using hi):p:=h
theorem G5 {p:Prop} (h:p:=by simpa using h):p:=h
theorem G6 {p:Prop} (h:p:=by decide+kernel):p:=h
theorem G7 {p:Prop} (h:p:=by kernel_rfl):p:=h
theorem G8 {p:Prop} (h:p:=by assumption):p:=h
theorem G9 {p:Prop} (h:p:=by simp[mj]):p:=h
theorem Ha {p:Prop} (h:p:=by decide):p:=h
theorem Hb {p:Prop} (h:p:=by omega):p:=h
theorem Hc {p:Prop} (h:p:=by simp):p:=h
theorem Hd {p:Prop} (h:p:=by rfl):p:=h
theorem dG {p:Prop} (h:p:=by first|with_reducible assumption|decide):p:=h
theorem dp {p:Prop} (h:p:=by with_reducible assumption):p:=h
theorem Bg {g g':Prop} (h:g') (hw:ek g'→g:=by(intro hk_;(repeat(first|refine ah.y (Yl.move rfl) rfl ?_|refine ah.y (Yl.assign rfl) rfl ?_|(refine ah.is ?_;(first|(refine ah.wY ?_;(first|refine ah.gs rfl rfl rfl ?_|refine ah.gu rfl rfl ?_|refine ah.yg rfl (Yl.move rfl) rfl ?_|refine ah.yg rfl (Yl.assign rfl) rfl ?_|(refine ah.an ?_;(first|(refine ah.an (bo:=.lss) ?_;(first|refine ah.yg rfl (Yl.iU rfl rfl (by omega)) rfl ?_|refine ah.yg rfl (Yl.iT rfl rfl (by omega)) rfl ?_))|(refine ah.an (bo:=.eql) ?_;(first|refine ah.yg rfl (Yl.iL rfl rfl (by omega)) rfl ?_|refine ah.yg rfl (Yl.iK rfl rfl (by omega)) rfl ?_))|(refine ah.an (bo:=.neq) ?_;(first|refine ah.yg rfl (Yl.iW rfl rfl (by omega)) rfl ?_|refine ah.yg rfl (Yl.iV rfl rfl (by omega)) rfl ?_))|(refine ah.an (bo:=.leq) ?_;(first|refine ah.yg rfl (Yl.iS rfl rfl (by omega)) rfl ?_|refine ah.yg rfl (Yl.iR rfl rfl (by omega)) rfl ?_))|(refine ah.an (bo:=.gtr) ?_;(first|refine ah.yg rfl (Yl.iQ rfl rfl (by omega)) rfl ?_|refine ah.yg rfl (Yl.iP rfl rfl (by omega)) rfl ?_))|(refine ah.an (bo:=.geq) ?_;(first|refine ah.yg rfl (Yl.iO rfl rfl (by omega)) rfl ?_|refine ah.yg rfl (Yl.iN rfl rfl (by omega)) rfl ?_))|refine ah.yg rfl (Yl.add rfl rfl (by omega)) rfl ?_|refine ah.yg rfl (Yl.sub rfl rfl (by omega)) rfl ?_|refine ah.yg rfl (Yl.fF rfl rfl rfl rfl) rfl ?_|refine ah.yg rfl (Yl.jr Tryz.underlying4 rfl rfl) rfl ?_|fail))|(refine ah.isField ?_;(first|refine ah.yg rfl (Yl.ep rfl rfl rfl) rfl ?_|refine ah.yg rfl (Yl.field rfl rfl rfl) rfl ?_))|(refine ah.bX ?_;(first|refine ah.yg rfl (Yl.load rfl rfl rfl (by intro _ hw_;cases hw_;with_reducible assumption)) rfl ?_|refine ah.yg rfl (Yl.load rfl rfl rfl (nF dp)) rfl ?_|refine ah.yg rfl (Yl.load rfl rfl rfl dp) rfl ?_))|(refine ah.dK ?_;(first|refine ah.yg rfl (Yl.fX rfl rfl rfl rfl rfl rfl (by omega)) rfl ?_|refine ah.yg rfl (Yl.idx rfl rfl rfl rfl rfl rfl (by omega)) rfl ?_))|refine ah.yg rfl (Yl.len rfl rfl rfl) rfl ?_|refine ah.yg rfl (Yl.extract rfl rfl) rfl ?_|refine ah.yg rfl (Yl.dP rfl rfl) rfl ?_|refine ah.yg rfl (Yl.dO rfl rfl) rfl ?_|refine ah.yg rfl (Yl.nilCheck rfl) rfl ?_|refine ah.yg rfl (Yl.not rfl) rfl ?_|refine ah.yg rfl (Yl.fp rfl rfl rfl rfl rfl (by omega)) rfl ?_|refine ah.yg rfl (Yl.makeFunc rfl rfl) rfl ?_))|refine ah.nil ?_|refine ah.At ?_|refine ah.xq ?_|(refine ah.an ?_;(first|(refine ah.an (bo:=.lss) ?_;(first|refine ah.y (Yl.iU rfl rfl (by omega)) rfl ?_|refine ah.y (Yl.iT rfl rfl (by omega)) rfl ?_))|(refine ah.an (bo:=.eql) ?_;(first|refine ah.y (Yl.iL rfl rfl (by omega)) rfl ?_|refine ah.y (Yl.iK rfl rfl (by omega)) rfl ?_))|(refine ah.an (bo:=.neq) ?_;(first|refine ah.y (Yl.iW rfl rfl (by omega)) rfl ?_|refine ah.y (Yl.iV rfl rfl (by omega)) rfl ?_))|(refine ah.an (bo:=.leq) ?_;(first|refine ah.y (Yl.iS rfl rfl (by omega)) rfl ?_|refine ah.y (Yl.iR rfl rfl (by omega)) rfl ?_))|(refine ah.an (bo:=.gtr) ?_;(first|refine ah.y (Yl.iQ rfl rfl (by omega)) rfl ?_|refine ah.y (Yl.iP rfl rfl (by omega)) rfl ?_))|(refine ah.an (bo:=.geq) ?_;(first|refine ah.y (Yl.iO rfl rfl (by omega)) rfl ?_|refine ah.y (Yl.iN rfl rfl (by omega)) rfl ?_))|refine ah.y (Yl.add rfl rfl (by omega)) rfl ?_|refine ah.y (Yl.sub rfl rfl (by omega)) rfl ?_|refine ah.y (Yl.fF rfl rfl rfl rfl) rfl ?_|refine ah.y (Yl.jr Tryz.underlying4 rfl rfl) rfl ?_|fail))|(refine ah.isField ?_;(first|refine ah.y (Yl.ep rfl rfl rfl) rfl ?_|refine ah.y (Yl.field rfl rfl rfl) rfl ?_))|(refine ah.bX ?_;(first|refine ah.y (Yl.load rfl rfl rfl (by intro _ hw_;cases hw_;with_reducible assumption)) rfl ?_|refine ah.y (Yl.load rfl rfl rfl (nF dp)) rfl ?_|refine ah.y (Yl.load rfl rfl rfl dp) rfl ?_))|(refine ah.dK ?_;(first|refine ah.y (Yl.fX rfl rfl rfl rfl rfl rfl (by omega)) rfl ?_|refine ah.y (Yl.idx rfl rfl rfl rfl rfl rfl (by omega)) rfl ?_))|refine ah.y (Yl.len rfl rfl rfl) rfl ?_|refine ah.y (Yl.extract rfl rfl) rfl ?_|refine ah.y (Yl.dP rfl rfl) rfl ?_|refine ah.y (Yl.dO rfl rfl) rfl ?_|refine ah.y (Yl.nilCheck rfl) rfl ?_|refine ah.y (Yl.not rfl) rfl ?_|refine ah.y (Yl.fp rfl rfl rfl rfl rfl (by omega)) rfl ?_|refine ah.y (Yl.makeFunc rfl rfl) rfl ?_))|(refine Cd.is ?_;(first|refine Cd.seq ?_|refine Cd.region ?_|refine Cd.block ?_|refine Cd.fC rfl ?_|refine Cd.fB rfl ?_|refine Cd.skip ?_|refine Cd.ret ?_|refine Cd.exit ?_|refine Cd.label ?_))|(refine Fin.is ?_;(first|refine Fin.iG ?_|refine Fin.lT ?_|refine Fin.iH ?_|refine Fin.lU ?_|refine Fin.iI ?_|refine Fin.lV ?_|refine Fin.rE rfl ?_))));exact hk_.out)):g:=hw ⟨h⟩
theorem da {g g':Prop} (h:g') (hw:ek g'→g:=by(intro hk_;(repeat(first|refine ah.y (Yl.move rfl) rfl ?_|refine ah.y (Yl.assign rfl) rfl ?_|(refine ah.is ?_;(first|(refine ah.wY ?_;(first|refine ah.gs rfl rfl rfl ?_|refine ah.gu rfl rfl ?_|refine ah.yg rfl (Yl.move rfl) rfl ?_|refine ah.yg rfl (Yl.assign rfl) rfl ?_|(refine ah.an ?_;(first|(refine ah.an (bo:=.lss) ?_;(first|refine ah.yg rfl (Yl.iU rfl rfl (by omega)) rfl ?_|refine ah.yg rfl (Yl.iT rfl rfl (by omega)) rfl ?_))|(refine ah.an (bo:=.eql) ?_;(first|refine ah.yg rfl (Yl.iL rfl rfl (by omega)) rfl ?_|refine ah.yg rfl (Yl.iK rfl rfl (by omega)) rfl ?_))|(refine ah.an (bo:=.neq) ?_;(first|refine ah.yg rfl (Yl.iW rfl rfl (by omega)) rfl ?_|refine ah.yg rfl (Yl.iV rfl rfl (by omega)) rfl ?_))|(refine ah.an (bo:=.leq) ?_;(first|refine ah.yg rfl (Yl.iS rfl rfl (by omega)) rfl ?_|refine ah.yg rfl (Yl.iR rfl rfl (by omega)) rfl ?_))|(refine ah.an (bo:=.gtr) ?_;(first|refine ah.yg rfl (Yl.iQ rfl rfl (by omega)) rfl ?_|refine ah.yg rfl (Yl.iP rfl rfl (by omega)) rfl ?_))|(refine ah.an (bo:=.geq) ?_;(first|refine ah.yg rfl (Yl.iO rfl rfl (by omega)) rfl ?_|refine ah.yg rfl (Yl.iN rfl rfl (by omega)) rfl ?_))|refine ah.yg rfl (Yl.add rfl rfl (by omega)) rfl ?_|refine ah.yg rfl (Yl.sub rfl rfl (by omega)) rfl ?_|refine ah.yg rfl (Yl.fF rfl rfl rfl rfl) rfl ?_|refine ah.yg rfl (Yl.jr Tryz.underlying4 rfl rfl) rfl ?_|fail))|(refine ah.isField ?_;(first|refine ah.yg rfl (Yl.ep rfl rfl rfl) rfl ?_|refine ah.yg rfl (Yl.field rfl rfl rfl) rfl ?_))|(refine ah.bX ?_;(first|refine ah.yg rfl (Yl.load rfl rfl rfl (by intro _ hw_;cases hw_;with_reducible assumption)) rfl ?_|refine ah.yg rfl (Yl.load rfl rfl rfl (nF dp)) rfl ?_|refine ah.yg rfl (Yl.load rfl rfl rfl dp) rfl ?_))|(refine ah.dK ?_;(first|refine ah.yg rfl (Yl.fX rfl rfl rfl rfl rfl rfl (by omega)) rfl ?_|refine ah.yg rfl (Yl.idx rfl rfl rfl rfl rfl rfl (by omega)) rfl ?_))|refine ah.yg rfl (Yl.len rfl rfl rfl) rfl ?_|refine ah.yg rfl (Yl.extract rfl rfl) rfl ?_|refine ah.yg rfl (Yl.dP rfl rfl) rfl ?_|refine ah.yg rfl (Yl.dO rfl rfl) rfl ?_|refine ah.yg rfl (Yl.nilCheck rfl) rfl ?_|refine ah.yg rfl (Yl.not rfl) rfl ?_|refine ah.yg rfl (Yl.fp rfl rfl rfl rfl rfl (by omega)) rfl ?_|refine ah.yg rfl (Yl.makeFunc rfl rfl) rfl ?_))|refine ah.nil ?_|refine ah.At ?_|refine ah.xq ?_|(refine ah.an ?_;(first|(refine ah.an (bo:=.lss) ?_;(first|refine ah.y (Yl.iU rfl rfl (by omega)) rfl ?_|refine ah.y (Yl.iT rfl rfl (by omega)) rfl ?_))|(refine ah.an (bo:=.eql) ?_;(first|refine ah.y (Yl.iL rfl rfl (by omega)) rfl ?_|refine ah.y (Yl.iK rfl rfl (by omega)) rfl ?_))|(refine ah.an (bo:=.neq) ?_;(first|refine ah.y (Yl.iW rfl rfl (by omega)) rfl ?_|refine ah.y (Yl.iV rfl rfl (by omega)) rfl ?_))|(refine ah.an (bo:=.leq) ?_;(first|refine ah.y (Yl.iS rfl rfl (by omega)) rfl ?_|refine ah.y (Yl.iR rfl rfl (by omega)) rfl ?_))|(refine ah.an (bo:=.gtr) ?_;(first|refine ah.y (Yl.iQ rfl rfl (by omega)) rfl ?_|refine ah.y (Yl.iP rfl rfl (by omega)) rfl ?_))|(refine ah.an (bo:=.geq) ?_;(first|refine ah.y (Yl.iO rfl rfl (by omega)) rfl ?_|refine ah.y (Yl.iN rfl rfl (by omega)) rfl ?_))|refine ah.y (Yl.add rfl rfl (by omega)) rfl ?_|refine ah.y (Yl.sub rfl rfl (by omega)) rfl ?_|refine ah.y (Yl.fF rfl rfl rfl rfl) rfl ?_|refine ah.y (Yl.jr Tryz.underlying4 rfl rfl) rfl ?_|fail))|(refine ah.isField ?_;(first|refine ah.y (Yl.ep rfl rfl rfl) rfl ?_|refine ah.y (Yl.field rfl rfl rfl) rfl ?_))|(refine ah.bX ?_;(first|refine ah.y (Yl.load rfl rfl rfl (by intro _ hw_;cases hw_;with_reducible assumption)) rfl ?_|refine ah.y (Yl.load rfl rfl rfl (nF dp)) rfl ?_|refine ah.y (Yl.load rfl rfl rfl dp) rfl ?_))|(refine ah.dK ?_;(first|refine ah.y (Yl.fX rfl rfl rfl rfl rfl rfl (by omega)) rfl ?_|refine ah.y (Yl.idx rfl rfl rfl rfl rfl rfl (by omega)) rfl ?_))|refine ah.y (Yl.len rfl rfl rfl) rfl ?_|refine ah.y (Yl.extract rfl rfl) rfl ?_|refine ah.y (Yl.dP rfl rfl) rfl ?_|refine ah.y (Yl.dO rfl rfl) rfl ?_|refine ah.y (Yl.nilCheck rfl) rfl ?_|refine ah.y (Yl.not rfl) rfl ?_|refine ah.y (Yl.fp rfl rfl rfl rfl rfl (by omega)) rfl ?_|refine ah.y (Yl.makeFunc rfl rfl) rfl ?_))|(refine Cd.is ?_;(first|refine Cd.seq ?_|refine Cd.region ?_|refine Cd.block ?_|refine Cd.fC rfl ?_|refine Cd.fB rfl ?_|refine Cd.skip ?_|refine Cd.scope ?_|refine Cd.ret ?_|refine Cd.exit ?_|refine Cd.label ?_))|(refine Fin.is ?_;(first|refine Fin.iG ?_|refine Fin.lT ?_|refine Fin.iH ?_|refine Fin.lU ?_|refine Fin.iI ?_|refine Fin.DF ?_|refine Fin.lV ?_|refine Fin.rE rfl ?_))));exact hk_.out)):g:=hw ⟨h⟩
theorem bR {E E':Env} (h:Sub E E':=by(repeat(first|exact Sub.nil _|refine Sub.cons rfl rfl ?_|refine Sub.cons rfl (DU (by omega)) ?_|refine Sub.cons rfl (by assumption) ?_))):Sub E E':=h
variable {G:sR} {Q:Exit→Act→World→Prop} {n:Nat} {E:Env} {w:World}
theorem Cd.scope {c:Code} (h:Cd G (Exit.noGoto Q) n c E w):Cd G Q n (.scope c) E w:=⟨fun a ha=>wp_scope_straight (h.h a ha)⟩
theorem Fin.DF (h:Fin Q n .ret E w):Fin (Exit.noGoto Q) n .ret E w:=⟨fun a ha=>h.h a ha⟩
end Go.Proofs.YtceedealggognaaGreatDoor
