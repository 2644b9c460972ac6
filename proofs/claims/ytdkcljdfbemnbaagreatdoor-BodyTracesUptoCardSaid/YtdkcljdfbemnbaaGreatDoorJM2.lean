import Derived.Test.YtdkcljdfbemnbaaGreatDoorProg
import Derived.Still
import Derived.Orders
import Derived.Laws.World
import Derived.WalkKit
import Derived.KernelRfl
import Derived.Deep.Quiet
import Derived.StillTail
import Derived.WalkSmall
import Derived.Lib.Hide
namespace Go.Proofs.YtdkcljdfbemnbaaGreatDoor
def qo:Op→Bool
 |.move _|.assign _|.pick _ _ _|.build _ _|.load _ _|.nilCheck _|.binOp _ _ _ _ _|.unOp _ _ _|.convert _ _ _|.makeFunc _ _ _|.slice _ _ _ _ _|.fieldAddr _ _ _|.field _ _ _|.indexAddr _ _ _|.index _ _ _|.extract _ _|.lookup _ _ _ _|.makeInterface _ _=>true
 |.call c=>match c.callee with
  |.builtin .len=>true
  |_=>false
 |_=>false
section
variable {P:Program} {ops:Array Oper} {md:Region.Mode} {C:World→Prop}
def lS (P:Program) (K:Value→World→Prop):Result Next→Prop
 |.ok (.value v) w'=>K v w'
 |.ok .skip w'=>K undef w'
 |.ok (.enter f args) w'=>Calls P f args w' (fun e w''=>∃v,e=.returned v∧K v w'')
 |_=>False
theorem dx {K K':Value→World→Prop} {r:Result Next} (h:lS P K r) (hk:∀v w,K v w→K' v w):lS P K' r:=by
 cases r with
 |ok n w=>
  cases n<;>simp only[lS]at h ⊢
  case value v=>exact hk _ _ h
  case skip=>exact hk _ _ h
  case enter f args=>exact h.mono fun e w' ⟨v,e1,h1⟩=>⟨v,e1,hk _ _ h1⟩
 |halt x w=>exact h.elim
def vS (P:Program) (ops:Array Oper) (C:World→Prop) (z:Nat) (i:Nat) (K:Act→World→Prop) (a:Act) (w:World):Prop:=
 match ops[i]? with
 |none=>K a w
 |some o=>if Region.wanted o (yielded ops a.tmps)then lS P (fun v w'=>(i=z∨C w')∧K (a.put o.dst v) w') ((execOp a.eval o).run P w)else K (a.put o.dst undef) w
def nD (P:Program) (md:Region.Mode) (ops:Array Oper) (C:World→Prop) (z:Nat) (K:Act→World→Prop):Nat→Array Bool→Act→World→Prop
 |0,listed,a,w=>Region.ready md ops listed=[]∧K a w
 |fuel+1,listed,a,w=>
  (Region.ready md ops listed=[]→K a w)∧
  ∀i∈Region.ready md ops listed,vS P ops C z i (nD P md ops C z K fuel (listed.setIfInBounds i true)) a w
theorem AY {z i:Nat} {a:Act} {w:World} {K K':Act→World→Prop} {Q:Exit→Act→World→Prop} (hk:∀a w,K a w→K' a w) (h:vS P ops C z i K a w):wpOp P ops Q i K' a w:=by
 unfold vS at h
 unfold wpOp
 cases ho:ops[i]? with
 |none=>simp only[ho]at h ⊢;exact hk _ _ h
 |some o=>
  simp only[ho]at h ⊢
  split
  ·rename_i hw
   simp only[hw,if_true]at h
   refine .inl ?_
   unfold Oper.wp
   generalize (execOp a.eval o).run P w=r at*
   cases r with
   |ok n w'=>
    cases n<;>simp only[lS]at h<;>simp only[Oper.upon]
    case value v=>exact hk _ _ h.2
    case skip=>exact hk _ _ h.2
    case enter f args=>
     refine h.mono fun e w'' ⟨v,e1,h1,h2⟩=>?_
     subst e1
     exact hk _ _ h2
   |halt x w'=>exact h.elim
  ·rename_i hw
   simp only[hw]at h
   exact hk _ _ h
theorem nG {z:Nat} {K:Act→World→Prop} {Q:Exit→Act→World→Prop} (hQ:∀a w,K a w→Q .normal a w):∀(fuel:Nat) (listed:Array Bool) (a:Act) (w:World),nD P md ops C z K fuel listed a w→wpAny P md ops Q fuel listed a w
 |0,_,_,_,h=>⟨h.1,hQ _ _ h.2⟩
 |fuel+1,_,_,_,h=>⟨fun h0=>hQ _ _ (h.1 h0),fun i hi=>AY (fun a w hk=>nG hQ fuel _ a w hk) (h.2 i hi)⟩
def YV (P:Program) (ops:Array Oper) (C:World→Prop) (o:Oper) (v:Value) (a:Act):Prop:=
 (Region.wanted o (yielded ops a.tmps)=true∧∀w,C w→(execOp a.eval o).run P w=.ok (.value v) w)∨(Region.wanted o (yielded ops a.tmps)=false∧v=undef)
theorem YV.of_same {o:Oper} {v:Value} {a a':Act} (hy:YV P ops C o v a) (he:execOp a'.eval o=execOp a.eval o) (hw:Region.wanted o (yielded ops a'.tmps)=Region.wanted o (yielded ops a.tmps)):YV P ops C o v a':=by
 unfold YV at*;rw[he,hw];exact hy
theorem YV.vS {z i:Nat} {o:Oper} {v:Value} {a:Act} {w:World} (hi:ops[i]?=some o) (hy:YV P ops C o v a) (hC:C w) {K:Act→World→Prop} (h:K (a.put o.dst v) w):vS P ops C z i K a w:=by
 unfold Go.Proofs.YtdkcljdfbemnbaaGreatDoor.vS
 simp only[hi]
 rcases hy with⟨hw,hv⟩|⟨hw,rfl⟩
 ·simp only[hw,if_true,hv w hC,lS];exact⟨.inr hC,h⟩
 ·simp only[hw,Bool.false_eq_true,if_false];exact h
theorem Fx {z i:Nat} {a:Act} {w:World} {K K':Act→World→Prop} (hi:i≠z) (hC:C w) (hk:∀a w,C w→K a w→K' a w) (h:vS P ops C z i K a w):vS P ops C z i K' a w:=by
 unfold vS at*
 cases ho:ops[i]? with
 |none=>simp only[ho]at h ⊢;exact hk _ _ hC h
 |some o=>
  simp only[ho]at h ⊢
  split
  ·rename_i hw;simp only[hw,if_true]at h;exact dx h fun v w ⟨h1,h2⟩=>⟨h1,hk _ _ (h1.resolve_left hi) h2⟩
  ·rename_i hw;simp only[hw]at h;exact hk _ _ hC h
theorem GY {z j:Nat} {oi oj:Oper} {v:Value} (hj:ops[j]?=some oj) (hap:oi.apart ops oj=true) (hsi:∀cs b,oi.op≠.select cs b) (hsj:∀cs b,oj.op≠.select cs b) {K:Act→World→Prop} {a:Act} {w:World}
  (hy:YV P ops C oi v a) (h:vS P ops C z j K (a.put oi.dst v) w):vS P ops C z j (fun a' w'=>YV P ops C oi v a'∧K (a'.put oi.dst v) w') a w:=by
 obtain⟨h1,h2,h3⟩:=Oper.apart_spec hap
 have ka:∀u,YV P ops C oi v (a.put oj.dst u):=fun u=>hy.of_same (execOp_put oi hsi a oj.dst u h3) (wanted_put oi a oj.dst u h3)
 unfold vS at*
 simp only[hj]at*
 rw[wanted_put oj a oi.dst v h1,execOp_put oj hsj a oi.dst v h1]at h
 split
 ·rename_i hw
  simp only[hw,if_true]at h
  refine dx h fun u w' ⟨g1,g2⟩=>⟨g1,ka u,?_⟩
  rw[←Act.put_comm a v u h2];exact g2
 ·rename_i hw
  simp only[hw]at h
  exact⟨ka _,by rw[←Act.put_comm a v undef h2];exact h⟩
def zg (md:Region.Mode) (ops:Array Oper) (listed:Array Bool):Prop:=∀j o,ops[j]?=some o→listed.getD j false=true→∀e∈o.after,Region.binds md e=true→listed.getD e.on false=true
theorem pB {listed:Array Bool} {i k:Nat} (h:listed.getD k false=true):(listed.setIfInBounds i true).getD k false=true:=by
 by_cases e:i=k
 ·subst e
  have hs:i<listed.size:=by
   rcases Nat.lt_or_ge i listed.size with h'|h'
   ·exact h'
   ·simp[Array.getElem?_eq_none h']at h
  simp[hs]
 ·rw[getD_set_ne false e];exact h
theorem zg.set {listed:Array Bool} {i:Nat} (h:zg md ops listed) (hi:i∈Region.ready md ops listed):zg md ops (listed.setIfInBounds i true):=by
 intro j o ho hj e he hb
 by_cases ej:i=j
 ·subst ej
  obtain⟨_,o2,ho2,hall⟩:=mem_ready.1 hi
  rw[ho]at ho2;cases ho2
  exact pB (hall e he hb)
 ·rw[getD_set_ne false ej]at hj
  exact pB (h j o ho hj e he hb)
theorem zg.start (n:Nat):zg md ops (Array.replicate n false):=by
 intro j o _ hj
 rcases Nat.lt_or_ge j n with h|h
 ·simp[h]at hj
 ·simp[Nat.not_lt.2 h]at hj
theorem nE {z:Nat} {K:Act→World→Prop} {i:Nat} {oi:Oper} {v:Value} (hi:ops[i]?=some oi) (hsel:∀(j:Nat) (o:Oper) cs b,ops[j]?=some o→o.op≠.select cs b)
  (hz:∀listed:Array Bool,zg md ops listed→listed.getD i true=false→i≠z→z ∉ Region.ready md ops listed) (hiz:i≠z):
  ∀(fuel:Nat) (listed:Array Bool) (a:Act) (w:World),C w→zg md ops listed→
   (∀j oj,ops[j]?=some oj→j≠i→listed.getD j true=false→(∀e∈oj.after,Region.binds md e=true→e.on≠i)→oi.apart ops oj=true)→
   i∈Region.ready md ops listed→YV P ops C oi v a→
   nD P md ops C z K fuel (listed.setIfInBounds i true) (a.put oi.dst v) w→nD P md ops C z K (fuel+1) listed a w:=by
 intro fuel
 induction fuel with
 |zero=>
  intro listed a w hC _ _ hr hy H
  refine⟨fun h=>(by rw[h]at hr;cases hr),fun j hj=>?_⟩
  by_cases hji:j=i
  ·subst hji;exact hy.vS hi hC H
  ·have:=ready_mono hj hji
   rw[H.1]at this
   cases this
 |succ fuel ih=>
  intro listed a w hC hcl hfree hr hy H
  refine⟨fun h=>(by rw[h]at hr;cases hr),fun j hj=>?_⟩
  by_cases hji:j=i
  ·subst hji;exact hy.vS hi hC H
  ·have h1:=H.2 j (ready_mono hj hji)
   obtain⟨hjun,oj,hoj,hall⟩:=mem_ready.1 hj
   have hnot:∀e∈oj.after,Region.binds md e=true→e.on≠i:=fun e he hb heq=>by
    have h1:=hall e he hb
    have h0:=(mem_ready.1 hr).1
    rw[heq]at h1
    rcases Nat.lt_or_ge i listed.size with h'|h'
    ·simp[h']at h0 h1;rw[h0]at h1;cases h1
    ·simp[Array.getElem?_eq_none h']at h1
   have h2:=GY hoj (hfree j oj hoj hji hjun hnot) (fun cs b=>hsel i oi cs b hi) (fun cs b=>hsel j oj cs b hoj) hy h1
   have hfree':∀k ok,ops[k]?=some ok→k≠i→(listed.setIfInBounds j true).getD k true=false→
     (∀e∈ok.after,Region.binds md e=true→e.on≠i)→oi.apart ops ok=true:=fun k ok hk hki hun hno=>by
    refine hfree k ok hk hki ?_ hno
    by_cases hjk:j=k
    ·subst hjk;exact hjun
    ·rw[getD_set_ne true hjk]at hun;exact hun
   have hjz:j≠z:=fun e=>by subst e;exact hz listed hcl (mem_ready.1 hr).1 hiz hj
   refine Fx hjz hC (fun a' w' hC' h3=>ih (listed.setIfInBounds j true) a' w' hC' (hcl.set hj) hfree' (ready_mono hr (Ne.symm hji)) h3.1 ?_) h2
   rw[Array.setIfInBounds_comm _ _ hji]
   exact h3.2
def ml (P:Program) (ops:Array Oper) (C:World→Prop) (sk:Bool) (K:Act→World→Prop):List Oper→Act→World→Prop
  |[],a,w=>K a w
  |o::rest,a,w=>
    if Region.wanted o (yielded ops a.tmps)then
      (if qo o.op then∃v,(∀w,C w→(execOp a.eval o).run P w=.ok (.value v) w)∧ml P ops C sk K rest (a.put o.dst v) w
       else lS P (fun v w'=>((sk=true∧rest=[])∨C w')∧ml P ops C sk K rest (a.put o.dst v) w') ((execOp a.eval o).run P w))
    else ml P ops C sk K rest (a.put o.dst undef) w
def Bq (md:Region.Mode) (ops:Array Oper):List Nat→Array Bool→Bool
  |[],listed=>(Region.ready md ops listed).isEmpty
  |k::r,listed=>
    (match ops[k]? with
     |some o=>if qo o.op then(Region.ready md ops listed).contains k && Region.free md ops listed k else Region.ready md ops listed==[k]
     |none=>false) && Bq md ops r (listed.setIfInBounds k true)
def pick (l:List Oper):List Nat→List Oper
 |[]=>[]
 |i::r=>l.getD i default::pick l r
def EL (md:Region.Mode) (ops:Array Oper):Nat→Nat→Nat→Bool
 |0,_,_=>false
 |f+1,z,k=>match ops[z]? with
  |some o=>o.after.any fun e=>Region.binds md e && (e.on==k || EL md ops f e.on k)
  |none=>false
theorem xa {listed:Array Bool} (hcl:zg md ops listed):∀(f z k:Nat),(∀o,ops[z]?=some o→∀e∈o.after,Region.binds md e=true→listed.getD e.on false=true)→EL md ops f z k=true→listed.getD k false=true
 |0,_,_,_,h=>by simp[EL]at h
 |f+1,z,k,hz,h=>by
  unfold EL at h
  cases ho:ops[z]? with
  |none=>simp[ho]at h
  |some o=>
   simp only[ho,Array.any_eq_true',Bool.and_eq_true,Bool.or_eq_true,beq_iff_eq]at h
   obtain⟨e,he,hb,h1⟩:=h
   have h2:=hz o ho e he hb
   rcases h1 with h1|h1
   ·rw[←h1];exact h2
   ·exact xa hcl f e.on k (fun o2 ho2 e2 he2 hb2=>hcl e.on o2 ho2 h2 e2 he2 hb2) h1
def sinkB (md:Region.Mode) (ops:Array Oper) (z:Nat):Bool:=
 (List.range ops.size).all fun k=>k==z || EL md ops 16 z k
theorem vt {z i:Nat} (h:sinkB md ops z=true) (hi:i<ops.size) (hne:i≠z) {listed:Array Bool} (hcl:zg md ops listed) (hl:listed.getD i true=false):z ∉ Region.ready md ops listed:=by
 intro hz
 obtain⟨_,o,ho,hall⟩:=mem_ready.1 hz
 simp only[sinkB,List.all_eq_true,List.mem_range]at h
 have h1:=h i hi
 simp only[Bool.or_eq_true,beq_iff_eq,hne,false_or]at h1
 have h2:=xa hcl 16 z i (fun o2 ho2 e he hb=>by rw[ho]at ho2;cases ho2;exact hall e he hb) h1
 rcases Nat.lt_or_ge i listed.size with h'|h'
 ·simp[h']at hl h2;rw[hl]at h2;cases h2
 ·simp[Array.getElem?_eq_none h']at h2
theorem nF {l:List Oper} {sk:Bool} {z:Nat} {K:Act→World→Prop} (hs:Region.noSelect l.toArray=true) (hz:z<l.length→sinkB md l.toArray z=true):∀(ord:List Nat) (listed:Array Bool) (a:Act) (w:World),C w→zg md l.toArray listed→(sk=true→ord.getLast?=some z)→(∀k∈ord,k=z→∃r,ord=r++[z]∧z ∉ r)→(z<l.length→qo (l.getD z default).op=false)→
  Bq md l.toArray ord listed=true→ml P l.toArray C sk K (pick l ord) a w→nD P md l.toArray C z K ord.length listed a w
 |[],_,_,_,_,_,_,_,_,hB,h=>⟨by simpa[Bq]using hB,h⟩
 |k::r,listed,a,w,hC,hcl,hsk,hone,hzq,hB,h=>by
  simp only[Bq,Bool.and_eq_true]at hB
  obtain⟨hB1,hB2⟩:=hB
  cases ho:l.toArray[k]? with
  |none=>simp[ho]at hB1
  |some o=>
   have hl:l[k]?=some o:=by simpa using ho
   have hkl:k<l.length:=(List.getElem?_eq_some_iff.1 hl).1
   have hp:pick l (k::r)=o::pick l r:=by simp[pick,hl]
   rw[hp]at h
   simp only[ho]at hB1
   have hsk':r≠[]→sk=true→r.getLast?=some z:=fun hr e=>by
    have:=hsk e
    rw[List.getLast?_cons]at this
    cases hrl:r.getLast? with
    |none=>simp at hrl;exact absurd hrl hr
    |some y=>rw[hrl]at this;simpa using this
   have hone':∀q∈r,q=z→∃r',r=r'++[z]∧z ∉ r':=fun q hq e=>by
    obtain⟨r',e1,e2⟩:=hone q (List.mem_cons_of_mem _ hq) e
    cases r' with
    |nil=>simp at e1;rw[e1.2]at hq;cases hq
    |cons y r''=>simp at e1;exact⟨r'',e1.2,fun h=>e2 (List.mem_cons_of_mem _ h)⟩
   by_cases hq:qo o.op=true
   ·simp only[hq,if_true,Bool.and_eq_true]at hB1
    have hkz:k≠z:=fun e=>by
     subst e
     have:=hzq hkl
     rw[List.getD_eq_getElem?_getD,hl]at this
     simp[hq]at this
    have hy:∃v,YV P l.toArray C o v a∧ml P l.toArray C sk K (pick l r) (a.put o.dst v) w:=by
     unfold ml at h
     by_cases hw:Region.wanted o (yielded l.toArray a.tmps)=true
     ·simp only[hw,hq,if_true]at h
      obtain⟨v,h1,h2⟩:=h
      exact⟨v,.inl ⟨hw,h1⟩,h2⟩
     ·simp only[hw]at h
      exact⟨undef,.inr ⟨by simpa using hw,rfl⟩,h⟩
    obtain⟨v,hy,hK⟩:=hy
    have hsk2:sk=true→r.getLast?=some z:=fun e=>by
     by_cases hr:r=[]
     ·subst hr;have:=hsk e;simp at this;exact absurd this hkz
     ·exact hsk' hr e
    have hkr:k∈Region.ready md l.toArray listed:=by simpa using hB1.1
    refine nE ho (Region.noSelect_spec hs) (fun listed hcl2 hl2 hne=>?_) hkz r.length listed a w hC hcl (Region.free_spec ho hB1.2) hkr hy (nF hs hz r _ _ _ hC (hcl.set hkr) hsk2 hone' hzq hB2 hK)
    by_cases hzl:z<l.length
    ·exact vt (hz hzl) (by simpa using hkl) hne hcl2 hl2
    ·intro hz2
     obtain⟨_,o2,ho2,_⟩:=mem_ready.1 hz2
     have:z<l.length:=by
      have:=(Array.getElem?_eq_some_iff.1 ho2).1
      simpa using this
     exact hzl this
   ·simp only[hq]at hB1
    have hr:Region.ready md l.toArray listed=[k]:=by simpa using hB1
    refine⟨fun h0=>(by rw[hr]at h0;cases h0),fun i hi=>?_⟩
    rw[hr]at hi
    obtain rfl:i=k:=by simpa using hi
    unfold vS
    simp only[ho]
    unfold ml at h
    by_cases hw:Region.wanted o (yielded l.toArray a.tmps)=true
    ·simp only[hw,hq,if_true]at h ⊢
     refine dx h fun v w' ⟨g1,g2⟩=>?_
     by_cases hrn:r=[]
     ·subst hrn
      refine⟨?_,?_⟩
      ·rcases g1 with⟨e,_⟩|g1
       ·have:=hsk e;simp at this;exact .inl this
       ·exact .inr g1
      ·exact⟨by simpa[Bq]using hB2,g2⟩
     ·have hpr:pick l r≠[]:=by cases r with
       |nil=>exact absurd rfl hrn
       |cons y r'=>simp[pick]
      have hC':C w':=by
       rcases g1 with⟨_,e⟩|g1
       ·exact absurd e hpr
       ·exact g1
      exact⟨.inr hC',nF hs hz r _ _ _ hC' (hcl.set (by rw[hr];simp)) (hsk' hrn) hone' hzq hB2 g2⟩
    ·simp only[hw]at h ⊢
     by_cases hrn:r=[]
     ·subst hrn;exact⟨by simpa[Bq]using hB2,h⟩
     ·exact nF hs hz r _ _ _ hC (hcl.set (by rw[hr];simp)) (hsk' hrn) hone' hzq hB2 h
def Ji (l:List Oper) (ord:List Nat):Bool:=Region.noSelect l.toArray && (ord.length==l.length) && Bq .any l.toArray ord (Array.replicate l.length false)
def CI (l:List Oper) (ord:List Nat) (z:Nat):Bool:=Ji l (ord++[z]) && sinkB .any l.toArray z && !ord.contains z && !qo (l.getD z default).op
theorem vH {id:Nat} {Q:Exit→Act→World→Prop} {a:Act} {w:World} {l:List Oper} (ord:List Nat) (z:Nat) (hm:P.follows .mixedOrders=true) (hB:CI l ord z=true) (hC:C w.drew)
  (h:ml P l.toArray C true (Q .normal) (pick l (ord++[z])) a w.drew):(Code.region id l.toArray true).wp P Q a w:=by
 simp only[CI,Ji,Bool.and_eq_true,beq_iff_eq,Bool.not_eq_true']at hB
 obtain⟨⟨⟨⟨⟨h1,h2⟩,h3⟩,h4⟩,h5⟩,h6⟩:=hB
 have h5':z ∉ ord:=by intro e;rw[List.contains_iff_mem.2 e]at h5;cases h5
 refine wp_region_any hm (nG (C:=C) (z:=z) (K:=Q .normal) (fun _ _ h=>h) _ _ _ _ ?_)
 have:=nF (md:=.any) (z:=z) (sk:=true) h1 (fun _=>h4) (ord++[z]) (Array.replicate l.length false) a w.drew hC (zg.start _) (fun _=>by simp) (fun k hk e=>⟨ord,rfl,h5'⟩) (fun _=>h6) h3 h
 rw[h2]at this
 simpa using this
end
open Go.RowKit _root_.Go.Proofs.Tryz
open Bool renaming and_eq_true→PD,not_eq_true'→Ql
open List renaming Sublist→Pv,cons_append→Pq,getElem?_eq_some_iff→PR,getElem_cons_succ→P6,getElem_cons_zero→P5,getElem_toArray→P4,mem_cons_of_mem→PP,mem_cons_self→PT,nil_append→Pp,nil_sublist→PN,sublist_append_left→Qd
open Nat renaming beq→PK,blt→Pt,le_refl→Px,le_trans→PE,lt_of_lt_of_le→PB,lt_or_ge→PG,zero_le→Pu
open Value renaming int→Pm,oneCell'→Qf,slice→Pn
abbrev Env:=List (Nat×Value)
def lk:Env→Nat→Option Value
 |[],_=>none
 |(t,v)::r,n=>bif PK t n then some v else lk r n
def ev (E:Env):Operand→Option Value
 |.tmp t=>lk E t
 |.const v=>some v
 |.global g=>some (.pointer (some ⟨g,0,none⟩))
 |.func f=>some (.func (.func f) #[] #[])
def kJ (E:Env):List Operand→Option (List Value)
 |[]=>some []
 |x::r=>match ev E x,kJ E r with
  |some v,some vs=>some (v::vs)
  |_,_=>none
structure Ag (n:Nat) (a:Act) (E:Env):Prop where
 sz:a.tmps.size=n
 df:a.defers=[]
 eq:∀t v,lk E t=some v→t<n∧a.tmps.getD t undef=v
theorem yq (t:Nat) (v:Value) (E:Env) (n:Nat):lk ((t,v)::E) n=if t=n then some v else lk E n:=by
 simp only[lk]
 by_cases h:t=n
 ·subst h;simp
 ·rw[if_neg h]
  have:PK t n=false:=by
   rw[Bool.eq_false_iff];intro e;exact h (Nat.eq_of_beq_eq_true e)
  rw[this];rfl
variable {n:Nat} {a:Act} {P:Program} {t:TypeId} {S:Nat→Prop} {w w':World}
theorem Ag.eval {E:Env} (h:Ag n a E) {x:Operand} {v:Value} (hx:ev E x=some v):a.eval x=v:=by
 cases x with
 |tmp t=>exact(h.eq t v hx).2
 |const u=>simp only[ev,Option.some.injEq]at hx;exact hx
 |global g=>simp only[ev,Option.some.injEq]at hx;exact hx
 |func f=>simp only[ev,Option.some.injEq]at hx;exact hx
theorem Ag.pA {n:Nat} {a:Act} {E:Env} (h:Ag n a E):∀{xs:List Operand} {vs:List Value},kJ E xs=some vs→xs.map a.eval=vs
 |[],vs,hx=>by simp[kJ]at hx;simp[hx]
 |x::r,vs,hx=>by
  simp only[kJ]at hx
  cases h1:ev E x with
  |none=>simp[h1]at hx
  |some v=>
   cases h2:kJ E r with
   |none=>simp[h1,h2]at hx
   |some us=>
    simp only[h1,h2,Option.some.injEq]at hx
    subst hx
    simp[h.eval h1,h.pA h2]
theorem Ag.put {E:Env} (h:Ag n a E) {d:Nat} (hd:d<n) (v:Value):Ag n (a.put (some d) v) ((d,v)::E):=by
 refine⟨by simp[Act.put,h.sz],by simp[Act.put,h.df],fun t u ht=>?_⟩
 rw[yq]at ht
 by_cases e:d=t
 ·subst e
  rw[if_pos rfl]at ht
  cases ht
  refine⟨hd,?_⟩
  have hs:d<a.tmps.size:=by rw[h.sz];exact hd
  simp[Act.put,Array.getD,hs]
 ·rw[if_neg e]at ht
  obtain⟨h1,h2⟩:=h.eq t u ht
  refine⟨h1,?_⟩
  rw[←h2]
  have ht':t<a.tmps.size:=by rw[h.sz];exact h1
  simp[Act.put,Array.getD,ht',e]
structure Sub (E E':Env):Prop where
 h:∀t v,lk E' t=some v→lk E t=some v
theorem Sub.nil (E:Env):Sub E []:=⟨fun _ _ h=>by cases h⟩
theorem Sub.cons {E r:Env} {t:Nat} {v u:Value} (h1:lk E t=some u) (h2:u=v) (h:Sub E r):Sub E ((t,v)::r):=⟨fun s x hs=>by
 rw[yq]at hs
 by_cases e:t=s
 ·subst e;rw[if_pos rfl]at hs;cases hs;rw[h1,h2]
 ·rw[if_neg e]at hs;exact h.h s x hs⟩
theorem Ag.sub {E E':Env} (h:Ag n a E) (hs:Sub E E'):Ag n a E':=⟨h.sz,h.df,fun t v ht=>h.eq t v (hs.h t v ht)⟩
structure TI where
 size:Nat
 bytes:Nat
 agg:Bool
 elem:Option Nat
 pg:List Nat
 zero:Value
 ik:Option IntKind
structure C9 (P:Program) (t:Nat) (i:TI):Prop where
 info:(P.info? t).map (fun j=>(j.zero,j.size,j.bytes))=some (some i.zero,i.size,i.bytes)
 size:∀w,(sizeOf t).run P w=.ok i.size w
 zeroV:∀w,(zeroValue t).run P w=.ok i.zero w
 agg:∀w,(isAgg t).run P w=.ok i.agg w
 elem:∀e,i.elem=some e→P.underlying t=some (.slice e)
 Lg:∀k,i.ik=some k→P.underlying t=some (.int k)
 pg:∀f o,i.pg[f]?=some o→∀w a,(Instr.fieldAt t (.pointer (some a)) f).run P w=.ok (.pointer (some (a.add o))) w
def GL (P:Program) (f:Nat):Bool:=
 match P.funcs[f]? with
 |some fn=>fn.body.isSome && !(fn.name== "runtime.NumGoroutine")
 |none=>false
theorem GM {f:Nat} (h:GL P f=true) (vs:Array Value) (w:World):(callFunc f vs).run P w=.ok (.enter f vs) w:=by
 unfold GL at h
 cases hf:P.funcs[f]? with
 |none=>simp[hf]at h
 |some fn=>
  simp only[hf,PD,Ql]at h
  obtain⟨h1,h2⟩:=h
  have h3:fn.body≠none:=by intro e;simp[e]at h1
  have h4:fn.name≠ "runtime.NumGoroutine" :=by intro e;simp[e]at h2
  simp[callFunc,program,Sem.run,hf,h3,h4]
def JE (P:Program):List Bool→Nat→Bool
 |[],_=>true
 |b::r,i=>(!b || GL P i) && JE P r (i+1)
theorem Fg {P:Program}:∀(l:List Bool) (i:Nat),JE P l i=true→∀f,l[f]?=some true→GL P (i+f)=true
 |[],_,_,_,h=>by simp at h
 |b::r,i,h,f,hf=>by
  simp only[JE,PD]at h
  cases f with
  |zero=>simp at hf;subst hf;simpa using h.1
  |succ f=>
   have:=Fg r (i+1) h.2 f (by simpa using hf)
   rwa[show i+(f+1)=i+1+f by omega]
def nJ (P:Program):List (Option TI)→Nat→Prop
 |[],_=>True
 |none::r,k=>nJ P r (k+1)
 |some i::r,k=>C9 P k i∧nJ P r (k+1)
theorem nJ.get {P:Program}:∀(l:List (Option TI)) (k:Nat),nJ P l k→∀t i,(l[t]?).bind id=some i→C9 P (k+t) i
 |[],_,_,t,i,h=>by simp at h
 |none::r,k,ha,t,i,h=>by
  cases t with
  |zero=>simp at h
  |succ t=>
   have:=nJ.get r (k+1) ha t i (by simpa using h)
   rwa[show k+(t+1)=k+1+t by omega]
 |some j::r,k,ha,t,i,h=>by
  cases t with
  |zero=>simp at h;subst h;exact ha.1
  |succ t=>
   have:=nJ.get r (k+1) ha.2 t i (by simpa using h)
   rwa[show k+(t+1)=k+1+t by omega]
structure zc where
 P:Program
 tb:List (Option TI)
 fb:List Bool
 iT:∀t i,(tb[t]?).bind id=some i→C9 P t i
 Dq:∀f,fb[f]?=some true→∀vs w,(callFunc f vs).run P w=.ok (.enter f vs) w
 mixed:P.follows .mixedOrders=true
def zc.ty (G:zc) (t:Nat):Option TI:=(G.tb[t]?).bind id
inductive Mode where
 |list (Q:Exit→Act→World→Prop) (w:World)
 |still (K:Act→Prop) (w:World)
 |quiet (K:Act→Prop) (C:World→Prop)
 |mix (sk:Bool) (Q:Exit→Act→World→Prop) (C:World→Prop) (w:World)
def Mode.run (G:zc) (ops:Array Oper):Mode→List Oper→Act→Prop
 |.list Q w=>fun l a=>wpList G.P ops Q l a w
 |.still K w=>fun l a=>wpStill G.P ops w K l a
 |.quiet K C=>fun l a=>wpQuiet G.P ops C K l a
 |.mix sk Q C w=>fun l a=>ml G.P ops C sk (Q .normal) l a w
def Mode.C:Mode→World→Prop
 |.list _ w=>fun w'=>w'=w
 |.still _ w=>fun w'=>w'=w
 |.quiet _ C=>C
 |.mix _ _ C _=>C
structure aq (G:zc) (ops:Array Oper) (M:Mode) (n:Nat) (l:List Oper) (E:Env):Prop where
 h:∀a,Ag n a E→M.run G ops l a
structure Cd (G:zc) (Q:Exit→Act→World→Prop) (n:Nat) (c:Code) (E:Env) (w:World):Prop where
 h:∀a,Ag n a E→c.wp G.P Q a w
structure Fin (Q:Exit→Act→World→Prop) (n:Nat) (e:Exit) (E:Env) (w:World):Prop where
 h:∀a,Ag n a E→Q e a w
section code
variable {G:zc} {Q:Exit→Act→World→Prop} {n:Nat} {E:Env} {w:World}
theorem Cd.seq {x y:Code} (h:Cd G (Exit.then (y.wp G.P Q) Q) n x E w):Cd G Q n (.seq x y) E w:=⟨fun a ha=>wp_seq (h.h a ha)⟩
theorem Cd.block {id:Nat} {c:Code} (h:Cd G (Exit.inBlock id Q) n c E w):Cd G Q n (.block id c) E w:=⟨fun a ha=>wp_block (h.h a ha)⟩
theorem Cd.skip (h:Fin Q n .normal E w):Cd G Q n .skip E w:=⟨fun a ha=>wp_skip (h.h a ha)⟩
theorem Cd.label {l:Nat} (h:Fin Q n .normal E w):Cd G Q n (.label l) E w:=⟨fun a ha=>wp_label (h.h a ha)⟩
theorem Cd.exit {id:Nat} (h:Fin Q n (.exit id) E w):Cd G Q n (.exit id) E w:=⟨fun a ha=>wp_exit (h.h a ha)⟩
theorem Cd.ret (h:Fin Q n .ret E w):Cd G Q n .ret E w:=⟨fun a ha=>wp_ret (h.h a ha)⟩
theorem Cd.region {id:Nat} {l:List Oper} (h:aq G l.toArray (.list Q w) n l E):Cd G Q n (.region id l.toArray false) E w:=⟨fun a ha=>wp_region_lit (h.h a ha)⟩
theorem Cd.jf {c:Operand} {x y:Code} (hc:ev E c=some (.bool true)) (h:Cd G Q n x E w):Cd G Q n (.cond c x y) E w:=⟨fun a ha=>wp_cond_true (ha.eval hc) (h.h a ha)⟩
theorem Cd.je {c:Operand} {x y:Code} (hc:ev E c=some (.bool false)) (h:Cd G Q n y E w):Cd G Q n (.cond c x y) E w:=⟨fun a ha=>wp_cond_false (ha.eval hc) (h.h a ha)⟩
theorem Cd.Hb {id:Nat} {l:List Oper} (C:World→Prop) (hB:Region.lexB .any l.toArray=true) (hC:C w.drew)
  (h:aq G l.toArray (.quiet (fun a'=>∀w',C w'→Q .normal a' w') C) n l E):Cd G Q n (.region id l.toArray true) E w:=
 ⟨fun a ha=>wp_region_quiet G.mixed hB hC (by have:=h.h a ha;simp only[Mode.run]at this;simpa using this)⟩
theorem Cd.yK {id:Nat} {l:List Oper} (k:Nat) (hB:Region.lexTailB .any l.toArray k=true)
  (h:aq G l.toArray (.still (fun a'=>wpList G.P l.toArray Q (l.drop k) a' w.drew) w.drew) n (l.take k) E):Cd G Q n (.region id l.toArray true) E w:=
 ⟨fun a ha=>wp_region_still_tail k G.mixed hB (h.h a ha)⟩
theorem Cd.dQ {id:Nat} {l:List Oper} (ord:List Nat) (z:Nat) (C:World→Prop) (hB:CI l ord z=true) (hC:C w.drew)
  (h:aq G l.toArray (.mix true Q C w.drew) n (pick l (ord++[z])) E):Cd G Q n (.region id l.toArray true) E w:=
 ⟨fun a ha=>vH ord z G.mixed hB hC (h.h a ha)⟩
theorem aq.DR {ops:Array Oper} {sk:Bool} {C:World→Prop} (h:Fin Q n .normal E w):aq G ops (.mix sk Q C w) n [] E:=⟨fun a ha=>h.h a ha⟩
theorem aq.nil {ops:Array Oper} (h:Fin Q n .normal E w):aq G ops (.list Q w) n [] E:=⟨fun a ha=>h.h a ha⟩
theorem aq.G2 {ops:Array Oper} {l:List Oper} (h:aq G ops (.list Q w) n l E):aq G ops (.still (fun a'=>wpList G.P ops Q l a' w) w) n [] E:=⟨fun a ha=>h.h a ha⟩
theorem Fin.lf {y:Code} (h:Cd G Q n y E w):Fin (Exit.then (y.wp G.P Q) Q) n .normal E w:=⟨fun a ha=>h.h a ha⟩
theorem Fin.lg {K:Act→World→Prop} (h:Fin Q n .ret E w):Fin (Exit.then K Q) n .ret E w:=⟨fun a ha=>h.h a ha⟩
theorem Fin.lh {K:Act→World→Prop} {id:Nat} (h:Fin Q n (.exit id) E w):Fin (Exit.then K Q) n (.exit id) E w:=⟨fun a ha=>h.h a ha⟩
theorem Fin.pR {id:Nat} (h:Fin Q n .normal E w):Fin (Exit.inBlock id Q) n .normal E w:=⟨fun a ha=>h.h a ha⟩
theorem Fin.pS {id:Nat} (h:Fin Q n .ret E w):Fin (Exit.inBlock id Q) n .ret E w:=⟨fun a ha=>h.h a ha⟩
theorem Fin.pT {id:Nat} (h:Fin Q n .normal E w):Fin (Exit.inBlock id Q) n (.exit id) E w:=⟨fun a ha=>by simp only[Exit.inBlock,if_true];exact h.h a ha⟩
theorem Fin.xV {id id':Nat} (hne:PK id' id=false) (h:Fin Q n (.exit id') E w):Fin (Exit.inBlock id Q) n (.exit id') E w:=⟨fun a ha=>by
 have:id'≠id:=fun e=>by subst e;simp at hne
 simp only[Exit.inBlock,if_neg this];exact h.h a ha⟩
theorem aq.sub {ops:Array Oper} {M:Mode} {l:List Oper} {E':Env} (hs:Sub E E') (h:aq G ops M n l E'):aq G ops M n l E:=⟨fun a ha=>h.h a (ha.sub hs)⟩
theorem wp_loop_ghost {P:Program} {c:Code} (I:Nat→Act→World→Prop) {a:Act} (h0:∃m,I m a w)
  (round:∀m a w,I m a w→c.wp P (Exit.then (fun a' w'=>∃m',m'<m∧I m' a' w') Q) a w):(Code.loop c).wp P Q a w:=by
 intro b k cs
 have key:∀m a w,I m a w→∃e a' w',Q e a' w'∧Arrives P (lone (b.at a (.code c::.inLoop c::k)) cs w) b k cs e a' w':=by
  intro m
  induction m using Nat.strongRecOn with
  |_ m ih=>
   intro a w hI
   obtain⟨e,a₁,w₁,hq,harr⟩:=round m a w hI b (.inLoop c::k) cs
   cases e with
   |normal=>
    obtain⟨m',hlt,hI₁⟩:=hq
    obtain⟨e₂,a₂,w₂,hq₂,harr₂⟩:=ih m' hlt a₁ w₁ hI₁
    exact⟨e₂,a₂,w₂,hq₂,.of_steps (Steps.trans harr (.one step_inLoop)) harr₂⟩
   |exit id=>exact⟨_,a₁,w₁,hq,.pass (x:=.inLoop c) rfl (fun _ _=>.inl (by simp)) harr⟩
   |goto l=>exact⟨_,a₁,w₁,hq,.pass (x:=.inLoop c) rfl (fun _ _=>.inl (by simp)) harr⟩
   |ret=>exact⟨_,a₁,w₁,hq,.pass (x:=.inLoop c) rfl (fun _ _=>.inl (by simp)) harr⟩
   |panic ch=>exact⟨_,a₁,w₁,hq,.pass (x:=.inLoop c) rfl (fun _ _=>.inl (by simp)) harr⟩
   |outgrown=>exact⟨_,a₁,w₁,hq,.pass (x:=.inLoop c) rfl (fun _ _=>.inl (by simp)) harr⟩
 obtain⟨m,hm⟩:=h0
 obtain⟨e,a',w',hq,harr⟩:=key m a w hm
 exact⟨e,a',w',hq,.of_steps (.one step_loop) harr⟩
def tm {σ:Type} (n:Nat) (Ei:σ→Env) (Wi:σ→World→Prop) (μ:σ→Nat) (s:σ):Act→World→Prop:=
 fun a w=>∃s',μ s'<μ s∧Ag n a (Ei s')∧Wi s' w
theorem Cd.loop {σ:Type} {c:Code} (Ei:σ→Env) (Wi:σ→World→Prop) (μ:σ→Nat) (s0:σ) (hE:Sub E (Ei s0)) (hW:Wi s0 w)
  (round:∀s w,Wi s w→Cd G (Exit.then (tm n Ei Wi μ s) Q) n c (Ei s) w):Cd G Q n (.loop c) E w:=⟨fun a ha=>by
 refine wp_loop_ghost (fun m a w=>∃s,μ s=m∧Ag n a (Ei s)∧Wi s w) ⟨_,s0,rfl,ha.sub hE,hW⟩ ?_
 rintro m a w ⟨s,rfl,hs,hw⟩
 refine Code.wp_mono ?_ ((round s w hw).h a hs)
 intro e a' w' q
 cases e with
 |normal=>
  obtain⟨s',h1,h2,h3⟩:=q
  exact⟨μ s',h1,s',rfl,h2,h3⟩
 |_=>exact q⟩
theorem Fin.next {σ:Type} {Ei:σ→Env} {Wi:σ→World→Prop} {μ:σ→Nat} {s:σ} (s':σ) (hE:Sub E (Ei s')) (hW:Wi s' w) (hμ:μ s'<μ s):
  Fin (Exit.then (tm n Ei Wi μ s) Q) n .normal E w:=⟨fun _ ha=>⟨s',hμ,ha.sub hE,hW⟩⟩
end code
def A7:Nat→List Value→Env
 |_,[]=>[]
 |i,v::r=>(i,v)::A7 (i+1) r
theorem yp:∀(l:List Value) (i t:Nat) (v:Value),lk (A7 i l) t=some v→i≤t∧l[t - i]?=some v
 |[],_,_,_,h=>by cases h
 |u::r,i,t,v,h=>by
  rw[A7,yq]at h
  by_cases e:i=t
  ·subst e;rw[if_pos rfl]at h;simp[←h]
  ·rw[if_neg e]at h
   obtain⟨h1,h2⟩:=yp r (i+1) t v h
   refine⟨by omega,?_⟩
   have:t - i=(t - (i+1))+1:=by omega
   rw[this];simpa using h2
theorem enter {G:zc} {f:FuncId} {fn:Func} {c:Code} {n:Nat} {l:List Value} {w:World} {R:Ending→World→Prop} (hf:G.P.funcs[f]?=some fn) (hb:fn.body=some c) (hn:fn.ntmps=n) (hl:Nat.ble l.length n=true)
  (h:Cd G (bodyPost G.P fn R) n c (A7 0 l) w):Calls G.P f l.toArray w R:=by
 refine calls_of_wp hf hb (h.h _ ?_)
 have hl':l.length≤n:=Nat.le_of_ble_eq_true hl
 refine⟨by simp[hn];omega,rfl,fun t v ht=>?_⟩
 obtain⟨_,h2⟩:=yp l 0 t v ht
 rw[Nat.sub_zero]at h2
 obtain⟨h3,h4⟩:=PR.1 h2
 refine⟨by omega,?_⟩
 have:t<(l.toArray++Array.replicate (fn.ntmps - l.toArray.size) undef).size:=by simp;omega
 simp only[Array.getD,this,dite_true]
 rw[Array.getInternal_eq_getElem,Array.getElem_append_left (by simpa using h3)]
 simpa using h4
section ends
variable {P:Program} {fn:Func} {R:Ending→World→Prop} {n:Nat} {E:Env} {w:World}
theorem Fin.qN {e:Exit} {v:Value} (he:e=.ret∨e=.normal) (hr:∀a,Ag n a E→(results fn a.tmps).run P w=.ok v w) (hR:R (.returned v) w):Fin (bodyPost P fn R) n e E w:=⟨fun a ha=>by
 rcases he with rfl|rfl
 ·exact⟨ha.df,v,hr a ha,hR⟩
 ·exact⟨ha.df,v,hr a ha,hR⟩⟩
theorem Fin.F5 (hr:fn.results=#[]) (hR:R (.returned (.tuple #[])) w):Fin (bodyPost P fn R) n .ret E w:=
 Fin.qN (.inl rfl) (fun a _=>results_none hr a.tmps P w) hR
theorem Fin.oe (hr:fn.results=#[]) (hR:R (.returned (.tuple #[])) w):Fin (bodyPost P fn R) n .normal E w:=
 Fin.qN (.inr rfl) (fun a _=>results_none hr a.tmps P w) hR
theorem Fin.aG {t:Nat} {v:Value} (hr:fn.results=#[.tmp t]) (hv:lk E t=some v) (hR:R (.returned v) w):Fin (bodyPost P fn R) n .ret E w:=
 Fin.qN (.inl rfl) (fun a ha=>by rw[results_tmp hr,(ha.eq t v hv).2]) hR
theorem Fin.ie {t u:Nat} {v x:Value} (hr:fn.results=#[.tmp t,.tmp u]) (hv:lk E t=some v) (hx:lk E u=some x) (hR:R (.returned (.tuple #[v,x])) w):Fin (bodyPost P fn R) n .ret E w:=
 Fin.qN (.inl rfl) (fun a ha=>by rw[results_tmp2 hr,(ha.eq t v hv).2,(ha.eq u x hx).2]) hR
end ends
structure Yl (G:zc) (n:Nat) (op:Op) (E:Env) (C:World→Prop) (v:Value):Prop where
 h:∀w,C w→∀a,Ag n a E→∀d ty pos aft gd,(execOp a.eval ⟨d,op,ty,pos,aft,gd⟩).run G.P w=.ok (.value v) w
def qn (ops:Array Oper) (E:Env) (j:Nat):Option Bool:=
 match ((ops[j]?).bind (·.dst)).bind (lk E)with
 |some (.bool b)=>some b
 |_=>none
def JF (ops:Array Oper) (E:Env) (j:Nat):Bool:=
 match ((ops[j]?).bind (·.dst)).bind (lk E)with
 |some (.bool _)=>false
 |some _=>true
 |none=>false
section
variable {G:zc} {ops:Array Oper} {M:Mode} {n:Nat} {E:Env} {rest:List Oper} {op:Op} {ty:TypeId} {pos:String} {aft:Array Edge} {v:Value} {d:Nat}
theorem nH {a:Act} (ha:Ag n a E) {j:Nat} {b:Bool} (h:qn ops E j=some b):yielded ops a.tmps j=some b:=by
 unfold qn at h
 unfold yielded
 cases h1:(ops[j]?).bind (·.dst)with
 |none=>simp[h1]at h
 |some t=>
  simp only[h1,Option.bind_some]at h ⊢
  cases h2:lk E t with
  |none=>simp[h2]at h
  |some u=>
   obtain⟨h3,h4⟩:=ha.eq t u h2
   have ht:t<a.tmps.size:=by rw[ha.sz];exact h3
   have:a.tmps[t]?=some u:=by
    rw[Array.getElem?_eq_getElem ht];simp[Array.getD,ht]at h4;rw[h4]
   rw[this]
   cases u<;>simp_all
theorem za {a:Act} (ha:Ag n a E) {j:Nat} (h:JF ops E j=true):yielded ops a.tmps j=none:=by
 unfold JF at h
 unfold yielded
 cases h1:(ops[j]?).bind (·.dst)with
 |none=>simp[h1]at h
 |some t=>
  simp only[h1,Option.bind_some]at h ⊢
  cases h2:lk E t with
  |none=>simp[h2]at h
  |some u=>
   obtain⟨h3,h4⟩:=ha.eq t u h2
   have ht:t<a.tmps.size:=by rw[ha.sz];exact h3
   have:a.tmps[t]?=some u:=by
    rw[Array.getElem?_eq_getElem ht];simp[Array.getD,ht]at h4;rw[h4]
   rw[this]
   cases u<;>simp_all
theorem HN {a:Act} {o:Oper} (hq:qo o.op=true) (hg:Region.wanted o (yielded ops a.tmps)=true) (hr:∀w,M.C w→(execOp a.eval o).run G.P w=.ok (.value v) w) (hn:M.run G ops rest (a.put o.dst v)):M.run G ops (o::rest) a:=by
 cases M with
 |list Q w=>
  simp only[Mode.run,wpList,hg,if_true]at*
  refine .inl ?_
  unfold Oper.wp
  rw[hr w rfl]
  exact hn
 |still K w=>
  simp only[Mode.run,wpStill,hg,if_true]at*
  unfold Oper.still
  rw[hr w rfl]
  exact⟨rfl,hn⟩
 |quiet K C=>
  simp only[Mode.run,wpQuiet,hg,if_true]at*
  refine⟨v,fun w hw=>?_,hn⟩
  unfold Oper.quietAt
  rw[hr w hw]
  exact⟨rfl,rfl⟩
 |mix sk Q C w=>
  simp only[Mode.run,ml,hg,hq,if_true]at*
  exact⟨v,hr,hn⟩
theorem AK {a:Act} {o:Oper} (hg:Region.wanted o (yielded ops a.tmps)=false) (hn:M.run G ops rest (a.put o.dst undef)):M.run G ops (o::rest) a:=by
 cases M with
 |list Q w=>simp only[Mode.run,wpList,hg]at*;exact hn
 |still K w=>simp only[Mode.run,wpStill,hg]at*;exact hn
 |quiet K C=>simp only[Mode.run,wpQuiet,hg]at*;exact hn
 |mix sk Q C w=>simp only[Mode.run,ml,hg]at*;exact hn
theorem aq.y (hy:Yl G n op E M.C v) (hd:(qo op && Pt d n)=true) (h:aq G ops M n rest ((d,v)::E)):aq G ops M n (⟨some d,op,ty,pos,aft,none⟩::rest) E:=
 ⟨fun a ha=>HN (by simp only[PD]at hd;exact hd.1) (by simp[Region.wanted]) (fun w hw=>hy.h w hw a ha _ _ _ _ _) (h.h _ (ha.put (by simp only[PD]at hd;simpa using hd.2) v))⟩
theorem aq.yg {j:Nat} {b:Bool} (hg:qn ops E j=some b) (hy:Yl G n op E M.C v) (hd:(qo op && Pt d n)=true) (h:aq G ops M n rest ((d,v)::E)):aq G ops M n (⟨some d,op,ty,pos,aft,some (j,b)⟩::rest) E:=
 ⟨fun a ha=>HN (by simp only[PD]at hd;exact hd.1) (by simp[Region.wanted,nH ha hg]) (fun w hw=>hy.h w hw a ha _ _ _ _ _) (h.h _ (ha.put (by simp only[PD]at hd;simpa using hd.2) v))⟩
theorem aq.gs {j:Nat} {b b':Bool} (hg:qn ops E j=some b') (hb:b'=!b) (hd:Pt d n=true) (h:aq G ops M n rest ((d,undef)::E)):aq G ops M n (⟨some d,op,ty,pos,aft,some (j,b)⟩::rest) E:=
 ⟨fun a ha=>AK (by subst hb;cases b<;>simp[Region.wanted,nH ha hg]) (h.h _ (ha.put (by simpa using hd) undef))⟩
theorem aq.gu {j:Nat} {b:Bool} (hg:JF ops E j=true) (hd:Pt d n=true) (h:aq G ops M n rest ((d,undef)::E)):aq G ops M n (⟨some d,op,ty,pos,aft,some (j,b)⟩::rest) E:=
 ⟨fun a ha=>AK (by simp[Region.wanted,za ha hg]) (h.h _ (ha.put (by simpa using hd) undef))⟩
end
section
variable {G:zc} {n:Nat} {E:Env} {C:World→Prop} {v u:Value} {x y z:Operand} {t t2:TypeId} {p q:Int} {k:IntKind}
theorem Yl.move (hx:ev E x=some v):Yl G n (.move x) E C v:=⟨fun w _ a ha d ty pos aft gd=>by simp[execOp,ha.eval hx]⟩
theorem Yl.assign (hx:ev E x=some v):Yl G n (.assign x) E C v:=⟨fun w _ a ha d ty pos aft gd=>by simp[execOp,ha.eval hx]⟩
theorem Yl.fT (hc:ev E x=some (.bool true)) (hx:ev E y=some v):Yl G n (.pick x y z) E C v:=⟨fun w _ a ha d ty pos aft gd=>by simp[execOp,ha.eval hx,ha.eval hc,asBool]⟩
theorem Yl.fS (hc:ev E x=some (.bool false)) (hx:ev E z=some v):Yl G n (.pick x y z) E C v:=⟨fun w _ a ha d ty pos aft gd=>by simp[execOp,ha.eval hx,ha.eval hc,asBool]⟩
theorem Yl.bin {bo:BinOp} (hx:ev E x=some (.int k p)) (hy:ev E y=some (.int k q)) (hr:∀w,(binOp bo t (.int k p) (.int k q)).run G.P w=.ok v w):Yl G n (.binOp bo t x y t2) E C v:=
 ⟨fun w _ a ha d ty pos aft gd=>by
  have hg:∀b c:Operand,(eqGuard bo t b c (.int k p) (.int k q)).run G.P w=.ok () w:=by
   intro b c;unfold eqGuard;split<;>simp
  simp[execOp,ha.eval hx,ha.eval hy,hg,hr]⟩
theorem Yl.lH (hx:ev E x=some (.int k p)) (hy:ev E y=some (.int k q)) (h:p<q):Yl G n (.binOp .lss t x y t2) E C (.bool true):=Yl.bin hx hy (fun w=>by simp[binOp,Op.intCmp,h])
theorem Yl.lG (hx:ev E x=some (.int k p)) (hy:ev E y=some (.int k q)) (h:q≤p):Yl G n (.binOp .lss t x y t2) E C (.bool false):=Yl.bin hx hy (fun w=>by simp[binOp,Op.intCmp,Int.not_lt.2 h])
theorem Yl.lF (hx:ev E x=some (.int k p)) (hy:ev E y=some (.int k q)) (h:p≤q):Yl G n (.binOp .leq t x y t2) E C (.bool true):=Yl.bin hx hy (fun w=>by simp[binOp,Op.intCmp,h])
theorem Yl.lE (hx:ev E x=some (.int k p)) (hy:ev E y=some (.int k q)) (h:q<p):Yl G n (.binOp .leq t x y t2) E C (.bool false):=Yl.bin hx hy (fun w=>by simp[binOp,Op.intCmp,Int.not_le.2 h])
theorem Yl.lC (hx:ev E x=some (.int k p)) (hy:ev E y=some (.int k q)) (h:q<p):Yl G n (.binOp .gtr t x y t2) E C (.bool true):=Yl.bin hx hy (fun w=>by simp[binOp,Op.intCmp,h])
theorem Yl.lB (hx:ev E x=some (.int k p)) (hy:ev E y=some (.int k q)) (h:p≤q):Yl G n (.binOp .gtr t x y t2) E C (.bool false):=Yl.bin hx hy (fun w=>by simp[binOp,Op.intCmp,Int.not_lt.2 h])
theorem Yl.lA (hx:ev E x=some (.int k p)) (hy:ev E y=some (.int k q)) (h:q≤p):Yl G n (.binOp .geq t x y t2) E C (.bool true):=Yl.bin hx hy (fun w=>by simp[binOp,Op.intCmp,h])
theorem Yl.lz (hx:ev E x=some (.int k p)) (hy:ev E y=some (.int k q)) (h:p<q):Yl G n (.binOp .geq t x y t2) E C (.bool false):=Yl.bin hx hy (fun w=>by simp[binOp,Op.intCmp,Int.not_le.2 h])
theorem Yl.ly (hx:ev E x=some (.int k p)) (hy:ev E y=some (.int k q)) (h:p=q):Yl G n (.binOp .eql t x y t2) E C (.bool true):=Yl.bin hx hy (fun w=>by simp[binOp,Op.intCmp,h])
theorem Yl.lx (hx:ev E x=some (.int k p)) (hy:ev E y=some (.int k q)) (h:p≠q):Yl G n (.binOp .eql t x y t2) E C (.bool false):=Yl.bin hx hy (fun w=>by simp[binOp,Op.intCmp,h])
theorem Yl.lK (hx:ev E x=some (.int k p)) (hy:ev E y=some (.int k q)) (h:p≠q):Yl G n (.binOp .neq t x y t2) E C (.bool true):=Yl.bin hx hy (fun w=>by simp[binOp,Op.intCmp,h])
theorem Yl.lJ (hx:ev E x=some (.int k p)) (hy:ev E y=some (.int k q)) (h:p=q):Yl G n (.binOp .neq t x y t2) E C (.bool false):=Yl.bin hx hy (fun w=>by simp[binOp,Op.intCmp,h])
theorem Yl.add (hx:ev E x=some (.int .i64 p)) (hy:ev E y=some (.int .i64 q)) (h:-9223372036854775808≤p+q∧p+q≤9223372036854775807):Yl G n (.binOp .add t x y t2) E C (.int .i64 (p+q)):=
 Yl.bin hx hy (fun w=>by simp only[binOp,Op.intArith,ne_eq,not_true_eq_false,if_false,IntWalk.i64_in _ h];rfl)
theorem Yl.sub (hx:ev E x=some (.int .i64 p)) (hy:ev E y=some (.int .i64 q)) (h:-9223372036854775808≤p - q∧p - q≤9223372036854775807):Yl G n (.binOp .sub t x y t2) E C (.int .i64 (p - q)):=
 Yl.bin hx hy (fun w=>by simp only[binOp,Op.intArith,ne_eq,not_true_eq_false,if_false,IntWalk.i64_in _ h];rfl)
theorem Yl.JX {a b:Bool} (hx:ev E x=some (.bool a)) (hy:ev E y=some (.bool b)) (ht:∀w,(Op.equal t (.bool a) (.bool b)).run G.P w=.ok (a==b) w):Yl G n (.binOp .eql t x y t2) E C (.bool (a==b)):=
 ⟨fun w _ ac ha d ty pos aft gd=>by simp[execOp,ha.eval hx,ha.eval hy,eqGuard,binOp,ht]⟩
theorem Yl.Jj {a b:Bool} (hx:ev E x=some (.bool a)) (hy:ev E y=some (.bool b)) (ht:∀w,(Op.equal t (.bool a) (.bool b)).run G.P w=.ok (a==b) w):Yl G n (.binOp .neq t x y t2) E C (.bool (a !=b)):=
 ⟨fun w _ ac ha d ty pos aft gd=>by simp[execOp,ha.eval hx,ha.eval hy,eqGuard,binOp,ht,bne]⟩
theorem Yl.not {b:Bool} (hx:ev E x=some (.bool b)):Yl G n (.unOp .not t x) E C (.bool (!b)):=⟨fun w _ a ha d ty pos aft gd=>by simp[execOp,ha.eval hx,Op.unary]⟩
theorem Yl.extract {vs:Array Value} {i:Nat} (hx:ev E x=some (.tuple vs)) (hi:vs[i]?=some v):Yl G n (.extract x i) E C v:=⟨fun w _ a ha d ty pos aft gd=>by simp[execOp,ha.eval hx,Instr.extract,hi]⟩
theorem Yl.nilCheck {ad:Addr} (hx:ev E x=some (.pointer (some ad))):Yl G n (.nilCheck x) E C (.pointer (some ad)):=⟨fun w _ a ha d ty pos aft gd=>by simp[execOp,ha.eval hx]⟩
theorem Yl.makeFunc {fn:Fn} {first cap:List Operand} {fs cs:List Value} (h1:kJ E first=some fs) (h2:kJ E cap=some cs):Yl G n (.makeFunc fn first.toArray cap.toArray) E C (.func fn fs.toArray cs.toArray):=
 ⟨fun w _ a ha d ty pos aft gd=>by
  have e1:=ha.pA h1
  have e2:=ha.pA h2
  simp[execOp,Instr.makeFunc,e1,e2]⟩
theorem Yl.len {ti:TI} {e:Nat} {po:Option Addr} {l c:Nat} (ht:G.ty t=some ti) (he:ti.elem=some e) (hx:ev E x=some (.slice po l c)):Yl G n (.call ⟨.builtin .len,#[x],#[t]⟩) E C (.int .i64 l):=
 ⟨fun w _ a ha d ty pos aft gd=>by
  have:=(G.iT t ti ht).elem e he
  simp[execOp,resolve,invoke,builtin,Builtin.len_,ha.eval hx,run_underlying this,goInt]⟩
theorem Yl.field {ti:TI} {f o bk of_:Nat} (ht:G.ty t=some ti) (ho:ti.pg[f]?=some o) (hx:ev E x=some (.pointer (some ⟨bk,of_,none⟩))):Yl G n (.fieldAddr t x f) E C (.pointer (some ⟨bk,of_+o,none⟩)):=
 ⟨fun w _ a ha d ty pos aft gd=>by
  have:=(G.iT t ti ht).pg f o ho w ⟨bk,of_,none⟩
  have e:(⟨bk,of_,none⟩:Addr).add o=⟨bk,of_+o,none⟩:=by unfold Addr.add;split<;>simp_all
  simp[execOp,ha.eval hx,this,e]⟩
theorem Yl.gJ {ti:TI} {f bk of_:Nat} (ht:G.ty t=some ti) (ho:ti.pg[f]?=some 0) (hx:ev E x=some (.pointer (some ⟨bk,of_,none⟩))):Yl G n (.fieldAddr t x f) E C (.pointer (some ⟨bk,of_,none⟩)):=Yl.field ht ho hx
theorem Yl.idx {ti:TI} {e bk of_ l c i s bt:Nat} {ag:Bool} {el:Option Nat} {os:List Nat} {zr:Value} {ik:Option IntKind} (ht:G.ty t=some ti) (he:ti.elem=some e) (hte:G.ty e=some ⟨s,bt,ag,el,os,zr,ik⟩) (hx:ev E x=some (.slice (some ⟨bk,of_,none⟩) l c)) (hi:ev E y=some (.int k p)) (hp:p=(i:Int)) (hl:i<l):
  Yl G n (.indexAddr t x y) E C (.pointer (some ⟨bk,of_+i*s,none⟩)):=
 ⟨fun w _ a ha d ty pos aft gd=>by
  have h1:=(G.iT t ti ht).elem e he
  have h2:(sizeOf e).run G.P w=.ok s w:=(G.iT e _ hte).size w
  subst hp
  have e1:(⟨bk,of_,none⟩:Addr).add (i*s)=⟨bk,of_+i*s,none⟩:=by
   unfold Addr.add;split
   ·rename_i h;rw[h];rfl
   ·rfl
  simp[execOp,ha.eval hx,ha.eval hi,Instr.indexAt,asIntOf,run_underlying h1,hl,h2,e1]⟩
theorem Yl.gn {ti:TI} {e bk of_ l c i bt:Nat} {ag:Bool} {el:Option Nat} {os:List Nat} {zr:Value} {ik:Option IntKind} (ht:G.ty t=some ti) (he:ti.elem=some e) (hte:G.ty e=some ⟨1,bt,ag,el,os,zr,ik⟩) (hx:ev E x=some (.slice (some ⟨bk,of_,none⟩) l c)) (hi:ev E y=some (.int k p)) (hp:p=(i:Int)) (hl:i<l):
  Yl G n (.indexAddr t x y) E C (.pointer (some ⟨bk,of_+i,none⟩)):=by
 have:=Yl.idx (G:=G) (n:=n) (E:=E) (C:=C) ht he hte hx hi hp hl
 rwa[Nat.mul_one]at this
theorem Yl.jh {ti:TI} {e:Nat} {po:Option Addr} {l c:Nat} (ht:G.ty t=some ti) (he:ti.elem=some e) (hx:ev E x=some (.slice po l c)) (hy:ev E y=some (.slice none 0 0)):Yl G n (.binOp .eql t x y t2) E C (.bool po.isNone):=
 ⟨fun w _ a ha d ty pos aft gd=>by
  have h1:=(G.iT t ti ht).elem e he
  have h2:∀m,(Op.equalIn (m+1) t (.slice po l c) (.slice none 0 0)).run G.P w=.ok po.isNone w:=by
   intro m;cases po<;>simp[Op.equalIn,run_underlying h1]
  have h3:(Op.equal t (.slice po l c) (.slice none 0 0)).run G.P w=.ok po.isNone w:=h2 9999
  simp[execOp,ha.eval hx,ha.eval hy,eqGuard,binOp,h3]⟩
theorem Yl.load {ti:TI} {ad:Addr} (ht:G.ty t=some ti) (ha:ti.agg=false) (hx:ev E x=some (.pointer (some ad))) (hc:∀w,C w→w.cell? ad=some v):Yl G n (.load t x) E C v:=
 ⟨fun w hw a ha' d ty pos aft gd=>by
  have:=(G.iT t ti ht).agg w
  rw[ha]at this
  simp[execOp,ha'.eval hx,Instr.loadAt,Instr.sureAddr,loadVar,this,hc w hw]⟩
theorem run_loadCells {P:Program} {w:World} {bk:Nat}:∀(cs:List Value) (i o:Nat) (acc:Array Value),(∀j,j<cs.length→w.cell? ⟨bk,o+i+j,none⟩=cs[j]?)→(loadCellsFrom ⟨bk,o,none⟩ i cs.length acc).run P w=.ok (acc++cs.toArray) w
 |[],i,o,acc,_=>by simp[loadCellsFrom]
 |c::r,i,o,acc,h=>by
  have h0:=h 0 (by simp)
  have e:(⟨bk,o,none⟩:Addr).add i=⟨bk,o+i,none⟩:=by
   unfold Addr.add;split
   ·rename_i h;rw[h];rfl
   ·rfl
  have ih:=run_loadCells (P:=P) (w:=w) (bk:=bk) r (i+1) o (acc.push c) (fun j hj=>by
   have:=h (j+1) (by simp;omega)
   have e2:o+(i+1)+j=o+i+(j+1):=by omega
   rw[e2,this];simp)
  simp only[List.length_cons,loadCellsFrom,e]
  simp only[Nat.add_zero,List.getElem?_cons_zero]at h0
  simp[h0,ih]
theorem Yl.rZ {ti:TI} {bk of_ s:Nat} {cs:List Value} (ht:G.ty t=some ti) (ha:ti.agg=true) (hs:ti.size=s) (hx:ev E x=some (.pointer (some ⟨bk,of_,none⟩))) (hl:cs.length=s) (hc:∀w,C w→∀j,j<s→w.cell? ⟨bk,of_+j,none⟩=cs[j]?):Yl G n (.load t x) E C (.agg cs.toArray):=
 ⟨fun w hw a ha' d ty pos aft gd=>by
  have h1:=(G.iT t ti ht).agg w
  have h2:=(G.iT t ti ht).size w
  rw[ha]at h1
  subst hl
  have h3:=run_loadCells (P:=G.P) (w:=w) (bk:=bk) cs 0 of_ #[] (fun j hj=>by simpa using hc w hw j hj)
  simp[execOp,ha'.eval hx,Instr.loadAt,Instr.sureAddr,loadVar,h1,h2,hs,loadCells,h3]⟩
end
section
variable {G:zc} {ops:Array Oper} {M:Mode} {n:Nat} {E:Env} {rest l:List Oper} {op:Op} {ty:TypeId} {pos:String} {aft:Array Edge} {d:Option Nat} {gd:Option (Nat×Bool)} {x y:Operand} {t t2:TypeId} {w:World} {Q:Exit→Act→World→Prop}
theorem aq.is (h:aq G ops M n l E):aq G ops M n l E:=h
theorem Cd.is {c:Code} (h:Cd G Q n c E w):Cd G Q n c E w:=h
theorem Fin.is {e:Exit} (h:Fin Q n e E w):Fin Q n e E w:=h
theorem aq.CF {jb:Nat×Bool} (h:aq G ops M n (⟨d,op,ty,pos,aft,some jb⟩::rest) E):aq G ops M n (⟨d,op,ty,pos,aft,some jb⟩::rest) E:=h
theorem aq.aE {bo:BinOp} (h:aq G ops M n (⟨d,.binOp bo t x y t2,ty,pos,aft,gd⟩::rest) E):aq G ops M n (⟨d,.binOp bo t x y t2,ty,pos,aft,gd⟩::rest) E:=h
theorem aq.eN (h:aq G ops M n (⟨d,.indexAddr t x y,ty,pos,aft,gd⟩::rest) E):aq G ops M n (⟨d,.indexAddr t x y,ty,pos,aft,gd⟩::rest) E:=h
theorem aq.isField {f:Nat} (h:aq G ops M n (⟨d,.fieldAddr t x f,ty,pos,aft,gd⟩::rest) E):aq G ops M n (⟨d,.fieldAddr t x f,ty,pos,aft,gd⟩::rest) E:=h
theorem aq.dn (h:aq G ops M n (⟨d,.load t x,ty,pos,aft,gd⟩::rest) E):aq G ops M n (⟨d,.load t x,ty,pos,aft,gd⟩::rest) E:=h
end
theorem Ko {k:IntKind} {a b:Int} (h:a=b):Value.int k a=Value.int k b:=by rw[h]
structure bX (S:Nat→Prop) (w w':World):Prop where
 os:w'.os=w.os
 tape:w'.tape=w.tape
 output:w'.output=w.output
 size:w.heap.size≤w'.heap.size
 block:∀k,k<w.heap.size→¬S k→w'.heap[k]?=w.heap[k]?
abbrev Ext (w w':World):Prop:=bX (fun _=>False) w w'
theorem bX.refl (S:Nat→Prop) (w:World):bX S w w:=⟨rfl,rfl,rfl,Px _,fun _ _ _=>rfl⟩
theorem bX.trans {a b c:World} (h:bX S a b) (k:bX S b c):bX S a c:=
 ⟨k.os.trans h.os,k.tape.trans h.tape,k.output.trans h.output,PE h.size k.size,
  fun i hi hs=>(k.block i (PB hi h.size) hs).trans (h.block i hi hs)⟩
theorem bX.trans' {S T:Nat→Prop} {a b c:World} (h:bX S a b) (k:bX T b c) (hT:∀i,i<a.heap.size→T i→S i):bX S a c:=
 ⟨k.os.trans h.os,k.tape.trans h.tape,k.output.trans h.output,PE h.size k.size,
  fun i hi hs=>(k.block i (PB hi h.size) (fun ht=>hs (hT i hi ht))).trans (h.block i hi hs)⟩
theorem bX.mono {S T:Nat→Prop} {w w':World} (h:bX S w w') (hST:∀k,k<w.heap.size→S k→T k):bX T w w':=
 ⟨h.os,h.tape,h.output,h.size,fun k hk hs=>h.block k hk (fun hk'=>hs (hST k hk hk'))⟩
theorem Ext.any (h:Ext w w'):bX S w w':=h.mono (fun _ _ hk=>hk.elim)
theorem bX.drew {a w:World} (h:bX S a w):bX S a w.drew:=⟨h.os,h.tape,h.output,h.size,h.block⟩
theorem bX.alloc {a w:World} (h:bX S a w) (o:Obj):bX S a (w.alloc o):=
 h.trans ⟨rfl,rfl,rfl,by simp,fun k hk _=>Below.heap_alloc _ _ _ hk⟩
theorem bX.setCell {a w:World} (h:bX S a w) {p:Addr} (hp:p.block<a.heap.size→S p.block) (u:Value):bX S a (w.setCell p u):=
 h.trans' (T:=fun k=>k=p.block) ⟨rfl,rfl,rfl,by simp[World.setCell],fun k _ hs=>Below.heap_setCell _ _ _ _ hs⟩ (fun i hi e=>by subst e;exact hp hi)
theorem bX.lX {row:Option Nat} (hg:w.grownBy w' row):bX (fun k=>row=some k) w w':=
 ⟨hg.os,hg.tape,hg.output,hg.size,fun k hk hs=>hg.block k hk (fun e=>hs e.symm)⟩
theorem bX.below {B:Nat} {w w':World} (h:bX S w w') (_hB:B≤w.heap.size) (hS:∀k,k<B→¬S k):Below B w w':=
 ⟨h.os,h.tape,h.output,h.size,fun k hk=>h.block k (by omega) (hS k hk)⟩
theorem Ext.CK (h:Below w.heap.size w w'):Ext w w':=
 ⟨h.os,h.tape,h.output,h.size,fun k hk _=>h.block k hk⟩
theorem Ext.below (h:Ext w w'):Below w.heap.size w w':=bX.below h (Px _) (fun _ _ h=>h)
theorem fy {w:World} {p:Addr} {v:Value} (hc:w.cell? p=some v):p.block<w.heap.size:=by
 by_cases hlt:p.block<w.heap.size
 ·exact hlt
 ·simp[World.cell?,Array.getElem?_eq_none (Nat.le_of_not_lt hlt)]at hc
theorem bX.cell (h:bX S w w') {p:Addr} {v:Value} (hp:¬S p.block) (hc:w.cell? p=some v):w'.cell? p=some v:=by
 rw[World.cell?_of_block (w:=w) (h.block p.block (fy hc) hp)];exact hc
theorem Ext.cell (h:Ext w w') {p:Addr} {v:Value} (hc:w.cell? p=some v):w'.cell? p=some v:=bX.cell h id hc
theorem sa {w:World} {p:Addr} {v:Value} {q:Nat} (h:w.cell? p=some v):∀w',w'=w.drewN q→w'.cell? p=some v:=by rintro _ rfl;exact h
def gQ (w:World) (b:Nat) (cs:List Value) (T:TypeId):Prop:=w.heap[b]?=some (.cells cs.toArray T (0,0))
theorem gQ.lt {w:World} {b:Nat} {cs:List Value} {T:TypeId} (h:gQ w b cs T):b<w.heap.size:=by
 by_cases hlt:b<w.heap.size
 ·exact hlt
 ·simp[gQ,Array.getElem?_eq_none (Nat.le_of_not_lt hlt)]at h
theorem gQ.cell {w:World} {b:Nat} {cs:List Value} {T:TypeId} (h:gQ w b cs T) {j:Nat} {v:Value} (hj:cs[j]?=some v):w.cell? ⟨b,j,none⟩=some v:=by
 unfold gQ at h;simp[World.cell?,h,hj]
theorem gQ.free {w:World} {b:Nat} {cs:List Value} {T:TypeId} (h:gQ w b cs T) (j:Nat):w.frozen? ⟨b,j,none⟩=false:=by
 unfold gQ at h;simp[World.frozen?,h]
theorem gQ.aN {b:Nat} {cs:List Value} {T:TypeId} (h:gQ w b cs T) (hc:bX S w w') (hb:¬S b):gQ w' b cs T:=by
 unfold gQ at*;rw[hc.block b (gQ.lt h) hb];exact h
theorem gQ.set {w:World} {b:Nat} {cs:List Value} {T:TypeId} (h:gQ w b cs T) (j:Nat) (v:Value):gQ (w.setCell ⟨b,j,none⟩ v) b (cs.set j v) T:=by
 unfold gQ at*
 simp[World.setCell,Array.getElem?_modify,h]
structure zk (w w':World) (cs:List Value) (T:TypeId):Prop where
 ext:Ext w w'
 size:w'.heap.size=w.heap.size+1
 aW:gQ w' w.heap.size cs T
theorem zk.alloc (w:World) (cs:List Value) (T:TypeId):zk w (w.alloc (.cells cs.toArray T)) cs T:=
 ⟨(bX.refl _ _).alloc _,by simp,heap_alloc_new w _⟩
section
variable {G:zc} {ops:Array Oper} {Q:Exit→Act→World→Prop} {C:World→Prop} {n:Nat} {E:Env} {w:World} {rest:List Oper} {op:Op} {ty:TypeId} {pos:String} {aft:Array Edge} {v:Value} {d:Nat} {x y z:Operand} {t:TypeId} {K:Value→World→Prop}
structure bU (G:zc) (n:Nat) (op:Op) (E:Env) (w:World) (K:Value→World→Prop):Prop where
 h:∀a,Ag n a E→∀d ty pos aft gd,lS G.P K ((execOp a.eval ⟨d,op,ty,pos,aft,gd⟩).run G.P w)
theorem B5 {a:Act} {o:Oper} (hg:Region.wanted o (yielded ops a.tmps)=true) (h:lS G.P (fun v w'=>wpList G.P ops Q rest (a.put o.dst v) w') ((execOp a.eval o).run G.P w)):wpList G.P ops Q (o::rest) a w:=by
 unfold wpList
 simp only[hg,if_true]
 refine .inl ?_
 unfold Oper.wp
 generalize (execOp a.eval o).run G.P w=r at*
 cases r with
 |ok k w'=>
  cases k<;>simp only[lS]at h<;>simp only[Oper.upon]
  case value v=>exact h
  case skip=>exact h
  case enter f args=>
   refine h.mono fun e w'' ⟨v,e1,h1⟩=>?_
   subst e1
   exact h1
 |halt x w'=>exact h.elim
theorem aq.e (he:bU G n op E w K) (hd:Pt d n=true) (h:∀v w',K v w'→aq G ops (.list Q w') n rest ((d,v)::E)):aq G ops (.list Q w) n (⟨some d,op,ty,pos,aft,none⟩::rest) E:=
 ⟨fun a ha=>B5 (by simp[Region.wanted]) (dx (he.h a ha _ _ _ _ _) fun v w' hk=>(h v w' hk).h _ (ha.put (by simpa using hd) v))⟩
theorem aq.e0 (he:bU G n op E w K) (h:∀v w',K v w'→aq G ops (.list Q w') n rest E):aq G ops (.list Q w) n (⟨none,op,ty,pos,aft,none⟩::rest) E:=
 ⟨fun a ha=>B5 (by simp[Region.wanted]) (dx (he.h a ha _ _ _ _ _) fun v w' hk=>(h v w' hk).h _ ha)⟩
theorem aq.eg {j:Nat} {b:Bool} (hg:qn ops E j=some b) (he:bU G n op E w K) (hd:Pt d n=true) (h:∀v w',K v w'→aq G ops (.list Q w') n rest ((d,v)::E)):aq G ops (.list Q w) n (⟨some d,op,ty,pos,aft,some (j,b)⟩::rest) E:=
 ⟨fun a ha=>B5 (by simp[Region.wanted,nH ha hg]) (dx (he.h a ha _ _ _ _ _) fun v w' hk=>(h v w' hk).h _ (ha.put (by simpa using hd) v))⟩
theorem aq.m {sk:Bool} (he:bU G n op E w K) (hd:(!qo op && Pt d n)=true) (h:∀v w',K v w'→C w'∧aq G ops (.mix sk Q C w') n rest ((d,v)::E)):aq G ops (.mix sk Q C w) n (⟨some d,op,ty,pos,aft,none⟩::rest) E:=
 ⟨fun a ha=>by
  simp only[PD,Ql]at hd
  simp only[Mode.run,ml,Region.wanted,hd.1,if_true]
  exact dx (he.h a ha _ _ _ _ _) fun v w' hk=>⟨.inr (h v w' hk).1,(h v w' hk).2.h _ (ha.put (by simpa using hd.2) v)⟩⟩
theorem aq.mz (he:bU G n op E w K) (hd:(!qo op && Pt d n)=true) (h:∀v w',K v w'→aq G ops (.mix true Q C w') n [] ((d,v)::E)):aq G ops (.mix true Q C w) n [⟨some d,op,ty,pos,aft,none⟩] E:=
 ⟨fun a ha=>by
  simp only[PD,Ql]at hd
  simp only[Mode.run,ml,Region.wanted,hd.1,if_true]
  exact dx (he.h a ha _ _ _ _ _) fun v w' hk=>⟨.inl (by simp),(h v w' hk).h _ (ha.put (by simpa using hd.2) v)⟩⟩
theorem aq.Lj (he:bU G n op E w K) (hd:qo op=false) (h:∀v w',K v w'→aq G ops (.mix true Q C w') n [] E):aq G ops (.mix true Q C w) n [⟨none,op,ty,pos,aft,none⟩] E:=
 ⟨fun a ha=>by
  simp only[Mode.run,ml,Region.wanted,hd,if_true]
  exact dx (he.h a ha _ _ _ _ _) fun v w' hk=>⟨.inl (by simp),(h v w' hk).h _ ha⟩⟩
theorem bU.of {w':World} (hr:∀a,Ag n a E→∀d ty pos aft gd,(execOp a.eval ⟨d,op,ty,pos,aft,gd⟩).run G.P w=.ok (.value v) w') (hk:K v w'):bU G n op E w K:=⟨fun a ha d ty pos aft gd=>by rw[hr a ha];exact hk⟩
theorem bU.jl {w':World} (hr:∀a,Ag n a E→∀d ty pos aft gd,(execOp a.eval ⟨d,op,ty,pos,aft,gd⟩).run G.P w=.ok .skip w') (hk:K undef w'):bU G n op E w K:=⟨fun a ha d ty pos aft gd=>by rw[hr a ha];exact hk⟩
theorem bU.mono {K':Value→World→Prop} (h:bU G n op E w K) (hk:∀v w,K v w→K' v w):bU G n op E w K':=⟨fun a ha d ty pos aft gd=>dx (h.h a ha d ty pos aft gd) hk⟩
theorem bU.alloc {ti:TI} (ht:G.ty t=some ti):bU G n (.alloc t) E w (fun v w'=>v=.pointer (some ⟨w.heap.size,0,none⟩)∧zk w w' ti.zero.cells.toList t):=by
 refine bU.of (w':=w.alloc (.cells ti.zero.cells t)) (v:=.pointer (some ⟨w.heap.size,0,none⟩)) (fun a _ d ty pos aft gd=>?_) ⟨rfl,?_⟩
 ·have:=(G.iT t ti ht).zeroV w
  simp[execOp,Instr.alloc,this,newVar,newRow]
 ·have:=zk.alloc w ti.zero.cells.toList t
  simpa using this
theorem bU.box {cs:List Value} (hx:ev E x=some v) (hcs:v.cells=cs.toArray):bU G n (.box t x) E w (fun v w'=>v=.pointer (some ⟨w.heap.size,0,none⟩)∧zk w w' cs t):=by
 refine bU.of (w':=w.alloc (.cells cs.toArray t)) (v:=.pointer (some ⟨w.heap.size,0,none⟩)) (fun a ha d ty pos aft gd=>?_) ⟨rfl,zk.alloc w cs t⟩
 simp[execOp,Instr.box,ha.eval hx,newVar,newRow,hcs]
theorem xN (f:Operand→Value) (parts:List (Nat×Operand)):(parts.map fun(i,x)=>(i,f x))=(parts.map (·.1)).zip ((parts.map (·.2)).map f):=by
 induction parts with
 |nil=>rfl
 |cons p r ih=>simp[ih]
theorem bU.buildSlice {e len:Nat} {parts:List (Nat×Operand)} {vs cs:List Value} (hv:kJ E (parts.map (·.2))=some vs)
  (hr:(Instr.buildSlice t len ((parts.map (·.1)).zip vs).toArray).run G.P w=.ok (.slice (some ⟨w.heap.size,0,none⟩) len len) (w.alloc (.cells cs.toArray e))):
  bU G n (.buildSlice t len parts.toArray) E w (fun v w'=>v=.slice (some ⟨w.heap.size,0,none⟩) len len∧zk w w' cs e):=by
 refine bU.of (w':=w.alloc (.cells cs.toArray e)) (v:=.slice (some ⟨w.heap.size,0,none⟩) len len) (fun a ha d ty pos aft gd=>?_) ⟨rfl,zk.alloc w cs e⟩
 have e1:(parts.map fun(i,x)=>(i,a.eval x))=(parts.map (·.1)).zip vs:=by
  rw[←ha.pA hv]
  exact xN a.eval parts
 simp only[execOp,List.map_toArray,e1]
 simp[hr]
theorem Yl.build {parts:List (Nat×Operand)} {vs:List Value} (hv:kJ E (parts.map (·.2))=some vs) (hr:∀w,(Instr.build t ((parts.map (·.1)).zip vs).toArray).run G.P w=.ok v w):
  Yl G n (.build t parts.toArray) E C v:=⟨fun w _ a ha d ty pos aft gd=>by
 have e1:(parts.map fun(i,x)=>(i,a.eval x))=(parts.map (·.1)).zip vs:=by
  rw[←ha.pA hv]
  exact xN a.eval parts
 simp only[execOp,List.map_toArray,e1]
 simp[hr]⟩
theorem bU.store {ti:TI} {ad:Addr} {old:Value} (ht:G.ty t=some ti) (hs:ti.size=1) (hx:ev E x=some (.pointer (some ad))) (hy:ev E y=some v) (hv:v.oneCell'=true) (hc:w.cell? ad=some old) (hf:w.frozen? ad=false):
  bU G n (.store t x y) E w (fun _ w'=>w'=w.setCell ad v):=by
 refine bU.jl (w':=w.setCell ad v) (fun a ha d ty pos aft gd=>?_) rfl
 have h1:=(G.iT t ti ht).size w
 rw[hs]at h1
 have e1:v.cells=#[v]:=by cases v<;>simp_all [Value.cells,Qf]
 have e2:ad.add 0=ad:=by simp[Addr.add]
 have h2:=run_store G.P w ad v .plain hv
 rw[hc]at h2
 simp only[hf]at h2
 simp[execOp,ha.eval hx,ha.eval hy,Instr.storeAt,Instr.sureAddr,storeVar,h1,e1,storeCells,e2,h2]
theorem bU.B9 {ti:TI} {b j T:Nat} {cs:List Value} (ht:G.ty t=some ti) (hs:ti.size=1) (hx:ev E x=some (.pointer (some ⟨b,j,none⟩))) (hy:ev E y=some v) (hv:v.oneCell'=true) (hb:gQ w b cs T) (hj:j<cs.length):
  bU G n (.store t x y) E w (fun _ w'=>gQ w' b (cs.set j v) T∧bX (fun k=>k=b) w w'∧w'.heap.size=w.heap.size):=
 (bU.store ht hs hx hy hv (hb.cell (List.getElem?_eq_getElem hj)) (hb.free j)).mono fun _ w' e=>by
  subst e
  exact⟨hb.set j v,bX.setCell (S:=fun k=>k=b) (p:=⟨b,j,none⟩) (bX.refl _ w) (fun _=>rfl) v,by simp[World.setCell]⟩
theorem bU.bn {ti:TI} {b T:Nat} {old cs:List Value} (ht:G.ty t=some ti) (hx:ev E x=some (.pointer (some ⟨b,0,none⟩))) (hy:ev E y=some v) (hcs:v.cells=cs.toArray) (hs:ti.size=cs.length) (hv:∀u∈cs,u.oneCell'=true)
  (hb:gQ w b old T) (hl:old.length=cs.length):bU G n (.store t x y) E w (fun _ w'=>gQ w' b cs T∧bX (fun k=>k=b) w w'∧w'.heap.size=w.heap.size):=by
 have h3:=run_storeCells_at (P:=G.P) b 0 T cs 0 old.toArray w hb (by simp;omega) hv
 have e3:(old.toArray.toList.take (0+0)++cs++old.toArray.toList.drop (0+0+cs.length)).toArray=cs.toArray:=by simp[hl]
 rw[e3]at h3
 have hset:∀k,k≠b→(w.setRow b cs.toArray).heap[k]?=w.heap[k]?:=fun k hk=>by
  simp only[World.setRow,Array.getElem?_modify]
  rw[if_neg (fun e=>hk e.symm)]
 refine bU.jl (w':=w.setRow b cs.toArray) (fun a ha d ty pos aft gd=>?_) ⟨setRow_heap w b _ _ T _ hb,⟨rfl,rfl,rfl,by simp[World.setRow],fun k _ hk=>hset k hk⟩,by simp[World.setRow]⟩
 have h1:=(G.iT t ti ht).size w
 simp[execOp,ha.eval hx,ha.eval hy,Instr.storeAt,Instr.sureAddr,storeVar,h1,hcs,hs,h3]
theorem Yl.cZ {k:IntKind} {p:Int} {ti te:TI} {e l c i:Nat} {po:Option Addr} (ht:G.ty t=some ti) (he:ti.elem=some e) (hte:G.ty e=some te) (hx:ev E x=some (.slice po l c)) (hi:ev E y=some (.int k p)) (hp:p=(i:Int)) (hc:i≤c):
  Yl G n (.slice t x none (some y) none) E C (.slice po i c):=⟨fun w _ a ha d ty pos aft gd=>by
 have h1:=(G.iT t ti ht).elem e he
 have h2:=(G.iT e te hte).size w
 subst hp
 have e1:∀ad:Addr,ad.add 0=ad:=fun ad=>by simp[Addr.add]
 by_cases hc0:c=0
 ·subst hc0
  obtain rfl:i=0:=by omega
  cases po<;>simp[execOp,ha.eval hx,ha.eval hi,Instr.sliceAt,Instr.slice,Instr.sliceBounds,Instr.sliceBound,asIntOf,run_underlying h1,h2]
 ·cases po<;>simp[execOp,ha.eval hx,ha.eval hi,Instr.sliceAt,Instr.slice,Instr.sliceBounds,Instr.sliceBound,asIntOf,run_underlying h1,h2,hc,e1]⟩
theorem xU {P:Program} {w:World} {base:Nat} {t ty e:TypeId} {i:TypeInfo} {z:Value} (ht:P.underlying t=some (.slice e)) (hi:P.info? e=some i) (hz:i.zero=some z)
  {v:Value} {n:Nat} {xs:List Value} (hown:w.ownsRow base e i.size v n xs) {a:Addr} {m c:Nat} {news:List Value} (hl:news.length=m*i.size) (hnews:∀j u,news[j]?=some u→w.cell? (a.add j)=some u) (h1:∀u∈news,u.oneCell'=true)
  (h63:n+m≤maxLen) (hbytes:(n+m)*i.bytes≤140737488355328) {v':Value} {w':World} (hr:(Builtin.append_ #[t,t] ty #[v,.slice (some a) m c]).run P w=.ok v' w'):v'.ownBlock=v.ownBlock∨v'.ownBlock=some w.heap.size:=by
 have hsmall:n+m≤9223372036854775807:=by simp only[maxLen]at h63;omega
 rcases hown.2 with⟨rfl,rfl⟩|⟨g,cap,cur,rfl,hbg,hg,hnc,hcm,hcs,htake⟩
 ·by_cases hm:m=0
  ·subst hm
   have hr':(Builtin.append_ #[t,t] ty #[.slice none 0 0,.slice (some a) 0 c]).run P w=.ok (.slice none 0 0) w:=by
    simp[Builtin.append_,run_underlying ht,sizeOf,typeInfo,hi,Builtin.lenOf,Builtin.firstCells,loadCells,loadCellsFrom]
   rw[hr']at hr;cases hr;exact .inl rfl
  ·have hr':=run_append_nil (P:=P) w t ty e i z ht hi hz a m c news hl hnews (by omega) (by omega) (by have hb:=hbytes;simp only[Nat.zero_add]at hb;omega)
   rw[hr']at hr;cases hr;exact .inr rfl
 ·by_cases hroom:n+m≤cap
  ·have hfit:n*i.size+news.length≤cur.size:=by rw[hl,hcs,←Nat.add_mul];exact Nat.mul_le_mul_right _ hroom
   have hr':=run_append_room (P:=P) w t ty e i ht hi g n cap cur hg a m c news hl hnews h1 hroom hfit
   rw[hr']at hr;cases hr;exact .inl rfl
  ·have holds:∀j u,xs[j]?=some u→w.cell? ((⟨g,0,none⟩:Addr).add j)=some u:=hown.cells (g:=g) rfl
   have hr':=run_append_grow (P:=P) w t ty e i z ht hi hz ⟨g,0,none⟩ n cap xs hown.1 holds a m c news hl hnews (by omega) (by omega) (growslice_fits (by omega) hbytes)
   rw[hr']at hr;cases hr;exact .inr rfl
theorem bU.oT {ti te:TI} {e base len m c bk of_:Nat} {xs news:List Value} (ht:G.ty t=some ti) (he:ti.elem=some e) (hte:G.ty e=some te) (hzs:te.zero.cells.size=te.size) (hsz:0<te.size)
  (hx:ev E x=some v) (hown:w.ownsRow base e te.size v len xs) (hy:ev E y=some (.slice (some ⟨bk,of_,none⟩) m c)) (hl:news.length=m*te.size) (hnews:∀j u,news[j]?=some u→w.cell? ⟨bk,of_+j,none⟩=some u) (h1:∀u∈news,u.oneCell'=true)
  (h63:len+m≤maxLen) (hbytes:(len+m)*te.bytes≤140737488355328) (hbase:base≤w.heap.size):
  bU G n (.call ⟨.builtin .append,#[x,y],#[t,t]⟩) E w (fun v' w'=>w'.ownsRow base e te.size v' (len+m) (xs++news)∧bX (fun k=>v.ownBlock=some k) w w'∧(v'.ownBlock=v.ownBlock∨v'.ownBlock=some w.heap.size)):=by
 obtain⟨i,hi,hz,hs,hb⟩:=info_parts (G.iT e te hte).info
 have e1:∀j,(⟨bk,of_,none⟩:Addr).add j=⟨bk,of_+j,none⟩:=fun j=>by
  unfold Addr.add;split
  ·rename_i h;rw[h];rfl
  ·rfl
 obtain⟨v',w',hr,ho,hg,_⟩:=run_append_own (P:=G.P) w base t 0 e i te.zero te.size te.bytes ((G.iT t ti ht).elem e he) hi hz hs hb hzs hsz v len xs hown ⟨bk,of_,none⟩ m c news hl (fun j u hj=>by rw[e1];exact hnews j u hj) h1 h63 hbytes hbase
 have hob:v'.ownBlock=v.ownBlock∨v'.ownBlock=some w.heap.size:=xU (i:=i) (z:=te.zero) ((G.iT t ti ht).elem e he) hi hz (by rw[hs];exact hown) (by rw[hs];exact hl) (fun j u hj=>by rw[e1];exact hnews j u hj) h1 h63 (by rw[hb];exact hbytes) hr
 refine bU.of (w':=w') (v:=v') (fun a ha d ty pos aft gd=>?_) ⟨ho,bX.lX hg,hob⟩
 have hr':(Builtin.append_ #[t,t] ty #[v,.slice (some ⟨bk,of_,none⟩) m c]).run G.P w=.ok v' w':=hr
 simp[execOp,resolve,invoke,builtin,ha.eval hx,ha.eval hy,hr']
theorem bU.xT {ti te:TI} {e l c c2:Nat} {po p2:Option Addr} (ht:G.ty t=some ti) (he:ti.elem=some e) (hte:G.ty e=some te) (hx:ev E x=some (.slice po l c)) (hlc:l≤c) (hy:ev E y=some (.slice p2 0 c2)):
  bU G n (.call ⟨.builtin .append,#[x,y],#[t,t]⟩) E w (fun v' w'=>v'=.slice po l c∧w'=w):=by
 have h1:=(G.iT t ti ht).elem e he
 have h2:=(G.iT e te hte).size w
 refine bU.of (w':=w) (v:=.slice po l c) (fun a ha d ty pos aft gd=>?_) ⟨rfl,rfl⟩
 cases po<;>cases p2<;>simp[execOp,resolve,invoke,builtin,ha.eval hx,ha.eval hy,Builtin.append_,run_underlying h1,h2,Builtin.lenOf,Builtin.firstCells,hlc,loadCells,loadCellsFrom,storeCells]
theorem bU.make {ti te:TI} {e base len:Nat} (ht:G.ty t=some ti) (he:ti.elem=some e) (hte:G.ty e=some te) (hx:ev E x=some (.int .i64 (len:Int))) (_hbytes:te.bytes*len≤140737488355328) (h63:len≤maxLen) (hbase:base≤w.heap.size):
  bU G n (.makeSlice t x x) E w (fun v w'=>v=.slice (some ⟨w.heap.size,0,none⟩) len len∧w'.ownsRow base e te.size (.slice (some ⟨w.heap.size,0,none⟩) len len) len (madeCells te.zero.cells (len*te.size)).toList∧Ext w w'∧w.heap.size<w'.heap.size):=by
 obtain⟨i,hi,hz,hs,hb⟩:=info_parts (G.iT e te hte).info
 obtain⟨w',hr,ho,hg⟩:=run_make_full (P:=G.P) w base t e i te.zero te.size ((G.iT t ti ht).elem e he) hi hz hs .i64 .i64 len (by rw[hb];omega) h63 hbase
 refine bU.of (w':=w') (fun a ha d ty pos aft gd=>?_) ⟨rfl,ho,(bX.lX hg).mono (fun _ _ h=>by cases h),(ho.lt w.heap.size rfl).2⟩
 simp[execOp,ha.eval hx,hr]
theorem bU.call {f:Nat} {args:List Operand} {tys:Array TypeId} {vs:List Value} {R:Ending→World→Prop} (hf:G.fb[f]?=some true) (ha:kJ E args=some vs) (hc:Calls G.P f vs.toArray w R) (hR:∀e w',R e w'→∃v,e=.returned v):
  bU G n (.call ⟨.value (.func f),args.toArray,tys⟩) E w (fun v w'=>R (.returned v) w'):=⟨fun a hag d ty pos aft gd=>by
 have e1:=hag.pA ha
 have hr:(execOp a.eval ⟨d,.call ⟨.value (.func f),args.toArray,tys⟩,ty,pos,aft,gd⟩).run G.P w=.ok (.enter f vs.toArray) w:=by
  have h2:=G.Dq f hf vs.toArray w
  simp[execOp,resolve,Deferred.ofValue,Act.eval,invoke,e1,h2]
 rw[hr]
 exact hc.mono fun e w' h=>by obtain⟨v,rfl⟩:=hR e w' h;exact⟨v,rfl,h⟩⟩
theorem bU.eU {f:Nat} {fo:Operand} {cap:List Value} {args:List Operand} {tys:Array TypeId} {vs:List Value} {R:Ending→World→Prop} (hfo:ev E fo=some (.func (.func f) #[] cap.toArray)) (hf:G.fb[f]?=some true) (ha:kJ E args=some vs) (hc:Calls G.P f (vs++cap).toArray w R) (hR:∀e w',R e w'→∃v,e=.returned v):
  bU G n (.call ⟨.value fo,args.toArray,tys⟩) E w (fun v w'=>R (.returned v) w'):=⟨fun a hag d ty pos aft gd=>by
 have e1:=hag.pA ha
 have hr:(execOp a.eval ⟨d,.call ⟨.value fo,args.toArray,tys⟩,ty,pos,aft,gd⟩).run G.P w=.ok (.enter f (vs++cap).toArray) w:=by
  have h2:=G.Dq f hf (vs++cap).toArray w
  simp[execOp,resolve,Deferred.ofValue,hag.eval hfo,invoke,e1]at h2 ⊢
  exact h2
 rw[hr]
 exact hc.mono fun e w' h=>by obtain⟨v,rfl⟩:=hR e w' h;exact⟨v,rfl,h⟩⟩
theorem aq.call {f:Nat} {args:List Operand} {tys:Array TypeId} {vs:List Value} {R:Ending→World→Prop} (hf:G.fb[f]?=some true) (ha:kJ E args=some vs) (hd:Pt d n=true) (hc:Calls G.P f vs.toArray w R)
  (h:∀e w',R e w'→∃v,e=.returned v∧aq G ops (.list Q w') n rest ((d,v)::E)):aq G ops (.list Q w) n (⟨some d,.call ⟨.value (.func f),args.toArray,tys⟩,ty,pos,aft,none⟩::rest) E:=
 aq.e (bU.call hf ha hc fun e w' hR=>⟨_,(h e w' hR).choose_spec.1⟩) hd fun v w' hR=>by obtain⟨u,e1,h1⟩:=h _ _ hR;cases e1;exact h1
theorem aq.xg {f j:Nat} {b:Bool} {args:List Operand} {tys:Array TypeId} {vs:List Value} {R:Ending→World→Prop} (hg:qn ops E j=some b) (hf:G.fb[f]?=some true) (ha:kJ E args=some vs) (hd:Pt d n=true) (hc:Calls G.P f vs.toArray w R)
  (h:∀e w',R e w'→∃v,e=.returned v∧aq G ops (.list Q w') n rest ((d,v)::E)):aq G ops (.list Q w) n (⟨some d,.call ⟨.value (.func f),args.toArray,tys⟩,ty,pos,aft,some (j,b)⟩::rest) E:=
 aq.eg hg (bU.call hf ha hc fun e w' hR=>⟨_,(h e w' hR).choose_spec.1⟩) hd fun v w' hR=>by obtain⟨u,e1,h1⟩:=h _ _ hR;cases e1;exact h1
theorem aq.I0 {K:Act→Prop} {f:Nat} {args:List Operand} {tys:Array TypeId} {vs:List Value} (hf:G.fb[f]?=some true) (ha:kJ E args=some vs) (hd:Pt d n=true) (hc:∀w,C w→Calls G.P f vs.toArray w (fun e w'=>e=.returned v∧C w'))
  (h:aq G ops (.quiet K C) n rest ((d,v)::E)):aq G ops (.quiet K C) n (⟨some d,.call ⟨.value (.func f),args.toArray,tys⟩,ty,pos,aft,none⟩::rest) E:=⟨fun a hag=>by
 have e1:=hag.pA ha
 simp only[Mode.run,wpQuiet,Region.wanted,if_true]
 refine⟨v,fun w hw=>?_,h.h _ (hag.put (by simpa using hd) v)⟩
 unfold Oper.quietAt
 have hr:(execOp a.eval ⟨some d,.call ⟨.value (.func f),args.toArray,tys⟩,ty,pos,aft,none⟩).run G.P w=.ok (.enter f vs.toArray) w:=by
  have h2:=G.Dq f hf vs.toArray w
  simp[execOp,resolve,Deferred.ofValue,Act.eval,invoke,e1,h2]
 rw[hr]
 exact⟨rfl,hc w hw⟩⟩
theorem aq.H4 {K:Act→Prop} {f j:Nat} {b:Bool} {args:List Operand} {tys:Array TypeId} {vs:List Value} (hg:qn ops E j=some b) (hf:G.fb[f]?=some true) (ha:kJ E args=some vs) (hd:Pt d n=true) (hc:∀w,C w→Calls G.P f vs.toArray w (fun e w'=>e=.returned v∧C w'))
  (h:aq G ops (.quiet K C) n rest ((d,v)::E)):aq G ops (.quiet K C) n (⟨some d,.call ⟨.value (.func f),args.toArray,tys⟩,ty,pos,aft,some (j,b)⟩::rest) E:=⟨fun a hag=>by
 have e1:=hag.pA ha
 have hw:Region.wanted ⟨some d,.call ⟨.value (.func f),args.toArray,tys⟩,ty,pos,aft,some (j,b)⟩ (yielded ops a.tmps)=true:=by simp[Region.wanted,nH hag hg]
 simp only[Mode.run,wpQuiet,hw,if_true]
 refine⟨v,fun w hw=>?_,h.h _ (hag.put (by simpa using hd) v)⟩
 unfold Oper.quietAt
 have hr:(execOp a.eval ⟨some d,.call ⟨.value (.func f),args.toArray,tys⟩,ty,pos,aft,some (j,b)⟩).run G.P w=.ok (.enter f vs.toArray) w:=by
  have h2:=G.Dq f hf vs.toArray w
  simp[execOp,resolve,Deferred.ofValue,Act.eval,invoke,e1,h2]
 rw[hr]
 exact⟨rfl,hc w hw⟩⟩
end
theorem run_equalIn_bool (ht:P.underlying t=some .bool) (d:Nat) (a b:Bool) (w:World):(Op.equalIn (d+1) t (.bool a) (.bool b)).run P w=.ok (a==b) w:=by
 simp[Op.equalIn,run_underlying ht]
theorem run_equal_bool (ht:P.underlying t=some .bool) (a b:Bool) (w:World):(Op.equal t (.bool a) (.bool b)).run P w=.ok (a==b) w:=run_equalIn_bool ht 9999 a b w
theorem Yl.mr {G:zc} {n:Nat} {E:Env} {C:World→Prop} {x y:Operand} {t t2:TypeId} {a b:Bool} (ht:G.P.underlying t=some .bool) (hx:ev E x=some (.bool a)) (hy:ev E y=some (.bool b)):Yl G n (.binOp .neq t x y t2) E C (.bool (a !=b)):=
 Yl.Jj hx hy (run_equal_bool ht a b)
theorem Yl.mq {G:zc} {n:Nat} {E:Env} {C:World→Prop} {x y:Operand} {t t2:TypeId} {a b:Bool} (ht:G.P.underlying t=some .bool) (hx:ev E x=some (.bool a)) (hy:ev E y=some (.bool b)):Yl G n (.binOp .eql t x y t2) E C (.bool (a==b)):=
 Yl.JX hx hy (run_equal_bool ht a b)
structure eA (p:Prop):Prop where
 out:p
theorem am {g:Prop} (h:g:=by first|omega|exact ah.aM (.inl rfl) rfl rfl rfl rfl rfl aH rfl rfl fun w' hw'=>⟨⟨(_,_),rfl,by first|exact ai.cH _ _|fail,by first|exact ai.cH _ _|fail⟩,hw'.at⟩):g:=h
theorem ap {g:Prop} (h:g:=by first|omega|exact ah.aG rfl rfl fun w' hw'=>aC.qM (x:=(tv1,pv1)) trivial hS hw' dV ak):g:=h
theorem bi {g:Prop} (h:g:=by exact ah.next (j+1) bH bz aU ⟨by omega,hst.2 he⟩ (by omega)):g:=h
theorem ci {g:Prop} (h:g:=by exact ah.aG rfl rfl fun w' hw'=>⟨by rw[decide_eq_false];intro e;exact he (by rw[e]),hw'.at⟩):g:=h
theorem dl {g:Prop} (h:g:=by exact ah.aG rfl rfl fun w' hw'=>⟨by rw[decide_eq_true heq],hw'.at⟩):g:=h
theorem f8 {g:Prop} (h:g:=by first|omega|exact ah.aG rfl rfl fun w' hw'=>⟨by rw[decide_eq_false];intro e;exact hlen (by rw[e]),hw'.at⟩):g:=h
theorem gc {g:Prop} (h:g:=by exact ah.bB (.inl rfl) rfl rfl rfl rfl rfl aH rfl fun w' hw'=>⟨by rfl,hw'.at⟩):g:=h
theorem ge {g:Prop} (h:g:=by exact ah.aG rfl rfl fun w' hw'=>⟨by rfl,hw'.at⟩):g:=h
theorem gt {g:Prop} (h:g:=by exact ah.aG rfl rfl fun w' hw'=>⟨rfl,hw'.at⟩):g:=h
theorem ii {g:Prop} (h:g:=by exact ah.next (j+1) bH bz aU ⟨by omega,by rw[hst,hi]⟩ (by omega)):g:=h
theorem ip {g:Prop} (h:g:=by exact ah.aG rfl rfl fun w' hw'=>⟨by clear hw' hl hk ho hu;simp_all [bW],hw'.at⟩):g:=h
theorem jp {g:Prop} (h:g:=by exact ah.aM (.inl rfl) rfl rfl rfl rfl rfl aH rfl rfl fun w' hw'=>⟨by rw[e];rfl,hw'.at⟩):g:=h
theorem kw {g:Prop} (h:g:=by first|omega|exact ah.aM (.inl rfl) rfl rfl rfl rfl rfl aH rfl rfl fun w' hw'=>⟨by rw[e];rfl,hw'.at⟩):g:=h
theorem li {g:Prop} (h:g:=by exact ah.aM (.inl rfl) rfl rfl rfl rfl rfl aH rfl rfl fun w' hw'=>⟨by rfl,hw'.at⟩):g:=h
theorem lm {g:Prop} (h:g:=by first|omega|exact ah.aM (.inl rfl) rfl rfl rfl rfl rfl aH rfl rfl fun w' hw'=>⟨by rfl,hw'.at⟩):g:=h
theorem lw {g:Prop} (h:g:=by first|omega|exact ah.bB (.inl rfl) rfl rfl rfl rfl rfl aH rfl fun w' hw'=>⟨⟨(_,_),rfl,by first|exact ai.cH _ _|fail,by first|exact ai.cH _ _|fail⟩,hw'.at⟩):g:=h
theorem mp {g:Prop} (h:g:=by exact key _ _ (by rw[List.append_nil];exact ho) (bX.refl _ _) (.inl rfl)):g:=h
theorem mt {g:Prop} (h:g:=by first|omega|exact ah.aM (.inl rfl) rfl rfl rfl rfl rfl aH rfl rfl fun w' hw'=>⟨⟨(_,_),rfl,dj,dj⟩,hw'.at⟩):g:=h
theorem ne {g:Prop} (h:g:=by first|omega|exact ah.aG rfl rfl fun w' hw'=>aK.err 16 rfl (by decide) hS hw' ak):g:=h
theorem pi {g:Prop} (h:g:=by exact ah.aG rfl rfl fun w' hw'=>aK.ok y rfl hy hS hw' (kn.app _ _) ak):g:=h
theorem pm {g:Prop} (h:g:=by exact ah.aG rfl rfl fun w' hw'=>aK.err e2 rfl he2 hS hw' ak):g:=h
theorem pp {g:Prop} (h:g:=by first|omega|(refine ah.aM (.inl rfl) rfl rfl rfl rfl rfl aH rfl rfl ?_;exact fun w' hw'=>gG.err (e:=_) (fH.mk ..) (by first|decide|assumption) hw'.at)):g:=h
theorem qr {g:Prop} (h:g:=by first|omega|exact ah.aM (.inl rfl) rfl rfl rfl rfl rfl aH rfl rfl fun w' hw'=>bD.JI (tf:=fun x:Value×Value=>.tuple #[.agg #[x.1,x.2],.bool false]) hw' ak):g:=h
theorem rd {g:Prop} (h:g:=by first|(exfalso;omega)|exact ah.aG rfl rfl fun w' hw'=>aK.err 12 (by show(dN c x).2=12;rw[hbr]) (by decide) hS hw' ak):g:=h
theorem rt {g:Prop} (h:g:=by first|(exfalso;omega)|exact ah.aG rfl rfl fun w' hw'=>⟨by clear hw' hl hk ho;first|(simp_all [bG];done)|(simp_all [bG]<;>(intros;omega)),hw'.at⟩):g:=h
theorem rx {g:Prop} (h:g:=by exact ah.AB rfl rfl rfl rfl fun w' hw'=>(aC.sF (x:=(Value.slice none 0 0,[],fun _=>False)) trivial (hw'.qh rl) (List.sublist_append_left _ _) ak)):g:=h
theorem t6 {g:Prop} (h:g:=by exact ah.AB rfl rfl rfl rfl fun w' hw'=>aC.FD hx1 (aC.sF (x:=(Value.slice none 0 0,[],fun _=>False)) trivial (hw'.qh rl) (List.sublist_append_left _ _) ak)):g:=h
theorem t7 {g:Prop} (h:g:=by exact .inl (List.eq_nil_of_length_eq_zero h0)):g:=h
theorem t8 {g:Prop} (h:g:=by first|omega|exact ah.aG rfl rfl fun w' hw'=>aC.qM (x:=(tv2,pv2)) trivial hS hw' dV ak):g:=h
theorem ul {g:Prop} (h:g:=by exact ah.aG rfl rfl fun w' hw'=>aC.qM (x:=(tv3,pv3)) trivial hS hw' dV ak):g:=h
theorem ut {g:Prop} (h:g:=by first|omega|exact ah.aG rfl rfl fun w' hw'=>aK.ok (r:=(c1,0)) (⟨sp1,tv1,pv1,bv1,rv1,fv1,D1,L1⟩:jF) rfl hg1 hS hw' (by dsimp only[aT,aX,List.cons_append,List.nil_append];exact dV) ak):g:=h
theorem wd {g:Prop} (h:g:=by first|omega|exact ah.aG rfl rfl fun w' hw'=>aK.err e1 rfl he1 hS hw' ak):g:=h
theorem wl {g:Prop} (h:g:=by first|omega|exact ah.bB (.inl rfl) rfl rfl rfl rfl rfl aH rfl fun w' hw'=>⟨⟨(_,_),rfl,dj,dj⟩,hw'.at⟩):g:=h
theorem wn {g:Prop} (h:g:=by first|omega|(refine ah.bB (.inl rfl) rfl rfl rfl rfl rfl aH rfl ?_;exact fun w' hw'=>bD.jl (f0:=(da 64526).1) (tf:=fun x:Value×Value=>.agg #[x.1,x.2,.int .i64 (da 64526).2]) ⟨D_,p_,c_,q_,d_⟩ hw' ak ak hD_)|exact ah.bB (.inl rfl) rfl rfl rfl rfl rfl aH rfl fun w' hw'=>⟨⟨(_,_),rfl,by first|exact ai.cH _ _|fail,by first|exact ai.cH _ _|fail⟩,hw'.at⟩):g:=h
theorem ws {g:Prop} (h:g:=by first|omega|(refine ah.bB (.inl rfl) rfl rfl rfl rfl rfl aH rfl ?_;exact fun w' hw'=>bD.jl (f0:=(da op).1) (tf:=fun x:Value×Value=>.agg #[x.1,x.2,.int .i64 (da op).2]) ⟨D_,p_,c_,q_,d_⟩ hw' ak ak hD_)|exact ah.bB (.inl rfl) rfl rfl rfl rfl rfl aH rfl fun w' hw'=>⟨⟨(_,_),rfl,by first|exact ai.cH _ _|fail,by first|exact ai.cH _ _|fail⟩,hw'.at⟩):g:=h
theorem wt {g:Prop} (h:g:=by exact ah.aG rfl rfl fun w' hw'=>aK.ok ⟨sp,tvc,pvc,bv2,rv,fv.take (c.fs.length - 1),D,L⟩ rfl ((hg.pop s2 tvb pvb bv2 (c.fs.length - 1)).mono rfl rfl rfl rfl (fun _ h=>h)) hS hw' (by dsimp only[aT,aX,List.cons_append,List.nil_append];exact dV) ak):g:=h
theorem ww {g:Prop} (h:g:=by first|(exfalso;omega)|exact ah.aG rfl rfl fun w' hw'=>⟨by clear hw' gT gM gE gnd ho ha h;refine congrArg Ending.returned (congrArg (Value.int .i64) ?_);simp only[fE,if_true,if_false,reduceIte,Int.reduceEq,Int.reduceNe, *];first|done|rfl|simp_all|(simp_all<;>(intros;omega)),hw'.at⟩):g:=h
theorem AC {g:Prop} (h:g:=by exact ah.aG rfl rfl fun w' hw'=>aC.jl (x:=(_,_)) trivial hS hw' (kl rfl rfl rfl rfl rfl rfl rfl rfl) ak):g:=h
theorem Eq {g:Prop} (h:g:=by exact fun w' hw'=>⟨⟨(⟨.slice p1 s.ts.length c1,.slice p2 s.ps.length c2,.slice p3 s.ps.length c3⟩:jT),rfl,h1.ka hw' ak,h2.ka hw' ak,jn.ka h3 hw' ak,k1,k2,k3⟩,hw'.at⟩):g:=h
theorem EQ {g:Prop} (h:g:=by first|(exfalso;omega)|(refine ah.aM (.inl rfl) rfl rfl rfl rfl rfl aH rfl rfl ?_;exact fun w' hw'=>gG.err (e:=_) (fH.mk ..) (by first|decide|assumption) hw'.at)):g:=h
theorem Fd {g:Prop} (h:g:=by first|(exfalso;omega)|(refine ah.aM (.inl rfl) rfl rfl rfl rfl rfl aH rfl rfl ?_;exact fun w' hw'=>bD.sE (V:=fY r) (tf:=fun x=>.tuple #[.agg x.2.toArray,.int .i64 r.2]) (D:=D1) (y:=(y1,_)) (fY.mo _) hw' ak bO)):g:=h
theorem FS {g:Prop} (h:g:=by first|(exfalso;omega)|((try simp only[List.getElem_toArray,List.getElem_cons_zero,List.getElem_cons_succ]);(refine ah.aM (.inl rfl) rfl rfl rfl rfl rfl aH rfl rfl ?_;exact fun w' hw'=>gG.err (e:=_) (fH.mk ..) (by first|decide|assumption) hw'.at))):g:=h
theorem GE {g:Prop} (h:g:=by exact ah.ie rfl rfl rfl fun w' hw'=>aC.sF (x:=Value.slice none 0 0) trivial (hw'.iP 0 fR 1) (nC rfl rfl rfl (List.nil_sublist _)) ak):g:=h
theorem GT {g:Prop} (h:g:=by exact ah.ie rfl rfl rfl fun w' hw'=>aC.sF (x:=Value.slice p6 (f.params.length+(ix m.funcs j).locals.length) c6) trivial hw' (nC rfl (by simp[kr]) (by simp[kr,aY]) (List.nil_sublist _)) ak):g:=h
theorem H1 {g:Prop} (h:g:=by first|(exfalso;omega)|(rw[hbr];(try simp only[List.getElem_toArray,List.getElem_cons_zero,List.getElem_cons_succ]);(refine ah.aM (.inl rfl) rfl rfl rfl rfl rfl aH rfl rfl ?_;exact fun w' hw'=>gG.err (e:=_) (fH.mk ..) (by first|decide|assumption) hw'.at))):g:=h
theorem Id {g:Prop} (h:g:=by exact ah.aG rfl rfl fun w' hw'=>aK.ok (r:=(iG {c with ao:=s1},0)) (⟨sp2,tv2,pv2,bv2,rv2,fv2,D2,L2⟩:jF) rfl hg2 hS hw' (by dsimp only[aT,aX,List.cons_append,List.nil_append];exact dV) ak):g:=h
theorem IO {g:Prop} (h:g:=by exact gG.ok (c:={c with ao:=s4,fs:=c.fs.take (c.fs.length - 1)}) (⟨⟨.slice v1 s4.ts.length vc1,.slice v2 s4.ps.length vc2,.slice v3 s4.ps.length vc3⟩,.slice pa (c.fs.length - 1) ca,.slice p5 c.results.length c5,z.take (c.fs.length - 1)⟩:jC) ⟨g1,g,hsd.2.2.1,hca,by dsimp only;rw[List.map_take,h.2.2.2.2]⟩ hE):g:=h
theorem IR {g:Prop} (h:g:=by first|omega|(refine ah.bB (.inl rfl) rfl rfl rfl rfl rfl aH rfl ?_;exact fun w' hw'=>bD.jl (f0:=(oO m x).1) (tf:=fun y:Value×Value=>.agg #[y.1,y.2,.int .i64 (oO m x).2]) ⟨D_,p_,c_,q_,d_⟩ hw' ak ak (fun k h=>.inr ((hD_ k h).resolve_left id)))):g:=h
theorem LE {g:Prop} (h:g:=by first|omega|(refine ah.bB (.inl rfl) rfl rfl rfl rfl rfl aH rfl ?_;exact fun w' hw'=>bD.jl (f0:=(da x.op).1) (tf:=fun y:Value×Value=>.agg #[y.1,y.2,.int .i64 (da x.op).2]) ⟨D_,p_,c_,q_,d_⟩ hw' ak ak (fun k h=>.inr ((hD_ k h).resolve_left id)))):g:=h
theorem LT {g:Prop} (h:g:=by first|omega|(refine ah.bB (.inl rfl) rfl rfl rfl rfl rfl aH rfl ?_;exact fun w' hw'=>bD.jl (f0:=(da op).1) (tf:=fun x:Value×Value=>.agg #[x.1,x.2,.int .i64 (da op).2]) ⟨D_,p_,c_,q_,d_⟩ hw' ak ak hD_)):g:=h
theorem Mg {g:Prop} (h:g:=by exact Fin.aG rfl rfl ⟨⟨_,rfl,np hn (Nat.le_refl _) (by unfold maxLen;decide) rfl⟩,hn.ext⟩):g:=h
theorem Mh {g:Prop} (h:g:=by exact ai.cH _ _):g:=h
theorem Mj {g:Prop} (h:g:=by exact Fin.ie rfl rfl rfl ⟨by rw[hn],hx1⟩):g:=h
theorem Mk {g:Prop} (h:g:=by exact Fin.next (i+1,v6) bH ⟨by omega,hn,hallS hck,hfin w5 w6 v6 hn5 ho6 hc6 hb6⟩ (by dsimp only;omega)):g:=h
theorem Ml {g g':Prop} (h:g') (hw:eA g'→g:=by(intro hk_;refine ae (l:=[_,_,_]) Tryz.func56 rfl Tryz.ntmps56 rfl (Ok.start w) ?_;exact hk_.out)):g:=hw ⟨h⟩
theorem Mm {g g':Prop} (h:g') (hw:eA g'→g:=by(intro hk_;refine bh.loop (σ:=Nat) (fun j=>[(0,.slice p xs.length c),(1,.slice q ys.length d),(5,.int .i64 j)]) (fun _=>[]) (fun _=>[Ext w]) (fun j=>j≤xs.length∧xs.take j=ys.take j) (fun j=>xs.length - j) 0 bH bz aU ⟨by omega,by simp⟩ ?_;exact hk_.out)):g:=hw ⟨h⟩
theorem Mn {g g':Prop} (h:g') (hw:eA g'→g:=by(intro hk_;refine ae (l:=[_]) Tryz.func80 rfl Tryz.ntmps80 rfl (Ok.start w) ?_;exact hk_.out)):g:=hw ⟨h⟩
theorem Mp {g g':Prop} (h:g') (hw:eA g'→g:=by(intro hk_;refine bh.loop (σ:=Nat) (fun j=>[(133,.slice pl labels.length cl),(134,.int .i64 labels.length),(135,.int .i64 j)]) (fun _=>[]) (fun _=>[Ext w]) (fun j=>j≤labels.length∧(labels.take j).all br=true) (fun j=>labels.length - j) 0 bH bz aU ⟨by omega,by simp⟩ ?_;exact hk_.out)):g:=hw ⟨h⟩
theorem Mq {g g':Prop} (h:g') (hw:eA g'→g:=by(intro hk_;refine bh.cY (by kernel_rfl) ?_;exact hk_.out)):g:=hw ⟨h⟩
theorem Ms {g g':Prop} (h:g') (hw:eA g'→g:=by(intro hk_;refine ae (l:=[_,_,_]) Tryz.func122 rfl Tryz.ntmps122 rfl (Ok.start w) ?_;exact hk_.out)):g:=hw ⟨h⟩
theorem Mt {g g':Prop} (h:g') (hw:eA g'→g:=by(intro hk_;refine bh.cI [.aW b5 [Value.int .i64 x.op,Value.int .i64 x.a,Value.int .i64 x.b,Value.int .u64 x.n,Value.int .i64 x.kind,Value.int .i64 x.val,Value.int .i64 x.index,Value.slice (some ⟨bt,ot,none⟩) x.types.length ct,Value.slice pl x.labels.length cl] 69] [Ext w] bz aU ?_;exact hk_.out)):g:=hw ⟨h⟩
theorem Mu {g g':Prop} (h:g') (hw:eA g'→g:=by(intro hk_;refine ae (l:=[_,_,_]) Tryz.func66 rfl Tryz.ntmps66 rfl (Ok.fg (V:=bw c.ao) (bw.fr c.ao) (bw.lt c.ao) h.1) ?_;exact hk_.out)):g:=hw ⟨h⟩
theorem Mv {g g':Prop} (h:g') (hw:eA g'→g:=by(intro hk_;refine bh.iB 6 [.aW b10 [.slice r1 s2.ts.length rc1,.slice r2 s2.ps.length rc2,.slice r3 s2.ps.length rc3,.int .i64 s2.bR] nZ,.aW b5 [.slice fp f.params.length fc,.slice fq f.results.length fd] sy] [Ext w] bz aU ?_;exact hk_.out)):g:=hw ⟨h⟩
theorem Mw {g g':Prop} (h:g') (hw:eA g'→g:=by(intro hk_;refine aa.he (HE.eU rfl rfl (fun w' hw'=>htop w' hw'.at ((hw'.an (V:=bw s4) (w0:=w) (F:=F) (D:=D4) (y:=⟨.slice v1 s4.ts.length vc1,.slice v2 s4.ps.length vc2,.slice v3 s4.ps.length vc3⟩) ak bO).mono fun _ _=>trivial))) rfl ?_;exact hk_.out)):g:=hw ⟨h⟩
theorem Mx {g g':Prop} (h:g') (hw:eA g'→g:=by(intro hk_;refine bh.iB 12 [.aW b5 [.slice fp f.params.length fc,.slice fq f.results.length fd] sy,.aW b3 [.slice v1 s4.ts.length vc1,.slice v2 s4.ps.length vc2,.slice v3 s4.ps.length vc3,.int .i64 s4.bR,.slice p4 c.fs.length c4,.slice p5 c.results.length c5,.int .i64 0] 119] [Ext w] bz aU ?_;exact hk_.out)):g:=hw ⟨h⟩
theorem My {g g':Prop} (h:g') (hw:eA g'→g:=by(intro hk_;refine ah.aM (.inl rfl) rfl rfl rfl rfl rfl aH rfl rfl ?_;exact hk_.out)):g:=hw ⟨h⟩
theorem Mz {g g':Prop} (h:g') (hw:eA g'→g:=by(intro hk_;refine aa.pure (φ:=jT.Sl x2) (fun w' hw'=>hw'.an (V:=ky) (w0:=w) (F:=F) (D:=D2) (y:=x2) ak bO) ?_;exact hk_.out)):g:=hw ⟨h⟩
theorem MA {g g':Prop} (h:g') (hw:eA g'→g:=by(intro hk_;refine bh.cI [.aW cp [.pointer (some ⟨sp,0,none⟩),.slice (some ⟨g,0,none⟩) c.fs.length cc,rv,.bool c.live,.int .i64 c.broken] jd,.own 0 sx 5 (.slice (some ⟨g,0,none⟩) c.fs.length cc) c.fs.length (eu c.fs fv)] [] bz aU ?_;exact hk_.out)):g:=hw ⟨h⟩
theorem MB {g g':Prop} (h:g') (hw:eA g'→g:=by(intro hk_;refine aa.he (HE.bJ (M0:=[.aW cp [.pointer (some ⟨sp,0,none⟩),.slice (some ⟨g,0,none⟩) c.fs.length cc,rv,.bool c.live,.int .i64 c.broken] jd]) dU rfl rfl (fun w' hw'=>js cp _ _ _ _ _ e2 w' (hw'.dc dV (fun p h=>by cases h)))) rfl ?_;exact hk_.out)):g:=hw ⟨h⟩
theorem MC {g g':Prop} (h:g') (hw:eA g'→g:=by(intro hk_;refine ae (l:=[_,_]) Tryz.func99 rfl Tryz.ntmps99 rfl (Ok.start w) ?_;exact hk_.out)):g:=hw ⟨h⟩
theorem MD {g g':Prop} (h:g') (hw:eA g'→g:=by(intro hk_;refine ae (l:=[_,_]) Tryz.func100 rfl Tryz.ntmps100 rfl (Ok.start w) ?_;exact hk_.out)):g:=hw ⟨h⟩
theorem ME {g g':Prop} (h:g') (hw:eA g'→g:=by(intro hk_;refine ae (l:=[_,_]) Tryz.func49 rfl Tryz.ntmps49 rfl (Ok.start w) ?_;exact hk_.out)):g:=hw ⟨h⟩
theorem MF {g g':Prop} (h:g') (hw:eA g'→g:=by(intro hk_;refine ae (l:=[_,_]) Tryz.func96 rfl Tryz.ntmps96 rfl (Ok.start w) ?_;exact hk_.out)):g:=hw ⟨h⟩
theorem MG {g g':Prop} (h:g') (hw:eA g'→g:=by(intro hk_;refine ae (l:=[_,_]) Tryz.func97 rfl Tryz.ntmps97 rfl (Ok.start w) ?_;exact hk_.out)):g:=hw ⟨h⟩
theorem MH {g g':Prop} (h:g') (hw:eA g'→g:=by(intro hk_;refine ae (l:=[.agg (([Value.slice p0 m.types.length c0,Value.slice p1 m.imports.length c1,Value.slice p2 m.funcs.length c2,Value.slice p3 m.tables.length c3,Value.slice p4 m.bQ.length c4,Value.slice p5 m.globals.length c5,Value.slice p6 m.aJ.length c6,Value.bool m.aI,Value.int .i64 m.start,Value.slice p7 m.elems.length c7,Value.slice p8 m.bg.length c8,Value.slice p9 m.bE.length c9]:List Value)).toArray,_]) Tryz.func177 rfl Tryz.ntmps177 rfl (Ok.start w) ?_;exact hk_.out)):g:=hw ⟨h⟩
theorem MI {g g':Prop} (h:g') (hw:eA g'→g:=by(intro hk_;refine ae (l:=[_]) Tryz.func67 rfl Tryz.ntmps67 rfl (Ok.fg (V:=bw c.ao) (bw.fr c.ao) (bw.lt c.ao) h.1) ?_;exact hk_.out)):g:=hw ⟨h⟩
theorem MJ {g g':Prop} (h:g') (hw:eA g'→g:=by(intro hk_;refine bh.cI [.aW b3 [Value.int .i64 x.op,Value.int .i64 x.a,Value.int .i64 x.b,Value.int .u64 x.n,Value.int .i64 x.kind,Value.int .i64 x.val,Value.int .i64 x.index,Value.slice pt x.types.length ct,Value.slice pl x.labels.length cl] JN] [] bz aU ?_;exact hk_.out)):g:=hw ⟨h⟩
theorem MK {g g':Prop} (h:g') (hw:eA g'→g:=by(intro hk_;refine bh.lj (Go.Proofs.YtdkcljdfbemnbaaGreatDoor.cl ga (0+i) (.int .i64 (ix ls i))) (fun w' h=>h (fun w=>∀i,i<ls.length→w.cell? ⟨ga,0+i,none⟩=some (.int .i64 (ix ls i))) ak i hin) ?_;exact hk_.out)):g:=hw ⟨h⟩
theorem MM {g g':Prop} (h:g') (hw:eA g'→g:=by(intro hk_;refine aa.he (HE.app rfl rfl (fun _=>aH) aH rfl rfl rfl (by rfl) (by rfl) (by rfl) (by rfl) (by rfl) (by rfl) (by omega) (fun _ _=>Nat.zero_le _)) rfl ?_;exact hk_.out)):g:=hw ⟨h⟩
theorem MN {g g':Prop} (h:g') (hw:eA g'→g:=by(intro hk_;refine aa.he (HE.bJ (M0:=aX sp s1 (tv1,pv1)) dU rfl rfl (fun w' hw'=>mX sp s1 (tv1,pv1) w' (hw'.dc dV (fun p hp=>absurd hp (by simp))) wf1.some wf1.at_.1)) rfl ?_;exact hk_.out)):g:=hw ⟨h⟩
theorem MO {g g':Prop} (h:g') (hw:eA g'→g:=by(intro hk_;refine ae (l:=[_,_]) Tryz.func75 rfl Tryz.ntmps75 rfl (Ok.fg (V:=bw c.ao) (bw.fr c.ao) (bw.lt c.ao) h.1) ?_;exact hk_.out)):g:=hw ⟨h⟩
theorem MP {g g':Prop} (h:g') (hw:eA g'→g:=by(intro hk_;refine ae (l:=[_]) Tryz.func64 rfl Tryz.ntmps64 rfl (Ok.start w) ?_;exact hk_.out)):g:=hw ⟨h⟩
theorem MQ {g g':Prop} (h:g') (hw:eA g'→g:=by(intro hk_;refine bh.lj (Cs b (o+j*3) _) (jr hc rfl ak) ?_;exact hk_.out)):g:=hw ⟨h⟩
theorem MR {g g':Prop} (h:g') (hw:eA g'→g:=by(intro hk_;refine aa.he (HE.jG rfl rfl rfl rfl rfl er (by rfl) (by rfl)) rfl ?_;exact hk_.out)):g:=hw ⟨h⟩
theorem MT {g g':Prop} (h:g') (hw:eA g'→g:=by(intro hk_;refine ah.bB (.inl rfl) rfl rfl rfl rfl rfl aH rfl ?_;exact hk_.out)):g:=hw ⟨h⟩
theorem MU {g g':Prop} (h:g') (hw:eA g'→g:=by(intro hk_;refine aa.he (HE.bJ (M0:=aT cp c ⟨sp,tv,pv,bv,rv,fv,D,L⟩) dU rfl rfl (fun w' hw'=>(hk w' (hw'.dc dV aU)).mono fun _ _ h=>h.Dw rfl)) rfl ?_;exact hk_.out)):g:=hw ⟨h⟩
theorem MV {g g':Prop} (h:g') (hw:eA g'→g:=by(intro hk_;refine aa.he (HE.bJ (M0:=aT cp c ⟨sp,tv,pv,bv,rv,fv,D,L⟩) dU rfl rfl (fun w' hw'=>(hk w' (hw'.dc dV aU)).mono fun _ _ h=>h.bad (q:=e1) rfl he1)) rfl ?_;exact hk_.out)):g:=hw ⟨h⟩
theorem MW {g g':Prop} (h:g') (hw:eA g'→g:=by(intro hk_;refine ae (l:=[_,_]) Tryz.func156 rfl Tryz.ntmps156 rfl (Ok.start w) ?_;exact hk_.out)):g:=hw ⟨h⟩
theorem MX {g g':Prop} (h:g') (hw:eA g'→g:=by(intro hk_;refine ae (l:=[_,_]) Tryz.func157 rfl Tryz.ntmps157 rfl (Ok.start w) ?_;exact hk_.out)):g:=hw ⟨h⟩
theorem MY {g g':Prop} (h:g') (hw:eA g'→g:=by(intro hk_;refine ae (l:=[_,_]) Tryz.func158 rfl Tryz.ntmps158 rfl (Ok.start w) ?_;exact hk_.out)):g:=hw ⟨h⟩
theorem MZ {g g':Prop} (h:g') (hw:eA g'→g:=by(intro hk_;refine ae (l:=[_,_]) Tryz.func159 rfl Tryz.ntmps159 rfl (Ok.start w) ?_;exact hk_.out)):g:=hw ⟨h⟩
theorem M3 {g g':Prop} (h:g') (hw:eA g'→g:=by(intro hk_;refine ae (l:=[_,_]) Tryz.func153 rfl Tryz.ntmps153 rfl (Ok.start w) ?_;exact hk_.out)):g:=hw ⟨h⟩
theorem M4 {g g':Prop} (h:g') (hw:eA g'→g:=by(intro hk_;refine ae (l:=[_,_]) Tryz.func154 rfl Tryz.ntmps154 rfl (Ok.start w) ?_;exact hk_.out)):g:=hw ⟨h⟩
theorem M5 {g g':Prop} (h:g') (hw:eA g'→g:=by(intro hk_;refine ah.uY (.inl rfl) rfl rfl rfl rfl rfl aH rfl rfl rfl ?_;exact hk_.out)):g:=hw ⟨h⟩
theorem M6 {g g':Prop} (h:g') (hw:eA g'→g:=by(intro hk_;refine ae (l:=[_,_]) Tryz.func102 rfl Tryz.ntmps102 rfl (Ok.start w) ?_;exact hk_.out)):g:=hw ⟨h⟩
theorem M7 {g g':Prop} (h:g') (hw:eA g'→g:=by(intro hk_;refine bh.cI [.aW b5 [.slice q1 par.length d1,.slice q2 res.length d2] ID,.aW cp [.pointer (some ⟨sp,0,none⟩),.slice p c.fs.length cc,rv,.bool c.live,.int .i64 c.broken] jd] [fun w=>dH ⟨par,res⟩ Dt w (.slice q1 par.length d1,.slice q2 res.length d2)] bz aU ?_;exact hk_.out)):g:=hw ⟨h⟩
theorem M8 {g g':Prop} (h:g') (hw:eA g'→g:=by(intro hk_;refine bh.iB 7 [.aW b5 [.slice q1 par.length d1,.slice q2 res.length d2] ID,.aW cp [.pointer (some ⟨sp,0,none⟩),.slice p c.fs.length cc,rv,.bool c.live,.int .i64 c.broken] jd] [fun w=>dH ⟨par,res⟩ Dt w (.slice q1 par.length d1,.slice q2 res.length d2)] bz aU ?_;exact hk_.out)):g:=hw ⟨h⟩
theorem M9 {g g':Prop} (h:g') (hw:eA g'→g:=by(intro hk_;refine bh.nk (q1:=.own 0 fR 1 (.slice ppar_ par.length cpar_) par.length (aY par)) (q2:=.own 0 fR 1 (.slice pres_ res.length cres_) res.length (aY res)) (q:=.kq (dH ⟨par,res⟩) (dH.fr ⟨par,res⟩) (fun k=>(Value.slice ppar_ par.length cpar_).ownBlock=some k∨(Value.slice pres_ res.length cres_).ownBlock=some k) (.slice ppar_ par.length cpar_,.slice pres_ res.length cres_)) jH jH (fun k h=>h) (fun w h1 h2=>⟨(dK h1 hl1).mono fun _ _ h=>.inl h,(dK h2 hl2).mono fun _ _ h=>.inr h⟩) ?_;exact hk_.out)):g:=hw ⟨h⟩
theorem Na {g g':Prop} (h:g') (hw:eA g'→g:=by(intro hk_;refine bh.nk (q1:=.kq iZ iZ.fr D L) (q2:=.kq (dH ⟨par,res⟩) (dH.fr ⟨par,res⟩) D0 (.slice ppar_ par.length cpar_,.slice pres_ res.length cres_)) (q:=.kq iZ iZ.fr (fun k=>D k∨D0 k) ((⟨par,res⟩,.slice ppar_ par.length cpar_,.slice pres_ res.length cres_)::L)) jH jH (fun k h=>h) (fun w h1 h2=>iZ.cons h1 h2) ?_;exact hk_.out)):g:=hw ⟨h⟩
theorem Nb {g g':Prop} (h:g') (hw:eA g'→g:=by(intro hk_;refine bh.dQ [0,1,2,3,4,5,6,7] 8 _ _ (by kernel_rfl) (List.Sublist.refl _) (fun _ h=>h) ?_;exact hk_.out)):g:=hw ⟨h⟩
theorem Nc {g g':Prop} (h:g') (hw:eA g'→g:=by(intro hk_;refine aa.he (HE.bJ (M0:=[.aW cp [.pointer (some ⟨sp,0,none⟩),.slice p c.fs.length cc,rv,.bool c.live,.int .i64 c.broken] jd]) dU rfl rfl (fun w' hw'=>js cp _ _ _ _ _ e2 w' (hw'.dc dV (fun p h=>by cases h)))) rfl ?_;exact hk_.out)):g:=hw ⟨h⟩
theorem Nd {g g':Prop} (h:g') (hw:eA g'→g:=by(intro hk_;refine bF.he (HE.jG rfl rfl rfl rfl rfl er (by rfl) (by rfl)) rfl (fun _=>bz) (fun _=>aU) ?_;exact hk_.out)):g:=hw ⟨h⟩
theorem Nf {g g':Prop} (h:g') (hw:eA g'→g:=by(intro hk_;refine bF.he (HE.app rfl rfl (fun _=>aH) aH rfl rfl rfl (by rfl) (by rfl) (by rfl) (by rfl) (by rfl) (by rfl) (by omega) (fun _ _=>Nat.zero_le _)) rfl (fun _=>bz) (fun _=>aU) ?_;exact hk_.out)):g:=hw ⟨h⟩
theorem Ng {g g':Prop} (h:g') (hw:eA g'→g:=by(intro hk_;refine aa.yA (V:=cG c) (V2:=dH f) (w0:=w) (F:=F) (D:=fun _=>False) (D2:=D_) (y:=⟨⟨.slice p1 c.ao.ts.length c1,.slice p2 c.ao.ps.length c2,.slice p3 c.ao.ps.length c3⟩,.slice p4 c.fs.length c4,.slice p5 c.results.length c5,z⟩) (y2:=(.slice p_ f.params.length c_,.slice q_ f.results.length d_)) (cG.mo _) (dH.mo _) jH jH ?_;exact hk_.out)):g:=hw ⟨h⟩
theorem Nh {g g':Prop} (h:g') (hw:eA g'→g:=by(intro hk_;refine aa.he (HE.bV (V:=HU (cG c) (dH f)) (V2:=fY r) (tf:=fun x=>.tuple #[.agg x.2.toArray,.int .i64 r.2]) (w0:=w) (F:=F) (D:=fun k=>False∨D_ k) (y:=(⟨⟨.slice p1 c.ao.ts.length c1,.slice p2 c.ao.ps.length c2,.slice p3 c.ao.ps.length c3⟩,.slice p4 c.fs.length c4,.slice p5 c.results.length c5,z⟩,(.slice p_ f.params.length c_,.slice q_ f.results.length d_))) (fY.fr _) (fY.lt _) (fY.mo _) ak bO (fun _=>aH) rfl rfl (fun w' hw' hh=>hk _ w' p_ c_ q_ d_ hw'.at hh.1 hh.2)) rfl ?_;exact hk_.out)):g:=hw ⟨h⟩
theorem Ni {g g':Prop} (h:g') (hw:eA g'→g:=by(intro hk_;refine aa.he (HE.bV (V:=cG c) (V2:=fY r) (tf:=fun x=>.tuple #[.agg x.2.toArray,.int .i64 r.2]) (w0:=w) (F:=F) (D:=fun _=>False) (y:=⟨⟨.slice p1 c.ao.ts.length c1,.slice p2 c.ao.ps.length c2,.slice p3 c.ao.ps.length c3⟩,.slice p4 c.fs.length c4,.slice p5 c.results.length c5,z⟩) (fY.fr _) (fY.lt _) (fY.mo _) ak bO (fun _=>aH) rfl rfl (fun w' hw' _=>hk w' hw'.at)) rfl ?_;exact hk_.out)):g:=hw ⟨h⟩
theorem Nj {g g':Prop} (h:g') (hw:eA g'→g:=by(intro hk_;refine bh.cI [.aW b4 [.slice p1 c.ao.ts.length c1,.slice p2 c.ao.ps.length c2,.slice p3 c.ao.ps.length c3,.int .i64 c.ao.bR,.slice p4 c.fs.length c4,.slice p5 c.results.length c5,.int .i64 0] sA] [Ext w] bz aU ?_;exact hk_.out)):g:=hw ⟨h⟩
theorem Nk {g g':Prop} (h:g') (hw:eA g'→g:=by(intro hk_;refine bh.cI [.aW b2 [.slice p1 c.ao.ts.length c1,.slice p2 c.ao.ps.length c2,.slice p3 c.ao.ps.length c3,.int .i64 c.ao.bR,.slice p4 c.fs.length c4,.slice p5 c.results.length c5,.int .i64 0] sA] [Ext w] bz aU ?_;exact hk_.out)):g:=hw ⟨h⟩
theorem Nl {g g':Prop} (h:g') (hw:eA g'→g:=by(intro hk_;refine ae (l:=[_,_]) Tryz.func65 rfl Tryz.ntmps65 rfl (Ok.start w) ?_;exact hk_.out)):g:=hw ⟨h⟩
theorem Nm {g g':Prop} (h:g') (hw:eA g'→g:=by(intro hk_;refine aa.he (HE.bJ (M0:=[]) nK.nil rfl rfl (fun w' hw'=>lR cp c ⟨sp,tv,pv,bv,rv,fv,D,L⟩ w' ((hw'.dc (M':=aT cp c ⟨sp,tv,pv,bv,rv,fv,D,L⟩) dV (fun _ h=>h)).Cy (List.Sublist.refl _)) hg hb)) rfl ?_;exact hk_.out)):g:=hw ⟨h⟩
theorem Nn {g g':Prop} (h:g') (hw:eA g'→g:=by(intro hk_;refine aa.he (HE.bJ (M0:=aT cp {c with ao:=s1} ⟨sp,tv1,pv1,bv,rv,fv,D,L⟩) dU rfl rfl (fun w' hw'=>oU cp {c with ao:=s1} ⟨sp,tv1,pv1,bv,rv,fv,D,L⟩ w' (hw'.dc dV (fun p hp=>absurd hp (by simp))) ⟨hg.len,hg.fr,hg.rs⟩ hb hwf1)) rfl ?_;exact hk_.out)):g:=hw ⟨h⟩
theorem No {g g':Prop} (h:g') (hw:eA g'→g:=by(intro hk_;refine aa.he (HE.bJ (M0:=[]) nK.nil rfl rfl (fun w' hw'=>pW cp c ⟨sp,tv,pv,bv,rv,fv,D,L⟩ x.a w' ((hw'.dc (M':=aT cp c ⟨sp,tv,pv,bv,rv,fv,D,L⟩) dV (fun _ h=>h)).Cy (List.Sublist.refl _)) hg hb)) rfl ?_;exact hk_.out)):g:=hw ⟨h⟩
theorem Np {g g':Prop} (h:g') (hw:eA g'→g:=by(intro hk_;refine aa.freeze (q:=.own 0 fR 1 (.slice pu l.length cu) l.length (aY l)) (fun w=>ai (fun k=>(Value.slice pu l.length cu).ownBlock=some k) w (.slice pu l.length cu) l) jH (fun w' h _=>dK h (by omega)) ?_;exact hk_.out)):g:=hw ⟨h⟩
theorem Nq {g g':Prop} (h:g') (hw:eA g'→g:=by(intro hk_;refine aa.jO (gj.iu [.slice r1 s1.ts.length rc1,.slice r2 s1.ps.length rc2,.slice r3 s1.ps.length rc3,.int .i64 s1.bR] [.slice r1 s1.ts.length rc1,.slice r2 s1.ps.length rc2,.slice r3 s1.ps.length rc3,.int .i64 s1.bR,.slice p4 c.fs.length c4,.slice p5 c.results.length c5,.int .i64 0] rfl rfl rfl rfl rfl rfl aH rfl rfl) ?_;exact hk_.out)):g:=hw ⟨h⟩
theorem Nr {g g':Prop} (h:g') (hw:eA g'→g:=by(intro hk_;refine aa.he (HE.bV (V:=bw s1) (V2:=bw (aS s1 (ix c.fs (c.fs.length - 1)).res)) (tf:=fun y=>.agg (gw (aS s1 (ix c.fs (c.fs.length - 1)).res) y).toArray) (w0:=w) (F:=F) (D:=D1) (y:=⟨.slice r1 s1.ts.length rc1,.slice r2 s1.ps.length rc2,.slice r3 s1.ps.length rc3⟩) (bw.fr _) (bw.lt _) (bw.mo _) ak bO (fun _=>aH) rfl rfl (fun w' hw' hh=>kc _ s1 ⟨.slice r1 s1.ts.length rc1,.slice r2 s1.ps.length rc2,.slice r3 s1.ps.length rc3⟩ (.slice g2 (ix c.fs (c.fs.length - 1)).res.length k2) (ix c.fs (c.fs.length - 1)).res w' hh (hI _ _ hfx.2 _ w' hw'.at) (by omega))) rfl ?_;exact hk_.out)):g:=hw ⟨h⟩
theorem Ns {g g':Prop} (h:g') (hw:eA g'→g:=by(intro hk_;refine aa.jO (gj.iu [.slice v1 s4.ts.length vc1,.slice v2 s4.ps.length vc2,.slice v3 s4.ps.length vc3,.int .i64 s4.bR] [.slice v1 s4.ts.length vc1,.slice v2 s4.ps.length vc2,.slice v3 s4.ps.length vc3,.int .i64 s4.bR,.slice p4 c.fs.length c4,.slice p5 c.results.length c5,.int .i64 0] rfl rfl rfl rfl rfl rfl aH rfl rfl) ?_;exact hk_.out)):g:=hw ⟨h⟩
theorem Nt {g g':Prop} (h:g') (hw:eA g'→g:=by(intro hk_;refine aa.he (HE.bV (V:=bw c.ao) (V2:=bw (aZ c.ao).1) (tf:=fun y=>.tuple #[.agg (gw (aZ c.ao).1 y).toArray,.int .i64 (aZ c.ao).2.1,.int .i64 (aZ c.ao).2.2]) (w0:=w) (F:=F) (D:=(fun _=>False)) (y:=⟨.slice p1 c.ao.ts.length c1,.slice p2 c.ao.ps.length c2,.slice p3 c.ao.ps.length c3⟩) (bw.fr _) (bw.lt _) (bw.mo _) ak bO (fun _=>aH) rfl rfl (fun w' _ hh=>kK _ c.ao ⟨.slice p1 c.ao.ts.length c1,.slice p2 c.ao.ps.length c2,.slice p3 c.ao.ps.length c3⟩ w' hh hs.some hs.at_.1)) rfl ?_;exact hk_.out)):g:=hw ⟨h⟩
theorem Nu {g g':Prop} (h:g') (hw:eA g'→g:=by(intro hk_;refine ae (l:=[_,_]) Tryz.func161 rfl Tryz.ntmps161 rfl (Ok.start w) ?_;exact hk_.out)):g:=hw ⟨h⟩
theorem Nv {g g':Prop} (h:g') (hw:eA g'→g:=by(intro hk_;refine aa.he (HE.nc rfl rfl (fun _=>aH) aH rfl rfl rfl (by rfl) (by rfl) (by rfl) (by rfl) mf (by decide) nW) rfl ?_;exact hk_.out)):g:=hw ⟨h⟩
theorem Nw {g g':Prop} (h:g') (hw:eA g'→g:=by(intro hk_;refine bh.dQ [0,1,2,3,4,5,6,7,8,9,10] 11 [.aW b _ iF,.aW bx [.pointer (some ⟨sp,0,none⟩)] qv,.aW sp [tv,fv,bv,mv,gv,ev,.int .i64 X.bg,.map (some im),.map (some dm)] zp] [] (by kernel_rfl) bz aU ?_;exact hk_.out)):g:=hw ⟨h⟩
theorem Nx {g g':Prop} (h:g') (hw:eA g'→g:=by(intro hk_;refine bF.he (HE.app rfl rfl (fun _=>aH) aH rfl rfl rfl (by rfl) (by rfl) (by rfl) (by rfl) (by rfl) (by rfl) (by omega) (fun w' hw'=>Nat.le_trans hB (show bX S0 w w' from hw'.at).size)) rfl (fun _=>bz) (fun _=>aU) ?_;exact hk_.out)):g:=hw ⟨h⟩
theorem Ny {g g':Prop} (h:g') (hw:eA g'→g:=by(intro hk_;refine bF.iO (gj.gz rfl rfl rfl rfl hone aH pn) rfl ?_;exact hk_.out)):g:=hw ⟨h⟩
theorem Nz {g g':Prop} (h:g') (hw:eA g'→g:=by(intro hk_;refine aa.y_ (Yl.ji rfl rfl rfl ak (by rfl) (by rfl) hc5) rfl ?_;exact hk_.out)):g:=hw ⟨h⟩
theorem NA {g g':Prop} (h:g') (hw:eA g'→g:=by(intro hk_;refine bF.he (HE.app rfl rfl (fun _=>aH) aH rfl rfl rfl (by rfl) (by rfl) (by rfl) (by rfl) (by rfl) (by rfl) (by omega) nW) rfl (fun _=>bz) (fun _=>aU) ?_;exact hk_.out)):g:=hw ⟨h⟩
theorem NB {g g':Prop} (h:g') (hw:eA g'→g:=by(intro hk_;refine aq.e (bU.alloc rfl) rfl ?_;exact hk_.out)):g:=hw ⟨h⟩
theorem NC {g g':Prop} (h:g') (hw:eA g'→g:=by(intro hk_;refine ek.take 0 rfl (by kernel_rfl) (Yl.move rfl) ?_;exact hk_.out)):g:=hw ⟨h⟩
theorem ND {g g':Prop} (h:g') (hw:eA g'→g:=by(intro hk_;refine ek.take 1 rfl (by kernel_rfl) (Yl.dC Tryz.underlying9 rfl rfl (i:=4) rfl (by omega)) ?_;exact hk_.out)):g:=hw ⟨h⟩
theorem NE {g g':Prop} (h:g') (hw:eA g'→g:=by(intro hk_;refine ek.take 3 rfl (by kernel_rfl) (Yl.move rfl) ?_;exact hk_.out)):g:=hw ⟨h⟩
theorem NF {g g':Prop} (h:g') (hw:eA g'→g:=by(intro hk_;refine ek.one 2 (by kernel_rfl) rfl rfl (bU.buildSlice (cs:=[.string ⟨#[56]⟩,.string ⟨#[49,54]⟩,.string ⟨#[51,50]⟩]) (e:=9) rfl (by kernel_rfl)) ?_;exact hk_.out)):g:=hw ⟨h⟩
theorem NG {g g':Prop} (h:g') (hw:eA g'→g:=by(intro hk_;refine aq.e (bU.buildSlice (cs:=[.int .i64 1]) (e:=59) rfl (by kernel_rfl)) rfl ?_;exact hk_.out)):g:=hw ⟨h⟩
theorem NH {g g':Prop} (h:g') (hw:eA g'→g:=by(intro hk_;refine aq.e (bU.buildSlice (cs:=[.int .i64 t]) (e:=59) rfl (by kernel_rfl)) rfl ?_;exact hk_.out)):g:=hw ⟨h⟩
theorem NI {g g':Prop} (h:g') (hw:eA g'→g:=by(intro hk_;refine aq.call rfl rfl rfl (cD _ _ _ _ _ _ wR) ?_;exact hk_.out)):g:=hw ⟨h⟩
theorem NJ {g g':Prop} (h:g') (hw:eA g'→g:=by(intro hk_;refine aq.e0 (bU.bn (ti:=iK) (cs:=[_,_]) rfl rfl rfl rfl rfl (by simp[Value.oneCell']) (hb1.aN hxwC id) rfl) ?_;exact hk_.out)):g:=hw ⟨h⟩
theorem NK {g g':Prop} (h:g') (hw:eA g'→g:=by(intro hk_;refine Fin.bB (.inl rfl) rfl rfl rfl rfl rfl hbD rfl ⟨⟨_,rfl,?_⟩,hxD⟩;exact hk_.out)):g:=hw ⟨h⟩
theorem NL {g g':Prop} (h:g') (hw:eA g'→g:=by(intro hk_;refine aq.e (bU.buildSlice (cs:=[.int .i64 t,.int .i64 t]) (e:=59) rfl (by kernel_rfl)) rfl ?_;exact hk_.out)):g:=hw ⟨h⟩
theorem NM {g g':Prop} (h:g') (hw:eA g'→g:=by(intro hk_;refine aq.e0 (bU.bn (ti:=iK) (cs:=[.slice none 0 0,.slice none 0 0]) rfl rfl rfl rfl rfl (by simp[Value.oneCell']) hb1 rfl) ?_;exact hk_.out)):g:=hw ⟨h⟩
theorem NN {g g':Prop} (h:g') (hw:eA g'→g:=by(intro hk_;refine aq.e (bU.buildSlice (cs:=[.int .i64 2]) (e:=59) rfl (by kernel_rfl)) rfl ?_;exact hk_.out)):g:=hw ⟨h⟩
theorem NO {g g':Prop} (h:g') (hw:eA g'→g:=by(intro hk_;refine aq.call rfl rfl rfl (cD _ _ _ _ _ _ w2) ?_;exact hk_.out)):g:=hw ⟨h⟩
theorem NP {g g':Prop} (h:g') (hw:eA g'→g:=by(intro hk_;refine aq.y (Yl.build (v:=.agg #[.slice none 0 0,.slice none 0 0,.slice none 0 0,.slice none 0 0]) rfl (fun _=>by kernel_rfl)) rfl ?_;exact hk_.out)):g:=hw ⟨h⟩
theorem NQ {g g':Prop} (h:g') (hw:eA g'→g:=by(intro hk_;refine aq.e0 (bU.bn rfl rfl rfl rfl rfl (by simp[Value.oneCell']) hls4.res rfl) ?_;exact hk_.out)):g:=hw ⟨h⟩
theorem NR {g g':Prop} (h:g') (hw:eA g'→g:=by(intro hk_;refine aq.y (Yl.build (v:=.agg #[.int .i64 (i:Int),.bool false]) rfl (fun _=>by kernel_rfl)) rfl ?_;exact hk_.out)):g:=hw ⟨h⟩
theorem NS {g g':Prop} (h:g') (hw:eA g'→g:=by(intro hk_;refine aq.e (bU.buildSlice (cs:=[.int .i64 (i:Int),.bool false]) (e:=173) rfl (by kernel_rfl)) rfl ?_;exact hk_.out)):g:=hw ⟨h⟩
theorem NT {g g':Prop} (h:g') (hw:eA g'→g:=by(intro hk_;refine aa.he (HE.bJ (M0:=aX sp s (tv,pv)) dU rfl rfl (fun w' hw'=>mX sp s (tv,pv) w' (hw'.dc dV (fun p hp=>absurd hp (by simp))) hwf.some hwf.at_.1)) rfl ?_;exact hk_.out)):g:=hw ⟨h⟩
theorem NU {g:Prop} {g':Nat→Prop} (h:∀b,g' b) (hw:eA (∀b,g' b)→g:=by(intro hk_;first|exact aF hk_.out|exact bL hk_.out|exact ay hk_.out|exact aA hk_.out|exact aR hk_.out|exact aQ hk_.out)):g:=hw ⟨h⟩
theorem NV {g:Prop} {g':Nat→Prop} (h:∀b,g' b) (hw:eA (∀b,g' b)→g:=by(intro hk_;first|exact aF hk_.out|exact ay hk_.out|exact aA hk_.out|exact aR hk_.out|exact aQ hk_.out)):g:=hw ⟨h⟩
theorem NW {g:Prop} {g':Nat→Prop} (h:∀b,g' b) (hw:eA (∀b,g' b)→g:=by(intro hk_;first|exact ay hk_.out|exact aA hk_.out|exact aR hk_.out|exact aQ hk_.out)):g:=hw ⟨h⟩
theorem NX {g:Prop} {g':Nat→Prop} (h:∀b,g' b) (hw:eA (∀b,g' b)→g:=by(intro hk_;first|exact aF hk_.out|exact ew hk_.out|exact dy hk_.out|exact gh hk_.out)):g:=hw ⟨h⟩
theorem NY {g:Prop} {g':Nat→Prop} (h:∀b,g' b) (hw:eA (∀b,g' b)→g:=by(intro hk_;first|exact ew hk_.out|exact dy hk_.out|exact gh hk_.out)):g:=hw ⟨h⟩
theorem NZ {g:Prop} {g':Nat→Prop} (h:∀b,g' b) (hw:eA (∀b,g' b)→g:=by(intro hk_;first|exact aF hk_.out|exact ay hk_.out|exact oy hk_.out)):g:=hw ⟨h⟩
theorem N0 {g:Prop} {g':Nat→Prop} (h:∀b,g' b) (hw:eA (∀b,g' b)→g:=by(intro hk_;first|exact aF hk_.out|exact ay hk_.out)):g:=hw ⟨h⟩
theorem N1 {g:Prop} {g':Nat→Prop} (h:∀b,g' b) (hw:eA (∀b,g' b)→g:=by(intro hk_;first|exact kX hk_.out|exact ay hk_.out)):g:=hw ⟨h⟩
theorem N2 {g g':Prop} (h:g') (hw:eA g'→g:=by(intro hk_;refine aa.aj (f:=38) ?_;refine aa.av rfl rfl rfl (fun w' hw'=>hov w' (hw'.an (V:=cG (bP cC)) (w0:=w1) (F:=fun _=>True) (D:=D7) (y:=⟨⟨.slice q1 q2 q3,.slice q4 q5 q6,.slice q7 q8 q9⟩,.slice q11 q12 q13,.slice q14 q15 q16,ez⟩) ak bO).1) ?_;exact hk_.out)):g:=hw ⟨h⟩
theorem N3 {g g':Prop} (h:g') (hw:eA g'→g:=by(intro hk_;refine aa.aj (f:=41) ?_;refine aa.av rfl rfl rfl (fun w' hw'=>kg sp s.ps.length c2 (some ⟨g2,0,none⟩) w' ((show Ext w w' from hw'.at).cell k1) hp) ?_;exact hk_.out)):g:=hw ⟨h⟩
theorem N4 {g g':Prop} (h:g') (hw:eA g'→g:=by(intro hk_;refine aa.eN ?_;refine aa.yg (by first|rfl|exact td rfl eJ|exact vQ rfl eJ|fail) (Yl.gn (i:=i) rfl rfl rfl rfl rfl (by omega) (by omega)) rfl ?_;exact hk_.out)):g:=hw ⟨h⟩
theorem N5 {g g':Prop} (h:g') (hw:eA g'→g:=by(intro hk_;refine aa.aj (f:=34) ?_;refine aa.av rfl rfl rfl (fun w' hw'=>so xs _ w' (Body.true (q1.aN (show Ext w w' from hw'.at) (fun _ _ _ h=>h)))) ?_;exact hk_.out)):g:=hw ⟨h⟩
theorem N6 {g g':Prop} (h:g') (hw:eA g'→g:=by(intro hk_;refine aa.aj (f:=30) ?_;refine aa.av rfl rfl rfl (fun w' hw'=>tS xs _ w' (q1.aN (show Ext w0 w' from hw'.at) (fun _ _ _ h=>h)) (by omega)) ?_;exact hk_.out)):g:=hw ⟨h⟩
theorem N7 {g g':Prop} (h:g') (hw:eA g'→g:=by(intro hk_;refine aa.aj (f:=39) ?_;refine aa.av rfl rfl rfl (fun w' hw'=>gY cp ⟨sp,0,none⟩ c.broken w' (hw'.c1 aH (by rfl)) (hw'.c1 aH (by rfl))) ?_;exact hk_.out)):g:=hw ⟨h⟩
theorem N8 {g g':Prop} (h:g') (hw:eA g'→g:=by(intro hk_;refine aa.cK (f:=87) ?_;refine aa.cB pk rfl rfl rfl (fun w' hw'=>hsv w' ((show iZ D w' L from(hw'.m (.kq iZ iZ.fr D L) bO).1) _ hin)) ?_;exact hk_.out)):g:=hw ⟨h⟩
theorem N9 {g g':Prop} (h:g') (hw:eA g'→g:=by(intro hk_;refine aa.aj (f:=41) ?_;refine aa.av rfl rfl rfl (fun w' hw'=>kg sp s.ps.length c2 (some ⟨g2,0,none⟩) w' (hw'.c1 aH (by rfl)) hp) ?_;exact hk_.out)):g:=hw ⟨h⟩
theorem Oa {g g':Prop} (h:g') (hw:eA g'→g:=by(intro hk_;refine aa.aj (f:=78) ?_;refine aa.av rfl rfl rfl (fun w' hw'=>mg bS sp w' (h.s.aN (show Ext w w' from hw'.at) (fun h=>h))) ?_;exact hk_.out)):g:=hw ⟨h⟩
theorem Ob {g g':Prop} (h:g') (hw:eA g'→g:=by(intro hk_;refine aa.aj (f:=48) ?_;refine aa.av rfl rfl rfl (fun w' hw'=>hno w' _ (hw'.sub (List.Sublist.refl _) aU)) ?_;exact hk_.out)):g:=hw ⟨h⟩
theorem Oc {g g':Prop} (h:g') (hw:eA g'→g:=by(intro hk_;refine aa.aj (f:=26) ?_;refine aa.av rfl rfl rfl (fun w' hw'=>eF cp ⟨sp,0,none⟩ w' (hw'.c1 aH (by rfl))) ?_;exact hk_.out)):g:=hw ⟨h⟩
theorem Od {g g':Prop} (h:g') (hw:eA g'→g:=by(intro hk_;refine aa.aE ?_;refine aa.yg (by first|rfl|exact td rfl eB|exact vQ rfl eB) (Yl.sc rfl rfl) rfl ?_;exact hk_.out)):g:=hw ⟨h⟩
theorem Oe {g g':Prop} (h:g') (hw:eA g'→g:=by(intro hk_;refine aa.eN ?_;refine aa.y_ (Yl.gn (i:=i) rfl rfl rfl rfl rfl (by omega) (by omega)) rfl ?_;exact hk_.out)):g:=hw ⟨h⟩
theorem Og {g g':Prop} (h:g') (hw:eA g'→g:=by(intro hk_;refine aa.aj (f:=155) ?_;refine aa.av rfl rfl rfl (fun w' hw'=>gU _ _ _ _ _ _ w') ?_;exact hk_.out)):g:=hw ⟨h⟩
theorem Oh {g g':Prop} (h:g') (hw:eA g'→g:=by(intro hk_;refine aa.aj (f:=204) ?_;refine aa.av rfl rfl rfl (fun w' hw'=>uE _ _ _ _ _ _ w') ?_;exact hk_.out)):g:=hw ⟨h⟩
theorem Oi {g g':Prop} (h:g') (hw:eA g'→g:=by(intro hk_;refine aa.cK (f:=63) ?_;refine aa.cB pk rfl rfl rfl (fun w' hw'=>htop w' hw'.at) ?_;exact hk_.out)):g:=hw ⟨h⟩
theorem Oj {g g':Prop} (h:g') (hw:eA g'→g:=by(intro hk_;refine aa.cK (f:=109) ?_;refine aa.cB pk rfl rfl rfl (fun w' hw'=>hl w' hw'.at) ?_;exact hk_.out)):g:=hw ⟨h⟩
theorem Ol {g g':Prop} (h:g') (hw:eA g'→g:=by(intro hk_;refine aa.aj (f:=72) ?_;refine aa.av rfl rfl rfl (fun w' hw'=>hcall w' hw'.at) ?_;exact hk_.out)):g:=hw ⟨h⟩
theorem Om {g g':Prop} (h:g') (hw:eA g'→g:=by(intro hk_;refine aa.aj (f:=150) ?_;refine aa.av rfl rfl rfl (fun w' hw'=>hmk w' hw'.at) ?_;exact hk_.out)):g:=hw ⟨h⟩
theorem On {g g':Prop} (h:g') (hw:eA g'→g:=by(intro hk_;refine aa.aj (f:=95) ?_;refine aa.av rfl rfl rfl (fun w' hw'=>hof w' hw'.at) ?_;exact hk_.out)):g:=hw ⟨h⟩
theorem Oo {g g':Prop} (h:g') (hw:eA g'→g:=by(intro hk_;refine aa.aj (f:=124) ?_;refine aa.av rfl rfl rfl (fun w' hw'=>hk w' hw'.at) ?_;exact hk_.out)):g:=hw ⟨h⟩
theorem Oq {g g':Prop} (h:g') (hw:eA g'→g:=by(intro hk_;refine aa.aj (f:=123) ?_;refine aa.av rfl rfl rfl (fun w' hw'=>hu w' hw'.at) ?_;exact hk_.out)):g:=hw ⟨h⟩
theorem Ot {g g':Prop} (h:g') (hw:eA g'→g:=by(intro hk_;refine aa.aj (f:=105) ?_;refine aa.av rfl rfl rfl (fun w' hw'=>ho w' hw'.at) ?_;exact hk_.out)):g:=hw ⟨h⟩
theorem Ou {g g':Prop} (h:g') (hw:eA g'→g:=by(intro hk_;refine aa.aj (f:=106) ?_;refine aa.av rfl rfl rfl (fun w' hw'=>hk w' hw'.at) ?_;exact hk_.out)):g:=hw ⟨h⟩
theorem Ov {g g':Prop} (h:g') (hw:eA g'→g:=by(intro hk_;refine aa.aj (f:=64) ?_;refine aa.av rfl rfl rfl (fun w' hw'=>hpl w' hw'.at) ?_;exact hk_.out)):g:=hw ⟨h⟩
theorem Ow {g g':Prop} (h:g') (hw:eA g'→g:=by(intro hk_;refine aa.aj (f:=95) ?_;refine aa.av rfl rfl rfl (fun w' hw'=>ho w' hw'.at) ?_;exact hk_.out)):g:=hw ⟨h⟩
theorem Ox {g g':Prop} (h:g') (hw:eA g'→g:=by(intro hk_;refine aa.cK (f:=125) ?_;refine aa.cB pk rfl rfl rfl (fun w' hw'=>cE _ w') ?_;exact hk_.out)):g:=hw ⟨h⟩
theorem Oy {g g':Prop} (h:g') (hw:eA g'→g:=by(intro hk_;refine aa.cK (f:=108) ?_;refine aa.cB pk rfl rfl rfl (fun w' hw'=>fm _ w') ?_;exact hk_.out)):g:=hw ⟨h⟩
theorem Oz {g g':Prop} (h:g') (hw:eA g'→g:=by(intro hk_;refine aa.aj (f:=152) ?_;refine aa.av rfl rfl rfl (fun w' hw'=>kL _ w') ?_;exact hk_.out)):g:=hw ⟨h⟩
theorem OA {g g':Prop} (h:g') (hw:eA g'→g:=by(intro hk_;refine aa.aj (f:=108) ?_;refine aa.av rfl rfl rfl (fun w' hw'=>fm _ w') ?_;exact hk_.out)):g:=hw ⟨h⟩
theorem OB {g g':Prop} (h:g') (hw:eA g'→g:=by(intro hk_;refine aa.aj (f:=105) ?_;refine aa.av rfl rfl rfl (fun w' hw'=>hof w') ?_;exact hk_.out)):g:=hw ⟨h⟩
theorem OC {g g':Prop} (h:g') (hw:eA g'→g:=by(intro hk_;refine aa.aE ?_;refine aa.y_ (Yl.pf Tryz.underlying105 rfl rfl) rfl ?_;exact hk_.out)):g:=hw ⟨h⟩
theorem OD {g g':Prop} (h:g') (hw:eA g'→g:=by(intro hk_;refine aa.aE ?_;refine aa.y_ (Yl.pf Tryz.underlying39 rfl rfl) rfl ?_;exact hk_.out)):g:=hw ⟨h⟩
theorem OE {g g':Prop} (h:g') (hw:eA g'→g:=by(intro hk_;refine aa.aj (f:=94) ?_;refine aa.av rfl rfl rfl (fun w' _=>k1 w') ?_;exact hk_.out)):g:=hw ⟨h⟩
theorem OF {p:Prop} (h:p:=by intro w_;repeat(first|((with_reducible apply Ld.aW);rfl)|(with_reducible exact Ld.cl)|((with_reducible apply Ld.CA);with_reducible assumption)|(exact Ld.cs 0 rfl rfl)|(exact Ld.cs _ rfl rfl)|apply Ld.mh|apply Ld.mi)):p:=h
theorem OG {p:Prop} (h:p:=by dsimp only;repeat(first|exact vz|refine rO (by repeat(first|with_reducible exact List.mem_cons_self|apply List.mem_cons_of_mem)) ?_)):p:=h
theorem OH {p:Prop} (h:p:=by repeat(first|exact Cells.nil|exact App.nil|(with_reducible apply Cells.agg)|apply Cells.one|apply App.cons)):p:=h
theorem OI {p:Prop} (h:p:=by repeat(first|exact mG|(apply mH;rfl;rfl;rfl;(repeat(first|exact fX.zero|apply fX.succ))))):p:=h
theorem OJ {p:Prop} (h:p:=by repeat(first|with_reducible exact List.mem_cons_self|apply List.mem_cons_of_mem)):p:=h
theorem OK {p:Prop} (h:p:=by first|(dsimp only[aT,aX,List.cons_append,List.nil_append];exact bz)|exact bz):p:=h
theorem OL {p:Prop} (h:p:=by repeat(first|exact jc.zero|apply jc.succ|apply ja.here|apply ja.drop)):p:=h
theorem OM {p:Prop} (h:p:=by unfold k9;simp only[List.cons_append,List.nil_append];exact pq):p:=h
theorem ON {p:Prop} (h:p:=by dsimp only[aT,aX,List.cons_append,List.nil_append];exact dV):p:=h
theorem OO {p:Prop} (h:p:=by repeat(first|with_reducible exact Up.head|apply Up.tail)):p:=h
theorem OP {p:Prop} (h:p:=by show(0+(c.fs.length - 1))*64≤140737488355328;omega):p:=h
theorem OQ {p:Prop} (h:p:=by intro _ hw_;cases hw_;with_reducible assumption):p:=h
theorem OS {p:Prop} (h:p:=by first|rfl|exact td rfl eJ|exact vQ rfl eJ|fail):p:=h
theorem OT {p:Prop} (h:p:=by repeat(first|exact fX.zero|apply fX.succ)):p:=h
theorem OU {p:Prop} (h:p:=by have:=hn2.ext.size;have:=hx2.size;omega):p:=h
theorem OV {p:Prop} (h:p:=by rw[←kQ,rT,List.length_drop,kQ];omega):p:=h
theorem OW {p:Prop} (h:p:=by show(0+f.params.length)*8≤_;omega):p:=h
theorem OX {p:Prop} (h:p:=by rw[List.getElem?_map,iz hi];rfl):p:=h
theorem OY {p:Prop} (h:p:=by cases hz:cJ (ec m) b<;>simp_all):p:=h
theorem OZ {p:Prop} (h:p:=by rw[List.length_take];omega):p:=h
theorem O0 {p:Prop} (h:p:=by first|decide|assumption):p:=h
theorem O1 {p:Prop} (h:p:=by have:=hxw1.size;omega):p:=h
theorem O2 {p:Prop} (h:p:=by have:=hxwP.size;omega):p:=h
theorem O3 {p:Prop} (h:p:=by simp[Value.oneCell']):p:=h
theorem O4 {p:Prop} (h:p:=by unfold maxLen;omega):p:=h
theorem O5 {p:Prop} (h:p:=by unfold k9;exact bz):p:=h
theorem O6 {p:Prop} (h:p:=by dsimp only;omega):p:=h
theorem O7 {p:Prop} (h:p:=by rw[hS];exact ak):p:=h
theorem O8 {p:Prop} (h:p:=by first|rfl|fail):p:=h
theorem O9 {p:Prop} (h:p:=by decide+kernel):p:=h
theorem Pa {p:Prop} (h:p:=by simpa using h):p:=h
theorem Pb {p:Prop} (h:p:=by kernel_rfl):p:=h
theorem Pc {p:Prop} (h:p:=by assumption):p:=h
theorem Pd {p:Prop} (h:p:=by rw[hst,hi]):p:=h
theorem Pe {p:Prop} (h:p:=by simp;omega):p:=h
theorem Pf {p:Prop} (h:p:=by simp[qm]):p:=h
theorem Pg {p:Prop} (h:p:=by simp[aY]):p:=h
theorem Ph {p:Prop} (h:p:=by decide):p:=h
theorem Pi {p:Prop} (h:p:=by omega):p:=h
theorem Pj {p:Prop} (h:p:=by simp):p:=h
theorem Pk {p:Prop} (h:p:=by rfl):p:=h
theorem eB {p:Prop} (h:p:=by first|with_reducible assumption|decide):p:=h
theorem eJ {p:Prop} (h:p:=by with_reducible assumption):p:=h
theorem lu {g g':Prop} (h:g') (hw:eA g'→g:=by(intro hk_;(repeat(first|refine aq.y (Yl.move rfl) rfl ?_|refine aq.y (Yl.assign rfl) rfl ?_|(refine aq.is ?_;(first|(refine aq.CF ?_;(first|refine aq.gs rfl rfl rfl ?_|refine aq.gu rfl rfl ?_|refine aq.yg rfl (Yl.move rfl) rfl ?_|refine aq.yg rfl (Yl.assign rfl) rfl ?_|(refine aq.aE ?_;(first|(refine aq.aE (bo:=.lss) ?_;(first|refine aq.yg rfl (Yl.lH rfl rfl (by omega)) rfl ?_|refine aq.yg rfl (Yl.lG rfl rfl (by omega)) rfl ?_))|(refine aq.aE (bo:=.eql) ?_;(first|refine aq.yg rfl (Yl.ly rfl rfl (by omega)) rfl ?_|refine aq.yg rfl (Yl.lx rfl rfl (by omega)) rfl ?_))|(refine aq.aE (bo:=.neq) ?_;(first|refine aq.yg rfl (Yl.lK rfl rfl (by omega)) rfl ?_|refine aq.yg rfl (Yl.lJ rfl rfl (by omega)) rfl ?_))|(refine aq.aE (bo:=.leq) ?_;(first|refine aq.yg rfl (Yl.lF rfl rfl (by omega)) rfl ?_|refine aq.yg rfl (Yl.lE rfl rfl (by omega)) rfl ?_))|(refine aq.aE (bo:=.gtr) ?_;(first|refine aq.yg rfl (Yl.lC rfl rfl (by omega)) rfl ?_|refine aq.yg rfl (Yl.lB rfl rfl (by omega)) rfl ?_))|(refine aq.aE (bo:=.geq) ?_;(first|refine aq.yg rfl (Yl.lA rfl rfl (by omega)) rfl ?_|refine aq.yg rfl (Yl.lz rfl rfl (by omega)) rfl ?_))|refine aq.yg rfl (Yl.add rfl rfl (by omega)) rfl ?_|refine aq.yg rfl (Yl.sub rfl rfl (by omega)) rfl ?_|refine aq.yg rfl (Yl.jh rfl rfl rfl rfl) rfl ?_|refine aq.yg rfl (Yl.mr Tryz.underlying4 rfl rfl) rfl ?_|refine aq.yg rfl (Yl.mq Tryz.underlying4 rfl rfl) rfl ?_))|(refine aq.isField ?_;(first|refine aq.yg rfl (Yl.gJ rfl rfl rfl) rfl ?_|refine aq.yg rfl (Yl.field rfl rfl rfl) rfl ?_))|(refine aq.dn ?_;(first|refine aq.yg rfl (Yl.load rfl rfl rfl (by intro _ hw_;cases hw_;with_reducible assumption)) rfl ?_|refine aq.yg rfl (Yl.load rfl rfl rfl (sa eJ)) rfl ?_|refine aq.yg rfl (Yl.load rfl rfl rfl eJ) rfl ?_))|(refine aq.eN ?_;(first|refine aq.yg rfl (Yl.gn rfl rfl rfl rfl rfl rfl (by omega)) rfl ?_|refine aq.yg rfl (Yl.idx rfl rfl rfl rfl rfl rfl (by omega)) rfl ?_))|refine aq.yg rfl (Yl.len rfl rfl rfl) rfl ?_|refine aq.yg rfl (Yl.extract rfl rfl) rfl ?_|refine aq.yg rfl (Yl.fT rfl rfl) rfl ?_|refine aq.yg rfl (Yl.fS rfl rfl) rfl ?_|refine aq.yg rfl (Yl.nilCheck rfl) rfl ?_|refine aq.yg rfl (Yl.not rfl) rfl ?_|refine aq.yg rfl (Yl.makeFunc rfl rfl) rfl ?_))|refine aq.nil ?_|refine aq.G2 ?_|refine aq.DR ?_|(refine aq.aE ?_;(first|(refine aq.aE (bo:=.lss) ?_;(first|refine aq.y (Yl.lH rfl rfl (by omega)) rfl ?_|refine aq.y (Yl.lG rfl rfl (by omega)) rfl ?_))|(refine aq.aE (bo:=.eql) ?_;(first|refine aq.y (Yl.ly rfl rfl (by omega)) rfl ?_|refine aq.y (Yl.lx rfl rfl (by omega)) rfl ?_))|(refine aq.aE (bo:=.neq) ?_;(first|refine aq.y (Yl.lK rfl rfl (by omega)) rfl ?_|refine aq.y (Yl.lJ rfl rfl (by omega)) rfl ?_))|(refine aq.aE (bo:=.leq) ?_;(first|refine aq.y (Yl.lF rfl rfl (by omega)) rfl ?_|refine aq.y (Yl.lE rfl rfl (by omega)) rfl ?_))|(refine aq.aE (bo:=.gtr) ?_;(first|refine aq.y (Yl.lC rfl rfl (by omega)) rfl ?_|refine aq.y (Yl.lB rfl rfl (by omega)) rfl ?_))|(refine aq.aE (bo:=.geq) ?_;(first|refine aq.y (Yl.lA rfl rfl (by omega)) rfl ?_|refine aq.y (Yl.lz rfl rfl (by omega)) rfl ?_))|refine aq.y (Yl.add rfl rfl (by omega)) rfl ?_|refine aq.y (Yl.sub rfl rfl (by omega)) rfl ?_|refine aq.y (Yl.jh rfl rfl rfl rfl) rfl ?_|refine aq.y (Yl.mr Tryz.underlying4 rfl rfl) rfl ?_|refine aq.y (Yl.mq Tryz.underlying4 rfl rfl) rfl ?_))|(refine aq.isField ?_;(first|refine aq.y (Yl.gJ rfl rfl rfl) rfl ?_|refine aq.y (Yl.field rfl rfl rfl) rfl ?_))|(refine aq.dn ?_;(first|refine aq.y (Yl.load rfl rfl rfl (by intro _ hw_;cases hw_;with_reducible assumption)) rfl ?_|refine aq.y (Yl.load rfl rfl rfl (sa eJ)) rfl ?_|refine aq.y (Yl.load rfl rfl rfl eJ) rfl ?_))|(refine aq.eN ?_;(first|refine aq.y (Yl.gn rfl rfl rfl rfl rfl rfl (by omega)) rfl ?_|refine aq.y (Yl.idx rfl rfl rfl rfl rfl rfl (by omega)) rfl ?_))|refine aq.y (Yl.len rfl rfl rfl) rfl ?_|refine aq.y (Yl.extract rfl rfl) rfl ?_|refine aq.y (Yl.fT rfl rfl) rfl ?_|refine aq.y (Yl.fS rfl rfl) rfl ?_|refine aq.y (Yl.nilCheck rfl) rfl ?_|refine aq.y (Yl.not rfl) rfl ?_|refine aq.y (Yl.makeFunc rfl rfl) rfl ?_))|(refine Cd.is ?_;(first|refine Cd.seq ?_|refine Cd.region ?_|refine Cd.block ?_|refine Cd.jf rfl ?_|refine Cd.je rfl ?_|refine Cd.skip ?_|refine Cd.ret ?_|refine Cd.exit ?_|refine Cd.label ?_))|(refine Fin.is ?_;(first|refine Fin.lf ?_|refine Fin.pR ?_|refine Fin.lg ?_|refine Fin.pS ?_|refine Fin.lh ?_|refine Fin.pT ?_|refine Fin.xV rfl ?_))));exact hk_.out)):g:=hw ⟨h⟩
theorem eM {g g':Prop} (h:g') (hw:eA g'→g:=by(intro hk_;(repeat(first|refine aq.y (Yl.move rfl) rfl ?_|refine aq.y (Yl.assign rfl) rfl ?_|(refine aq.is ?_;(first|(refine aq.CF ?_;(first|refine aq.gs rfl rfl rfl ?_|refine aq.gu rfl rfl ?_|refine aq.yg rfl (Yl.move rfl) rfl ?_|refine aq.yg rfl (Yl.assign rfl) rfl ?_|(refine aq.aE ?_;(first|(refine aq.aE (bo:=.lss) ?_;(first|refine aq.yg rfl (Yl.lH rfl rfl (by omega)) rfl ?_|refine aq.yg rfl (Yl.lG rfl rfl (by omega)) rfl ?_))|(refine aq.aE (bo:=.eql) ?_;(first|refine aq.yg rfl (Yl.ly rfl rfl (by omega)) rfl ?_|refine aq.yg rfl (Yl.lx rfl rfl (by omega)) rfl ?_))|(refine aq.aE (bo:=.neq) ?_;(first|refine aq.yg rfl (Yl.lK rfl rfl (by omega)) rfl ?_|refine aq.yg rfl (Yl.lJ rfl rfl (by omega)) rfl ?_))|(refine aq.aE (bo:=.leq) ?_;(first|refine aq.yg rfl (Yl.lF rfl rfl (by omega)) rfl ?_|refine aq.yg rfl (Yl.lE rfl rfl (by omega)) rfl ?_))|(refine aq.aE (bo:=.gtr) ?_;(first|refine aq.yg rfl (Yl.lC rfl rfl (by omega)) rfl ?_|refine aq.yg rfl (Yl.lB rfl rfl (by omega)) rfl ?_))|(refine aq.aE (bo:=.geq) ?_;(first|refine aq.yg rfl (Yl.lA rfl rfl (by omega)) rfl ?_|refine aq.yg rfl (Yl.lz rfl rfl (by omega)) rfl ?_))|refine aq.yg rfl (Yl.add rfl rfl (by omega)) rfl ?_|refine aq.yg rfl (Yl.sub rfl rfl (by omega)) rfl ?_|refine aq.yg rfl (Yl.jh rfl rfl rfl rfl) rfl ?_|refine aq.yg rfl (Yl.mr Tryz.underlying4 rfl rfl) rfl ?_|refine aq.yg rfl (Yl.mq Tryz.underlying4 rfl rfl) rfl ?_))|(refine aq.isField ?_;(first|refine aq.yg rfl (Yl.gJ rfl rfl rfl) rfl ?_|refine aq.yg rfl (Yl.field rfl rfl rfl) rfl ?_))|(refine aq.dn ?_;(first|refine aq.yg rfl (Yl.load rfl rfl rfl (by intro _ hw_;cases hw_;with_reducible assumption)) rfl ?_|refine aq.yg rfl (Yl.load rfl rfl rfl (sa eJ)) rfl ?_|refine aq.yg rfl (Yl.load rfl rfl rfl eJ) rfl ?_))|(refine aq.eN ?_;(first|refine aq.yg rfl (Yl.gn rfl rfl rfl rfl rfl rfl (by omega)) rfl ?_|refine aq.yg rfl (Yl.idx rfl rfl rfl rfl rfl rfl (by omega)) rfl ?_))|refine aq.yg rfl (Yl.len rfl rfl rfl) rfl ?_|refine aq.yg rfl (Yl.extract rfl rfl) rfl ?_|refine aq.yg rfl (Yl.fT rfl rfl) rfl ?_|refine aq.yg rfl (Yl.fS rfl rfl) rfl ?_|refine aq.yg rfl (Yl.nilCheck rfl) rfl ?_|refine aq.yg rfl (Yl.not rfl) rfl ?_|refine aq.yg rfl (Yl.makeFunc rfl rfl) rfl ?_))|refine aq.nil ?_|refine aq.G2 ?_|refine aq.DR ?_|(refine aq.aE ?_;(first|(refine aq.aE (bo:=.lss) ?_;(first|refine aq.y (Yl.lH rfl rfl (by omega)) rfl ?_|refine aq.y (Yl.lG rfl rfl (by omega)) rfl ?_))|(refine aq.aE (bo:=.eql) ?_;(first|refine aq.y (Yl.ly rfl rfl (by omega)) rfl ?_|refine aq.y (Yl.lx rfl rfl (by omega)) rfl ?_))|(refine aq.aE (bo:=.neq) ?_;(first|refine aq.y (Yl.lK rfl rfl (by omega)) rfl ?_|refine aq.y (Yl.lJ rfl rfl (by omega)) rfl ?_))|(refine aq.aE (bo:=.leq) ?_;(first|refine aq.y (Yl.lF rfl rfl (by omega)) rfl ?_|refine aq.y (Yl.lE rfl rfl (by omega)) rfl ?_))|(refine aq.aE (bo:=.gtr) ?_;(first|refine aq.y (Yl.lC rfl rfl (by omega)) rfl ?_|refine aq.y (Yl.lB rfl rfl (by omega)) rfl ?_))|(refine aq.aE (bo:=.geq) ?_;(first|refine aq.y (Yl.lA rfl rfl (by omega)) rfl ?_|refine aq.y (Yl.lz rfl rfl (by omega)) rfl ?_))|refine aq.y (Yl.add rfl rfl (by omega)) rfl ?_|refine aq.y (Yl.sub rfl rfl (by omega)) rfl ?_|refine aq.y (Yl.jh rfl rfl rfl rfl) rfl ?_|refine aq.y (Yl.mr Tryz.underlying4 rfl rfl) rfl ?_|refine aq.y (Yl.mq Tryz.underlying4 rfl rfl) rfl ?_))|(refine aq.isField ?_;(first|refine aq.y (Yl.gJ rfl rfl rfl) rfl ?_|refine aq.y (Yl.field rfl rfl rfl) rfl ?_))|(refine aq.dn ?_;(first|refine aq.y (Yl.load rfl rfl rfl (by intro _ hw_;cases hw_;with_reducible assumption)) rfl ?_|refine aq.y (Yl.load rfl rfl rfl (sa eJ)) rfl ?_|refine aq.y (Yl.load rfl rfl rfl eJ) rfl ?_))|(refine aq.eN ?_;(first|refine aq.y (Yl.gn rfl rfl rfl rfl rfl rfl (by omega)) rfl ?_|refine aq.y (Yl.idx rfl rfl rfl rfl rfl rfl (by omega)) rfl ?_))|refine aq.y (Yl.len rfl rfl rfl) rfl ?_|refine aq.y (Yl.extract rfl rfl) rfl ?_|refine aq.y (Yl.fT rfl rfl) rfl ?_|refine aq.y (Yl.fS rfl rfl) rfl ?_|refine aq.y (Yl.nilCheck rfl) rfl ?_|refine aq.y (Yl.not rfl) rfl ?_|refine aq.y (Yl.makeFunc rfl rfl) rfl ?_))|(refine Cd.is ?_;(first|refine Cd.seq ?_|refine Cd.region ?_|refine Cd.block ?_|refine Cd.jf rfl ?_|refine Cd.je rfl ?_|refine Cd.skip ?_|refine Cd.scope ?_|refine Cd.ret ?_|refine Cd.exit ?_|refine Cd.label ?_))|(refine Fin.is ?_;(first|refine Fin.lf ?_|refine Fin.pR ?_|refine Fin.lg ?_|refine Fin.pS ?_|refine Fin.lh ?_|refine Fin.Kb ?_|refine Fin.pT ?_|refine Fin.xV rfl ?_))));exact hk_.out)):g:=hw ⟨h⟩
theorem bH {E E':Env} (h:Sub E E':=by(repeat(first|exact Sub.nil _|refine Sub.cons rfl rfl ?_|refine Sub.cons rfl (Ko (by omega)) ?_|refine Sub.cons rfl (by assumption) ?_))):Sub E E':=h
section
variable {P:Program} {md:Region.Mode} {C:World→Prop}
theorem Kd {l:List Oper} {listed:Array Bool}:l.length ∉ Region.ready md l.toArray listed:=by
 intro h
 obtain⟨_,o2,ho2,_⟩:=mem_ready.1 h
 have:=(Array.getElem?_eq_some_iff.1 ho2).1
 simp at this
end
end Go.Proofs.YtdkcljdfbemnbaaGreatDoor
