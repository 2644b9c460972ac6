import Derived.Test.YtdkcljdfbemnbaaGreatDoorJC6
namespace Go.Proofs.YtdkcljdfbemnbaaGreatDoor
open Go.RowKit _root_.Go.Proofs.Tryz
open List renaming getElem?_eq_some_iff→PR,getElem?_map→PQ,length_take→Pz,mem_append→PI,mem_cons→PF,mem_iff_getElem?→Qm,mem_of_getElem?→Qk,mem_singleton→PO
open Go.ChangeMaps (setBlock)
open Go.MapKept (Stamped)
theorem A3 {a:Int} (h:eP a):(Lit.int .i64 a).wf=true:=by
 have e1:IntKind.i64.min=-9223372036854775808:=by decide
 have e2:IntKind.i64.max=9223372036854775807:=by decide
 simp only[Lit.wf,e1,e2,Bool.and_eq_true,decide_eq_true_eq]
 exact h
def IV (w:World) (bm:Nat) (g:Int→Option Value):Prop:=∃es clock,w.heap[bm]?=some (.map es clock)∧(∀e∈es.toList,∃b,e.key=.int .i64 b∧(Lit.int .i64 b).wf=true)∧(∀a u,g a=some u↔∃e∈es.toList,e.key=.int .i64 a∧e.val=u)∧Stamped es clock
theorem IV.lt {w:World} {bm:Nat} {g:Int→Option Value} (h:IV w bm g):bm<w.heap.size:=by
 obtain⟨es,clock,hb,_⟩:=h
 exact(Array.getElem?_eq_some_iff.1 hb).1
theorem IV.aN {S:Nat→Prop} {w w':World} {bm:Nat} {g:Int→Option Value} (h:IV w bm g) (hc:bX S w w') (hS:¬S bm):IV w' bm g:=by
 have hl:=h.lt
 obtain⟨es,clock,hb,h2⟩:=h
 exact⟨es,clock,by rw[hc.block bm hl hS];exact hb,h2⟩
def bu.iv (bm:Nat) (g:Int→Option Value):bu:=⟨fun k=>k=bm,fun w=>IV w bm g,fun h hc hd=>h.aN hc (hd bm h.lt rfl)⟩
def put (g:Int→Option Value) (a:Int) (v:Value):Int→Option Value:=fun b=>if b=a then some v else g b
section
variable {n:Nat} {E:Env} {w:World} {t:TypeId} {x y z:Operand} {C:World→Prop}
theorem Dy {k e:TypeId} (ht:G.P.underlying t=some (.map k e)) (hk:G.P.underlying k=some (.int .i64)) {bm:Nat} {g:Int→Option Value} (h:IV w bm g) {a:Int} (ha:(Lit.int .i64 a).wf=true) (val:Value):
  ∃w',(Instr.mapUpdate t (.map (some bm)) (.int .i64 a) val).run G.P w=.ok () w'∧IV w' bm (put g a val)∧bX (fun k=>k=bm) w w'∧w'.heap.size=w.heap.size:=by
 obtain⟨es,clock,hb,hkeys,hg,hst⟩:=h
 have hlt:bm<w.heap.size:=(Array.getElem?_eq_some_iff.1 hb).1
 have K:=Maps.int_keyed (P:=G.P) (k:=k) hk
 have hkey:=Maps.keyOf_int_mk hk ha
 have hall:∀e∈es.toList,∃l,keyOf G.P k e.key=some l:=fun e he=>by
  obtain⟨b,e1,hw⟩:=hkeys e he
  exact⟨_,by rw[e1];exact Maps.keyOf_int_mk hk hw⟩
 have hset:∀o,(setBlock w bm o).heap[bm]?=some o:=fun o=>by simp[ChangeMaps.setBlock,hlt]
 have hsz:∀o,(setBlock w bm o).heap.size=w.heap.size:=fun o=>by simp[ChangeMaps.setBlock]
 rcases K.find w hkey es.toList hall with⟨h1,h2⟩|⟨j,e0,h1,h2,h3⟩
 ·refine⟨setBlock w bm (.map (es.push ⟨.int .i64 a,val,clock⟩) (clock+1)),?_,⟨_,_,hset _,?_,?_,MapKept.stamped_push hst h2⟩,bX.setBlock _ _ _,hsz _⟩
  ·simp[Instr.mapUpdate,run_underlying ht,MapKept.run_getObj_map hb,K.check w false hkey,h1,MapKept.run_setObj_map _ hb,Result.andThen,ChangeMaps.setBlock]
  ·intro e he
   rw[Array.toList_push,PI,PO]at he
   rcases he with he|rfl
   ·exact hkeys e he
   ·exact⟨a,rfl,ha⟩
  ·intro b u
   unfold put
   rw[Array.toList_push]
   simp only[PI,PO]
   by_cases e:b=a
   ·subst e
    rw[if_pos rfl]
    constructor
    ·intro hu;cases hu;exact⟨_,.inr rfl,rfl,rfl⟩
    ·rintro⟨e',he|rfl,e1,e2⟩
     ·exact absurd e1 (h2 e' he)
     ·exact congrArg some e2
   ·rw[if_neg e,hg]
    constructor
    ·rintro⟨e',he,e1,e2⟩;exact⟨e',.inl he,e1,e2⟩
    ·rintro⟨e',he|rfl,e1,e2⟩
     ·exact⟨e',he,e1,e2⟩
     ·cases e1;exact absurd rfl e
 ·have hj:es[j]?=some e0:=by simpa using h2
  have hmod:∀i:Nat,(es.modify j (fun e'=>{e' with key:=Value.int .i64 a,val:=val})).toList[i]?=if j=i then(es.toList[i]?).map (fun e'=>{e' with key:=Value.int .i64 a,val:=val})else es.toList[i]?:=fun i=>by
   rw[Array.toList_modify,List.getElem?_modify]
   by_cases e:j=i<;>simp[e]
  have huniq:∀i e',es.toList[i]?=some e'→e'.key=.int .i64 a→i=j:=fun i e' hi he=>by
   have hnd:=hst.2.2
   have q1:(es.toList.map (·.key))[i]?=some (.int .i64 a):=by rw[PQ,hi];exact congrArg some he
   have q2:(es.toList.map (·.key))[j]?=some (.int .i64 a):=by rw[PQ,h2];exact congrArg some h3
   obtain⟨l1,l2⟩:=PR.1 q1
   obtain⟨l3,l4⟩:=PR.1 q2
   have hpw:=List.pairwise_iff_getElem.1 hnd
   rcases Nat.lt_trichotomy i j with h|h|h
   ·exact absurd (l2.trans l4.symm) (hpw i j l1 l3 h)
   ·exact h
   ·exact absurd (l4.trans l2.symm) (hpw j i l3 l1 h)
  refine⟨setBlock w bm (.map (es.modify j (fun e'=>{e' with key:=.int .i64 a,val:=val})) clock),?_,⟨_,_,hset _,?_,?_,MapKept.stamped_modify hst _ _ (fun _ _=>rfl) (fun e' _ he'=>by rw[hj]at he';cases he';exact h3.symm)⟩,bX.setBlock _ _ _,hsz _⟩
  ·simp[Instr.mapUpdate,run_underlying ht,MapKept.run_getObj_map hb,K.check w false hkey,h1,hj,h3,K.stays w hkey,MapKept.run_setObj_map _ hb,Result.andThen,ChangeMaps.setBlock]
  ·intro e he
   obtain⟨i,hi⟩:=Qm.1 he
   rw[hmod]at hi
   by_cases ei:j=i
   ·subst ei
    rw[if_pos rfl,h2,Option.map_some]at hi
    cases hi;exact⟨a,rfl,ha⟩
   ·rw[if_neg ei]at hi
    exact hkeys e (Qk hi)
  ·intro b u
   unfold put
   by_cases e:b=a
   ·subst e
    rw[if_pos rfl]
    constructor
    ·intro hu;cases hu
     exact⟨_,Qk (by rw[hmod,if_pos rfl,h2];rfl),rfl,rfl⟩
    ·rintro⟨e',he,e1,e2⟩
     obtain⟨i,hi⟩:=Qm.1 he
     rw[hmod]at hi
     by_cases ei:j=i
     ·subst ei
      rw[if_pos rfl,h2,Option.map_some]at hi
      cases hi;exact congrArg some e2
     ·rw[if_neg ei]at hi
      exact absurd (huniq i e' hi e1) (fun h=>ei h.symm)
   ·rw[if_neg e,hg]
    constructor
    ·rintro⟨e',he,e1,e2⟩
     obtain⟨i,hi⟩:=Qm.1 he
     have ei:¬j=i:=fun ei=>by
      subst ei;rw[h2]at hi;cases hi;rw[h3]at e1;cases e1;exact e rfl
     exact⟨e',Qk (by rw[hmod,if_neg ei];exact hi),e1,e2⟩
    ·rintro⟨e',he,e1,e2⟩
     obtain⟨i,hi⟩:=Qm.1 he
     rw[hmod]at hi
     by_cases ei:j=i
     ·subst ei
      rw[if_pos rfl,h2,Option.map_some]at hi
      cases hi;cases e1;exact absurd rfl e
     ·rw[if_neg ei]at hi
      exact⟨e',Qk hi,e1,e2⟩
theorem xr {k e:TypeId} {zv:Value} (ht:G.P.underlying t=some (.map k e)) (hk:G.P.underlying k=some (.int .i64)) (hz:∀w,(zeroValue e).run G.P w=.ok zv w) {bm:Nat} {g:Int→Option Value} (h:IV w bm g) {a:Int} (ha:(Lit.int .i64 a).wf=true):
  (Instr.lookup t (.map (some bm)) (.int .i64 a) false).run G.P w=.ok ((g a).getD zv) w:=by
 obtain⟨es,clock,hb,hkeys,hg,hst⟩:=h
 have K:=Maps.int_keyed (P:=G.P) (k:=k) hk
 have hkey:=Maps.keyOf_int_mk hk ha
 have hall:∀e∈es.toList,∃l,keyOf G.P k e.key=some l:=fun e he=>by
  obtain⟨b,e1,hw⟩:=hkeys e he
  exact⟨_,by rw[e1];exact Maps.keyOf_int_mk hk hw⟩
 rcases K.find w hkey es.toList hall with⟨h1,h2⟩|⟨j,e0,h1,h2,h3⟩
 ·have hn:g a=none:=by
   cases hga:g a with
   |none=>rfl
   |some u=>
    obtain⟨e',he,e1,_⟩:=(hg a u).1 hga
    exact absurd e1 (h2 e' he)
  simp[Instr.lookup,run_underlying ht,MapKept.run_getObj_map hb,K.check w _ hkey,h1,hz,hn]
 ·have hs:g a=some e0.val:=(hg a e0.val).2 ⟨e0,Qk h2,h3,rfl⟩
  simp[Instr.lookup,run_underlying ht,MapKept.run_getObj_map hb,K.check w _ hkey,h1,hs]
end
section
variable {ops:Array Oper} {Q:Exit→Act→World→Prop} {n:Nat} {E:Env} {M M':List bu} {R:List (World→Prop)} {rest l:List Oper} {op:Op} {d:Nat} {ty:TypeId} {pos:String} {aft:Array Edge} {v:Value} {x y z:Operand} {t:TypeId}
theorem HE.makeMap:HE n (.makeMap t none) E M R (fun _:Nat=>True) (fun b=>.map (some b)) (fun b=>.iv b (fun _=>none)::M) (fun _=>R):=
 ⟨fun w hw=>⟨fun a ha d ty pos aft gd=>by
  have hr:(execOp a.eval ⟨d,.makeMap t none,ty,pos,aft,gd⟩).run G.P w=.ok (.value (.map (some w.heap.size))) (w.alloc (.map #[] 0)):=by simp[execOp,Instr.makeMap]
  rw[hr]
  refine⟨w.heap.size,trivial,rfl,hw.push (q:=.iv w.heap.size (fun _=>none)) ((bX.refl _ _).alloc _) ⟨#[],0,heap_alloc_new w _,by simp,by simp,by simp[Stamped]⟩ (fun k hk=>?_)⟩
  have:k=w.heap.size:=hk
  simp;omega⟩⟩
theorem gj.mapUpdate {k e:TypeId} {bm:Nat} {g:Int→Option Value} {a:Int} {val:Value} (ht:G.P.underlying t=some (.map k e)) (hk:G.P.underlying k=some (.int .i64)) (hx:ev E x=some (.map (some bm))) (hy:ev E y=some (.int .i64 a)) (hz:ev E z=some val) (ha:eP a)
  (hM:Up (.iv bm g) (.iv bm (put g a val)) M M'):gj n (.mapUpdate t x y z) E M R (fun _:Unit=>True) (fun _=>M') (fun _=>R):=
 ⟨fun w hw=>by
  have hiv:IV w bm g:=(hw.m _ hM.mem).1
  obtain⟨w',hr,h1,h2,h3⟩:=Dy ht hk hiv (A3 ha) val
  refine bU.jl (w':=w') (fun ac hac d ty pos aft gd=>?_) ⟨(),trivial,hw.qj hM h2 h1 (fun k hk=>?_)⟩
  ·simp[execOp,hac.eval hx,hac.eval hy,hac.eval hz,hr]
  ·have:k=bm:=hk
   have:=hiv.lt
   exact⟨by omega,fun _=>hk⟩⟩
theorem Yl.GW {k e:TypeId} {zv:Value} {bm:Nat} {g:Int→Option Value} {a:Int} (ht:G.P.underlying t=some (.map k e)) (hk:G.P.underlying k=some (.int .i64)) (hzv:∀w,(zeroValue e).run G.P w=.ok zv w) (hx:ev E x=some (.map (some bm))) (hy:ev E y=some (.int .i64 a)) (ha:eP a)
  (hM:bu.iv bm g∈M):Yl G n (.lookup t x y false) E (Ok M R) ((g a).getD zv):=
 ⟨fun w hw ac hac d ty pos aft gd=>by
  have:=xr (t:=t) ht hk hzv (hw.m _ hM).1 (A3 ha)
  simp[execOp,hac.eval hx,hac.eval hy,this]⟩
theorem bF.pure {Mc:List bu} {Rc:List (World→Prop)} {φ:Prop} (hp:∀w,Ok M R w→φ) (h:φ→bF ops Q Mc Rc n l E M R):bF ops Q Mc Rc n l E M R:=⟨fun w hw=>(h (hp w hw)).h w hw⟩
theorem jL {w:World} {B T s m:Nat} {v:Value} {xs:List Value} (h:w.ownsRow B T s v m xs):v.oneCell'=true:=by obtain⟨p,c,rfl,_⟩:=aw h;rfl
theorem Ok.front {w:World} {q:bu} (h:Ok M R w) (hr:Rm q M M'):Ok (q::M') R w:=by
 refine h.step (bX.refl _ w) (fun x hx=>?_) (List.pairwise_cons.2 ⟨hr.Ku h.d,h.d.sublist hr.sub⟩) (fun k ⟨x,hx,hk⟩ _=>?_)
 ·rcases PF.1 hx with rfl|hx
  ·exact h.m _ hr.mem
  ·exact h.m x (hr.sub.subset hx)
 ·rcases PF.1 hx with rfl|hx
  ·exact⟨_,hr.mem,hk⟩
  ·exact⟨x,hr.sub.subset hx,hk⟩
theorem bh.front {c:Code} {q:bu} (hr:Rm q M M') (h:bh Q n c E (q::M') R):bh Q n c E M R:=⟨fun w hw=>h.h w (hw.front hr)⟩
theorem Ok.frame {M0 M1 Mr:List bu} {w w':World} (h:Ok (M0++Mr) R w) (h1:Ok M1 [] w') (hc:bX (Mb M0) w w') (ho:∀k,Mb M1 k→k<w.heap.size→Mb M0 k):Ok (M1++Mr) R w':=by
 have hd:=List.pairwise_append.1 h.d
 have hmr:∀q,q∈Mr→∀k,q.F k→¬Mb M0 k:=fun q hq k hk ⟨q0,hq0,hk0⟩=>hd.2.2 q0 hq0 q hq k hk0 hk
 refine h.step (hc.mono fun k _ ⟨q,hq,hk⟩=>⟨q,List.mem_append_left _ hq,hk⟩) (fun q hq=>?_) (List.pairwise_append.2 ⟨h1.d,hd.2.1,fun a ha b hb k hk hk'=>?_⟩) (fun k ⟨q,hq,hk⟩ hlt=>?_)
 ·rcases PI.1 hq with hq|hq
  ·exact h1.m q hq
  ·have:=h.m q (List.mem_append_right _ hq)
   exact⟨q.st this.1 hc (fun k _ hk=>hmr q hq k hk),fun k hk=>Nat.lt_of_lt_of_le (this.2 k hk) hc.size⟩
 ·have hlt:=(h.m b (List.mem_append_right _ hb)).2 k hk'
  exact hmr b hb k hk' (ho k ⟨a,ha,hk⟩ hlt)
 ·rcases PI.1 hq with hq|hq
  ·obtain⟨q0,hq0,hk0⟩:=ho k ⟨q,hq,hk⟩ hlt
   exact⟨q0,List.mem_append_left _ hq0,hk0⟩
  ·exact⟨q,List.mem_append_right _ hq,hk⟩
theorem Ok.origin {S:Nat→Prop} {w0 w:World} (h:Ok M R w) (hS:bX S w0∈R):∀k,Mb M k→k<w0.heap.size→S k:=by
 intro k hk hlt
 by_cases hs:S k
 ·exact hs
 ·exfalso
  have h1:bX S w0 w:=h.get hS
  have hkw:k<w.heap.size:=Nat.lt_of_lt_of_le hlt h1.size
  have key:∀o:Obj,w.heap[k]?=some o:=fun o=>by
   have hc:bX (Mb M) w (setBlock w k o):=(bX.setBlock w k o).mono (fun i _ e=>by subst e;exact hk)
   have h2:bX S w0 (setBlock w k o):=h.r _ hS _ hc
   have e1:=h2.block k hlt hs
   have e2:=h1.block k hlt hs
   rw[e2,←e1];simp[ChangeMaps.setBlock,hkw]
  have a:=key (.map #[] 0)
  have b:=key (.map #[] 1)
  rw[a]at b;cases b
def aC {β:Type} (M0:List bu) (w:World) (tf:β→Value) (φ:β→Prop) (M1:β→List bu) (e:Ending) (w':World):Prop:=
 ∃x,e=.returned (tf x)∧φ x∧Ok (M1 x) [] w'∧bX (Mb M0) w w'∧∀k,Mb (M1 x) k→k<w.heap.size→Mb M0 k
theorem aC.of {β:Type} {M0:List bu} {w w':World} {tf:β→Value} {φ:β→Prop} {M1:β→List bu} (x:β) (hφ:φ x) (h:Ok M R w') (hM:M1 x=M) (hR:bX (Mb M0) w∈R):aC M0 w tf φ M1 (.returned (tf x)) w':=by
 subst hM
 exact⟨x,rfl,hφ,h.sub (List.Sublist.refl _) (fun p hp=>absurd hp Pj),h.get hR,h.origin hR⟩
theorem HE.tB {β:Type} {M0 Mr:List bu} {tf:β→Value} {φ:β→Prop} {M1:β→List bu} {f:Nat} {args:List Operand} {tys:Array TypeId} {vs:List Value} (hf:G.fb[f]?=some true) (ha:kJ E args=some vs)
  (hc:∀w,Ok M0 R w→Calls G.P f vs.toArray w (aC M0 w tf φ M1)):HE n (.call ⟨.value (.func f),args.toArray,tys⟩) E (M0++Mr) R φ tf (fun x=>M1 x++Mr) (fun _=>R):=
 HE.call tf hf ha fun w hw=>(hc w (hw.sub (List.sublist_append_left _ _) (fun _ h=>h))).mono fun _e _w' ⟨x,e1,h1,h2,h3,h4⟩=>⟨x,e1,h1,hw.frame h2 h3 h4⟩
theorem Ok.dk {w:World} (h:Ok M R w):Ok M (bX (Mb M) w::R) w:=h.add fun _ hc=>hc
end
set_option maxRecDepth 100000
structure bI (ro:Option Nat) (D:List Deferred) (ops:Array Oper) (Q:Exit→Act→World→Prop) (n:Nat) (l:List Oper) (E:Env) (M:List bu) (R:List (World→Prop)):Prop where
 h:∀w,Ok M R w→eE ro 0 D ops Q n l E w
structure jo (ro:Option Nat) (D:List Deferred) (Q:Exit→Act→World→Prop) (n:Nat) (c:Code) (E:Env) (M:List bu) (R:List (World→Prop)):Prop where
 h:∀w,Ok M R w→kx ro 0 D Q n c E w
structure gC (D:List Deferred) (Q:Exit→Act→World→Prop) (n:Nat) (e:Exit) (E:Env) (M:List bu) (R:List (World→Prop)):Prop where
 h:∀w,Ok M R w→fh D Q n e E w
section
variable {ro:Option Nat} {D:List Deferred} {ops:Array Oper} {Q:Exit→Act→World→Prop} {n:Nat} {E:Env} {M M':List bu} {R R':List (World→Prop)} {rest l:List Oper} {op:Op} {d:Nat} {ty:TypeId} {pos:String} {aft:Array Edge} {v:Value} {x y:Operand} {t t2:TypeId} {gd:Option (Nat×Bool)} {dd:Option Nat}
theorem jo.seq {x y:Code} (h:jo ro D (Exit.then (y.wpIn (FW ro) 0 G.P Q) Q) n x E M R):jo ro D Q n (.seq x y) E M R:=⟨fun w hw=>kx.seq (h.h w hw)⟩
theorem jo.block {id:Nat} {c:Code} (h:jo ro D (Exit.inBlock id Q) n c E M R):jo ro D Q n (.block id c) E M R:=⟨fun w hw=>kx.block (h.h w hw)⟩
theorem jo.skip (h:gC D Q n .normal E M R):jo ro D Q n .skip E M R:=⟨fun w hw=>kx.skip (h.h w hw)⟩
theorem jo.exit {id:Nat} (h:gC D Q n (.exit id) E M R):jo ro D Q n (.exit id) E M R:=⟨fun w hw=>kx.exit (h.h w hw)⟩
theorem jo.ret (h:gC D Q n .ret E M R):jo ro D Q n .ret E M R:=⟨fun w hw=>kx.ret (h.h w hw)⟩
theorem jo.region {id:Nat} {l:List Oper} (h:bI ro D l.toArray Q n l E M R):jo ro D Q n (.region id l.toArray false) E M R:=⟨fun w hw=>kx.region (h.h w hw)⟩
theorem jo.jf {c:Operand} {x y:Code} (hc:ev E c=some (.bool true)) (h:jo ro D Q n x E M R):jo ro D Q n (.cond c x y) E M R:=⟨fun w hw=>kx.jf hc (h.h w hw)⟩
theorem jo.je {c:Operand} {x y:Code} (hc:ev E c=some (.bool false)) (h:jo ro D Q n y E M R):jo ro D Q n (.cond c x y) E M R:=⟨fun w hw=>kx.je hc (h.h w hw)⟩
theorem gC.lf {y:Code} (h:jo ro D Q n y E M R):gC D (Exit.then (y.wpIn (FW ro) 0 G.P Q) Q) n .normal E M R:=⟨fun w hw=>fh.lf (h.h w hw)⟩
theorem gC.lg {K:Act→World→Prop} (h:gC D Q n .ret E M R):gC D (Exit.then K Q) n .ret E M R:=⟨fun w hw=>fh.lg (h.h w hw)⟩
theorem gC.lh {K:Act→World→Prop} {id:Nat} (h:gC D Q n (.exit id) E M R):gC D (Exit.then K Q) n (.exit id) E M R:=⟨fun w hw=>fh.lh (h.h w hw)⟩
theorem gC.pR {id:Nat} (h:gC D Q n .normal E M R):gC D (Exit.inBlock id Q) n .normal E M R:=⟨fun w hw=>fh.pR (h.h w hw)⟩
theorem gC.pS {id:Nat} (h:gC D Q n .ret E M R):gC D (Exit.inBlock id Q) n .ret E M R:=⟨fun w hw=>fh.pS (h.h w hw)⟩
theorem gC.pT {id:Nat} (h:gC D Q n .normal E M R):gC D (Exit.inBlock id Q) n (.exit id) E M R:=⟨fun w hw=>fh.pT (h.h w hw)⟩
theorem bI.nil (h:gC D Q n .normal E M R):bI ro D ops Q n [] E M R:=⟨fun w hw=>eE.nil (h.h w hw)⟩
theorem bI.y_ (hy:Yl G n op E (Ok M R) v) (hd:(qo op && Nat.blt d n)=true) (h:bI ro D ops Q n rest ((d,v)::E) M R):bI ro D ops Q n (⟨some d,op,ty,pos,aft,none⟩::rest) E M R:=
 ⟨fun w hw=>eE.y (hy.mono (by rintro _ rfl;exact hw)) hd (h.h w hw)⟩
section
variable {β:Type} {φ:β→Prop} {vf:β→Value} {Mf:β→List bu} {Rf:β→List (World→Prop)}
theorem bI.he (he:HE n op E M R φ vf Mf Rf) (hn:kC op=true) (hd:Nat.blt d n=true) (h:∀x,φ x→bI ro D ops Q n rest ((d,vf x)::E) (Mf x) (Rf x)):bI ro D ops Q n (⟨some d,op,ty,pos,aft,none⟩::rest) E M R:=
 ⟨fun w hw=>eE.e (he.h w hw) hn hd fun v w' ⟨x,h1,h2,h3⟩=>by subst h2;exact(h x h1).h w' h3⟩
theorem bI.jO (he:gj n op E M R φ Mf Rf) (hn:kC op=true) (h:∀x,φ x→bI ro D ops Q n rest E (Mf x) (Rf x)):bI ro D ops Q n (⟨none,op,ty,pos,aft,none⟩::rest) E M R:=
 ⟨fun w hw=>eE.e0 (he.h w hw) hn fun _ w' ⟨x,h1,h3⟩=>(h x h1).h w' h3⟩
end
theorem bI.is (h:bI ro D ops Q n l E M R):bI ro D ops Q n l E M R:=h
theorem jo.is {c:Code} (h:jo ro D Q n c E M R):jo ro D Q n c E M R:=h
theorem gC.is {e:Exit} (h:gC D Q n e E M R):gC D Q n e E M R:=h
theorem bI.aE {bo:BinOp} (h:bI ro D ops Q n (⟨dd,.binOp bo t x y t2,ty,pos,aft,gd⟩::rest) E M R):bI ro D ops Q n (⟨dd,.binOp bo t x y t2,ty,pos,aft,gd⟩::rest) E M R:=h
theorem bI.dn (h:bI ro D ops Q n (⟨dd,.load t x,ty,pos,aft,gd⟩::rest) E M R):bI ro D ops Q n (⟨dd,.load t x,ty,pos,aft,gd⟩::rest) E M R:=h
theorem Gm {g g':Prop} (h:g') (hw:eA g'→g:=by(intro hk_;(repeat(first|(refine bI.is ?_;(first|refine bI.nil ?_|refine bI.y_ (Yl.move rfl) rfl ?_|refine bI.y_ (Yl.assign rfl) rfl ?_|(refine bI.aE ?_;(first|(refine bI.aE (bo:=.lss) ?_;(first|refine bI.y_ (Yl.lH rfl rfl Pi) rfl ?_|refine bI.y_ (Yl.lG rfl rfl Pi) rfl ?_))|(refine bI.aE (bo:=.eql) ?_;(first|refine bI.y_ (Yl.ly rfl rfl Pi) rfl ?_|refine bI.y_ (Yl.lx rfl rfl Pi) rfl ?_))|(refine bI.aE (bo:=.neq) ?_;(first|refine bI.y_ (Yl.lK rfl rfl Pi) rfl ?_|refine bI.y_ (Yl.lJ rfl rfl Pi) rfl ?_))|(refine bI.aE (bo:=.leq) ?_;(first|refine bI.y_ (Yl.lF rfl rfl Pi) rfl ?_|refine bI.y_ (Yl.lE rfl rfl Pi) rfl ?_))|(refine bI.aE (bo:=.gtr) ?_;(first|refine bI.y_ (Yl.lC rfl rfl Pi) rfl ?_|refine bI.y_ (Yl.lB rfl rfl Pi) rfl ?_))|(refine bI.aE (bo:=.geq) ?_;(first|refine bI.y_ (Yl.lA rfl rfl Pi) rfl ?_|refine bI.y_ (Yl.lz rfl rfl Pi) rfl ?_))|refine bI.y_ (Yl.add rfl rfl Pi) rfl ?_|refine bI.y_ (Yl.sub rfl rfl Pi) rfl ?_|refine bI.y_ (Yl.jh rfl rfl rfl rfl) rfl ?_|refine bI.y_ (Yl.mr Tryz.underlying4 rfl rfl) rfl ?_|refine bI.y_ (Yl.mq Tryz.underlying4 rfl rfl) rfl ?_|refine bI.y_ (Yl.xj rfl rfl) rfl ?_|refine bI.y_ (Yl.nV rfl rfl) rfl ?_|refine bI.y_ (Yl.nS rfl rfl Pi) rfl ?_|fail))|(refine bI.dn ?_;(first|refine bI.y_ (Yl.mN rfl rfl rfl OF) rfl ?_|refine bI.y_ (Yl.mL rfl rfl rfl rfl OO) rfl ?_|refine bI.y_ (Yl.mO rfl rfl rfl rfl OO OL) rfl ?_|refine bI.y_ (Yl.mM rfl rfl rfl OJ rfl) rfl ?_))|refine bI.y_ (Yl.len rfl rfl rfl) rfl ?_|refine bI.y_ (Yl.extract rfl rfl) rfl ?_|refine bI.y_ (Yl.fT rfl rfl) rfl ?_|refine bI.y_ (Yl.fS rfl rfl) rfl ?_|refine bI.y_ (Yl.nilCheck rfl) rfl ?_|refine bI.y_ (Yl.not rfl) rfl ?_|refine bI.y_ (Yl.makeFunc rfl rfl) rfl ?_|refine bI.y_ (Yl.jW rfl rfl) rfl ?_|refine bI.y_ (Yl.jX rfl rfl rfl OH Pk) rfl ?_|refine bI.y_ (Yl.jY rfl rfl rfl OI) rfl ?_|refine bI.y_ (Yl.gH rfl rfl rfl rfl) rfl ?_|refine bI.y_ (Yl.ed Tryz.underlying9 rfl rfl rfl Pi) rfl ?_|refine bI.y_ (Yl.dC Tryz.underlying9 rfl rfl rfl Pi) rfl ?_|refine bI.y_ (Yl.eW Tryz.underlying9 rfl rfl rfl rfl rfl Pi Pi) rfl ?_|refine bI.y_ (Yl.cZ rfl rfl rfl rfl rfl rfl Pi) rfl ?_|refine bI.y_ (Yl.nT Tryz.underlying9 rfl) rfl ?_))|(refine jo.is ?_;(first|refine jo.seq ?_|refine jo.region ?_|refine jo.block ?_|refine jo.skip ?_|refine jo.ret ?_|refine jo.exit ?_|refine jo.jf rfl ?_|refine jo.je rfl ?_))|(refine gC.is ?_;(first|refine gC.lf ?_|refine gC.pR ?_|refine gC.lg ?_|refine gC.pS ?_|refine gC.lh ?_|refine gC.pT ?_|fail))));exact hk_.out)):g:=hw ⟨h⟩
theorem jo.Lm {c:Code} (h:bh Q n c E M R):jo none [] Q n c E M R:=⟨fun w hw=>⟨fun _ ha=>wpIn_wide.2 ((h.h w hw).h _ ha.Ho)⟩⟩
theorem ah.Jt {y:Code} (h:jo none [] Q n y E M R):ah (Exit.then (y.wpIn (FW none) 0 G.P Q) Q) n .normal E M R:=⟨fun w hw=>⟨fun _ ha=>((h.h w hw).h _ (tk.of ha))⟩⟩
theorem jo.at {c:Code} {w:World} (hw:Ok M R w) (h:jo ro D Q n c E M R):kx ro 0 D Q n c E w:=h.h w hw
theorem gC.at {e:Exit} {w:World} (hw:Ok M R w) (h:gC D Q n e E M R):fh D Q n e E w:=h.h w hw
theorem H7 {f:FuncId} {fn:Func} {c:Code} {l:List Value} {w:World} {Rp:Ending→World→Prop} (hf:G.P.funcs[f]?=some fn) (hb:fn.body=some c) (hn:fn.ntmps=n) (hl:Nat.ble l.length n=true) (hw:Ok M R w)
  (h:jo none [] (bodyPostM (FW none) 0 G.P fn Rp) n c (A7 0 l) M R):Calls G.P f l.toArray w Rp:=Fb 0 hf hb hn hl (h.h w hw)
end
theorem Ok.grow {M:List bu} {w0 W W':World} {row:Option Nat} {B:Nat} (h:Ok M [Ext w0] W) (_hB:w0.heap.size≤B) (hg:W.grownBy W' row) (hr:∀r,row=some r→B≤r∧∃o:Obj,W.heap[r]?=some o∧o.isCells=false) (hM:∀(r:Nat) (o:Obj),B≤r→W.heap[r]?=some o→o.isCells=false→¬Mb M r):Ok M [Ext w0] W':=by
 have hc:=bX.lX hg
 have hx:Ext w0 W:=h.get Pj
 have hx':Ext w0 W':=bX.trans' hx hc (fun k hk e=>by have:=(hr k e).1;omega)
 refine⟨fun q hq=>?_,h.d,fun p hp w2 h2=>?_⟩
 ·obtain⟨h1,h2⟩:=h.m q hq
  refine⟨q.st h1 hc fun k _ hk e=>?_,fun k hk=>Nat.lt_of_lt_of_le (h2 k hk) hc.size⟩
  obtain⟨h3,o,h4,h5⟩:=hr k e
  exact hM k o h3 h4 h5 ⟨q,hq,hk⟩
 ·rw[PO]at hp
  subst hp
  exact bX.trans' hx' h2 (fun k hk hm=>absurd (h.origin (S:=fun _=>False) (by simp[]) k hm hk) id)
structure DS (bs:List Bk) (roots:List Int) (s t:List Bool×List Int) (new:List Int):Prop where
 out:t.2=s.2++new
 len:t.1.length=bs.length
 cn:JD t.1≤JD s.1
 seen:∀k:Nat,k<bs.length→(ix t.1 k=true↔ix s.1 k=true∨(k:Int)∈new)
 fresh:∀b∈new,0≤b∧b<bs.length∧ix s.1 b.toNat=false
 nodup:new.Nodup
 closed:∀b∈new,∀n∈(ix bs b.toNat).next,0≤n→n<bs.length→ix t.1 n.toNat=true
 Me:∀r∈roots,0≤r→r<bs.length→ix t.1 r.toNat=true
 up:∀k,k<new.length→ix new k∈roots∨∃k',k<k'∧k'<new.length∧ix new k∈(ix bs (ix new k').toNat).next
theorem Ih {α:Type} [Inhabited α] {l:List α} {i:Nat} (h:i<l.length):ix l i∈l:=by rw[cz h];exact List.getElem_mem h
structure ck where
 ts:List Int
 ps:List (Int×Bool)
 bR:Nat
 deriving Inhabited
def ck.at_ (s:ck):Int:=(ix s.ps (s.ps.length - 1)).1
def ck.loose (s:ck):Bool:=(ix s.ps (s.ps.length - 1)).2
structure ck.Ok (s:ck):Prop where
 some:0<s.ps.length
 le:∀i,i<s.ps.length→0≤(ix s.ps i).1∧(ix s.ps i).1≤s.ts.length
def aZ (s:ck):ck×Int×Int:=if s.at_<s.ts.length then({s with ts:=s.ts.take (s.ts.length - 1)},ix s.ts (s.ts.length - 1),0)else if s.loose then(s,0,0)else(s,0,13)
def eV (s:ck):List Int→Nat→Nat×Int
 |[],n=>(n,0)
 |x::r,n=>if(n:Int)=s.at_ then(if s.loose then eV s r n else(0,13))else
   if ix s.ts (n - 1)≠x∧ix s.ts (n - 1)≠0∧x≠0 then(0,12)else eV s r (n - 1)
def aL (s:ck) (l:List Int):ck×Int:=
 let r:=eV s l.reverse s.ts.length
 if r.2=0 then({s with ts:=s.ts.take r.1},0)else(s,r.2)
def aS (s:ck) (l:List Int):ck:={s with ts:=s.ts++l,bR:=max s.bR (s.ts.length+l.length)}
def aV (s:ck):ck:={s with ps:=s.ps++[((s.ts.length:Int),false)]}
def dG (s:ck):ck:={s with ts:=s.ts.take s.at_.toNat,ps:=s.ps.set (s.ps.length - 1) (s.at_,true)}
def cQ (s:ck) (l:List Int):ck×Int:=
 let r:=eV s l.reverse s.ts.length
 if r.2≠0 then(s,r.2)else if s.at_<r.1 then(s,14)else
  ({s with ts:=s.ts.take r.1,ps:=if s.ps.length=1 then[(0,false)]else s.ps.take (s.ps.length - 1)},0)
theorem jK {s:ck}:∀(l:List Int) (n:Nat),s.at_≤n→(eV s l n).2=0→s.at_≤(eV s l n).1∧(eV s l n).1≤n
 |[],n,h,_=>⟨h,Nat.le_refl _⟩
 |x::r,n,h,he=>by
  rw[eV]at he ⊢
  split at he
  ·split at he
   ·rename_i h1 h2
    rw[if_pos h1,if_pos h2];exact jK r n h he
   ·cases he
  ·rename_i h1
   split at he
   ·cases he
   ·rename_i h2
    rw[if_neg h1,if_neg h2]
    have:=jK r (n - 1) Pi he
    omega
theorem DI {s:ck} {x:Int} {r:List Int} {n:Nat} (h:s.at_≤n) (_hn:n≤s.ts.length) (_h0:0≤s.at_):
  eV s (x::r) n=(let p:=aZ {s with ts:=s.ts.take n}
   if p.2.2≠0 then(0,p.2.2)else if p.2.1≠x∧p.2.1≠0∧x≠0 then(0,12)else eV s r p.1.ts.length):=by
 have:=h;clear this
 have e1:(s.ts.take n).length=n:=by rw[Pz];omega
 have e2:({s with ts:=s.ts.take n}:ck).at_=s.at_:=rfl
 have e3:({s with ts:=s.ts.take n}:ck).loose=s.loose:=rfl
 have hp:aZ {s with ts:=s.ts.take n}=if s.at_<(n:Int)then(⟨(s.ts.take n).take (n - 1),s.ps,s.bR⟩,ix (s.ts.take n) (n - 1),0)else if s.loose then(⟨s.ts.take n,s.ps,s.bR⟩,0,0)else(⟨s.ts.take n,s.ps,s.bR⟩,0,13):=by
  unfold aZ;rw[e2,e3];dsimp only;rw[e1]
 rw[hp,eV]
 by_cases hat:(n:Int)=s.at_
 ·have h1:¬s.at_<(n:Int):=by omega
  simp only[if_pos hat,if_neg h1]
  cases hl:s.loose with
  |true=>simp[e1]
  |false=>simp
 ·have h1:s.at_<(n:Int):=by omega
  have e4:ix (s.ts.take n) (n - 1)=ix s.ts (n - 1):=by
   rw[cz (by rw[e1];omega),cz Pi];simp
  have e5:((s.ts.take n).take (n - 1)).length=n - 1:=by rw[List.take_take,Pz];omega
  simp only[if_neg hat,if_pos h1,e4,e5,ne_eq,not_true_eq_false,if_false]
structure n7 where
 kind:Int
 par:List Int
 res:List Int
 other:Bool
 lq:Bool
 deriving Inhabited
structure dv where
 ao:ck
 fs:List n7
 results:List Int
 live:Bool
 broken:Int
def dv.top (c:dv):n7:=ix c.fs (c.fs.length - 1)
def jP (results:List Int):dv:=⟨⟨[],[(0,false),(0,false)],0⟩,[⟨0,[],results,false,true⟩],results,true,0⟩
def gX (c:dv) (s:ck) (fs:List n7) (f:n7):dv:={c with ao:=aS (aV s) f.par,fs:=fs++[f],live:=f.lq}
def ju (c:dv) (op:Int) (par res:List Int):dv×Int:=
 if c.broken≠0 then(c,c.broken)else if op≠2∧op≠3∧op≠4 then(c,1)else if c.fs.length=0 then(c,16)else
  let a:=if op=4 then aL c.ao [1]else(c.ao,0)
  if a.2≠0 then({c with broken:=a.2},a.2)else
   let b:=aL a.1 par
   if b.2≠0 then({c with ao:=a.1,broken:=b.2},b.2)else(gX c b.1 c.fs ⟨op,par,res,false,c.live⟩,0)
def mF (c:dv):dv×Int:=
 if c.broken≠0 then(c,c.broken)else if c.fs.length=0∨c.top.kind≠4∨c.top.other=true then(c,16)else
  let a:=cQ c.ao c.top.res
  if a.2≠0 then({c with broken:=a.2},a.2)else(gX c a.1 (c.fs.take (c.fs.length - 1)) {c.top with other:=true},0)
def kb (c:dv):dv×Int:=
 if c.broken≠0 then(c,c.broken)else if c.fs.length=0 then(c,16)else
  let a:=cQ c.ao c.top.res
  if a.2≠0 then({c with broken:=a.2},a.2)else
   if c.top.kind=4∧c.top.other=false∧c.top.par≠c.top.res then({c with ao:=a.1,fs:=c.fs.take (c.fs.length - 1),broken:=12},12)else
    ({c with ao:=aS a.1 c.top.res,fs:=c.fs.take (c.fs.length - 1),live:=c.top.lq},0)
def cT (c:dv) (n:Int):List Int×Int:=
 if c.broken≠0 then([],c.broken)else if n<0∨c.fs.length≤n then([],15)else
  let f:=ix c.fs (c.fs.length - 1 - n.toNat)
  (if f.kind=3 then f.par else f.res,0)
def qX (c:dv):List Int:=if c.broken≠0 then[]else c.results
def iG (c:dv):dv:=if c.broken≠0∨c.fs.length=0 then c else{c with ao:=dG c.ao,live:=false}
def n7.op (f:n7):Int:=if f.kind=0 then 11 else if f.other=true then 5 else f.kind
def dv.ir (c:dv) (i:Nat):Bool:=if i+1<c.fs.length then(ix c.fs (i+1)).lq else c.live
structure dv.Ok (c:dv):Prop where
 ao:c.ao.Ok
 many:c.ao.ps.length=c.fs.length+1
 kinds:∀i,i<c.fs.length→(ix c.fs i).kind=0∨(ix c.fs i).kind=2∨(ix c.fs i).kind=3∨(ix c.fs i).kind=4
 other:∀i,i<c.fs.length→(ix c.fs i).other=true→(ix c.fs i).kind=4
 ended:c.fs.length=0→c.live=true
 first:0<c.fs.length→(ix c.fs 0).lq=true
end Go.Proofs.YtdkcljdfbemnbaaGreatDoor
