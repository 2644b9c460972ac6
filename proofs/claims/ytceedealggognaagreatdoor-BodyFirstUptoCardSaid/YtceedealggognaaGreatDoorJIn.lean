/- Maps keyed by int, with their values, as things in memory; a callee that changes some of what is mutable. -/
import Derived.Test.YtceedealggognaaGreatDoorJM2
import Derived.Test.YtceedealggognaaGreatDoorJIo
namespace Go.Proofs.YtceedealggognaaGreatDoor
open Go.RowKit
open Go.ChangeMaps (setBlock)
open Go.MapKept (Stamped)
theorem uA {a:Int} (h:gJ a):(Lit.int .i64 a).wf=true:=by
 have e1:IntKind.i64.min=-9223372036854775808:=by decide
 have e2:IntKind.i64.max=9223372036854775807:=by decide
 simp only[Lit.wf,e1,e2,Bool.and_eq_true,decide_eq_true_eq]
 exact h
def IV (w:World) (bm:Nat) (g:Int→Option Value):Prop:=∃es clock,w.heap[bm]?=some (.map es clock)∧(∀e∈es.toList,∃b,e.key=.int .i64 b∧(Lit.int .i64 b).wf=true)∧(∀a u,g a=some u↔∃e∈es.toList,e.key=.int .i64 a∧e.val=u)∧Stamped es clock
theorem IV.lt {w:World} {bm:Nat} {g:Int→Option Value} (h:IV w bm g):bm<w.heap.size:=by
 obtain⟨es,clock,hb,_⟩:=h
 exact(Array.getElem?_eq_some_iff.1 hb).1
theorem IV.aD {S:Nat→Prop} {w w':World} {bm:Nat} {g:Int→Option Value} (h:IV w bm g) (hc:bA S w w') (hS:¬S bm):IV w' bm g:=by
 have hl:=h.lt
 obtain⟨es,clock,hb,h2⟩:=h
 exact⟨es,clock,by rw[hc.block bm hl hS];exact hb,h2⟩
def aV.iv (bm:Nat) (g:Int→Option Value):aV:=⟨fun k=>k=bm,fun w=>IV w bm g,fun h hc hd=>h.aD hc (hd bm h.lt rfl)⟩
def put (g:Int→Option Value) (a:Int) (v:Value):Int→Option Value:=fun b=>if b=a then some v else g b
section
variable {n:Nat} {E:Env} {w:World} {t:TypeId} {x y z:Operand} {C:World→Prop}
theorem wZ {k e:TypeId} (ht:G.P.underlying t=some (.map k e)) (hk:G.P.underlying k=some (.int .i64)) {bm:Nat} {g:Int→Option Value} (h:IV w bm g) {a:Int} (ha:(Lit.int .i64 a).wf=true) (val:Value):
  ∃w',(Instr.mapUpdate t (.map (some bm)) (.int .i64 a) val).run G.P w=.ok () w'∧IV w' bm (put g a val)∧bA (fun k=>k=bm) w w'∧w'.heap.size=w.heap.size:=by
 obtain⟨es,clock,hb,hkeys,hg,hst⟩:=h
 have hlt:bm<w.heap.size:=(Array.getElem?_eq_some_iff.1 hb).1
 have K:=Maps.int_keyed (P:=G.P) (k:=k) hk
 have hkey:=Maps.keyOf_int_mk hk ha
 have hall:∀e∈es.toList,∃l,keyOf G.P k e.key=some l:=fun e he=>by
  obtain⟨b,e1,hw⟩:=hkeys e he
  exact⟨_,by rw[e1];exact Maps.keyOf_int_mk hk hw⟩
 have hset:∀o,(setBlock w bm o).heap[bm]?=some o:=fun o=>by simp[ChangeMaps.setBlock,hlt]
 have hsz:∀o,(setBlock w bm o).heap.size=w.heap.size:=fun o=>by simp[ChangeMaps.setBlock]
 rcases K.find w hkey es.toList hall with⟨h1,h2⟩|⟨j,e0,h1,h2,h3⟩
 ·refine⟨setBlock w bm (.map (es.push ⟨.int .i64 a,val,clock⟩) (clock+1)),?_,⟨_,_,hset _,?_,?_,MapKept.stamped_push hst h2⟩,bA.setBlock _ _ _,hsz _⟩
  ·simp[Instr.mapUpdate,run_underlying ht,MapKept.run_getObj_map hb,K.check w false hkey,h1,MapKept.run_setObj_map _ hb,Result.andThen,ChangeMaps.setBlock]
  ·intro e he
   rw[Array.toList_push,List.mem_append,List.mem_singleton]at he
   rcases he with he|rfl
   ·exact hkeys e he
   ·exact⟨a,rfl,ha⟩
  ·intro b u
   unfold put
   rw[Array.toList_push]
   simp only[List.mem_append,List.mem_singleton]
   by_cases e:b=a
   ·subst e
    rw[if_pos rfl]
    constructor
    ·intro hu;cases hu;exact⟨_,.inr rfl,rfl,rfl⟩
    ·rintro⟨e',he|rfl,e1,e2⟩
     ·exact absurd e1 (h2 e' he)
     ·exact congrArg some e2
   ·rw[if_neg e,hg]
    constructor
    ·rintro⟨e',he,e1,e2⟩;exact⟨e',.inl he,e1,e2⟩
    ·rintro⟨e',he|rfl,e1,e2⟩
     ·exact⟨e',he,e1,e2⟩
     ·cases e1;exact absurd rfl e
 ·have hj:es[j]?=some e0:=by simpa using h2
  have hmod:∀i:Nat,(es.modify j (fun e'=>{e' with key:=Value.int .i64 a,val:=val})).toList[i]?=if j=i then(es.toList[i]?).map (fun e'=>{e' with key:=Value.int .i64 a,val:=val})else es.toList[i]?:=fun i=>by
   rw[Array.toList_modify,List.getElem?_modify]
   by_cases e:j=i<;>simp[e]
  have huniq:∀i e',es.toList[i]?=some e'→e'.key=.int .i64 a→i=j:=fun i e' hi he=>by
   have hnd:=hst.2.2
   have q1:(es.toList.map (·.key))[i]?=some (.int .i64 a):=by rw[List.getElem?_map,hi];exact congrArg some he
   have q2:(es.toList.map (·.key))[j]?=some (.int .i64 a):=by rw[List.getElem?_map,h2];exact congrArg some h3
   obtain⟨l1,l2⟩:=List.getElem?_eq_some_iff.1 q1
   obtain⟨l3,l4⟩:=List.getElem?_eq_some_iff.1 q2
   have hpw:=List.pairwise_iff_getElem.1 hnd
   rcases Nat.lt_trichotomy i j with h|h|h
   ·exact absurd (l2.trans l4.symm) (hpw i j l1 l3 h)
   ·exact h
   ·exact absurd (l4.trans l2.symm) (hpw j i l3 l1 h)
  refine⟨setBlock w bm (.map (es.modify j (fun e'=>{e' with key:=.int .i64 a,val:=val})) clock),?_,⟨_,_,hset _,?_,?_,MapKept.stamped_modify hst _ _ (fun _ _=>rfl) (fun e' _ he'=>by rw[hj]at he';cases he';exact h3.symm)⟩,bA.setBlock _ _ _,hsz _⟩
  ·simp[Instr.mapUpdate,run_underlying ht,MapKept.run_getObj_map hb,K.check w false hkey,h1,hj,h3,K.stays w hkey,MapKept.run_setObj_map _ hb,Result.andThen,ChangeMaps.setBlock]
  ·intro e he
   obtain⟨i,hi⟩:=List.mem_iff_getElem?.1 he
   rw[hmod]at hi
   by_cases ei:j=i
   ·subst ei
    rw[if_pos rfl,h2,Option.map_some]at hi
    cases hi;exact⟨a,rfl,ha⟩
   ·rw[if_neg ei]at hi
    exact hkeys e (List.mem_of_getElem? hi)
  ·intro b u
   unfold put
   by_cases e:b=a
   ·subst e
    rw[if_pos rfl]
    constructor
    ·intro hu;cases hu
     exact⟨_,List.mem_of_getElem? (by rw[hmod,if_pos rfl,h2];rfl),rfl,rfl⟩
    ·rintro⟨e',he,e1,e2⟩
     obtain⟨i,hi⟩:=List.mem_iff_getElem?.1 he
     rw[hmod]at hi
     by_cases ei:j=i
     ·subst ei
      rw[if_pos rfl,h2,Option.map_some]at hi
      cases hi;exact congrArg some e2
     ·rw[if_neg ei]at hi
      exact absurd (huniq i e' hi e1) (fun h=>ei h.symm)
   ·rw[if_neg e,hg]
    constructor
    ·rintro⟨e',he,e1,e2⟩
     obtain⟨i,hi⟩:=List.mem_iff_getElem?.1 he
     have ei:¬j=i:=fun ei=>by
      subst ei;rw[h2]at hi;cases hi;rw[h3]at e1;cases e1;exact e rfl
     exact⟨e',List.mem_of_getElem? (by rw[hmod,if_neg ei];exact hi),e1,e2⟩
    ·rintro⟨e',he,e1,e2⟩
     obtain⟨i,hi⟩:=List.mem_iff_getElem?.1 he
     rw[hmod]at hi
     by_cases ei:j=i
     ·subst ei
      rw[if_pos rfl,h2,Option.map_some]at hi
      cases hi;cases e1;exact absurd rfl e
     ·rw[if_neg ei]at hi
      exact⟨e',List.mem_of_getElem? hi,e1,e2⟩
theorem qU {k e:TypeId} {zv:Value} (ht:G.P.underlying t=some (.map k e)) (hk:G.P.underlying k=some (.int .i64)) (hz:∀w,(zeroValue e).run G.P w=.ok zv w) {bm:Nat} {g:Int→Option Value} (h:IV w bm g) {a:Int} (ha:(Lit.int .i64 a).wf=true):
  (Instr.lookup t (.map (some bm)) (.int .i64 a) false).run G.P w=.ok ((g a).getD zv) w:=by
 obtain⟨es,clock,hb,hkeys,hg,hst⟩:=h
 have K:=Maps.int_keyed (P:=G.P) (k:=k) hk
 have hkey:=Maps.keyOf_int_mk hk ha
 have hall:∀e∈es.toList,∃l,keyOf G.P k e.key=some l:=fun e he=>by
  obtain⟨b,e1,hw⟩:=hkeys e he
  exact⟨_,by rw[e1];exact Maps.keyOf_int_mk hk hw⟩
 rcases K.find w hkey es.toList hall with⟨h1,h2⟩|⟨j,e0,h1,h2,h3⟩
 ·have hn:g a=none:=by
   cases hga:g a with
   |none=>rfl
   |some u=>
    obtain⟨e',he,e1,_⟩:=(hg a u).1 hga
    exact absurd e1 (h2 e' he)
  simp[Instr.lookup,run_underlying ht,MapKept.run_getObj_map hb,K.check w _ hkey,h1,hz,hn]
 ·have hs:g a=some e0.val:=(hg a e0.val).2 ⟨e0,List.mem_of_getElem? h2,h3,rfl⟩
  simp[Instr.lookup,run_underlying ht,MapKept.run_getObj_map hb,K.check w _ hkey,h1,hs]
end
section
variable {ops:Array Oper} {Q:Exit→Act→World→Prop} {n:Nat} {E:Env} {M M':List aV} {R:List (World→Prop)} {rest l:List Oper} {op:Op} {d:Nat} {ty:TypeId} {pos:String} {aft:Array Edge} {v:Value} {x y z:Operand} {t:TypeId}
theorem HE.makeMap:HE n (.makeMap t none) E M R (fun _:Nat=>True) (fun b=>.map (some b)) (fun b=>.iv b (fun _=>none)::M) (fun _=>R):=
 ⟨fun w hw=>⟨fun a ha d ty pos aft gd=>by
  have hr:(execOp a.eval ⟨d,.makeMap t none,ty,pos,aft,gd⟩).run G.P w=.ok (.value (.map (some w.heap.size))) (w.alloc (.map #[] 0)):=by simp[execOp,Instr.makeMap]
  rw[hr]
  refine⟨w.heap.size,trivial,rfl,hw.push (q:=.iv w.heap.size (fun _=>none)) ((bA.refl _ _).alloc _) ⟨#[],0,heap_alloc_new w _,by simp,by simp,by simp[Stamped]⟩ (fun k hk=>?_)⟩
  have:k=w.heap.size:=hk
  simp;omega⟩⟩
theorem gj.mapUpdate {k e:TypeId} {bm:Nat} {g:Int→Option Value} {a:Int} {val:Value} (ht:G.P.underlying t=some (.map k e)) (hk:G.P.underlying k=some (.int .i64)) (hx:ev E x=some (.map (some bm))) (hy:ev E y=some (.int .i64 a)) (hz:ev E z=some val) (ha:gJ a)
  (hM:Up (.iv bm g) (.iv bm (put g a val)) M M'):gj n (.mapUpdate t x y z) E M R (fun _:Unit=>True) (fun _=>M') (fun _=>R):=
 ⟨fun w hw=>by
  have hiv:IV w bm g:=(hw.m _ hM.mem).1
  obtain⟨w',hr,h1,h2,h3⟩:=wZ ht hk hiv (uA ha) val
  refine bB.nj (w':=w') (fun ac hac d ty pos aft gd=>?_) ⟨(),trivial,hw.nL hM h2 h1 (fun k hk=>?_)⟩
  ·simp[execOp,hac.eval hx,hac.eval hy,hac.eval hz,hr]
  ·have:k=bm:=hk
   have:=hiv.lt
   exact⟨by omega,fun _=>hk⟩⟩
theorem Yl.An {k e:TypeId} {zv:Value} {bm:Nat} {g:Int→Option Value} {a:Int} (ht:G.P.underlying t=some (.map k e)) (hk:G.P.underlying k=some (.int .i64)) (hzv:∀w,(zeroValue e).run G.P w=.ok zv w) (hx:ev E x=some (.map (some bm))) (hy:ev E y=some (.int .i64 a)) (ha:gJ a)
  (hM:aV.iv bm g∈M):Yl G n (.lookup t x y false) E (Ok M R) ((g a).getD zv):=
 ⟨fun w hw ac hac d ty pos aft gd=>by
  have:=qU (t:=t) ht hk hzv (hw.m _ hM).1 (uA ha)
  simp[execOp,hac.eval hx,hac.eval hy,this]⟩
theorem aN.pure {Mc:List aV} {Rc:List (World→Prop)} {φ:Prop} (hp:∀w,Ok M R w→φ) (h:φ→aN ops Q Mc Rc n l E M R):aN ops Q Mc Rc n l E M R:=⟨fun w hw=>(h (hp w hw)).h w hw⟩
theorem gb {w:World} {B T s m:Nat} {v:Value} {xs:List Value} (h:w.ownsRow B T s v m xs):v.oneCell'=true:=by obtain⟨p,c,rfl,_⟩:=av h;rfl
theorem Ok.front {w:World} {q:aV} (h:Ok M R w) (hr:Rm q M M'):Ok (q::M') R w:=by
 refine h.step (bA.refl _ w) (fun x hx=>?_) (List.pairwise_cons.2 ⟨hr.DZ h.d,h.d.sublist hr.sub⟩) (fun k ⟨x,hx,hk⟩ _=>?_)
 ·rcases List.mem_cons.1 hx with rfl|hx
  ·exact h.m _ hr.mem
  ·exact h.m x (hr.sub.subset hx)
 ·rcases List.mem_cons.1 hx with rfl|hx
  ·exact⟨_,hr.mem,hk⟩
  ·exact⟨x,hr.sub.subset hx,hk⟩
theorem aQ.front {c:Code} {q:aV} (hr:Rm q M M') (h:aQ Q n c E (q::M') R):aQ Q n c E M R:=⟨fun w hw=>h.h w (hw.front hr)⟩
theorem Ok.frame {M0 M1 Mr:List aV} {w w':World} (h:Ok (M0++Mr) R w) (h1:Ok M1 [] w') (hc:bA (Mb M0) w w') (ho:∀k,Mb M1 k→k<w.heap.size→Mb M0 k):Ok (M1++Mr) R w':=by
 have hd:=List.pairwise_append.1 h.d
 have hmr:∀q,q∈Mr→∀k,q.F k→¬Mb M0 k:=fun q hq k hk ⟨q0,hq0,hk0⟩=>hd.2.2 q0 hq0 q hq k hk0 hk
 refine h.step (hc.mono fun k _ ⟨q,hq,hk⟩=>⟨q,List.mem_append_left _ hq,hk⟩) (fun q hq=>?_) (List.pairwise_append.2 ⟨h1.d,hd.2.1,fun a ha b hb k hk hk'=>?_⟩) (fun k ⟨q,hq,hk⟩ hlt=>?_)
 ·rcases List.mem_append.1 hq with hq|hq
  ·exact h1.m q hq
  ·have:=h.m q (List.mem_append_right _ hq)
   exact⟨q.st this.1 hc (fun k _ hk=>hmr q hq k hk),fun k hk=>Nat.lt_of_lt_of_le (this.2 k hk) hc.size⟩
 ·have hlt:=(h.m b (List.mem_append_right _ hb)).2 k hk'
  exact hmr b hb k hk' (ho k ⟨a,ha,hk⟩ hlt)
 ·rcases List.mem_append.1 hq with hq|hq
  ·obtain⟨q0,hq0,hk0⟩:=ho k ⟨q,hq,hk⟩ hlt
   exact⟨q0,List.mem_append_left _ hq0,hk0⟩
  ·exact⟨q,List.mem_append_right _ hq,hk⟩
theorem Ok.origin {S:Nat→Prop} {w0 w:World} (h:Ok M R w) (hS:bA S w0∈R):∀k,Mb M k→k<w0.heap.size→S k:=by
 intro k hk hlt
 by_cases hs:S k
 ·exact hs
 ·exfalso
  have h1:bA S w0 w:=h.get hS
  have hkw:k<w.heap.size:=Nat.lt_of_lt_of_le hlt h1.size
  have key:∀o:Obj,w.heap[k]?=some o:=fun o=>by
   have hc:bA (Mb M) w (setBlock w k o):=(bA.setBlock w k o).mono (fun i _ e=>by subst e;exact hk)
   have h2:bA S w0 (setBlock w k o):=h.r _ hS _ hc
   have e1:=h2.block k hlt hs
   have e2:=h1.block k hlt hs
   rw[e2,←e1];simp[ChangeMaps.setBlock,hkw]
  have a:=key (.map #[] 0)
  have b:=key (.map #[] 1)
  rw[a]at b;cases b
def aq {β:Type} (M0:List aV) (w:World) (tf:β→Value) (φ:β→Prop) (M1:β→List aV) (e:Ending) (w':World):Prop:=
 ∃x,e=.returned (tf x)∧φ x∧Ok (M1 x) [] w'∧bA (Mb M0) w w'∧∀k,Mb (M1 x) k→k<w.heap.size→Mb M0 k
theorem aq.of {β:Type} {M0:List aV} {w w':World} {tf:β→Value} {φ:β→Prop} {M1:β→List aV} (x:β) (hφ:φ x) (h:Ok M R w') (hM:M1 x=M) (hR:bA (Mb M0) w∈R):aq M0 w tf φ M1 (.returned (tf x)) w':=by
 subst hM
 exact⟨x,rfl,hφ,h.sub (List.Sublist.refl _) (fun p hp=>absurd hp Hc),h.get hR,h.origin hR⟩
theorem HE.oI {β:Type} {M0 Mr:List aV} {tf:β→Value} {φ:β→Prop} {M1:β→List aV} {f:Nat} {args:List Operand} {tys:Array TypeId} {vs:List Value} (hf:G.fb[f]?=some true) (ha:ju E args=some vs)
  (hc:∀w,Ok M0 R w→Calls G.P f vs.toArray w (aq M0 w tf φ M1)):HE n (.call ⟨.value (.func f),args.toArray,tys⟩) E (M0++Mr) R φ tf (fun x=>M1 x++Mr) (fun _=>R):=
 HE.call tf hf ha fun w hw=>(hc w (hw.sub (List.sublist_append_left _ _) (fun _ h=>h))).mono fun _e _w' ⟨x,e1,h1,h2,h3,h4⟩=>⟨x,e1,h1,hw.frame h2 h3 h4⟩
theorem Ok.bW {w:World} (h:Ok M R w):Ok M (bA (Mb M) w::R) w:=h.add fun _ hc=>hc
end
set_option maxRecDepth 100000
section
variable {ops:Array Oper} {Q:Exit→Act→World→Prop} {n:Nat} {E:Env} {M M':List aV} {R:List (World→Prop)} {rest l:List Oper} {op:Op} {d:Nat} {ty:TypeId} {pos:String} {aft:Array Edge} {v:Value} {x y z:Operand} {t t2:TypeId} {C:World→Prop} {P:Prop} {j:Nat} {b:Bool}
theorem BE [Decidable P] (h:ev E x=some (.bool (decide P))) (hp:P):ev E x=some (.bool true):=by rw[h,decide_eq_true hp]
theorem BD [Decidable P] (h:ev E x=some (.bool (decide P))) (hp:¬P):ev E x=some (.bool false):=by rw[h,decide_eq_false hp]
theorem xS {c:Bool} (h:ev E x=some (.bool c)) (hp:c=b):ev E x=some (.bool b):=by rw[h,hp]
theorem ux [Decidable P] (h:mm ops E j=some (decide P)) (hp:P):mm ops E j=some true:=by rw[h,decide_eq_true hp]
theorem vS [Decidable P] (h:mm ops E j=some (decide P)) (hp:¬P):mm ops E j=some false:=by rw[h,decide_eq_false hp]
theorem D5 {c:Bool} (h:mm ops E j=some c) (hp:c=b):mm ops E j=some b:=by rw[h,hp]
theorem wQ {c:Bool} (h:mm ops E j=some c) (hp:c=true):mm ops E j=some true:=D5 h hp
theorem wO {c:Bool} (h:mm ops E j=some c) (hp:c=false):mm ops E j=some false:=D5 h hp
theorem Yl.Ab {k:IntKind} {p q:Int} (hx:ev E x=some (.int k p)) (hy:ev E y=some (.int k q)):Yl G n (.binOp .eql t x y t2) E C (.bool (decide (p=q))):=Yl.bin hx hy (fun w=>by simp[binOp,Op.intCmp];by_cases h:p=q<;>simp[h])
theorem Yl.Ar {k:IntKind} {p q:Int} (hx:ev E x=some (.int k p)) (hy:ev E y=some (.int k q)):Yl G n (.binOp .neq t x y t2) E C (.bool (decide (p≠q))):=Yl.bin hx hy (fun w=>by simp[binOp,Op.intCmp];by_cases h:p=q<;>simp[h])
theorem aa.Ea {dd:Option Nat} (h:aa ops Q n (⟨dd,op,ty,pos,aft,none⟩::rest) E M R):aa ops Q n (⟨dd,op,ty,pos,aft,none⟩::rest) E M R:=h
theorem aQ.zq [Decidable P] {c:Operand} {x y:Code} (hc:ev E c=some (.bool (decide P))) (hx:P→aQ Q n x E M R) (hy:¬P→aQ Q n y E M R):aQ Q n (.cond c x y) E M R:=by
 by_cases h:P
 ·exact aQ.fC (BE hc h) (hx h)
 ·exact aQ.fB (BD hc h) (hy h)
theorem aa.zt [Decidable P] {gd:Nat×Bool} (_hg:mm ops E gd.1=some (decide P)) (hT:P→aa ops Q n (⟨some d,op,ty,pos,aft,some gd⟩::rest) E M R) (hF:¬P→aa ops Q n (⟨some d,op,ty,pos,aft,some gd⟩::rest) E M R):aa ops Q n (⟨some d,op,ty,pos,aft,some gd⟩::rest) E M R:=by
 by_cases h:P
 ·exact hT h
 ·exact hF h
theorem aa.vZ {gd:Nat×Bool} {c:Bool} (_:mm ops E gd.1=some c) (hT:c=true→aa ops Q n (⟨some d,op,ty,pos,aft,some gd⟩::rest) E M R) (hF:c=false→aa ops Q n (⟨some d,op,ty,pos,aft,some gd⟩::rest) E M R):aa ops Q n (⟨some d,op,ty,pos,aft,some gd⟩::rest) E M R:=by
 cases h:c with
 |true=>exact hT h
 |false=>exact hF h
end
theorem dc {ops:Array Oper} {E:Env} {j:Nat} {b:Bool} (h:mm ops E j=some b:=by first|rfl|exact ux rfl dp|exact vS rfl dp|exact wQ rfl dp|exact wO rfl dp):mm ops E j=some b:=h
theorem CY {g g':Prop} (h:g') (hw:ek g'→g:=by(intro hk_;(first|(refine aa.is ?_;(first|(refine aa.wY ?_;(first|refine aa.gs dc rfl rfl ?_|refine aa.gu rfl rfl ?_|refine aa.yg dc (Yl.move rfl) rfl ?_|refine aa.yg dc (Yl.assign rfl) rfl ?_|(refine aa.an ?_;(first|(refine aa.an (bo:=.lss) ?_;(first|refine aa.yg dc (Yl.iU rfl rfl Hb) rfl ?_|refine aa.yg dc (Yl.iT rfl rfl Hb) rfl ?_))|(refine aa.an (bo:=.eql) ?_;(first|refine aa.yg dc (Yl.iL rfl rfl Hb) rfl ?_|refine aa.yg dc (Yl.iK rfl rfl Hb) rfl ?_))|(refine aa.an (bo:=.neq) ?_;(first|refine aa.yg dc (Yl.iW rfl rfl Hb) rfl ?_|refine aa.yg dc (Yl.iV rfl rfl Hb) rfl ?_))|(refine aa.an (bo:=.leq) ?_;(first|refine aa.yg dc (Yl.iS rfl rfl Hb) rfl ?_|refine aa.yg dc (Yl.iR rfl rfl Hb) rfl ?_))|(refine aa.an (bo:=.gtr) ?_;(first|refine aa.yg dc (Yl.iQ rfl rfl Hb) rfl ?_|refine aa.yg dc (Yl.iP rfl rfl Hb) rfl ?_))|(refine aa.an (bo:=.geq) ?_;(first|refine aa.yg dc (Yl.iO rfl rfl Hb) rfl ?_|refine aa.yg dc (Yl.iN rfl rfl Hb) rfl ?_))|refine aa.yg dc (Yl.add rfl rfl Hb) rfl ?_|refine aa.yg dc (Yl.sub rfl rfl Hb) rfl ?_|refine aa.yg dc (Yl.fF rfl rfl rfl rfl) rfl ?_|refine aa.yg dc (Yl.jr Tryz.underlying4 rfl rfl) rfl ?_|refine aa.yg dc (Yl.qJ rfl rfl) rfl ?_|refine aa.yg dc (Yl.kA rfl rfl) rfl ?_|refine aa.yg dc (Yl.ky rfl rfl Hb) rfl ?_|refine aa.yg dc (Yl.Ao rfl rfl) rfl ?_|refine aa.yg dc (Yl.Ab rfl rfl) rfl ?_|refine aa.yg dc (Yl.Ar rfl rfl) rfl ?_|refine aa.yg dc (Yl.Al rfl rfl) rfl ?_|refine aa.yg dc (Yl.Ah rfl rfl) rfl ?_|refine aa.yg dc (Yl.Af rfl rfl) rfl ?_))|(refine aa.isField ?_;(first|refine aa.yg dc (Yl.iw rfl rfl rfl) rfl ?_|refine aa.yg dc (Yl.ep rfl rfl rfl) rfl ?_|refine aa.yg dc (Yl.field rfl rfl rfl) rfl ?_))|(refine aa.bX ?_;(first|refine aa.yg dc (Yl.jC rfl rfl rfl GH) rfl ?_|refine aa.yg dc (Yl.jA rfl rfl rfl rfl GQ) rfl ?_|refine aa.yg dc (Yl.jD rfl rfl rfl rfl GQ GN) rfl ?_|refine aa.yg dc (Yl.jB rfl rfl rfl GL rfl) rfl ?_))|(refine aa.dK ?_;(first|refine aa.yg dc (Yl.fX rfl rfl rfl rfl rfl rfl Hb) rfl ?_|refine aa.yg dc (Yl.idx rfl rfl rfl rfl rfl rfl Hb) rfl ?_))|refine aa.yg dc (Yl.len rfl rfl rfl) rfl ?_|refine aa.yg dc (Yl.extract rfl rfl) rfl ?_|refine aa.yg dc (Yl.dP (BE rfl dp) rfl) rfl ?_|refine aa.yg dc (Yl.dO (BD rfl dp) rfl) rfl ?_|refine aa.yg dc (Yl.dP (xS rfl dp) rfl) rfl ?_|refine aa.yg dc (Yl.dO (xS rfl dp) rfl) rfl ?_|refine aa.yg dc (Yl.dP rfl rfl) rfl ?_|refine aa.yg dc (Yl.dO rfl rfl) rfl ?_|refine aa.yg dc (Yl.nilCheck rfl) rfl ?_|refine aa.yg dc (Yl.not rfl) rfl ?_|refine aa.yg dc (Yl.fp rfl rfl rfl rfl rfl Hb) rfl ?_|refine aa.yg dc (Yl.makeFunc rfl rfl) rfl ?_|refine aa.yg dc (Yl.gw rfl rfl) rfl ?_|refine aa.yg dc (Yl.gx rfl rfl rfl GJ Hd) rfl ?_|refine aa.yg dc (Yl.gy rfl rfl rfl GK) rfl ?_|refine aa.yg dc (Yl.eo rfl rfl rfl rfl) rfl ?_|refine aa.yg dc (Yl.cX Tryz.underlying9 rfl rfl rfl Hb) rfl ?_|refine aa.yg dc (Yl.cq Tryz.underlying9 rfl rfl rfl Hb) rfl ?_|refine aa.yg dc (Yl.cn rfl rfl rfl rfl rfl rfl Hb) rfl ?_|refine aa.yg dc (Yl.kz Tryz.underlying9 rfl) rfl ?_))|refine aa.nil ?_|(refine aa.Ea ?_;(first|(refine aa.rT ?_;(first|refine aa.aM _ rfl rfl rfl rfl rfl rfl GQ rfl ?_|refine aa.er rfl rfl rfl rfl rfl GQ GT ?_))|refine aa.y_ (Yl.move rfl) rfl ?_|refine aa.y_ (Yl.assign rfl) rfl ?_|(refine aa.an ?_;(first|(refine aa.an (bo:=.lss) ?_;(first|refine aa.y_ (Yl.iU rfl rfl Hb) rfl ?_|refine aa.y_ (Yl.iT rfl rfl Hb) rfl ?_))|(refine aa.an (bo:=.eql) ?_;(first|refine aa.y_ (Yl.iL rfl rfl Hb) rfl ?_|refine aa.y_ (Yl.iK rfl rfl Hb) rfl ?_))|(refine aa.an (bo:=.neq) ?_;(first|refine aa.y_ (Yl.iW rfl rfl Hb) rfl ?_|refine aa.y_ (Yl.iV rfl rfl Hb) rfl ?_))|(refine aa.an (bo:=.leq) ?_;(first|refine aa.y_ (Yl.iS rfl rfl Hb) rfl ?_|refine aa.y_ (Yl.iR rfl rfl Hb) rfl ?_))|(refine aa.an (bo:=.gtr) ?_;(first|refine aa.y_ (Yl.iQ rfl rfl Hb) rfl ?_|refine aa.y_ (Yl.iP rfl rfl Hb) rfl ?_))|(refine aa.an (bo:=.geq) ?_;(first|refine aa.y_ (Yl.iO rfl rfl Hb) rfl ?_|refine aa.y_ (Yl.iN rfl rfl Hb) rfl ?_))|refine aa.y_ (Yl.add rfl rfl Hb) rfl ?_|refine aa.y_ (Yl.sub rfl rfl Hb) rfl ?_|refine aa.y_ (Yl.fF rfl rfl rfl rfl) rfl ?_|refine aa.y_ (Yl.jr Tryz.underlying4 rfl rfl) rfl ?_|refine aa.y_ (Yl.qJ rfl rfl) rfl ?_|refine aa.y_ (Yl.kA rfl rfl) rfl ?_|refine aa.y_ (Yl.ky rfl rfl Hb) rfl ?_|refine aa.y_ (Yl.Ao rfl rfl) rfl ?_|refine aa.y_ (Yl.Ab rfl rfl) rfl ?_|refine aa.y_ (Yl.Ar rfl rfl) rfl ?_|refine aa.y_ (Yl.Al rfl rfl) rfl ?_|refine aa.y_ (Yl.Ah rfl rfl) rfl ?_|refine aa.y_ (Yl.Af rfl rfl) rfl ?_))|(refine aa.isField ?_;(first|refine aa.y_ (Yl.iw rfl rfl rfl) rfl ?_|refine aa.y_ (Yl.ep rfl rfl rfl) rfl ?_|refine aa.y_ (Yl.field rfl rfl rfl) rfl ?_))|(refine aa.bX ?_;(first|refine aa.y_ (Yl.jC rfl rfl rfl GH) rfl ?_|refine aa.y_ (Yl.jA rfl rfl rfl rfl GQ) rfl ?_|refine aa.y_ (Yl.jD rfl rfl rfl rfl GQ GN) rfl ?_|refine aa.y_ (Yl.jB rfl rfl rfl GL rfl) rfl ?_))|(refine aa.dK ?_;(first|refine aa.y_ (Yl.fX rfl rfl rfl rfl rfl rfl Hb) rfl ?_|refine aa.y_ (Yl.idx rfl rfl rfl rfl rfl rfl Hb) rfl ?_))|refine aa.y_ (Yl.len rfl rfl rfl) rfl ?_|refine aa.y_ (Yl.extract rfl rfl) rfl ?_|refine aa.y_ (Yl.dP (BE rfl dp) rfl) rfl ?_|refine aa.y_ (Yl.dO (BD rfl dp) rfl) rfl ?_|refine aa.y_ (Yl.dP (xS rfl dp) rfl) rfl ?_|refine aa.y_ (Yl.dO (xS rfl dp) rfl) rfl ?_|refine aa.y_ (Yl.dP rfl rfl) rfl ?_|refine aa.y_ (Yl.dO rfl rfl) rfl ?_|refine aa.y_ (Yl.nilCheck rfl) rfl ?_|refine aa.y_ (Yl.not rfl) rfl ?_|refine aa.y_ (Yl.fp rfl rfl rfl rfl rfl Hb) rfl ?_|refine aa.y_ (Yl.makeFunc rfl rfl) rfl ?_|refine aa.y_ (Yl.gw rfl rfl) rfl ?_|refine aa.y_ (Yl.gx rfl rfl rfl GJ Hd) rfl ?_|refine aa.y_ (Yl.gy rfl rfl rfl GK) rfl ?_|refine aa.y_ (Yl.eo rfl rfl rfl rfl) rfl ?_|refine aa.y_ (Yl.cX Tryz.underlying9 rfl rfl rfl Hb) rfl ?_|refine aa.y_ (Yl.cq Tryz.underlying9 rfl rfl rfl Hb) rfl ?_|refine aa.y_ (Yl.cn rfl rfl rfl rfl rfl rfl Hb) rfl ?_|refine aa.y_ (Yl.kz Tryz.underlying9 rfl) rfl ?_))))|(refine aQ.is ?_;(first|(first|refine aQ.seq ?_|refine aQ.region ?_|refine aQ.kS rfl G7 ?_|refine aQ.block ?_|refine aQ.fC rfl ?_|refine aQ.fB rfl ?_|refine aQ.skip ?_|refine aQ.ret ?_|refine aQ.exit ?_|fail)|refine aQ.fC (BE rfl (by first|with_reducible assumption|omega)) ?_|refine aQ.fB (BD rfl (by first|with_reducible assumption|omega)) ?_|refine aQ.fC (xS rfl dp) ?_|refine aQ.fB (xS rfl dp) ?_))|(refine ai.is ?_;(first|refine ai.iG ?_|refine ai.lT ?_|refine ai.iH ?_|refine ai.lU ?_|refine ai.iI ?_|refine ai.lV ?_|refine ai.rE rfl ?_|fail))|refine AO ?_);exact hk_.out)):g:=hw ⟨h⟩
theorem ax {g g':Prop} (h:g') (hw:ek g'→g:=by(intro hk_;refine CY ?_;(repeat refine CY ?_);exact hk_.out)):g:=hw ⟨h⟩
theorem gh {g:Prop} {g':Nat→Prop} (h:∀b,True→g' b) (hw:ek (∀b,True→g' b)→g:=by(intro hk_;refine aa.CH ?_;exact aa.he (HE.ml rfl rfl rfl rfl rfl fT Hd Hd) rfl hk_.out)):g:=hw ⟨h⟩
theorem bz {g:Prop} {g':Nat→Prop} (h:∀b,g' b) (hw:ek (∀b,g' b)→g:=by(intro hk_;refine aa.CG ?_;exact aa.box _ rfl rfl rfl hk_.out)):g:=hw ⟨h⟩
theorem aO {g a b:Prop} (ha:a) (hb:b) (hw:ek a→ek b→g:=by(intro h1_ h2_;(first|exact aQ.zq rfl h1_.out h2_.out|exact aQ.AV rfl h1_.out h2_.out|exact aa.zt rfl h1_.out h2_.out|(refine aa.vZ rfl ?_ ?_;(all_goals fail_if_success (intro hc_;cases hc_;done));exact h1_.out;exact h2_.out)|fail))):g:=hw ⟨ha⟩ ⟨hb⟩
structure aP (ro:Option Nat) (D:List Deferred) (ops:Array Oper) (Q:Exit→Act→World→Prop) (n:Nat) (l:List Oper) (E:Env) (M:List aV) (R:List (World→Prop)):Prop where
 h:∀w,Ok M R w→cQ ro 0 D ops Q n l E w
structure fJ (ro:Option Nat) (D:List Deferred) (Q:Exit→Act→World→Prop) (n:Nat) (c:Code) (E:Env) (M:List aV) (R:List (World→Prop)):Prop where
 h:∀w,Ok M R w→gP ro 0 D Q n c E w
structure ec (D:List Deferred) (Q:Exit→Act→World→Prop) (n:Nat) (e:Exit) (E:Env) (M:List aV) (R:List (World→Prop)):Prop where
 h:∀w,Ok M R w→dt D Q n e E w
section
variable {ro:Option Nat} {D:List Deferred} {ops:Array Oper} {Q:Exit→Act→World→Prop} {n:Nat} {E:Env} {M M':List aV} {R R':List (World→Prop)} {rest l:List Oper} {op:Op} {d:Nat} {ty:TypeId} {pos:String} {aft:Array Edge} {v:Value} {x y:Operand} {t t2:TypeId} {gd:Option (Nat×Bool)} {dd:Option Nat}
theorem fJ.seq {x y:Code} (h:fJ ro D (Exit.then (y.wpIn (FW ro) 0 G.P Q) Q) n x E M R):fJ ro D Q n (.seq x y) E M R:=⟨fun w hw=>gP.seq (h.h w hw)⟩
theorem fJ.block {id:Nat} {c:Code} (h:fJ ro D (Exit.inBlock id Q) n c E M R):fJ ro D Q n (.block id c) E M R:=⟨fun w hw=>gP.block (h.h w hw)⟩
theorem fJ.skip (h:ec D Q n .normal E M R):fJ ro D Q n .skip E M R:=⟨fun w hw=>gP.skip (h.h w hw)⟩
theorem fJ.exit {id:Nat} (h:ec D Q n (.exit id) E M R):fJ ro D Q n (.exit id) E M R:=⟨fun w hw=>gP.exit (h.h w hw)⟩
theorem fJ.ret (h:ec D Q n .ret E M R):fJ ro D Q n .ret E M R:=⟨fun w hw=>gP.ret (h.h w hw)⟩
theorem fJ.region {id:Nat} {l:List Oper} (h:aP ro D l.toArray Q n l E M R):fJ ro D Q n (.region id l.toArray false) E M R:=⟨fun w hw=>gP.region (h.h w hw)⟩
theorem fJ.fC {c:Operand} {x y:Code} (hc:ev E c=some (.bool true)) (h:fJ ro D Q n x E M R):fJ ro D Q n (.cond c x y) E M R:=⟨fun w hw=>gP.fC hc (h.h w hw)⟩
theorem fJ.fB {c:Operand} {x y:Code} (hc:ev E c=some (.bool false)) (h:fJ ro D Q n y E M R):fJ ro D Q n (.cond c x y) E M R:=⟨fun w hw=>gP.fB hc (h.h w hw)⟩
theorem ec.iG {y:Code} (h:fJ ro D Q n y E M R):ec D (Exit.then (y.wpIn (FW ro) 0 G.P Q) Q) n .normal E M R:=⟨fun w hw=>dt.iG (h.h w hw)⟩
theorem ec.iH {K:Act→World→Prop} (h:ec D Q n .ret E M R):ec D (Exit.then K Q) n .ret E M R:=⟨fun w hw=>dt.iH (h.h w hw)⟩
theorem ec.iI {K:Act→World→Prop} {id:Nat} (h:ec D Q n (.exit id) E M R):ec D (Exit.then K Q) n (.exit id) E M R:=⟨fun w hw=>dt.iI (h.h w hw)⟩
theorem ec.lT {id:Nat} (h:ec D Q n .normal E M R):ec D (Exit.inBlock id Q) n .normal E M R:=⟨fun w hw=>dt.lT (h.h w hw)⟩
theorem ec.lU {id:Nat} (h:ec D Q n .ret E M R):ec D (Exit.inBlock id Q) n .ret E M R:=⟨fun w hw=>dt.lU (h.h w hw)⟩
theorem ec.lV {id:Nat} (h:ec D Q n .normal E M R):ec D (Exit.inBlock id Q) n (.exit id) E M R:=⟨fun w hw=>dt.lV (h.h w hw)⟩
theorem aP.nil (h:ec D Q n .normal E M R):aP ro D ops Q n [] E M R:=⟨fun w hw=>cQ.nil (h.h w hw)⟩
theorem aP.y_ (hy:Yl G n op E (Ok M R) v) (hd:(mn op && Nat.blt d n)=true) (h:aP ro D ops Q n rest ((d,v)::E) M R):aP ro D ops Q n (⟨some d,op,ty,pos,aft,none⟩::rest) E M R:=
 ⟨fun w hw=>cQ.y (hy.mono (by rintro _ rfl;exact hw)) hd (h.h w hw)⟩
section
variable {β:Type} {φ:β→Prop} {vf:β→Value} {Mf:β→List aV} {Rf:β→List (World→Prop)}
theorem aP.he (he:HE n op E M R φ vf Mf Rf) (hn:gW op=true) (hd:Nat.blt d n=true) (h:∀x,φ x→aP ro D ops Q n rest ((d,vf x)::E) (Mf x) (Rf x)):aP ro D ops Q n (⟨some d,op,ty,pos,aft,none⟩::rest) E M R:=
 ⟨fun w hw=>cQ.e (he.h w hw) hn hd fun v w' ⟨x,h1,h2,h3⟩=>by subst h2;exact(h x h1).h w' h3⟩
theorem aP.m6 (he:gj n op E M R φ Mf Rf) (hn:gW op=true) (h:∀x,φ x→aP ro D ops Q n rest E (Mf x) (Rf x)):aP ro D ops Q n (⟨none,op,ty,pos,aft,none⟩::rest) E M R:=
 ⟨fun w hw=>cQ.e0 (he.h w hw) hn fun _ w' ⟨x,h1,h3⟩=>(h x h1).h w' h3⟩
end
theorem aP.is (h:aP ro D ops Q n l E M R):aP ro D ops Q n l E M R:=h
theorem fJ.is {c:Code} (h:fJ ro D Q n c E M R):fJ ro D Q n c E M R:=h
theorem ec.is {e:Exit} (h:ec D Q n e E M R):ec D Q n e E M R:=h
theorem aP.an {bo:BinOp} (h:aP ro D ops Q n (⟨dd,.binOp bo t x y t2,ty,pos,aft,gd⟩::rest) E M R):aP ro D ops Q n (⟨dd,.binOp bo t x y t2,ty,pos,aft,gd⟩::rest) E M R:=h
theorem aP.bX (h:aP ro D ops Q n (⟨dd,.load t x,ty,pos,aft,gd⟩::rest) E M R):aP ro D ops Q n (⟨dd,.load t x,ty,pos,aft,gd⟩::rest) E M R:=h
theorem zJ {g g':Prop} (h:g') (hw:ek g'→g:=by(intro hk_;(repeat(first|(refine aP.is ?_;(first|refine aP.nil ?_|refine aP.y_ (Yl.move rfl) rfl ?_|refine aP.y_ (Yl.assign rfl) rfl ?_|(refine aP.an ?_;(first|(refine aP.an (bo:=.lss) ?_;(first|refine aP.y_ (Yl.iU rfl rfl Hb) rfl ?_|refine aP.y_ (Yl.iT rfl rfl Hb) rfl ?_))|(refine aP.an (bo:=.eql) ?_;(first|refine aP.y_ (Yl.iL rfl rfl Hb) rfl ?_|refine aP.y_ (Yl.iK rfl rfl Hb) rfl ?_))|(refine aP.an (bo:=.neq) ?_;(first|refine aP.y_ (Yl.iW rfl rfl Hb) rfl ?_|refine aP.y_ (Yl.iV rfl rfl Hb) rfl ?_))|(refine aP.an (bo:=.leq) ?_;(first|refine aP.y_ (Yl.iS rfl rfl Hb) rfl ?_|refine aP.y_ (Yl.iR rfl rfl Hb) rfl ?_))|(refine aP.an (bo:=.gtr) ?_;(first|refine aP.y_ (Yl.iQ rfl rfl Hb) rfl ?_|refine aP.y_ (Yl.iP rfl rfl Hb) rfl ?_))|(refine aP.an (bo:=.geq) ?_;(first|refine aP.y_ (Yl.iO rfl rfl Hb) rfl ?_|refine aP.y_ (Yl.iN rfl rfl Hb) rfl ?_))|refine aP.y_ (Yl.add rfl rfl Hb) rfl ?_|refine aP.y_ (Yl.sub rfl rfl Hb) rfl ?_|refine aP.y_ (Yl.fF rfl rfl rfl rfl) rfl ?_|refine aP.y_ (Yl.jr Tryz.underlying4 rfl rfl) rfl ?_|refine aP.y_ (Yl.qJ rfl rfl) rfl ?_|refine aP.y_ (Yl.kA rfl rfl) rfl ?_|refine aP.y_ (Yl.ky rfl rfl Hb) rfl ?_|fail))|(refine aP.bX ?_;(first|refine aP.y_ (Yl.jC rfl rfl rfl GH) rfl ?_|refine aP.y_ (Yl.jA rfl rfl rfl rfl GQ) rfl ?_|refine aP.y_ (Yl.jD rfl rfl rfl rfl GQ GN) rfl ?_|refine aP.y_ (Yl.jB rfl rfl rfl GL rfl) rfl ?_))|refine aP.y_ (Yl.len rfl rfl rfl) rfl ?_|refine aP.y_ (Yl.extract rfl rfl) rfl ?_|refine aP.y_ (Yl.dP rfl rfl) rfl ?_|refine aP.y_ (Yl.dO rfl rfl) rfl ?_|refine aP.y_ (Yl.nilCheck rfl) rfl ?_|refine aP.y_ (Yl.not rfl) rfl ?_|refine aP.y_ (Yl.fp rfl rfl rfl rfl rfl Hb) rfl ?_|refine aP.y_ (Yl.makeFunc rfl rfl) rfl ?_|refine aP.y_ (Yl.gw rfl rfl) rfl ?_|refine aP.y_ (Yl.gx rfl rfl rfl GJ Hd) rfl ?_|refine aP.y_ (Yl.gy rfl rfl rfl GK) rfl ?_|refine aP.y_ (Yl.eo rfl rfl rfl rfl) rfl ?_|refine aP.y_ (Yl.cX Tryz.underlying9 rfl rfl rfl Hb) rfl ?_|refine aP.y_ (Yl.cq Tryz.underlying9 rfl rfl rfl Hb) rfl ?_|refine aP.y_ (Yl.cn rfl rfl rfl rfl rfl rfl Hb) rfl ?_|refine aP.y_ (Yl.kz Tryz.underlying9 rfl) rfl ?_))|(refine fJ.is ?_;(first|refine fJ.seq ?_|refine fJ.region ?_|refine fJ.block ?_|refine fJ.skip ?_|refine fJ.ret ?_|refine fJ.exit ?_|refine fJ.fC rfl ?_|refine fJ.fB rfl ?_))|(refine ec.is ?_;(first|refine ec.iG ?_|refine ec.lT ?_|refine ec.iH ?_|refine ec.lU ?_|refine ec.iI ?_|refine ec.lV ?_|fail))));exact hk_.out)):g:=hw ⟨h⟩
theorem fJ.EX {c:Code} (h:aQ Q n c E M R):fJ none [] Q n c E M R:=⟨fun w hw=>⟨fun _ ha=>wpIn_wide.2 ((h.h w hw).h _ ha.AK)⟩⟩
theorem ai.CV {y:Code} (h:fJ none [] Q n y E M R):ai (Exit.then (y.wpIn (FW none) 0 G.P Q) Q) n .normal E M R:=⟨fun w hw=>⟨fun _ ha=>((h.h w hw).h _ (oC.of ha))⟩⟩
theorem fJ.at {c:Code} {w:World} (hw:Ok M R w) (h:fJ ro D Q n c E M R):gP ro 0 D Q n c E w:=h.h w hw
theorem ec.at {e:Exit} {w:World} (hw:Ok M R w) (h:ec D Q n e E M R):dt D Q n e E w:=h.h w hw
theorem Bz {f:FuncId} {fn:Func} {c:Code} {l:List Value} {w:World} {Rp:Ending→World→Prop} (hf:G.P.funcs[f]?=some fn) (hb:fn.body=some c) (hn:fn.ntmps=n) (hl:Nat.ble l.length n=true) (hw:Ok M R w)
  (h:fJ none [] (bodyPostM (FW none) 0 G.P fn Rp) n c (uC 0 l) M R):Calls G.P f l.toArray w Rp:=yA 0 hf hb hn hl (h.h w hw)
end
theorem Ok.grow {M:List aV} {w0 W W':World} {row:Option Nat} {B:Nat} (h:Ok M [Ext w0] W) (hB:w0.heap.size≤B) (hg:W.grownBy W' row) (hr:∀r,row=some r→B≤r∧∃o:Obj,W.heap[r]?=some o∧o.isCells=false) (hM:∀(r:Nat) (o:Obj),B≤r→W.heap[r]?=some o→o.isCells=false→¬Mb M r):Ok M [Ext w0] W':=by
 have hc:=bA.jd hg
 have hx:Ext w0 W:=h.get Hc
 have hx':Ext w0 W':=bA.trans' hx hc (fun k hk e=>by have:=(hr k e).1;omega)
 refine⟨fun q hq=>?_,h.d,fun p hp w2 h2=>?_⟩
 ·obtain⟨h1,h2⟩:=h.m q hq
  refine⟨q.st h1 hc fun k _ hk e=>?_,fun k hk=>Nat.lt_of_lt_of_le (h2 k hk) hc.size⟩
  obtain⟨h3,o,h4,h5⟩:=hr k e
  exact hM k o h3 h4 h5 ⟨q,hq,hk⟩
 ·rw[List.mem_singleton]at hp
  subst hp
  exact bA.trans' hx' h2 (fun k hk hm=>absurd (h.origin (S:=fun _=>False) (by simp[]) k hm hk) id)
end Go.Proofs.YtceedealggognaaGreatDoor
