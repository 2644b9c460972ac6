import Derived.Test.YtdkcljdfbemnbaaGreatDoorRows
import Derived.ProofKit
import Derived.OpenShut
import Derived.Test.YtdkcljdfbemnbaaGreatDoorJSb
namespace Go.Proofs.YtdkcljdfbemnbaaGreatDoor
section
open Go.ChangeShapes Go.WideShapes Go.ChangeAt Go.RowKit _root_.Go.Proofs.Tryz
theorem own:ownKnob prog.godebug=none:=by kernel_rfl
theorem laidOut:laidOutB prog=true:=by kernel_rfl
section
variable {H:Type} {enc:TypeId×Value→H} {P:Program}
def CT (P:Program) (ts:List TypeId):Bool:=ts.all fun t=>P.readableRec t && decide (t<P.types.size)
theorem pI (hl:laidOutB P=true) {W W':World} (hb:Below W.heap.size W W') {sp:Nat→Bool}:∀{ts:List TypeId} {vs:List Value} {ds:List (DataW H)} {ps:List MemPlace},CT P ts=true→
  DataW.TrodAll enc P W 0 (fun _=>true) true ts vs ds ps→(∀x∈ps,x.block<W.heap.size)→(∀x∈ps,sp x.block=true)→DataW.TrodAll enc P W' 0 sp true ts vs ds ps
 |[],_,_,_,_,h,_,_=>by
  obtain⟨rfl,rfl,rfl⟩:=trodAll_nil h
  exact trodAll_mk0
 |t::ts,_,_,_,hr,h,h1,h2=>by
  obtain⟨v,vs,d,ds,p,q,rfl,rfl,rfl,ht,hts⟩:=trodAll_cons h
  simp only[CT,List.all_cons,Bool.and_eq_true,decide_eq_true_eq]at hr
  refine trodAll_cons_mk (Go.WideElems.Trod_stays hl hr.1.1 hr.1.2 ht (fun x hx=>hb.same (h1 x (by simp[hx]))) (fun x hx=>h2 x (by simp[hx]))) (pI hl hb (by simpa[CT]using hr.2) hts (fun x hx=>h1 x (by simp[hx])) (fun x hx=>h2 x (by simp[hx])))
theorem yB {f:Func} {s:ChangeSpec} {apart fresh handsOn again:Bool} {W W':World} {args:Array Value} {ds gs:List (DataW H)} {before:List MemPlace} {tb:TypeId}
  (hl:laidOutB P=true) (hv:s.vars=[]) (hr:f.resultTypes=#[tb]) (hb:P.underlying tb=some .bool) (hp:CT P f.params.toList=true)
  (hW:DataW.Whole enc P f.params.toList s.vars apart W args.toList ds gs before) (hfn:gs=[]→s.fn H ds={results:=[.lit (.bool true)],args:=ds}) (hx:Below W.heap.size W W'):
  s.post enc P f apart fresh handsOn again W args (.bool true) W':=by
 have hlt:=hW.lt
 have hW':=hW
 obtain⟨pa,pv,hA,hV,rfl,hz,hn⟩:=hW
 rw[hv]at hV
 obtain⟨rfl,rfl⟩:=trodVars_none hV
 have e:s.fn H (ds++[])={results:=[.lit (.bool true)],args:=ds}:=by rw[List.append_nil];exact hfn rfl
 simp only[List.append_nil]at hlt hz hn hW'
 have hres:∀b sp hd,DataW.TrodAll enc P W' b sp hd f.resultTypes.toList ((Value.bool true).resultList f.resultTypes.size) [.lit (.bool true)] []:=fun b sp hd=>by
  rw[hr];exact trodAll_cons_mk (shut_bool hb _) trodAll_mk0
 have hargs:∀sp:Nat→Bool,(∀p∈pa,sp p.block=true)→DataW.TrodAll enc P W' 0 sp true f.params.toList args.toList ds pa:=fun sp hsp=>pI hl hx hp hA hlt hsp
 have hvars:∀sp:Nat→Bool,DataW.TrodVars enc P W' sp s.vars [] []:=fun sp=>by rw[hv];rfl
 refine⟨ds,[],pa,[],pa,[],hW',by rw[e];exact hres _ _ _,by rw[e];exact hargs _ (fun p hp=>by simpa using hlt p hp),by rw[e];exact hvars _,hx.frame _,fun _=>⟨?_,[.lit (.bool true)]++ds,[],([]++pa)++[],⟨[]++pa,[],?_,hvars _,rfl,?_,?_⟩,?_⟩⟩
 ·exact ok_one hr rfl (okWide_bool_mk hb _)
 ·exact trodAll_append (hargs _ (fun _ _=>rfl)) (hres _ _ _)
 ·intro b off hp
  have hp':MemPlace.cell b off∈pa:=by simpa using hp
  rw[hx.frozen (hlt _ hp')]
  exact hz b off hp'
 ·intro ha
  simpa using hn ha
 ·intro p hp _
  simpa using hp
theorem su {P:Program}:∀(ts us:List TypeId) (ds:List (DataW H)),∀n∈DataW.weightsEach P ts ds,n∈DataW.weightsEach P (ts++us) ds
 |[],_,_,n,h=>by simp[DataW.weightsEach]at h
 |_::_,_,[],n,h=>by simp[DataW.weightsEach]at h
 |t::ts,us,d::ds,n,h=>by
  simp only[DataW.weightsEach,List.cons_append,List.mem_append]at h ⊢
  rcases h with h|h
  ·exact .inl h
  ·exact .inr (su ts us ds n h)
end
section
variable {H:Type} {enc:TypeId×Value→H} {w:World} {t:TypeId} {v:Value} {d:DataW H} {ps:List MemPlace}
set_option maxRecDepth 100000
theorem HY (h:DataW.Trod enc G.P w 0 (fun _=>true) true t v d ps) (hw:∀n∈d.weights G.P t,n≤reachBytes):Tr w t v.cells.toList:=by
 obtain⟨fuel,h⟩:=h
 exact⟨H,enc,_,_,fuel,_,h,hw⟩
theorem A8 {bs:Nat} {fs:Array Field} (ht:G.P.underlying t=some (.struct fs)) (ho:Value.okWide G.P w .any bs t v) (h:DataW.Trod enc G.P w 0 (fun _=>true) true t v d ps) (hw:∀n∈d.weights G.P t,n≤reachBytes):∃cs:List Value,v=.agg cs.toArray∧cs.length=G.P.cellsOf t∧Tr w t cs:=by
 obtain⟨cs,rfl,hcl⟩:=okWide_struct ht ho
 exact⟨cs.toList,by simp,by simpa using hcl,HY h hw⟩
end
open Go.RowKit
section
variable {ops:Array Oper} {Q:Exit→Act→World→Prop} {n:Nat} {E:Env} {M M':List bu} {R:List (World→Prop)} {rest l:List Oper} {op:Op} {d:Nat} {ty:TypeId} {pos:String} {aft:Array Edge} {v:Value} {x y z:Operand} {t t2:TypeId} {C:World→Prop} {P:Prop} {j:Nat} {b:Bool}
theorem H9 [Decidable P] (h:ev E x=some (.bool (decide P))) (hp:P):ev E x=some (.bool true):=by rw[h,decide_eq_true hp]
theorem H8 [Decidable P] (h:ev E x=some (.bool (decide P))) (hp:¬P):ev E x=some (.bool false):=by rw[h,decide_eq_false hp]
theorem Ez {c:Bool} (h:ev E x=some (.bool c)) (hp:c=b):ev E x=some (.bool b):=by rw[h,hp]
theorem td [Decidable P] (h:qn ops E j=some (decide P)) (hp:P):qn ops E j=some true:=by rw[h,decide_eq_true hp]
theorem vQ [Decidable P] (h:qn ops E j=some (decide P)) (hp:¬P):qn ops E j=some false:=by rw[h,decide_eq_false hp]
theorem Kw {c:Bool} (h:qn ops E j=some c) (hp:c=b):qn ops E j=some b:=by rw[h,hp]
theorem Ds {c:Bool} (h:qn ops E j=some c) (hp:c=true):qn ops E j=some true:=Kw h hp
theorem Dr {c:Bool} (h:qn ops E j=some c) (hp:c=false):qn ops E j=some false:=Kw h hp
theorem Yl.GK {k:IntKind} {p q:Int} (hx:ev E x=some (.int k p)) (hy:ev E y=some (.int k q)):Yl G n (.binOp .eql t x y t2) E C (.bool (decide (p=q))):=Yl.bin hx hy (fun w=>by simp[binOp,Op.intCmp];by_cases h:p=q<;>simp[h])
theorem Yl.G0 {k:IntKind} {p q:Int} (hx:ev E x=some (.int k p)) (hy:ev E y=some (.int k q)):Yl G n (.binOp .neq t x y t2) E C (.bool (decide (p≠q))):=Yl.bin hx hy (fun w=>by simp[binOp,Op.intCmp];by_cases h:p=q<;>simp[h])
theorem aa.KA {dd:Option Nat} (h:aa ops Q n (⟨dd,op,ty,pos,aft,none⟩::rest) E M R):aa ops Q n (⟨dd,op,ty,pos,aft,none⟩::rest) E M R:=h
theorem bh.F8 [Decidable P] {c:Operand} {x y:Code} (hc:ev E c=some (.bool (decide P))) (hx:P→bh Q n x E M R) (hy:¬P→bh Q n y E M R):bh Q n (.cond c x y) E M R:=by
 by_cases h:P
 ·exact bh.jf (H9 hc h) (hx h)
 ·exact bh.je (H8 hc h) (hy h)
theorem aa.F9 [Decidable P] {gd:Nat×Bool} (_hg:qn ops E gd.1=some (decide P)) (hT:P→aa ops Q n (⟨some d,op,ty,pos,aft,some gd⟩::rest) E M R) (hF:¬P→aa ops Q n (⟨some d,op,ty,pos,aft,some gd⟩::rest) E M R):aa ops Q n (⟨some d,op,ty,pos,aft,some gd⟩::rest) E M R:=by
 by_cases h:P
 ·exact hT h
 ·exact hF h
theorem aa.CV {gd:Nat×Bool} {c:Bool} (_:qn ops E gd.1=some c) (hT:c=true→aa ops Q n (⟨some d,op,ty,pos,aft,some gd⟩::rest) E M R) (hF:c=false→aa ops Q n (⟨some d,op,ty,pos,aft,some gd⟩::rest) E M R):aa ops Q n (⟨some d,op,ty,pos,aft,some gd⟩::rest) E M R:=by
 cases h:c with
 |true=>exact hT h
 |false=>exact hF h
end
theorem eK {ops:Array Oper} {E:Env} {j:Nat} {b:Bool} (h:qn ops E j=some b:=by first|rfl|exact td rfl eJ|exact vQ rfl eJ|exact Ds rfl eJ|exact Dr rfl eJ):qn ops E j=some b:=h
theorem Jw {g g':Prop} (h:g') (hw:eA g'→g:=by(intro hk_;(first|(refine aa.is ?_;(first|(refine aa.CF ?_;(first|refine aa.gs eK rfl rfl ?_|refine aa.gu rfl rfl ?_|refine aa.yg eK (Yl.move rfl) rfl ?_|refine aa.yg eK (Yl.assign rfl) rfl ?_|(refine aa.aE ?_;(first|(refine aa.aE (bo:=.lss) ?_;(first|refine aa.yg eK (Yl.lH rfl rfl Pi) rfl ?_|refine aa.yg eK (Yl.lG rfl rfl Pi) rfl ?_))|(refine aa.aE (bo:=.eql) ?_;(first|refine aa.yg eK (Yl.ly rfl rfl Pi) rfl ?_|refine aa.yg eK (Yl.lx rfl rfl Pi) rfl ?_))|(refine aa.aE (bo:=.neq) ?_;(first|refine aa.yg eK (Yl.lK rfl rfl Pi) rfl ?_|refine aa.yg eK (Yl.lJ rfl rfl Pi) rfl ?_))|(refine aa.aE (bo:=.leq) ?_;(first|refine aa.yg eK (Yl.lF rfl rfl Pi) rfl ?_|refine aa.yg eK (Yl.lE rfl rfl Pi) rfl ?_))|(refine aa.aE (bo:=.gtr) ?_;(first|refine aa.yg eK (Yl.lC rfl rfl Pi) rfl ?_|refine aa.yg eK (Yl.lB rfl rfl Pi) rfl ?_))|(refine aa.aE (bo:=.geq) ?_;(first|refine aa.yg eK (Yl.lA rfl rfl Pi) rfl ?_|refine aa.yg eK (Yl.lz rfl rfl Pi) rfl ?_))|refine aa.yg eK (Yl.add rfl rfl Pi) rfl ?_|refine aa.yg eK (Yl.sub rfl rfl Pi) rfl ?_|refine aa.yg eK (Yl.jh rfl rfl rfl rfl) rfl ?_|refine aa.yg eK (Yl.mr Tryz.underlying4 rfl rfl) rfl ?_|refine aa.yg eK (Yl.mq Tryz.underlying4 rfl rfl) rfl ?_|refine aa.yg eK (Yl.xj rfl rfl) rfl ?_|refine aa.yg eK (Yl.nV rfl rfl) rfl ?_|refine aa.yg eK (Yl.nS rfl rfl Pi) rfl ?_|refine aa.yg eK (Yl.GX rfl rfl) rfl ?_|refine aa.yg eK (Yl.GK rfl rfl) rfl ?_|refine aa.yg eK (Yl.G0 rfl rfl) rfl ?_|refine aa.yg eK (Yl.GS rfl rfl) rfl ?_|refine aa.yg eK (Yl.GP rfl rfl) rfl ?_|refine aa.yg eK (Yl.GO rfl rfl) rfl ?_))|(refine aa.isField ?_;(first|refine aa.yg eK (Yl.kS rfl rfl rfl) rfl ?_|refine aa.yg eK (Yl.gJ rfl rfl rfl) rfl ?_|refine aa.yg eK (Yl.field rfl rfl rfl) rfl ?_))|(refine aa.dn ?_;(first|refine aa.yg eK (Yl.mN rfl rfl rfl OF) rfl ?_|refine aa.yg eK (Yl.mL rfl rfl rfl rfl OO) rfl ?_|refine aa.yg eK (Yl.mO rfl rfl rfl rfl OO OL) rfl ?_|refine aa.yg eK (Yl.mM rfl rfl rfl OJ rfl) rfl ?_))|(refine aa.eN ?_;(first|refine aa.yg eK (Yl.gn rfl rfl rfl rfl rfl rfl Pi) rfl ?_|refine aa.yg eK (Yl.idx rfl rfl rfl rfl rfl rfl Pi) rfl ?_))|refine aa.yg eK (Yl.len rfl rfl rfl) rfl ?_|refine aa.yg eK (Yl.extract rfl rfl) rfl ?_|refine aa.yg eK (Yl.fT (H9 rfl eJ) rfl) rfl ?_|refine aa.yg eK (Yl.fS (H8 rfl eJ) rfl) rfl ?_|refine aa.yg eK (Yl.fT (Ez rfl eJ) rfl) rfl ?_|refine aa.yg eK (Yl.fS (Ez rfl eJ) rfl) rfl ?_|refine aa.yg eK (Yl.fT rfl rfl) rfl ?_|refine aa.yg eK (Yl.fS rfl rfl) rfl ?_|refine aa.yg eK (Yl.nilCheck rfl) rfl ?_|refine aa.yg eK (Yl.not rfl) rfl ?_|refine aa.yg eK (Yl.makeFunc rfl rfl) rfl ?_|refine aa.yg eK (Yl.jW rfl rfl) rfl ?_|refine aa.yg eK (Yl.jX rfl rfl rfl OH Pk) rfl ?_|refine aa.yg eK (Yl.jY rfl rfl rfl OI) rfl ?_|refine aa.yg eK (Yl.gH rfl rfl rfl rfl) rfl ?_|refine aa.yg eK (Yl.ed Tryz.underlying9 rfl rfl rfl Pi) rfl ?_|refine aa.yg eK (Yl.dC Tryz.underlying9 rfl rfl rfl Pi) rfl ?_|refine aa.yg eK (Yl.eW Tryz.underlying9 rfl rfl rfl rfl rfl Pi Pi) rfl ?_|refine aa.yg eK (Yl.cZ rfl rfl rfl rfl rfl rfl Pi) rfl ?_|refine aa.yg eK (Yl.nT Tryz.underlying9 rfl) rfl ?_))|refine aa.nil ?_|(refine aa.KA ?_;(first|(refine aa.yh ?_;(first|refine aa.bn _ rfl rfl rfl rfl rfl rfl OO rfl ?_|refine aa.gz rfl rfl rfl rfl rfl OO OT ?_))|refine aa.y_ (Yl.move rfl) rfl ?_|refine aa.y_ (Yl.assign rfl) rfl ?_|(refine aa.aE ?_;(first|(refine aa.aE (bo:=.lss) ?_;(first|refine aa.y_ (Yl.lH rfl rfl Pi) rfl ?_|refine aa.y_ (Yl.lG rfl rfl Pi) rfl ?_))|(refine aa.aE (bo:=.eql) ?_;(first|refine aa.y_ (Yl.ly rfl rfl Pi) rfl ?_|refine aa.y_ (Yl.lx rfl rfl Pi) rfl ?_))|(refine aa.aE (bo:=.neq) ?_;(first|refine aa.y_ (Yl.lK rfl rfl Pi) rfl ?_|refine aa.y_ (Yl.lJ rfl rfl Pi) rfl ?_))|(refine aa.aE (bo:=.leq) ?_;(first|refine aa.y_ (Yl.lF rfl rfl Pi) rfl ?_|refine aa.y_ (Yl.lE rfl rfl Pi) rfl ?_))|(refine aa.aE (bo:=.gtr) ?_;(first|refine aa.y_ (Yl.lC rfl rfl Pi) rfl ?_|refine aa.y_ (Yl.lB rfl rfl Pi) rfl ?_))|(refine aa.aE (bo:=.geq) ?_;(first|refine aa.y_ (Yl.lA rfl rfl Pi) rfl ?_|refine aa.y_ (Yl.lz rfl rfl Pi) rfl ?_))|refine aa.y_ (Yl.add rfl rfl Pi) rfl ?_|refine aa.y_ (Yl.sub rfl rfl Pi) rfl ?_|refine aa.y_ (Yl.jh rfl rfl rfl rfl) rfl ?_|refine aa.y_ (Yl.mr Tryz.underlying4 rfl rfl) rfl ?_|refine aa.y_ (Yl.mq Tryz.underlying4 rfl rfl) rfl ?_|refine aa.y_ (Yl.xj rfl rfl) rfl ?_|refine aa.y_ (Yl.nV rfl rfl) rfl ?_|refine aa.y_ (Yl.nS rfl rfl Pi) rfl ?_|refine aa.y_ (Yl.GX rfl rfl) rfl ?_|refine aa.y_ (Yl.GK rfl rfl) rfl ?_|refine aa.y_ (Yl.G0 rfl rfl) rfl ?_|refine aa.y_ (Yl.GS rfl rfl) rfl ?_|refine aa.y_ (Yl.GP rfl rfl) rfl ?_|refine aa.y_ (Yl.GO rfl rfl) rfl ?_))|(refine aa.isField ?_;(first|refine aa.y_ (Yl.kS rfl rfl rfl) rfl ?_|refine aa.y_ (Yl.gJ rfl rfl rfl) rfl ?_|refine aa.y_ (Yl.field rfl rfl rfl) rfl ?_))|(refine aa.dn ?_;(first|refine aa.y_ (Yl.mN rfl rfl rfl OF) rfl ?_|refine aa.y_ (Yl.mL rfl rfl rfl rfl OO) rfl ?_|refine aa.y_ (Yl.mO rfl rfl rfl rfl OO OL) rfl ?_|refine aa.y_ (Yl.mM rfl rfl rfl OJ rfl) rfl ?_))|(refine aa.eN ?_;(first|refine aa.y_ (Yl.gn rfl rfl rfl rfl rfl rfl Pi) rfl ?_|refine aa.y_ (Yl.idx rfl rfl rfl rfl rfl rfl Pi) rfl ?_))|refine aa.y_ (Yl.len rfl rfl rfl) rfl ?_|refine aa.y_ (Yl.extract rfl rfl) rfl ?_|refine aa.y_ (Yl.fT (H9 rfl eJ) rfl) rfl ?_|refine aa.y_ (Yl.fS (H8 rfl eJ) rfl) rfl ?_|refine aa.y_ (Yl.fT (Ez rfl eJ) rfl) rfl ?_|refine aa.y_ (Yl.fS (Ez rfl eJ) rfl) rfl ?_|refine aa.y_ (Yl.fT rfl rfl) rfl ?_|refine aa.y_ (Yl.fS rfl rfl) rfl ?_|refine aa.y_ (Yl.nilCheck rfl) rfl ?_|refine aa.y_ (Yl.not rfl) rfl ?_|refine aa.y_ (Yl.makeFunc rfl rfl) rfl ?_|refine aa.y_ (Yl.jW rfl rfl) rfl ?_|refine aa.y_ (Yl.jX rfl rfl rfl OH Pk) rfl ?_|refine aa.y_ (Yl.jY rfl rfl rfl OI) rfl ?_|refine aa.y_ (Yl.gH rfl rfl rfl rfl) rfl ?_|refine aa.y_ (Yl.ed Tryz.underlying9 rfl rfl rfl Pi) rfl ?_|refine aa.y_ (Yl.dC Tryz.underlying9 rfl rfl rfl Pi) rfl ?_|refine aa.y_ (Yl.eW Tryz.underlying9 rfl rfl rfl rfl rfl Pi Pi) rfl ?_|refine aa.y_ (Yl.cZ rfl rfl rfl rfl rfl rfl Pi) rfl ?_|refine aa.y_ (Yl.nT Tryz.underlying9 rfl) rfl ?_))))|(refine bh.is ?_;(first|(first|refine bh.seq ?_|refine bh.region ?_|refine bh.oJ rfl Pb ?_|refine bh.block ?_|refine bh.jf rfl ?_|refine bh.je rfl ?_|refine bh.skip ?_|refine bh.ret ?_|refine bh.exit ?_|fail)|refine bh.jf (H9 rfl (by first|with_reducible assumption|omega)) ?_|refine bh.je (H8 rfl (by first|with_reducible assumption|omega)) ?_|refine bh.jf (Ez rfl eJ) ?_|refine bh.je (Ez rfl eJ) ?_))|(refine ah.is ?_;(first|refine ah.lf ?_|refine ah.pR ?_|refine ah.lg ?_|refine ah.pS ?_|refine ah.lh ?_|refine ah.pT ?_|refine ah.xV rfl ?_|fail))|refine Ht ?_);exact hk_.out)):g:=hw ⟨h⟩
theorem ar {g g':Prop} (h:g') (hw:eA g'→g:=by(intro hk_;refine Jw ?_;(repeat refine Jw ?_);exact hk_.out)):g:=hw ⟨h⟩
theorem fC {g:Prop} {g':Nat→Prop} (h:∀b,True→g' b) (hw:eA (∀b,True→g' b)→g:=by(intro hk_;refine aa.I8 ?_;exact aa.he (HE.jG rfl rfl rfl rfl rfl er Pk Pk) rfl hk_.out)):g:=hw ⟨h⟩
theorem aF {g:Prop} {g':Nat→Prop} (h:∀b,g' b) (hw:eA (∀b,g' b)→g:=by(intro hk_;refine aa.I7 ?_;exact aa.box _ rfl rfl rfl hk_.out)):g:=hw ⟨h⟩
theorem bC {g a b:Prop} (ha:a) (hb:b) (hw:eA a→eA b→g:=by(intro h1_ h2_;(first|exact bh.F8 rfl h1_.out h2_.out|exact bh.Cx rfl h1_.out h2_.out|exact aa.F9 rfl h1_.out h2_.out|(refine aa.CV rfl ?_ ?_;(all_goals fail_if_success (intro hc_;cases hc_;done));exact h1_.out;exact h2_.out)|fail))):g:=hw ⟨ha⟩ ⟨hb⟩
end
section
open Go.RowKit _root_.Go.Proofs.Tryz
set_option maxRecDepth 100000
section
variable {ops:Array Oper} {Q:Exit→Act→World→Prop} {n:Nat} {E:Env} {M:List bu} {R:List (World→Prop)} {rest:List Oper} {d:Nat} {ty:TypeId} {pos:String} {aft:Array Edge} {x:Operand} {t:TypeId} {f:Nat} {args:Array Operand} {tys:Array TypeId} {gd:Option (Nat×Bool)} {jb:Nat×Bool}
theorem aa.I7 (h:aa ops Q n (⟨some d,.box t x,ty,pos,aft,none⟩::rest) E M R):aa ops Q n (⟨some d,.box t x,ty,pos,aft,none⟩::rest) E M R:=h
theorem aa.eh (h:aa ops Q n (⟨some d,.alloc t,ty,pos,aft,none⟩::rest) E M R):aa ops Q n (⟨some d,.alloc t,ty,pos,aft,none⟩::rest) E M R:=h
theorem aa.aj (h:aa ops Q n (⟨some d,.call ⟨.value (.func f),args,tys⟩,ty,pos,aft,none⟩::rest) E M R):aa ops Q n (⟨some d,.call ⟨.value (.func f),args,tys⟩,ty,pos,aft,none⟩::rest) E M R:=h
theorem aa.cK (h:aa ops Q n (⟨some d,.call ⟨.value (.func f),args,tys⟩,ty,pos,aft,some jb⟩::rest) E M R):aa ops Q n (⟨some d,.call ⟨.value (.func f),args,tys⟩,ty,pos,aft,some jb⟩::rest) E M R:=h
theorem aa.GR {y:Operand} {b:Bool} (h:aa ops Q n (⟨some d,.lookup t x y b,ty,pos,aft,gd⟩::rest) E M R):aa ops Q n (⟨some d,.lookup t x y b,ty,pos,aft,gd⟩::rest) E M R:=h
theorem aa.I8 {len:Nat} {parts:List (Nat×Operand)} (h:aa ops Q n (⟨some d,.buildSlice t len parts.toArray,ty,pos,aft,none⟩::rest) E M R):aa ops Q n (⟨some d,.buildSlice t len parts.toArray,ty,pos,aft,none⟩::rest) E M R:=h
end
variable {ops:Array Oper} {E:Env} {j:Nat}
theorem eX {b:Bool} (h:qn ops E j=some b:=by first|rfl|exact td rfl eB|exact vQ rfl eB|exact Ds rfl eJ|exact Dr rfl eJ):qn ops E j=some b:=h
theorem Jy {g g':Prop} (h:g') (hw:eA g'→g:=by(intro hk_;(first|(refine aa.is ?_;(first|(refine aa.CF ?_;(first|refine aa.gs eX rfl rfl ?_|refine aa.gu rfl rfl ?_|refine aa.yg eX (Yl.move rfl) rfl ?_|refine aa.yg eX (Yl.assign rfl) rfl ?_|(refine aa.aE ?_;(first|(refine aa.aE (bo:=.lss) ?_;(first|refine aa.yg eX (Yl.lH rfl rfl eB) rfl ?_|refine aa.yg eX (Yl.lG rfl rfl eB) rfl ?_))|(refine aa.aE (bo:=.eql) ?_;(first|refine aa.yg eX (Yl.ly rfl rfl eB) rfl ?_|refine aa.yg eX (Yl.lx rfl rfl eB) rfl ?_))|(refine aa.aE (bo:=.neq) ?_;(first|refine aa.yg eX (Yl.lK rfl rfl eB) rfl ?_|refine aa.yg eX (Yl.lJ rfl rfl eB) rfl ?_))|(refine aa.aE (bo:=.leq) ?_;(first|refine aa.yg eX (Yl.lF rfl rfl eB) rfl ?_|refine aa.yg eX (Yl.lE rfl rfl eB) rfl ?_))|(refine aa.aE (bo:=.gtr) ?_;(first|refine aa.yg eX (Yl.lC rfl rfl eB) rfl ?_|refine aa.yg eX (Yl.lB rfl rfl eB) rfl ?_))|(refine aa.aE (bo:=.geq) ?_;(first|refine aa.yg eX (Yl.lA rfl rfl eB) rfl ?_|refine aa.yg eX (Yl.lz rfl rfl eB) rfl ?_))|refine aa.yg eX (Yl.add rfl rfl Pi) rfl ?_|refine aa.yg eX (Yl.sub rfl rfl Pi) rfl ?_|refine aa.yg eX (Yl.jh rfl rfl rfl rfl) rfl ?_|refine aa.yg eX (Yl.mr Tryz.underlying4 rfl rfl) rfl ?_|refine aa.yg eX (Yl.mq Tryz.underlying4 rfl rfl) rfl ?_|refine aa.yg eX (Yl.xj rfl rfl) rfl ?_|refine aa.yg eX (Yl.nV rfl rfl) rfl ?_|refine aa.yg eX (Yl.nS rfl rfl Pi) rfl ?_|refine aa.yg eX (Yl.GX rfl rfl) rfl ?_|refine aa.yg eX (Yl.GK rfl rfl) rfl ?_|refine aa.yg eX (Yl.G0 rfl rfl) rfl ?_|refine aa.yg eX (Yl.GS rfl rfl) rfl ?_|refine aa.yg eX (Yl.GP rfl rfl) rfl ?_|refine aa.yg eX (Yl.GO rfl rfl) rfl ?_))|(refine aa.isField ?_;(first|refine aa.yg eX (Yl.kS rfl rfl rfl) rfl ?_|refine aa.yg eX (Yl.gJ rfl rfl rfl) rfl ?_|refine aa.yg eX (Yl.field rfl rfl rfl) rfl ?_))|(refine aa.dn ?_;(first|refine aa.yg eX (Yl.mN rfl rfl rfl OF) rfl ?_|refine aa.yg eX (Yl.mL rfl rfl rfl rfl OO) rfl ?_|refine aa.yg eX (Yl.mO rfl rfl rfl rfl OO OL) rfl ?_|refine aa.yg eX (Yl.mM rfl rfl rfl OJ rfl) rfl ?_))|(refine aa.eN ?_;(first|refine aa.yg eX (Yl.gn rfl rfl rfl rfl rfl rfl Pi) rfl ?_|refine aa.yg eX (Yl.idx rfl rfl rfl rfl rfl rfl Pi) rfl ?_))|refine aa.yg eX (Yl.len rfl rfl rfl) rfl ?_|refine aa.yg eX (Yl.extract rfl rfl) rfl ?_|refine aa.yg (by first|rfl|exact td rfl eB|exact vQ rfl eB|exact Ds rfl eB|exact Dr rfl eB) (Yl.fT (H9 rfl eB) rfl) rfl ?_|refine aa.yg (by first|rfl|exact td rfl eB|exact vQ rfl eB|exact Ds rfl eB|exact Dr rfl eB) (Yl.fS (H8 rfl eB) rfl) rfl ?_|refine aa.yg eX (Yl.fT (Ez rfl eJ) rfl) rfl ?_|refine aa.yg eX (Yl.fS (Ez rfl eJ) rfl) rfl ?_|refine aa.yg eX (Yl.fT rfl rfl) rfl ?_|refine aa.yg eX (Yl.fS rfl rfl) rfl ?_|refine aa.yg eX (Yl.nilCheck rfl) rfl ?_|refine aa.yg eX (Yl.not rfl) rfl ?_|refine aa.yg eX (Yl.makeFunc rfl rfl) rfl ?_|refine aa.yg eX (Yl.jW rfl rfl) rfl ?_|refine aa.yg eX (Yl.jX rfl rfl rfl OH Pk) rfl ?_|refine aa.yg eX (Yl.jY rfl rfl rfl OI) rfl ?_|refine aa.yg eX (Yl.gH rfl rfl rfl rfl) rfl ?_|refine aa.yg eX (Yl.ed Tryz.underlying9 rfl rfl rfl Pi) rfl ?_|refine aa.yg eX (Yl.dC Tryz.underlying9 rfl rfl rfl Pi) rfl ?_|refine aa.yg eX (Yl.eW Tryz.underlying9 rfl rfl rfl rfl rfl Pi Pi) rfl ?_|refine aa.yg eX (Yl.cZ rfl rfl rfl rfl rfl rfl Pi) rfl ?_|refine aa.yg eX (Yl.nT Tryz.underlying9 rfl) rfl ?_))|refine aa.nil ?_|(refine aa.KA ?_;(first|(refine aa.yh ?_;(first|refine aa.bn _ rfl rfl rfl rfl rfl rfl OO rfl ?_|refine aa.gz rfl rfl rfl rfl rfl OO OT ?_))|refine aa.y_ (Yl.move rfl) rfl ?_|refine aa.y_ (Yl.assign rfl) rfl ?_|(refine aa.aE ?_;(first|(refine aa.aE (bo:=.lss) ?_;(first|refine aa.y_ (Yl.lH rfl rfl eB) rfl ?_|refine aa.y_ (Yl.lG rfl rfl eB) rfl ?_))|(refine aa.aE (bo:=.eql) ?_;(first|refine aa.y_ (Yl.ly rfl rfl eB) rfl ?_|refine aa.y_ (Yl.lx rfl rfl eB) rfl ?_))|(refine aa.aE (bo:=.neq) ?_;(first|refine aa.y_ (Yl.lK rfl rfl eB) rfl ?_|refine aa.y_ (Yl.lJ rfl rfl eB) rfl ?_))|(refine aa.aE (bo:=.leq) ?_;(first|refine aa.y_ (Yl.lF rfl rfl eB) rfl ?_|refine aa.y_ (Yl.lE rfl rfl eB) rfl ?_))|(refine aa.aE (bo:=.gtr) ?_;(first|refine aa.y_ (Yl.lC rfl rfl eB) rfl ?_|refine aa.y_ (Yl.lB rfl rfl eB) rfl ?_))|(refine aa.aE (bo:=.geq) ?_;(first|refine aa.y_ (Yl.lA rfl rfl eB) rfl ?_|refine aa.y_ (Yl.lz rfl rfl eB) rfl ?_))|refine aa.y_ (Yl.add rfl rfl Pi) rfl ?_|refine aa.y_ (Yl.sub rfl rfl Pi) rfl ?_|refine aa.y_ (Yl.jh rfl rfl rfl rfl) rfl ?_|refine aa.y_ (Yl.mr Tryz.underlying4 rfl rfl) rfl ?_|refine aa.y_ (Yl.mq Tryz.underlying4 rfl rfl) rfl ?_|refine aa.y_ (Yl.xj rfl rfl) rfl ?_|refine aa.y_ (Yl.nV rfl rfl) rfl ?_|refine aa.y_ (Yl.nS rfl rfl Pi) rfl ?_|refine aa.y_ (Yl.GX rfl rfl) rfl ?_|refine aa.y_ (Yl.GK rfl rfl) rfl ?_|refine aa.y_ (Yl.G0 rfl rfl) rfl ?_|refine aa.y_ (Yl.GS rfl rfl) rfl ?_|refine aa.y_ (Yl.GP rfl rfl) rfl ?_|refine aa.y_ (Yl.GO rfl rfl) rfl ?_))|(refine aa.isField ?_;(first|refine aa.y_ (Yl.kS rfl rfl rfl) rfl ?_|refine aa.y_ (Yl.gJ rfl rfl rfl) rfl ?_|refine aa.y_ (Yl.field rfl rfl rfl) rfl ?_))|(refine aa.dn ?_;(first|refine aa.y_ (Yl.mN rfl rfl rfl OF) rfl ?_|refine aa.y_ (Yl.mL rfl rfl rfl rfl OO) rfl ?_|refine aa.y_ (Yl.mO rfl rfl rfl rfl OO OL) rfl ?_|refine aa.y_ (Yl.mM rfl rfl rfl OJ rfl) rfl ?_))|(refine aa.eN ?_;(first|refine aa.y_ (Yl.gn rfl rfl rfl rfl rfl rfl Pi) rfl ?_|refine aa.y_ (Yl.idx rfl rfl rfl rfl rfl rfl Pi) rfl ?_))|refine aa.y_ (Yl.len rfl rfl rfl) rfl ?_|refine aa.y_ (Yl.extract rfl rfl) rfl ?_|refine aa.y_ (Yl.fT (H9 rfl eB) rfl) rfl ?_|refine aa.y_ (Yl.fS (H8 rfl eB) rfl) rfl ?_|refine aa.y_ (Yl.fT (Ez rfl eJ) rfl) rfl ?_|refine aa.y_ (Yl.fS (Ez rfl eJ) rfl) rfl ?_|refine aa.y_ (Yl.fT rfl rfl) rfl ?_|refine aa.y_ (Yl.fS rfl rfl) rfl ?_|refine aa.y_ (Yl.nilCheck rfl) rfl ?_|refine aa.y_ (Yl.not rfl) rfl ?_|refine aa.y_ (Yl.makeFunc rfl rfl) rfl ?_|refine aa.y_ (Yl.jW rfl rfl) rfl ?_|refine aa.y_ (Yl.jX rfl rfl rfl OH Pk) rfl ?_|refine aa.y_ (Yl.jY rfl rfl rfl OI) rfl ?_|refine aa.y_ (Yl.gH rfl rfl rfl rfl) rfl ?_|refine aa.y_ (Yl.ed Tryz.underlying9 rfl rfl rfl Pi) rfl ?_|refine aa.y_ (Yl.dC Tryz.underlying9 rfl rfl rfl Pi) rfl ?_|refine aa.y_ (Yl.eW Tryz.underlying9 rfl rfl rfl rfl rfl Pi Pi) rfl ?_|refine aa.y_ (Yl.cZ rfl rfl rfl rfl rfl rfl Pi) rfl ?_|refine aa.y_ (Yl.nT Tryz.underlying9 rfl) rfl ?_))))|(refine bh.is ?_;(first|(first|refine bh.seq ?_|refine bh.region ?_|refine bh.oJ rfl Pb ?_|refine bh.block ?_|refine bh.jf rfl ?_|refine bh.je rfl ?_|refine bh.skip ?_|refine bh.ret ?_|refine bh.exit ?_|fail)|refine bh.jf (H9 rfl eB) ?_|refine bh.je (H8 rfl eB) ?_|refine bh.jf (Ez rfl eJ) ?_|refine bh.je (Ez rfl eJ) ?_))|(refine ah.is ?_;(first|refine ah.lf ?_|refine ah.pR ?_|refine ah.lg ?_|refine ah.pS ?_|refine ah.lh ?_|refine ah.pT ?_|refine ah.xV rfl ?_|fail))|refine Ht ?_);exact hk_.out)):g:=hw ⟨h⟩
theorem mu {g g':Prop} (h:g') (hw:eA g'→g:=by(intro hk_;refine Jy ?_;(repeat refine Jy ?_);exact hk_.out)):g:=hw ⟨h⟩
theorem gP {g a b:Prop} (ha:a) (hb:b) (hw:eA a→eA b→g:=by(intro h1_ h2_;(first|exact bh.F8 rfl h1_.out h2_.out|exact bh.Cx rfl h1_.out h2_.out|exact aa.F9 rfl h1_.out h2_.out|exact aa.CV rfl h1_.out h2_.out|fail))):g:=hw ⟨ha⟩ ⟨hb⟩
theorem pk {b:Bool} (h:qn ops E j=some b:=by first|rfl|exact td rfl eB|exact vQ rfl eB|exact Ds rfl eJ|exact Dr rfl eJ):qn ops E j=some b:=h
end
end Go.Proofs.YtdkcljdfbemnbaaGreatDoor
