/- Rows: out of the laws' walks; what every seat needs. -/
import Derived.Test.YtceedealggognaaGreatDoorRows
import Derived.Test.YtceedealggognaaGreatDoorJR7
import Derived.ProofKit
import Derived.OpenShut
namespace Go.Proofs.YtceedealggognaaGreatDoor
open Go.ChangeShapes Go.WideShapes Go.ChangeAt Go.RowKit
theorem own:ownKnob Tryz.prog.godebug=none:=by kernel_rfl
theorem laidOut:laidOutB Tryz.prog=true:=by kernel_rfl
section
variable {H:Type} {enc:TypeId×Value→H} {P:Program}
def vY (P:Program) (ts:List TypeId):Bool:=ts.all fun t=>P.readableRec t && decide (t<P.types.size)
theorem lL (hl:laidOutB P=true) {W W':World} (hb:Below W.heap.size W W') {sp:Nat→Bool}:∀{ts:List TypeId} {vs:List Value} {ds:List (DataW H)} {ps:List MemPlace},vY P ts=true→
  DataW.TrodAll enc P W 0 (fun _=>true) true ts vs ds ps→(∀x∈ps,x.block<W.heap.size)→(∀x∈ps,sp x.block=true)→DataW.TrodAll enc P W' 0 sp true ts vs ds ps
 |[],_,_,_,_,h,_,_=>by
  obtain⟨rfl,rfl,rfl⟩:=trodAll_nil h
  exact trodAll_mk0
 |t::ts,_,_,_,hr,h,h1,h2=>by
  obtain⟨v,vs,d,ds,p,q,rfl,rfl,rfl,ht,hts⟩:=trodAll_cons h
  simp only[vY,List.all_cons,Bool.and_eq_true,decide_eq_true_eq]at hr
  refine trodAll_cons_mk (Go.WideElems.Trod_stays hl hr.1.1 hr.1.2 ht (fun x hx=>hb.same (h1 x (by simp[hx]))) (fun x hx=>h2 x (by simp[hx]))) (lL hl hb (by simpa[vY]using hr.2) hts (fun x hx=>h1 x (by simp[hx])) (fun x hx=>h2 x (by simp[hx])))
theorem sn {f:Func} {s:ChangeSpec} {apart fresh handsOn again:Bool} {W W':World} {args:Array Value} {ds gs:List (DataW H)} {before:List MemPlace} {tb:TypeId}
  (hl:laidOutB P=true) (hv:s.vars=[]) (hr:f.resultTypes=#[tb]) (hb:P.underlying tb=some .bool) (hp:vY P f.params.toList=true)
  (hW:DataW.Whole enc P f.params.toList s.vars apart W args.toList ds gs before) (hfn:gs=[]→s.fn H ds={results:=[.lit (.bool true)],args:=ds}) (hx:Below W.heap.size W W'):
  s.post enc P f apart fresh handsOn again W args (.bool true) W':=by
 have hlt:=hW.lt
 have hW':=hW
 obtain⟨pa,pv,hA,hV,rfl,hz,hn⟩:=hW
 rw[hv]at hV
 obtain⟨rfl,rfl⟩:=trodVars_none hV
 have e:s.fn H (ds++[])={results:=[.lit (.bool true)],args:=ds}:=by rw[List.append_nil];exact hfn rfl
 simp only[List.append_nil]at hlt hz hn hW'
 have hres:∀b sp hd,DataW.TrodAll enc P W' b sp hd f.resultTypes.toList ((Value.bool true).resultList f.resultTypes.size) [.lit (.bool true)] []:=fun b sp hd=>by
  rw[hr];exact trodAll_cons_mk (shut_bool hb _) trodAll_mk0
 have hargs:∀sp:Nat→Bool,(∀p∈pa,sp p.block=true)→DataW.TrodAll enc P W' 0 sp true f.params.toList args.toList ds pa:=fun sp hsp=>lL hl hx hp hA hlt hsp
 have hvars:∀sp:Nat→Bool,DataW.TrodVars enc P W' sp s.vars [] []:=fun sp=>by rw[hv];rfl
 refine⟨ds,[],pa,[],pa,[],hW',by rw[e];exact hres _ _ _,by rw[e];exact hargs _ (fun p hp=>by simpa using hlt p hp),by rw[e];exact hvars _,hx.frame _,fun _=>⟨?_,[.lit (.bool true)]++ds,[],([]++pa)++[],⟨[]++pa,[],?_,hvars _,rfl,?_,?_⟩,?_⟩⟩
 ·exact ok_one hr rfl (okWide_bool_mk hb _)
 ·exact trodAll_append (hargs _ (fun _ _=>rfl)) (hres _ _ _)
 ·intro b off hp
  have hp':MemPlace.cell b off∈pa:=by simpa using hp
  rw[hx.frozen (hlt _ hp')]
  exact hz b off hp'
 ·intro ha
  simpa using hn ha
 ·intro p hp _
  simpa using hp
theorem nN {P:Program}:∀(ts us:List TypeId) (ds:List (DataW H)),∀n∈DataW.weightsEach P ts ds,n∈DataW.weightsEach P (ts++us) ds
 |[],_,_,n,h=>by simp[DataW.weightsEach]at h
 |_::_,_,[],n,h=>by simp[DataW.weightsEach]at h
 |t::ts,us,d::ds,n,h=>by
  simp only[DataW.weightsEach,List.cons_append,List.mem_append]at h ⊢
  rcases h with h|h
  ·exact .inl h
  ·exact .inr (nN ts us ds n h)
end
section
variable {H:Type} {enc:TypeId×Value→H} {w:World} {t:TypeId} {v:Value} {d:DataW H} {ps:List MemPlace}
set_option maxRecDepth 100000
theorem Bq (h:DataW.Trod enc G.P w 0 (fun _=>true) true t v d ps) (hw:∀n∈d.weights G.P t,n≤reachBytes):Tr w t v.cells.toList:=by
 obtain⟨fuel,h⟩:=h
 exact⟨H,enc,_,_,fuel,_,h,hw⟩
theorem oE {bs:Nat} {fs:Array Field} (ht:G.P.underlying t=some (.struct fs)) (ho:Value.okWide G.P w .any bs t v) (h:DataW.Trod enc G.P w 0 (fun _=>true) true t v d ps) (hw:∀n∈d.weights G.P t,n≤reachBytes):∃cs:List Value,v=.agg cs.toArray∧cs.length=G.P.cellsOf t∧Tr w t cs:=by
 obtain⟨cs,rfl,hcl⟩:=okWide_struct ht ho
 exact⟨cs.toList,by simp,by simpa using hcl,Bq h hw⟩
end
end Go.Proofs.YtceedealggognaaGreatDoor
