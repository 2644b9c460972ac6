/- The walker over the symbolic heap. -/
import Derived.Test.YtceedealggognaaGreatDoorJIo
import Derived.Test.YtceedealggognaaGreatDoorJT1
import Derived.Test.YtceedealggognaaGreatDoorJR2
namespace Go.Proofs.YtceedealggognaaGreatDoor
open Go.RowKit
theorem zD {g g':Prop} (h:g') (hw:dP g'→g:=by(intro hk_;(refine ah.is ?_;(first|(refine ah.wU ?_;(first|refine ah.gs rfl rfl rfl ?_|refine ah.gu rfl rfl ?_|refine ah.yg rfl (Yl.move rfl) rfl ?_|refine ah.yg rfl (Yl.assign rfl) rfl ?_|(refine ah.an ?_;(first|(refine ah.an (bo:=.lss) ?_;(first|refine ah.yg rfl (Yl.iG rfl rfl FY) rfl ?_|refine ah.yg rfl (Yl.iF rfl rfl FY) rfl ?_))|(refine ah.an (bo:=.eql) ?_;(first|refine ah.yg rfl (Yl.iw rfl rfl FY) rfl ?_|refine ah.yg rfl (Yl.iu rfl rfl FY) rfl ?_))|(refine ah.an (bo:=.neq) ?_;(first|refine ah.yg rfl (Yl.iI rfl rfl FY) rfl ?_|refine ah.yg rfl (Yl.iH rfl rfl FY) rfl ?_))|(refine ah.an (bo:=.leq) ?_;(first|refine ah.yg rfl (Yl.iE rfl rfl FY) rfl ?_|refine ah.yg rfl (Yl.iD rfl rfl FY) rfl ?_))|(refine ah.an (bo:=.gtr) ?_;(first|refine ah.yg rfl (Yl.iC rfl rfl FY) rfl ?_|refine ah.yg rfl (Yl.iB rfl rfl FY) rfl ?_))|(refine ah.an (bo:=.geq) ?_;(first|refine ah.yg rfl (Yl.iA rfl rfl FY) rfl ?_|refine ah.yg rfl (Yl.iz rfl rfl FY) rfl ?_))|refine ah.yg rfl (Yl.add rfl rfl FY) rfl ?_|refine ah.yg rfl (Yl.sub rfl rfl FY) rfl ?_|refine ah.yg rfl (Yl.fu rfl rfl rfl rfl) rfl ?_|refine ah.yg rfl (Yl.je Tryz.underlying4 rfl rfl) rfl ?_|refine ah.yg rfl (Yl.pY rfl rfl) rfl ?_|refine ah.yg rfl (Yl.kf rfl rfl) rfl ?_|refine ah.yg rfl (Yl.kc rfl rfl FY) rfl ?_|fail))|(refine ah.isField ?_;(first|refine ah.yg rfl (Yl.hU rfl rfl rfl) rfl ?_|refine ah.yg rfl (Yl.dW rfl rfl rfl) rfl ?_|refine ah.yg rfl (Yl.field rfl rfl rfl) rfl ?_))|(refine ah.bW ?_;(first|refine ah.yg rfl (Yl.jr rfl rfl rfl Fu) rfl ?_|refine ah.yg rfl (Yl.jo rfl rfl rfl rfl FD) rfl ?_|refine ah.yg rfl (Yl.js rfl rfl rfl rfl FD FA) rfl ?_|refine ah.yg rfl (Yl.jq rfl rfl rfl Fy rfl) rfl ?_))|(refine ah.dX ?_;(first|refine ah.yg rfl (Yl.fL rfl rfl rfl rfl rfl rfl FY) rfl ?_|refine ah.yg rfl (Yl.idx rfl rfl rfl rfl rfl rfl FY) rfl ?_))|refine ah.yg rfl (Yl.len rfl rfl rfl) rfl ?_|refine ah.yg rfl (Yl.extract rfl rfl) rfl ?_|refine ah.yg rfl (Yl.dF rfl rfl) rfl ?_|refine ah.yg rfl (Yl.dE rfl rfl) rfl ?_|refine ah.yg rfl (Yl.nilCheck rfl) rfl ?_|refine ah.yg rfl (Yl.not rfl) rfl ?_|refine ah.yg rfl (Yl.makeFunc rfl rfl) rfl ?_|refine ah.yg rfl (Yl.fW rfl rfl) rfl ?_|refine ah.yg rfl (Yl.fX rfl rfl rfl Fw F0) rfl ?_|refine ah.yg rfl (Yl.fY rfl rfl rfl Fx) rfl ?_|refine ah.yg rfl (Yl.dU rfl rfl rfl rfl) rfl ?_|refine ah.yg rfl (Yl.cR Tryz.underlying9 rfl rfl rfl FY) rfl ?_|refine ah.yg rfl (Yl.cm Tryz.underlying9 rfl rfl rfl FY) rfl ?_|refine ah.yg rfl (Yl.ck rfl rfl rfl rfl rfl rfl FY) rfl ?_|refine ah.yg rfl (Yl.ke Tryz.underlying9 rfl) rfl ?_))|refine ah.Cw ?_|refine ah.y (Yl.move rfl) rfl ?_|refine ah.y (Yl.assign rfl) rfl ?_|(refine ah.an ?_;(first|(refine ah.an (bo:=.lss) ?_;(first|refine ah.y (Yl.iG rfl rfl FY) rfl ?_|refine ah.y (Yl.iF rfl rfl FY) rfl ?_))|(refine ah.an (bo:=.eql) ?_;(first|refine ah.y (Yl.iw rfl rfl FY) rfl ?_|refine ah.y (Yl.iu rfl rfl FY) rfl ?_))|(refine ah.an (bo:=.neq) ?_;(first|refine ah.y (Yl.iI rfl rfl FY) rfl ?_|refine ah.y (Yl.iH rfl rfl FY) rfl ?_))|(refine ah.an (bo:=.leq) ?_;(first|refine ah.y (Yl.iE rfl rfl FY) rfl ?_|refine ah.y (Yl.iD rfl rfl FY) rfl ?_))|(refine ah.an (bo:=.gtr) ?_;(first|refine ah.y (Yl.iC rfl rfl FY) rfl ?_|refine ah.y (Yl.iB rfl rfl FY) rfl ?_))|(refine ah.an (bo:=.geq) ?_;(first|refine ah.y (Yl.iA rfl rfl FY) rfl ?_|refine ah.y (Yl.iz rfl rfl FY) rfl ?_))|refine ah.y (Yl.add rfl rfl FY) rfl ?_|refine ah.y (Yl.sub rfl rfl FY) rfl ?_|refine ah.y (Yl.fu rfl rfl rfl rfl) rfl ?_|refine ah.y (Yl.je Tryz.underlying4 rfl rfl) rfl ?_|refine ah.y (Yl.pY rfl rfl) rfl ?_|refine ah.y (Yl.kf rfl rfl) rfl ?_|refine ah.y (Yl.kc rfl rfl FY) rfl ?_|fail))|(refine ah.isField ?_;(first|refine ah.y (Yl.hU rfl rfl rfl) rfl ?_|refine ah.y (Yl.dW rfl rfl rfl) rfl ?_|refine ah.y (Yl.field rfl rfl rfl) rfl ?_))|(refine ah.bW ?_;(first|refine ah.y (Yl.jr rfl rfl rfl Fu) rfl ?_|refine ah.y (Yl.jo rfl rfl rfl rfl FD) rfl ?_|refine ah.y (Yl.js rfl rfl rfl rfl FD FA) rfl ?_|refine ah.y (Yl.jq rfl rfl rfl Fy rfl) rfl ?_))|(refine ah.dX ?_;(first|refine ah.y (Yl.fL rfl rfl rfl rfl rfl rfl FY) rfl ?_|refine ah.y (Yl.idx rfl rfl rfl rfl rfl rfl FY) rfl ?_))|refine ah.y (Yl.len rfl rfl rfl) rfl ?_|refine ah.y (Yl.extract rfl rfl) rfl ?_|refine ah.y (Yl.dF rfl rfl) rfl ?_|refine ah.y (Yl.dE rfl rfl) rfl ?_|refine ah.y (Yl.nilCheck rfl) rfl ?_|refine ah.y (Yl.not rfl) rfl ?_|refine ah.y (Yl.makeFunc rfl rfl) rfl ?_|refine ah.y (Yl.fW rfl rfl) rfl ?_|refine ah.y (Yl.fX rfl rfl rfl Fw F0) rfl ?_|refine ah.y (Yl.fY rfl rfl rfl Fx) rfl ?_|refine ah.y (Yl.dU rfl rfl rfl rfl) rfl ?_|refine ah.y (Yl.cR Tryz.underlying9 rfl rfl rfl FY) rfl ?_|refine ah.y (Yl.cm Tryz.underlying9 rfl rfl rfl FY) rfl ?_|refine ah.y (Yl.ck rfl rfl rfl rfl rfl rfl FY) rfl ?_|refine ah.y (Yl.ke Tryz.underlying9 rfl) rfl ?_));exact hk_.out)):g:=hw ⟨h⟩
set_option maxRecDepth 100000
theorem dr {g g':Prop} (h:g') (hw:dP g'→g:=by(intro hk_;(repeat(first|(refine aa.is ?_;(first|(refine aa.wU ?_;(first|refine aa.gs rfl rfl rfl ?_|refine aa.gu rfl rfl ?_|refine aa.yg rfl (Yl.move rfl) rfl ?_|refine aa.yg rfl (Yl.assign rfl) rfl ?_|(refine aa.an ?_;(first|(refine aa.an (bo:=.lss) ?_;(first|refine aa.yg rfl (Yl.iG rfl rfl FY) rfl ?_|refine aa.yg rfl (Yl.iF rfl rfl FY) rfl ?_))|(refine aa.an (bo:=.eql) ?_;(first|refine aa.yg rfl (Yl.iw rfl rfl FY) rfl ?_|refine aa.yg rfl (Yl.iu rfl rfl FY) rfl ?_))|(refine aa.an (bo:=.neq) ?_;(first|refine aa.yg rfl (Yl.iI rfl rfl FY) rfl ?_|refine aa.yg rfl (Yl.iH rfl rfl FY) rfl ?_))|(refine aa.an (bo:=.leq) ?_;(first|refine aa.yg rfl (Yl.iE rfl rfl FY) rfl ?_|refine aa.yg rfl (Yl.iD rfl rfl FY) rfl ?_))|(refine aa.an (bo:=.gtr) ?_;(first|refine aa.yg rfl (Yl.iC rfl rfl FY) rfl ?_|refine aa.yg rfl (Yl.iB rfl rfl FY) rfl ?_))|(refine aa.an (bo:=.geq) ?_;(first|refine aa.yg rfl (Yl.iA rfl rfl FY) rfl ?_|refine aa.yg rfl (Yl.iz rfl rfl FY) rfl ?_))|refine aa.yg rfl (Yl.add rfl rfl FY) rfl ?_|refine aa.yg rfl (Yl.sub rfl rfl FY) rfl ?_|refine aa.yg rfl (Yl.fu rfl rfl rfl rfl) rfl ?_|refine aa.yg rfl (Yl.je Tryz.underlying4 rfl rfl) rfl ?_|refine aa.yg rfl (Yl.pY rfl rfl) rfl ?_|refine aa.yg rfl (Yl.kf rfl rfl) rfl ?_|refine aa.yg rfl (Yl.kc rfl rfl FY) rfl ?_|fail))|(refine aa.isField ?_;(first|refine aa.yg rfl (Yl.hU rfl rfl rfl) rfl ?_|refine aa.yg rfl (Yl.dW rfl rfl rfl) rfl ?_|refine aa.yg rfl (Yl.field rfl rfl rfl) rfl ?_))|(refine aa.bW ?_;(first|refine aa.yg rfl (Yl.jr rfl rfl rfl Fu) rfl ?_|refine aa.yg rfl (Yl.jo rfl rfl rfl rfl FD) rfl ?_|refine aa.yg rfl (Yl.js rfl rfl rfl rfl FD FA) rfl ?_|refine aa.yg rfl (Yl.jq rfl rfl rfl Fy rfl) rfl ?_))|(refine aa.dX ?_;(first|refine aa.yg rfl (Yl.fL rfl rfl rfl rfl rfl rfl FY) rfl ?_|refine aa.yg rfl (Yl.idx rfl rfl rfl rfl rfl rfl FY) rfl ?_))|refine aa.yg rfl (Yl.len rfl rfl rfl) rfl ?_|refine aa.yg rfl (Yl.extract rfl rfl) rfl ?_|refine aa.yg rfl (Yl.dF rfl rfl) rfl ?_|refine aa.yg rfl (Yl.dE rfl rfl) rfl ?_|refine aa.yg rfl (Yl.nilCheck rfl) rfl ?_|refine aa.yg rfl (Yl.not rfl) rfl ?_|refine aa.yg rfl (Yl.makeFunc rfl rfl) rfl ?_|refine aa.yg rfl (Yl.fW rfl rfl) rfl ?_|refine aa.yg rfl (Yl.fX rfl rfl rfl Fw F0) rfl ?_|refine aa.yg rfl (Yl.fY rfl rfl rfl Fx) rfl ?_|refine aa.yg rfl (Yl.dU rfl rfl rfl rfl) rfl ?_|refine aa.yg rfl (Yl.cR Tryz.underlying9 rfl rfl rfl FY) rfl ?_|refine aa.yg rfl (Yl.cm Tryz.underlying9 rfl rfl rfl FY) rfl ?_|refine aa.yg rfl (Yl.ck rfl rfl rfl rfl rfl rfl FY) rfl ?_|refine aa.yg rfl (Yl.ke Tryz.underlying9 rfl) rfl ?_))|refine aa.nil ?_|(refine aa.qQ ?_;(first|refine aa.aL _ rfl rfl rfl rfl rfl rfl FD rfl ?_|refine aa.dZ rfl rfl rfl rfl rfl FD FG ?_))|refine aa.y_ (Yl.move rfl) rfl ?_|refine aa.y_ (Yl.assign rfl) rfl ?_|(refine aa.an ?_;(first|(refine aa.an (bo:=.lss) ?_;(first|refine aa.y_ (Yl.iG rfl rfl FY) rfl ?_|refine aa.y_ (Yl.iF rfl rfl FY) rfl ?_))|(refine aa.an (bo:=.eql) ?_;(first|refine aa.y_ (Yl.iw rfl rfl FY) rfl ?_|refine aa.y_ (Yl.iu rfl rfl FY) rfl ?_))|(refine aa.an (bo:=.neq) ?_;(first|refine aa.y_ (Yl.iI rfl rfl FY) rfl ?_|refine aa.y_ (Yl.iH rfl rfl FY) rfl ?_))|(refine aa.an (bo:=.leq) ?_;(first|refine aa.y_ (Yl.iE rfl rfl FY) rfl ?_|refine aa.y_ (Yl.iD rfl rfl FY) rfl ?_))|(refine aa.an (bo:=.gtr) ?_;(first|refine aa.y_ (Yl.iC rfl rfl FY) rfl ?_|refine aa.y_ (Yl.iB rfl rfl FY) rfl ?_))|(refine aa.an (bo:=.geq) ?_;(first|refine aa.y_ (Yl.iA rfl rfl FY) rfl ?_|refine aa.y_ (Yl.iz rfl rfl FY) rfl ?_))|refine aa.y_ (Yl.add rfl rfl FY) rfl ?_|refine aa.y_ (Yl.sub rfl rfl FY) rfl ?_|refine aa.y_ (Yl.fu rfl rfl rfl rfl) rfl ?_|refine aa.y_ (Yl.je Tryz.underlying4 rfl rfl) rfl ?_|refine aa.y_ (Yl.pY rfl rfl) rfl ?_|refine aa.y_ (Yl.kf rfl rfl) rfl ?_|refine aa.y_ (Yl.kc rfl rfl FY) rfl ?_|fail))|(refine aa.isField ?_;(first|refine aa.y_ (Yl.hU rfl rfl rfl) rfl ?_|refine aa.y_ (Yl.dW rfl rfl rfl) rfl ?_|refine aa.y_ (Yl.field rfl rfl rfl) rfl ?_))|(refine aa.bW ?_;(first|refine aa.y_ (Yl.jr rfl rfl rfl Fu) rfl ?_|refine aa.y_ (Yl.jo rfl rfl rfl rfl FD) rfl ?_|refine aa.y_ (Yl.js rfl rfl rfl rfl FD FA) rfl ?_|refine aa.y_ (Yl.jq rfl rfl rfl Fy rfl) rfl ?_))|(refine aa.dX ?_;(first|refine aa.y_ (Yl.fL rfl rfl rfl rfl rfl rfl FY) rfl ?_|refine aa.y_ (Yl.idx rfl rfl rfl rfl rfl rfl FY) rfl ?_))|refine aa.y_ (Yl.len rfl rfl rfl) rfl ?_|refine aa.y_ (Yl.extract rfl rfl) rfl ?_|refine aa.y_ (Yl.dF rfl rfl) rfl ?_|refine aa.y_ (Yl.dE rfl rfl) rfl ?_|refine aa.y_ (Yl.nilCheck rfl) rfl ?_|refine aa.y_ (Yl.not rfl) rfl ?_|refine aa.y_ (Yl.makeFunc rfl rfl) rfl ?_|refine aa.y_ (Yl.fW rfl rfl) rfl ?_|refine aa.y_ (Yl.fX rfl rfl rfl Fw F0) rfl ?_|refine aa.y_ (Yl.fY rfl rfl rfl Fx) rfl ?_|refine aa.y_ (Yl.dU rfl rfl rfl rfl) rfl ?_|refine aa.y_ (Yl.cR Tryz.underlying9 rfl rfl rfl FY) rfl ?_|refine aa.y_ (Yl.cm Tryz.underlying9 rfl rfl rfl FY) rfl ?_|refine aa.y_ (Yl.ck rfl rfl rfl rfl rfl rfl FY) rfl ?_|refine aa.y_ (Yl.ke Tryz.underlying9 rfl) rfl ?_))|(refine aP.is ?_;(first|refine aP.seq ?_|refine aP.region ?_|refine aP.ku rfl FT ?_|refine aP.block ?_|refine aP.fp rfl ?_|refine aP.fm rfl ?_|refine aP.skip ?_|refine aP.ret ?_|refine aP.exit ?_|fail))|(refine ai.is ?_;(first|refine ai.ij ?_|refine ai.lj ?_|refine ai.il ?_|refine ai.ln ?_|refine ai.iq ?_|refine ai.lq ?_|refine ai.qF rfl ?_|fail))|refine zD ?_));exact hk_.out)):g:=hw ⟨h⟩
theorem jA {g g':Prop} (h:g') (hw:dP g'→g:=by(intro hk_;(repeat(first|refine aM.y_ (Yl.move rfl) rfl ?_|refine aM.y_ (Yl.assign rfl) rfl ?_|(refine aM.an ?_;(first|(refine aM.an (bo:=.lss) ?_;(first|refine aM.y_ (Yl.iG rfl rfl FY) rfl ?_|refine aM.y_ (Yl.iF rfl rfl FY) rfl ?_))|(refine aM.an (bo:=.eql) ?_;(first|refine aM.y_ (Yl.iw rfl rfl FY) rfl ?_|refine aM.y_ (Yl.iu rfl rfl FY) rfl ?_))|(refine aM.an (bo:=.neq) ?_;(first|refine aM.y_ (Yl.iI rfl rfl FY) rfl ?_|refine aM.y_ (Yl.iH rfl rfl FY) rfl ?_))|(refine aM.an (bo:=.leq) ?_;(first|refine aM.y_ (Yl.iE rfl rfl FY) rfl ?_|refine aM.y_ (Yl.iD rfl rfl FY) rfl ?_))|(refine aM.an (bo:=.gtr) ?_;(first|refine aM.y_ (Yl.iC rfl rfl FY) rfl ?_|refine aM.y_ (Yl.iB rfl rfl FY) rfl ?_))|(refine aM.an (bo:=.geq) ?_;(first|refine aM.y_ (Yl.iA rfl rfl FY) rfl ?_|refine aM.y_ (Yl.iz rfl rfl FY) rfl ?_))|refine aM.y_ (Yl.add rfl rfl FY) rfl ?_|refine aM.y_ (Yl.sub rfl rfl FY) rfl ?_|refine aM.y_ (Yl.fu rfl rfl rfl rfl) rfl ?_|refine aM.y_ (Yl.je Tryz.underlying4 rfl rfl) rfl ?_|refine aM.y_ (Yl.pY rfl rfl) rfl ?_|refine aM.y_ (Yl.kf rfl rfl) rfl ?_|refine aM.y_ (Yl.kc rfl rfl FY) rfl ?_|fail))|(refine aM.isField ?_;(first|refine aM.y_ (Yl.hU rfl rfl rfl) rfl ?_|refine aM.y_ (Yl.dW rfl rfl rfl) rfl ?_|refine aM.y_ (Yl.field rfl rfl rfl) rfl ?_))|(refine aM.bW ?_;(first|refine aM.y_ (Yl.jr rfl rfl rfl Fu) rfl ?_|refine aM.y_ (Yl.jo rfl rfl rfl rfl FD) rfl ?_|refine aM.y_ (Yl.js rfl rfl rfl rfl FD FA) rfl ?_|refine aM.y_ (Yl.jq rfl rfl rfl Fy rfl) rfl ?_))|refine aM.y_ (Yl.len rfl rfl rfl) rfl ?_|refine aM.y_ (Yl.extract rfl rfl) rfl ?_|refine aM.y_ (Yl.dF rfl rfl) rfl ?_|refine aM.y_ (Yl.dE rfl rfl) rfl ?_|refine aM.y_ (Yl.nilCheck rfl) rfl ?_|refine aM.y_ (Yl.not rfl) rfl ?_|refine aM.y_ (Yl.makeFunc rfl rfl) rfl ?_|refine aM.y_ (Yl.fW rfl rfl) rfl ?_|refine aM.y_ (Yl.fX rfl rfl rfl Fw F0) rfl ?_|refine aM.y_ (Yl.fY rfl rfl rfl Fx) rfl ?_|refine aM.y_ (Yl.dU rfl rfl rfl rfl) rfl ?_|refine aM.y_ (Yl.cR Tryz.underlying9 rfl rfl rfl FY) rfl ?_|refine aM.y_ (Yl.cm Tryz.underlying9 rfl rfl rfl FY) rfl ?_|refine aM.y_ (Yl.ck rfl rfl rfl rfl rfl rfl FY) rfl ?_|refine aM.y_ (Yl.ke Tryz.underlying9 rfl) rfl ?_));exact hk_.out)):g:=hw ⟨h⟩
theorem fS {vs cs:List Value} (h:Cells vs cs:=by repeat(first|exact Cells.nil|exact App.nil|(with_reducible apply Cells.agg)|apply Cells.one|apply App.cons)):Cells vs cs:=h
theorem lE {v:Value} {l l':List Value} {j:Nat} (h:dH v l j l':=by(repeat(first|exact dH.zero|apply dH.succ))):dH v l j l':=h
theorem bM {q q':aU} {M M':List aU} (h:Up q q' M M':=by repeat(first|with_reducible exact Up.head|apply Up.tail)):Up q q' M M':=h
theorem bN {M M':List aU} (h:M'.Sublist M:=by repeat(first|with_reducible exact List.Sublist.refl _|exact List.nil_sublist _|(with_reducible refine List.Sublist.cons_cons _ ?_)|((with_reducible refine nL ?_ ?_ ?_ ?_);rfl;(first|rfl|simp);(first|rfl|simp))|refine List.Sublist.cons _ ?_)):M'.Sublist M:=h
theorem aX {R R':List (World→Prop)} (h:∀p,p∈R'→p∈R:=by repeat(first|exact o0|refine mN Fy ?_)):∀p,p∈R'→p∈R:=h
theorem ao {R:List (World→Prop)} {p:World→Prop} (h:p∈R:=by repeat(first|with_reducible exact List.mem_cons_self|apply List.mem_cons_of_mem)):p∈R:=h
theorem wI {M:List aU} {R:List (World→Prop)} {w:World} (h:Ext w∈R:=by repeat(first|with_reducible exact List.mem_cons_self|apply List.mem_cons_of_mem)):∀w',Ok M R w'→w.heap.size≤w'.heap.size:=fun w' hw=>(show Ext w w' from hw.get h).size
theorem Ok.own {M:List aU} {R:List (World→Prop)} {w:World} {B T s n:Nat} {v:Value} {xs:List Value} (h:Ok M R w) (hm:aU.own B T s v n xs∈M:=by repeat(first|with_reducible exact List.mem_cons_self|apply List.mem_cons_of_mem)):w.ownsRow B T s v n xs:=(h.m _ hm).1
theorem Ok.at {M:List aU} {R:List (World→Prop)} {w:World} {p:World→Prop} (h:Ok M R w) (hm:p∈R:=by repeat(first|with_reducible exact List.mem_cons_self|apply List.mem_cons_of_mem)):p w:=h.get hm
theorem xi {R:List (World→Prop)} {w:World} {p:World→Prop} (h:∀r,r∈R→r w) (hm:p∈R:=by repeat(first|with_reducible exact List.mem_cons_self|apply List.mem_cons_of_mem)):p w:=h p hm
theorem gG {q:aU} {M:List aU} (h:q∈M:=by repeat(first|with_reducible exact List.mem_cons_self|apply List.mem_cons_of_mem)):q∈M:=h
theorem gV {q:aU} {M M':List aU} (h:Rm q M M':=by(repeat(first|with_reducible exact Rm.head|apply Rm.tail))):Rm q M M':=h
open Go.ChangeMaps (setBlock)
open Go.MapKept (Stamped)
theorem tz {a:Int} (h:gJ a):(Lit.int .i64 a).wf=true:=by
 have e1:IntKind.i64.min=-9223372036854775808:=by decide
 have e2:IntKind.i64.max=9223372036854775807:=by decide
 simp only[Lit.wf,e1,e2,Bool.and_eq_true,decide_eq_true_eq]
 exact h
def IV (w:World) (bm:Nat) (g:Int→Option Value):Prop:=∃es clock,w.heap[bm]?=some (.map es clock)∧(∀e∈es.toList,∃b,e.key=.int .i64 b∧(Lit.int .i64 b).wf=true)∧(∀a u,g a=some u↔∃e∈es.toList,e.key=.int .i64 a∧e.val=u)∧Stamped es clock
theorem IV.lt {w:World} {bm:Nat} {g:Int→Option Value} (h:IV w bm g):bm<w.heap.size:=by
 obtain⟨es,clock,hb,_⟩:=h
 exact(Array.getElem?_eq_some_iff.1 hb).1
theorem IV.aB {S:Nat→Prop} {w w':World} {bm:Nat} {g:Int→Option Value} (h:IV w bm g) (hc:bz S w w') (hS:¬S bm):IV w' bm g:=by
 have hl:=h.lt
 obtain⟨es,clock,hb,h2⟩:=h
 exact⟨es,clock,by rw[hc.block bm hl hS];exact hb,h2⟩
def aU.iv (bm:Nat) (g:Int→Option Value):aU:=⟨fun k=>k=bm,fun w=>IV w bm g,fun h hc hd=>h.aB hc (hd bm h.lt rfl)⟩
def put (g:Int→Option Value) (a:Int) (v:Value):Int→Option Value:=fun b=>if b=a then some v else g b
section
variable {n:Nat} {E:Env} {w:World} {t:TypeId} {x y z:Operand} {C:World→Prop}
theorem vM {k e:TypeId} (ht:G.P.underlying t=some (.map k e)) (hk:G.P.underlying k=some (.int .i64)) {bm:Nat} {g:Int→Option Value} (h:IV w bm g) {a:Int} (ha:(Lit.int .i64 a).wf=true) (val:Value):
  ∃w',(Instr.mapUpdate t (.map (some bm)) (.int .i64 a) val).run G.P w=.ok () w'∧IV w' bm (put g a val)∧bz (fun k=>k=bm) w w'∧w'.heap.size=w.heap.size:=by
 obtain⟨es,clock,hb,hkeys,hg,hst⟩:=h
 have hlt:bm<w.heap.size:=(Array.getElem?_eq_some_iff.1 hb).1
 have K:=Maps.int_keyed (P:=G.P) (k:=k) hk
 have hkey:=Maps.keyOf_int_mk hk ha
 have hall:∀e∈es.toList,∃l,keyOf G.P k e.key=some l:=fun e he=>by
  obtain⟨b,e1,hw⟩:=hkeys e he
  exact⟨_,by rw[e1];exact Maps.keyOf_int_mk hk hw⟩
 have hset:∀o,(setBlock w bm o).heap[bm]?=some o:=fun o=>by simp[ChangeMaps.setBlock,hlt]
 have hsz:∀o,(setBlock w bm o).heap.size=w.heap.size:=fun o=>by simp[ChangeMaps.setBlock]
 rcases K.find w hkey es.toList hall with⟨h1,h2⟩|⟨j,e0,h1,h2,h3⟩
 ·refine⟨setBlock w bm (.map (es.push ⟨.int .i64 a,val,clock⟩) (clock+1)),?_,⟨_,_,hset _,?_,?_,MapKept.stamped_push hst h2⟩,bz.setBlock _ _ _,hsz _⟩
  ·simp[Instr.mapUpdate,run_underlying ht,MapKept.run_getObj_map hb,K.check w false hkey,h1,MapKept.run_setObj_map _ hb,Result.andThen,ChangeMaps.setBlock]
  ·intro e he
   rw[Array.toList_push,List.mem_append,List.mem_singleton]at he
   rcases he with he|rfl
   ·exact hkeys e he
   ·exact⟨a,rfl,ha⟩
  ·intro b u
   unfold put
   rw[Array.toList_push]
   simp only[List.mem_append,List.mem_singleton]
   by_cases e:b=a
   ·subst e
    rw[if_pos rfl]
    constructor
    ·intro hu;cases hu;exact⟨_,.inr rfl,rfl,rfl⟩
    ·rintro⟨e',he|rfl,e1,e2⟩
     ·exact absurd e1 (h2 e' he)
     ·exact congrArg some e2
   ·rw[if_neg e,hg]
    constructor
    ·rintro⟨e',he,e1,e2⟩;exact⟨e',.inl he,e1,e2⟩
    ·rintro⟨e',he|rfl,e1,e2⟩
     ·exact⟨e',he,e1,e2⟩
     ·cases e1;exact absurd rfl e
 ·have hj:es[j]?=some e0:=by simpa using h2
  have hmod:∀i:Nat,(es.modify j (fun e'=>{e' with key:=Value.int .i64 a,val:=val})).toList[i]?=if j=i then(es.toList[i]?).map (fun e'=>{e' with key:=Value.int .i64 a,val:=val})else es.toList[i]?:=fun i=>by
   rw[Array.toList_modify,List.getElem?_modify]
   by_cases e:j=i<;>simp[e]
  have huniq:∀i e',es.toList[i]?=some e'→e'.key=.int .i64 a→i=j:=fun i e' hi he=>by
   have hnd:=hst.2.2
   have q1:(es.toList.map (·.key))[i]?=some (.int .i64 a):=by rw[List.getElem?_map,hi];exact congrArg some he
   have q2:(es.toList.map (·.key))[j]?=some (.int .i64 a):=by rw[List.getElem?_map,h2];exact congrArg some h3
   obtain⟨l1,l2⟩:=List.getElem?_eq_some_iff.1 q1
   obtain⟨l3,l4⟩:=List.getElem?_eq_some_iff.1 q2
   have hpw:=List.pairwise_iff_getElem.1 hnd
   rcases Nat.lt_trichotomy i j with h|h|h
   ·exact absurd (l2.trans l4.symm) (hpw i j l1 l3 h)
   ·exact h
   ·exact absurd (l4.trans l2.symm) (hpw j i l3 l1 h)
  refine⟨setBlock w bm (.map (es.modify j (fun e'=>{e' with key:=.int .i64 a,val:=val})) clock),?_,⟨_,_,hset _,?_,?_,MapKept.stamped_modify hst _ _ (fun _ _=>rfl) (fun e' _ he'=>by rw[hj]at he';cases he';exact h3.symm)⟩,bz.setBlock _ _ _,hsz _⟩
  ·simp[Instr.mapUpdate,run_underlying ht,MapKept.run_getObj_map hb,K.check w false hkey,h1,hj,h3,K.stays w hkey,MapKept.run_setObj_map _ hb,Result.andThen,ChangeMaps.setBlock]
  ·intro e he
   obtain⟨i,hi⟩:=List.mem_iff_getElem?.1 he
   rw[hmod]at hi
   by_cases ei:j=i
   ·subst ei
    rw[if_pos rfl,h2,Option.map_some]at hi
    cases hi;exact⟨a,rfl,ha⟩
   ·rw[if_neg ei]at hi
    exact hkeys e (List.mem_of_getElem? hi)
  ·intro b u
   unfold put
   by_cases e:b=a
   ·subst e
    rw[if_pos rfl]
    constructor
    ·intro hu;cases hu
     exact⟨_,List.mem_of_getElem? (by rw[hmod,if_pos rfl,h2];rfl),rfl,rfl⟩
    ·rintro⟨e',he,e1,e2⟩
     obtain⟨i,hi⟩:=List.mem_iff_getElem?.1 he
     rw[hmod]at hi
     by_cases ei:j=i
     ·subst ei
      rw[if_pos rfl,h2,Option.map_some]at hi
      cases hi;exact congrArg some e2
     ·rw[if_neg ei]at hi
      exact absurd (huniq i e' hi e1) (fun h=>ei h.symm)
   ·rw[if_neg e,hg]
    constructor
    ·rintro⟨e',he,e1,e2⟩
     obtain⟨i,hi⟩:=List.mem_iff_getElem?.1 he
     have ei:¬j=i:=fun ei=>by
      subst ei;rw[h2]at hi;cases hi;rw[h3]at e1;cases e1;exact e rfl
     exact⟨e',List.mem_of_getElem? (by rw[hmod,if_neg ei];exact hi),e1,e2⟩
    ·rintro⟨e',he,e1,e2⟩
     obtain⟨i,hi⟩:=List.mem_iff_getElem?.1 he
     rw[hmod]at hi
     by_cases ei:j=i
     ·subst ei
      rw[if_pos rfl,h2,Option.map_some]at hi
      cases hi;cases e1;exact absurd rfl e
     ·rw[if_neg ei]at hi
      exact⟨e',List.mem_of_getElem? hi,e1,e2⟩
theorem qg {k e:TypeId} {zv:Value} (ht:G.P.underlying t=some (.map k e)) (hk:G.P.underlying k=some (.int .i64)) (hz:∀w,(zeroValue e).run G.P w=.ok zv w) {bm:Nat} {g:Int→Option Value} (h:IV w bm g) {a:Int} (ha:(Lit.int .i64 a).wf=true):
  (Instr.lookup t (.map (some bm)) (.int .i64 a) false).run G.P w=.ok ((g a).getD zv) w:=by
 obtain⟨es,clock,hb,hkeys,hg,hst⟩:=h
 have K:=Maps.int_keyed (P:=G.P) (k:=k) hk
 have hkey:=Maps.keyOf_int_mk hk ha
 have hall:∀e∈es.toList,∃l,keyOf G.P k e.key=some l:=fun e he=>by
  obtain⟨b,e1,hw⟩:=hkeys e he
  exact⟨_,by rw[e1];exact Maps.keyOf_int_mk hk hw⟩
 rcases K.find w hkey es.toList hall with⟨h1,h2⟩|⟨j,e0,h1,h2,h3⟩
 ·have hn:g a=none:=by
   cases hga:g a with
   |none=>rfl
   |some u=>
    obtain⟨e',he,e1,_⟩:=(hg a u).1 hga
    exact absurd e1 (h2 e' he)
  simp[Instr.lookup,run_underlying ht,MapKept.run_getObj_map hb,K.check w _ hkey,h1,hz,hn]
 ·have hs:g a=some e0.val:=(hg a e0.val).2 ⟨e0,List.mem_of_getElem? h2,h3,rfl⟩
  simp[Instr.lookup,run_underlying ht,MapKept.run_getObj_map hb,K.check w _ hkey,h1,hs]
end
section
variable {ops:Array Oper} {Q:Exit→Act→World→Prop} {n:Nat} {E:Env} {M M':List aU} {R:List (World→Prop)} {rest l:List Oper} {op:Op} {d:Nat} {ty:TypeId} {pos:String} {aft:Array Edge} {v:Value} {x y z:Operand} {t:TypeId}
theorem HE.makeMap:HE n (.makeMap t none) E M R (fun _:Nat=>True) (fun b=>.map (some b)) (fun b=>.iv b (fun _=>none)::M) (fun _=>R):=
 ⟨fun w hw=>⟨fun a ha d ty pos aft gd=>by
  have hr:(execOp a.eval ⟨d,.makeMap t none,ty,pos,aft,gd⟩).run G.P w=.ok (.value (.map (some w.heap.size))) (w.alloc (.map #[] 0)):=by simp[execOp,Instr.makeMap]
  rw[hr]
  refine⟨w.heap.size,trivial,rfl,hw.push (q:=.iv w.heap.size (fun _=>none)) ((bz.refl _ _).alloc _) ⟨#[],0,heap_alloc_new w _,by simp,by simp,by simp[Stamped]⟩ (fun k hk=>?_)⟩
  have:k=w.heap.size:=hk
  simp;omega⟩⟩
theorem gI.mapUpdate {k e:TypeId} {bm:Nat} {g:Int→Option Value} {a:Int} {val:Value} (ht:G.P.underlying t=some (.map k e)) (hk:G.P.underlying k=some (.int .i64)) (hx:ev E x=some (.map (some bm))) (hy:ev E y=some (.int .i64 a)) (hz:ev E z=some val) (ha:gJ a)
  (hM:Up (.iv bm g) (.iv bm (put g a val)) M M'):gI n (.mapUpdate t x y z) E M R (fun _:Unit=>True) (fun _=>M') (fun _=>R):=
 ⟨fun w hw=>by
  have hiv:IV w bm g:=(hw.m _ hM.mem).1
  obtain⟨w',hr,h1,h2,h3⟩:=vM ht hk hiv (tz ha) val
  refine bC.mZ (w':=w') (fun ac hac d ty pos aft gd=>?_) ⟨(),trivial,hw.nA hM h2 h1 (fun k hk=>?_)⟩
  ·simp[execOp,hac.eval hx,hac.eval hy,hac.eval hz,hr]
  ·have:k=bm:=hk
   have:=hiv.lt
   exact⟨by omega,fun _=>hk⟩⟩
theorem Yl.za {k e:TypeId} {zv:Value} {bm:Nat} {g:Int→Option Value} {a:Int} (ht:G.P.underlying t=some (.map k e)) (hk:G.P.underlying k=some (.int .i64)) (hzv:∀w,(zeroValue e).run G.P w=.ok zv w) (hx:ev E x=some (.map (some bm))) (hy:ev E y=some (.int .i64 a)) (ha:gJ a)
  (hM:aU.iv bm g∈M):Yl G n (.lookup t x y false) E (Ok M R) ((g a).getD zv):=
 ⟨fun w hw ac hac d ty pos aft gd=>by
  have:=qg (t:=t) ht hk hzv (hw.m _ hM).1 (tz ha)
  simp[execOp,hac.eval hx,hac.eval hy,this]⟩
theorem aM.pure {Mc:List aU} {Rc:List (World→Prop)} {φ:Prop} (hp:∀w,Ok M R w→φ) (h:φ→aM ops Q Mc Rc n l E M R):aM ops Q Mc Rc n l E M R:=⟨fun w hw=>(h (hp w hw)).h w hw⟩
theorem fN {w:World} {B T s m:Nat} {v:Value} {xs:List Value} (h:w.ownsRow B T s v m xs):v.oneCell'=true:=by obtain⟨p,c,rfl,_⟩:=au h;rfl
theorem Ok.front {w:World} {q:aU} (h:Ok M R w) (hr:Rm q M M'):Ok (q::M') R w:=by
 refine h.step (bz.refl _ w) (fun x hx=>?_) (List.pairwise_cons.2 ⟨hr.CN h.d,h.d.sublist hr.sub⟩) (fun k ⟨x,hx,hk⟩ _=>?_)
 ·rcases List.mem_cons.1 hx with rfl|hx
  ·exact h.m _ hr.mem
  ·exact h.m x (hr.sub.subset hx)
 ·rcases List.mem_cons.1 hx with rfl|hx
  ·exact⟨_,hr.mem,hk⟩
  ·exact⟨x,hr.sub.subset hx,hk⟩
theorem aP.front {c:Code} {q:aU} (hr:Rm q M M') (h:aP Q n c E (q::M') R):aP Q n c E M R:=⟨fun w hw=>h.h w (hw.front hr)⟩
theorem Ok.frame {M0 M1 Mr:List aU} {w w':World} (h:Ok (M0++Mr) R w) (h1:Ok M1 [] w') (hc:bz (Mb M0) w w') (ho:∀k,Mb M1 k→k<w.heap.size→Mb M0 k):Ok (M1++Mr) R w':=by
 have hd:=List.pairwise_append.1 h.d
 have hmr:∀q,q∈Mr→∀k,q.F k→¬Mb M0 k:=fun q hq k hk ⟨q0,hq0,hk0⟩=>hd.2.2 q0 hq0 q hq k hk0 hk
 refine h.step (hc.mono fun k _ ⟨q,hq,hk⟩=>⟨q,List.mem_append_left _ hq,hk⟩) (fun q hq=>?_) (List.pairwise_append.2 ⟨h1.d,hd.2.1,fun a ha b hb k hk hk'=>?_⟩) (fun k ⟨q,hq,hk⟩ hlt=>?_)
 ·rcases List.mem_append.1 hq with hq|hq
  ·exact h1.m q hq
  ·have:=h.m q (List.mem_append_right _ hq)
   exact⟨q.st this.1 hc (fun k _ hk=>hmr q hq k hk),fun k hk=>Nat.lt_of_lt_of_le (this.2 k hk) hc.size⟩
 ·have hlt:=(h.m b (List.mem_append_right _ hb)).2 k hk'
  exact hmr b hb k hk' (ho k ⟨a,ha,hk⟩ hlt)
 ·rcases List.mem_append.1 hq with hq|hq
  ·obtain⟨q0,hq0,hk0⟩:=ho k ⟨q,hq,hk⟩ hlt
   exact⟨q0,List.mem_append_left _ hq0,hk0⟩
  ·exact⟨q,List.mem_append_right _ hq,hk⟩
theorem Ok.origin {S:Nat→Prop} {w0 w:World} (h:Ok M R w) (hS:bz S w0∈R):∀k,Mb M k→k<w0.heap.size→S k:=by
 intro k hk hlt
 by_cases hs:S k
 ·exact hs
 ·exfalso
  have h1:bz S w0 w:=h.get hS
  have hkw:k<w.heap.size:=Nat.lt_of_lt_of_le hlt h1.size
  have key:∀o:Obj,w.heap[k]?=some o:=fun o=>by
   have hc:bz (Mb M) w (setBlock w k o):=(bz.setBlock w k o).mono (fun i _ e=>by subst e;exact hk)
   have h2:bz S w0 (setBlock w k o):=h.r _ hS _ hc
   have e1:=h2.block k hlt hs
   have e2:=h1.block k hlt hs
   rw[e2,←e1];simp[ChangeMaps.setBlock,hkw]
  have a:=key (.map #[] 0)
  have b:=key (.map #[] 1)
  rw[a]at b;cases b
def aq {β:Type} (M0:List aU) (w:World) (tf:β→Value) (φ:β→Prop) (M1:β→List aU) (e:Ending) (w':World):Prop:=
 ∃x,e=.returned (tf x)∧φ x∧Ok (M1 x) [] w'∧bz (Mb M0) w w'∧∀k,Mb (M1 x) k→k<w.heap.size→Mb M0 k
theorem aq.of {β:Type} {M0:List aU} {w w':World} {tf:β→Value} {φ:β→Prop} {M1:β→List aU} (x:β) (hφ:φ x) (h:Ok M R w') (hM:M1 x=M) (hR:bz (Mb M0) w∈R):aq M0 w tf φ M1 (.returned (tf x)) w':=by
 subst hM
 exact⟨x,rfl,hφ,h.sub (List.Sublist.refl _) (fun p hp=>absurd hp FZ),h.get hR,h.origin hR⟩
theorem HE.nV {β:Type} {M0 Mr:List aU} {tf:β→Value} {φ:β→Prop} {M1:β→List aU} {f:Nat} {args:List Operand} {tys:Array TypeId} {vs:List Value} (hf:G.fb[f]?=some true) (ha:ji E args=some vs)
  (hc:∀w,Ok M0 R w→Calls G.P f vs.toArray w (aq M0 w tf φ M1)):HE n (.call ⟨.value (.func f),args.toArray,tys⟩) E (M0++Mr) R φ tf (fun x=>M1 x++Mr) (fun _=>R):=
 HE.call tf hf ha fun w hw=>(hc w (hw.sub (List.sublist_append_left _ _) (fun _ h=>h))).mono fun _e _w' ⟨x,e1,h1,h2,h3,h4⟩=>⟨x,e1,h1,hw.frame h2 h3 h4⟩
theorem Ok.bV {w:World} (h:Ok M R w):Ok M (bz (Mb M) w::R) w:=h.add fun _ hc=>hc
end
section
variable {ops:Array Oper} {Q:Exit→Act→World→Prop} {n:Nat} {E:Env} {M M':List aU} {R:List (World→Prop)} {rest l:List Oper} {op:Op} {d:Nat} {ty:TypeId} {pos:String} {aft:Array Edge} {v:Value} {x y z:Operand} {t t2:TypeId} {C:World→Prop} {P:Prop} {j:Nat} {b:Bool}
theorem Az [Decidable P] (h:ev E x=some (.bool (decide P))) (hp:P):ev E x=some (.bool true):=by rw[h,decide_eq_true hp]
theorem Ay [Decidable P] (h:ev E x=some (.bool (decide P))) (hp:¬P):ev E x=some (.bool false):=by rw[h,decide_eq_false hp]
theorem wT {c:Bool} (h:ev E x=some (.bool c)) (hp:c=b):ev E x=some (.bool b):=by rw[h,hp]
theorem tu [Decidable P] (h:lG ops E j=some (decide P)) (hp:P):lG ops E j=some true:=by rw[h,decide_eq_true hp]
theorem uS [Decidable P] (h:lG ops E j=some (decide P)) (hp:¬P):lG ops E j=some false:=by rw[h,decide_eq_false hp]
theorem CP {c:Bool} (h:lG ops E j=some c) (hp:c=b):lG ops E j=some b:=by rw[h,hp]
theorem vG {c:Bool} (h:lG ops E j=some c) (hp:c=true):lG ops E j=some true:=CP h hp
theorem vF {c:Bool} (h:lG ops E j=some c) (hp:c=false):lG ops E j=some false:=CP h hp
theorem Yl.yO {k:IntKind} {p q:Int} (hx:ev E x=some (.int k p)) (hy:ev E y=some (.int k q)):Yl G n (.binOp .eql t x y t2) E C (.bool (decide (p=q))):=Yl.bin hx hy (fun w=>by simp[binOp,Op.intCmp];by_cases h:p=q<;>simp[h])
theorem Yl.ze {k:IntKind} {p q:Int} (hx:ev E x=some (.int k p)) (hy:ev E y=some (.int k q)):Yl G n (.binOp .neq t x y t2) E C (.bool (decide (p≠q))):=Yl.bin hx hy (fun w=>by simp[binOp,Op.intCmp];by_cases h:p=q<;>simp[h])
theorem aa.CT {dd:Option Nat} (h:aa ops Q n (⟨dd,op,ty,pos,aft,none⟩::rest) E M R):aa ops Q n (⟨dd,op,ty,pos,aft,none⟩::rest) E M R:=h
theorem aP.yi [Decidable P] {c:Operand} {x y:Code} (hc:ev E c=some (.bool (decide P))) (hx:P→aP Q n x E M R) (hy:¬P→aP Q n y E M R):aP Q n (.cond c x y) E M R:=by
 by_cases h:P
 ·exact aP.fp (Az hc h) (hx h)
 ·exact aP.fm (Ay hc h) (hy h)
theorem aa.yj [Decidable P] {gd:Nat×Bool} (_hg:lG ops E gd.1=some (decide P)) (hT:P→aa ops Q n (⟨some d,op,ty,pos,aft,some gd⟩::rest) E M R) (hF:¬P→aa ops Q n (⟨some d,op,ty,pos,aft,some gd⟩::rest) E M R):aa ops Q n (⟨some d,op,ty,pos,aft,some gd⟩::rest) E M R:=by
 by_cases h:P
 ·exact hT h
 ·exact hF h
theorem aa.vd {gd:Nat×Bool} {c:Bool} (_:lG ops E gd.1=some c) (hT:c=true→aa ops Q n (⟨some d,op,ty,pos,aft,some gd⟩::rest) E M R) (hF:c=false→aa ops Q n (⟨some d,op,ty,pos,aft,some gd⟩::rest) E M R):aa ops Q n (⟨some d,op,ty,pos,aft,some gd⟩::rest) E M R:=by
 cases h:c with
 |true=>exact hT h
 |false=>exact hF h
end
theorem cY {ops:Array Oper} {E:Env} {j:Nat} {b:Bool} (h:lG ops E j=some b:=by first|rfl|exact tu rfl de|exact uS rfl de|exact vG rfl de|exact vF rfl de):lG ops E j=some b:=h
theorem BL {g g':Prop} (h:g') (hw:dP g'→g:=by(intro hk_;(first|(refine aa.is ?_;(first|(refine aa.wU ?_;(first|refine aa.gs cY rfl rfl ?_|refine aa.gu rfl rfl ?_|refine aa.yg cY (Yl.move rfl) rfl ?_|refine aa.yg cY (Yl.assign rfl) rfl ?_|(refine aa.an ?_;(first|(refine aa.an (bo:=.lss) ?_;(first|refine aa.yg cY (Yl.iG rfl rfl FY) rfl ?_|refine aa.yg cY (Yl.iF rfl rfl FY) rfl ?_))|(refine aa.an (bo:=.eql) ?_;(first|refine aa.yg cY (Yl.iw rfl rfl FY) rfl ?_|refine aa.yg cY (Yl.iu rfl rfl FY) rfl ?_))|(refine aa.an (bo:=.neq) ?_;(first|refine aa.yg cY (Yl.iI rfl rfl FY) rfl ?_|refine aa.yg cY (Yl.iH rfl rfl FY) rfl ?_))|(refine aa.an (bo:=.leq) ?_;(first|refine aa.yg cY (Yl.iE rfl rfl FY) rfl ?_|refine aa.yg cY (Yl.iD rfl rfl FY) rfl ?_))|(refine aa.an (bo:=.gtr) ?_;(first|refine aa.yg cY (Yl.iC rfl rfl FY) rfl ?_|refine aa.yg cY (Yl.iB rfl rfl FY) rfl ?_))|(refine aa.an (bo:=.geq) ?_;(first|refine aa.yg cY (Yl.iA rfl rfl FY) rfl ?_|refine aa.yg cY (Yl.iz rfl rfl FY) rfl ?_))|refine aa.yg cY (Yl.add rfl rfl FY) rfl ?_|refine aa.yg cY (Yl.sub rfl rfl FY) rfl ?_|refine aa.yg cY (Yl.fu rfl rfl rfl rfl) rfl ?_|refine aa.yg cY (Yl.je Tryz.underlying4 rfl rfl) rfl ?_|refine aa.yg cY (Yl.pY rfl rfl) rfl ?_|refine aa.yg cY (Yl.kf rfl rfl) rfl ?_|refine aa.yg cY (Yl.kc rfl rfl FY) rfl ?_|refine aa.yg cY (Yl.zb rfl rfl) rfl ?_|refine aa.yg cY (Yl.yO rfl rfl) rfl ?_|refine aa.yg cY (Yl.ze rfl rfl) rfl ?_|refine aa.yg cY (Yl.yY rfl rfl) rfl ?_|refine aa.yg cY (Yl.yU rfl rfl) rfl ?_|refine aa.yg cY (Yl.yS rfl rfl) rfl ?_))|(refine aa.isField ?_;(first|refine aa.yg cY (Yl.hU rfl rfl rfl) rfl ?_|refine aa.yg cY (Yl.dW rfl rfl rfl) rfl ?_|refine aa.yg cY (Yl.field rfl rfl rfl) rfl ?_))|(refine aa.bW ?_;(first|refine aa.yg cY (Yl.jr rfl rfl rfl Fu) rfl ?_|refine aa.yg cY (Yl.jo rfl rfl rfl rfl FD) rfl ?_|refine aa.yg cY (Yl.js rfl rfl rfl rfl FD FA) rfl ?_|refine aa.yg cY (Yl.jq rfl rfl rfl Fy rfl) rfl ?_))|(refine aa.dX ?_;(first|refine aa.yg cY (Yl.fL rfl rfl rfl rfl rfl rfl FY) rfl ?_|refine aa.yg cY (Yl.idx rfl rfl rfl rfl rfl rfl FY) rfl ?_))|refine aa.yg cY (Yl.len rfl rfl rfl) rfl ?_|refine aa.yg cY (Yl.extract rfl rfl) rfl ?_|refine aa.yg cY (Yl.dF (Az rfl de) rfl) rfl ?_|refine aa.yg cY (Yl.dE (Ay rfl de) rfl) rfl ?_|refine aa.yg cY (Yl.dF (wT rfl de) rfl) rfl ?_|refine aa.yg cY (Yl.dE (wT rfl de) rfl) rfl ?_|refine aa.yg cY (Yl.dF rfl rfl) rfl ?_|refine aa.yg cY (Yl.dE rfl rfl) rfl ?_|refine aa.yg cY (Yl.nilCheck rfl) rfl ?_|refine aa.yg cY (Yl.not rfl) rfl ?_|refine aa.yg cY (Yl.makeFunc rfl rfl) rfl ?_|refine aa.yg cY (Yl.fW rfl rfl) rfl ?_|refine aa.yg cY (Yl.fX rfl rfl rfl Fw F0) rfl ?_|refine aa.yg cY (Yl.fY rfl rfl rfl Fx) rfl ?_|refine aa.yg cY (Yl.dU rfl rfl rfl rfl) rfl ?_|refine aa.yg cY (Yl.cR Tryz.underlying9 rfl rfl rfl FY) rfl ?_|refine aa.yg cY (Yl.cm Tryz.underlying9 rfl rfl rfl FY) rfl ?_|refine aa.yg cY (Yl.ck rfl rfl rfl rfl rfl rfl FY) rfl ?_|refine aa.yg cY (Yl.ke Tryz.underlying9 rfl) rfl ?_))|refine aa.nil ?_|(refine aa.CT ?_;(first|(refine aa.qQ ?_;(first|refine aa.aL _ rfl rfl rfl rfl rfl rfl FD rfl ?_|refine aa.dZ rfl rfl rfl rfl rfl FD FG ?_))|refine aa.y_ (Yl.move rfl) rfl ?_|refine aa.y_ (Yl.assign rfl) rfl ?_|(refine aa.an ?_;(first|(refine aa.an (bo:=.lss) ?_;(first|refine aa.y_ (Yl.iG rfl rfl FY) rfl ?_|refine aa.y_ (Yl.iF rfl rfl FY) rfl ?_))|(refine aa.an (bo:=.eql) ?_;(first|refine aa.y_ (Yl.iw rfl rfl FY) rfl ?_|refine aa.y_ (Yl.iu rfl rfl FY) rfl ?_))|(refine aa.an (bo:=.neq) ?_;(first|refine aa.y_ (Yl.iI rfl rfl FY) rfl ?_|refine aa.y_ (Yl.iH rfl rfl FY) rfl ?_))|(refine aa.an (bo:=.leq) ?_;(first|refine aa.y_ (Yl.iE rfl rfl FY) rfl ?_|refine aa.y_ (Yl.iD rfl rfl FY) rfl ?_))|(refine aa.an (bo:=.gtr) ?_;(first|refine aa.y_ (Yl.iC rfl rfl FY) rfl ?_|refine aa.y_ (Yl.iB rfl rfl FY) rfl ?_))|(refine aa.an (bo:=.geq) ?_;(first|refine aa.y_ (Yl.iA rfl rfl FY) rfl ?_|refine aa.y_ (Yl.iz rfl rfl FY) rfl ?_))|refine aa.y_ (Yl.add rfl rfl FY) rfl ?_|refine aa.y_ (Yl.sub rfl rfl FY) rfl ?_|refine aa.y_ (Yl.fu rfl rfl rfl rfl) rfl ?_|refine aa.y_ (Yl.je Tryz.underlying4 rfl rfl) rfl ?_|refine aa.y_ (Yl.pY rfl rfl) rfl ?_|refine aa.y_ (Yl.kf rfl rfl) rfl ?_|refine aa.y_ (Yl.kc rfl rfl FY) rfl ?_|refine aa.y_ (Yl.zb rfl rfl) rfl ?_|refine aa.y_ (Yl.yO rfl rfl) rfl ?_|refine aa.y_ (Yl.ze rfl rfl) rfl ?_|refine aa.y_ (Yl.yY rfl rfl) rfl ?_|refine aa.y_ (Yl.yU rfl rfl) rfl ?_|refine aa.y_ (Yl.yS rfl rfl) rfl ?_))|(refine aa.isField ?_;(first|refine aa.y_ (Yl.hU rfl rfl rfl) rfl ?_|refine aa.y_ (Yl.dW rfl rfl rfl) rfl ?_|refine aa.y_ (Yl.field rfl rfl rfl) rfl ?_))|(refine aa.bW ?_;(first|refine aa.y_ (Yl.jr rfl rfl rfl Fu) rfl ?_|refine aa.y_ (Yl.jo rfl rfl rfl rfl FD) rfl ?_|refine aa.y_ (Yl.js rfl rfl rfl rfl FD FA) rfl ?_|refine aa.y_ (Yl.jq rfl rfl rfl Fy rfl) rfl ?_))|(refine aa.dX ?_;(first|refine aa.y_ (Yl.fL rfl rfl rfl rfl rfl rfl FY) rfl ?_|refine aa.y_ (Yl.idx rfl rfl rfl rfl rfl rfl FY) rfl ?_))|refine aa.y_ (Yl.len rfl rfl rfl) rfl ?_|refine aa.y_ (Yl.extract rfl rfl) rfl ?_|refine aa.y_ (Yl.dF (Az rfl de) rfl) rfl ?_|refine aa.y_ (Yl.dE (Ay rfl de) rfl) rfl ?_|refine aa.y_ (Yl.dF (wT rfl de) rfl) rfl ?_|refine aa.y_ (Yl.dE (wT rfl de) rfl) rfl ?_|refine aa.y_ (Yl.dF rfl rfl) rfl ?_|refine aa.y_ (Yl.dE rfl rfl) rfl ?_|refine aa.y_ (Yl.nilCheck rfl) rfl ?_|refine aa.y_ (Yl.not rfl) rfl ?_|refine aa.y_ (Yl.makeFunc rfl rfl) rfl ?_|refine aa.y_ (Yl.fW rfl rfl) rfl ?_|refine aa.y_ (Yl.fX rfl rfl rfl Fw F0) rfl ?_|refine aa.y_ (Yl.fY rfl rfl rfl Fx) rfl ?_|refine aa.y_ (Yl.dU rfl rfl rfl rfl) rfl ?_|refine aa.y_ (Yl.cR Tryz.underlying9 rfl rfl rfl FY) rfl ?_|refine aa.y_ (Yl.cm Tryz.underlying9 rfl rfl rfl FY) rfl ?_|refine aa.y_ (Yl.ck rfl rfl rfl rfl rfl rfl FY) rfl ?_|refine aa.y_ (Yl.ke Tryz.underlying9 rfl) rfl ?_))))|(refine aP.is ?_;(first|(first|refine aP.seq ?_|refine aP.region ?_|refine aP.ku rfl FT ?_|refine aP.block ?_|refine aP.fp rfl ?_|refine aP.fm rfl ?_|refine aP.skip ?_|refine aP.ret ?_|refine aP.exit ?_|fail)|refine aP.fp (Az rfl (by first|with_reducible assumption|omega)) ?_|refine aP.fm (Ay rfl (by first|with_reducible assumption|omega)) ?_|refine aP.fp (wT rfl de) ?_|refine aP.fm (wT rfl de) ?_))|(refine ai.is ?_;(first|refine ai.ij ?_|refine ai.lj ?_|refine ai.il ?_|refine ai.ln ?_|refine ai.iq ?_|refine ai.lq ?_|refine ai.qF rfl ?_|fail))|refine zD ?_);exact hk_.out)):g:=hw ⟨h⟩
theorem ay {g g':Prop} (h:g') (hw:dP g'→g:=by(intro hk_;refine BL ?_;(repeat refine BL ?_);exact hk_.out)):g:=hw ⟨h⟩
theorem fP {g:Prop} {g':Nat→Prop} (h:∀b,True→g' b) (hw:dP (∀b,True→g' b)→g:=by(intro hk_;refine aa.Br ?_;exact aa.he (HE.mq rfl rfl rfl rfl rfl fS F0 F0) rfl hk_.out)):g:=hw ⟨h⟩
theorem br {g:Prop} {g':Nat→Prop} (h:∀b,g' b) (hw:dP (∀b,g' b)→g:=by(intro hk_;refine aa.Bq ?_;exact aa.box _ rfl rfl rfl hk_.out)):g:=hw ⟨h⟩
theorem aY {g a b:Prop} (ha:a) (hb:b) (hw:dP a→dP b→g:=by(intro h1_ h2_;(first|exact aP.yi rfl h1_.out h2_.out|exact aP.zL rfl h1_.out h2_.out|exact aa.yj rfl h1_.out h2_.out|(refine aa.vd rfl ?_ ?_;(all_goals fail_if_success (intro hc_;cases hc_;done));exact h1_.out;exact h2_.out)|fail))):g:=hw ⟨ha⟩ ⟨hb⟩
def eX (l:List Int):Int:=ix l (l.length - 1)
theorem wH {l:List Int} {i op a:Int} (h:a∈jy l i op):a∈l∨a=i:=by
 have h1:a∈(if dY op then l++[i]else l):=by
  unfold jy at h
  dsimp only at h
  by_cases hc:op=11∧0<(if dY op then l++[i]else l).length
  ·rw[if_pos hc]at h;exact(List.dropLast_sublist _).subset h
  ·rw[if_neg hc]at h;exact h
 split at h1
 ·simpa using h1
 ·exact .inl h1
theorem oJ {xs:List bZ} {k:Nat} {a:Int} (h:a∈av xs k):-1≤a∧a<k:=by
 induction k with
 |zero=>simp[av]at h;omega
 |succ k ih=>
  rcases wH h with h|h
  ·have:=ih h;omega
  ·omega
theorem vP {l:List Int} (h:0<l.length):eX l∈l:=by
 unfold eX;rw[cI FY];exact List.getElem_mem _
theorem Bv {xs:List bZ} {k:Nat} (h:0<(av xs k).length):-1≤eX (av xs k)∧eX (av xs k)<k:=oJ (vP h)
def ja (xs:List bZ) (h:Nat) (i:Nat):Bool:=decide (h<i∧(ix xs i).op=5∧0<(av xs i).length∧eX (av xs i)=h)
def gK (xs:List bZ) (h at_:Nat):Bool:=(List.range at_).any (ja xs h)
theorem qM {xs:List bZ} {h at_:Nat} (hn:∀i,i<at_→ja xs h i=false):gK xs h at_=false:=by
 unfold gK
 rw[List.any_eq_false]
 intro i hi
 rw[hn i (List.mem_range.1 hi)];simp
theorem so {xs:List bZ} {h at_ i:Nat} (hi:i<at_) (hn:ja xs h i=true):gK xs h at_=true:=by
 unfold gK
 rw[List.any_eq_true]
 exact⟨i,List.mem_range.2 hi,hn⟩
def gj (xs:List bZ) (i:Nat):Option (Int×Int):=
 let l:=av xs i
 let h:=eX l
 if l.length=0 then some (i,16)
 else if(ix xs i).op=5∧(h<0∨(ix xs h.toNat).op≠4∨gK xs h.toNat i=true)then some (i,16)
 else if dY (ix xs i).op=true∧32≤l.length then some (i,6)
 else none
def jh (xs:List bZ):Nat→Nat→Int×Int
 |0,i=>if 0<(av xs i).length then(i,3)else(0,0)
 |f+1,i=>match gj xs i with
  |some r=>r
  |none=>jh xs f (i+1)
def eK (xs:List bZ):Int×Int:=jh xs xs.length 0
def dk (xs:List bZ):Nat→List Int
 |0=>List.replicate xs.length (-1)
 |k+1=>if(ix xs k).op=11∧0≤eX (av xs k)then(dk xs k).set (eX (av xs k)).toNat k else dk xs k
def dI (xs:List bZ):Nat→List Int
 |0=>List.replicate xs.length (-1)
 |k+1=>if(ix xs k).op=5 then(dI xs k).set (eX (av xs k)).toNat k else dI xs k
theorem tI (xs:List bZ) (k:Nat):(dk xs k).length=xs.length:=by
 induction k with
 |zero=>simp[dk]
 |succ k ih=>simp only[dk];split<;>simp[ih]
theorem sq (xs:List bZ) (k:Nat):(dI xs k).length=xs.length:=by
 induction k with
 |zero=>simp[dI]
 |succ k ih=>simp only[dI];split<;>simp[ih]
def uO (xs:List bZ):List Int:=dk xs xs.length
def qN (xs:List bZ):List Int:=dI xs xs.length
def zx (xs:List bZ) (a:Nat) (l:Int):Option Int:=
 let r:=av xs a
 if l<0∨(r.length:Int)≤l then none
 else
  let h:=ix r (r.length - 1 - l.toNat)
  if h<0 then some ((xs.length:Int) - 1)
  else if(ix xs h.toNat).op=3 then some (h+1)
  else some (ix (uO xs) h.toNat)
structure aQ (ro:Option Nat) (D:List Deferred) (ops:Array Oper) (Q:Exit→Act→World→Prop) (n:Nat) (l:List Oper) (E:Env) (M:List aU) (R:List (World→Prop)):Prop where
 h:∀w,Ok M R w→cQ ro 0 D ops Q n l E w
structure fz (ro:Option Nat) (D:List Deferred) (Q:Exit→Act→World→Prop) (n:Nat) (c:Code) (E:Env) (M:List aU) (R:List (World→Prop)):Prop where
 h:∀w,Ok M R w→gH ro 0 D Q n c E w
structure dO (D:List Deferred) (Q:Exit→Act→World→Prop) (n:Nat) (e:Exit) (E:Env) (M:List aU) (R:List (World→Prop)):Prop where
 h:∀w,Ok M R w→dj D Q n e E w
section
variable {ro:Option Nat} {D:List Deferred} {ops:Array Oper} {Q:Exit→Act→World→Prop} {n:Nat} {E:Env} {M M':List aU} {R R':List (World→Prop)} {rest l:List Oper} {op:Op} {d:Nat} {ty:TypeId} {pos:String} {aft:Array Edge} {v:Value} {x y:Operand} {t t2:TypeId} {gd:Option (Nat×Bool)} {dd:Option Nat}
theorem fz.seq {x y:Code} (h:fz ro D (Exit.then (y.wpIn (FW ro) 0 G.P Q) Q) n x E M R):fz ro D Q n (.seq x y) E M R:=⟨fun w hw=>gH.seq (h.h w hw)⟩
theorem fz.block {id:Nat} {c:Code} (h:fz ro D (Exit.inBlock id Q) n c E M R):fz ro D Q n (.block id c) E M R:=⟨fun w hw=>gH.block (h.h w hw)⟩
theorem fz.skip (h:dO D Q n .normal E M R):fz ro D Q n .skip E M R:=⟨fun w hw=>gH.skip (h.h w hw)⟩
theorem fz.exit {id:Nat} (h:dO D Q n (.exit id) E M R):fz ro D Q n (.exit id) E M R:=⟨fun w hw=>gH.exit (h.h w hw)⟩
theorem fz.ret (h:dO D Q n .ret E M R):fz ro D Q n .ret E M R:=⟨fun w hw=>gH.ret (h.h w hw)⟩
theorem fz.region {id:Nat} {l:List Oper} (h:aQ ro D l.toArray Q n l E M R):fz ro D Q n (.region id l.toArray false) E M R:=⟨fun w hw=>gH.region (h.h w hw)⟩
theorem fz.fp {c:Operand} {x y:Code} (hc:ev E c=some (.bool true)) (h:fz ro D Q n x E M R):fz ro D Q n (.cond c x y) E M R:=⟨fun w hw=>gH.fp hc (h.h w hw)⟩
theorem fz.fm {c:Operand} {x y:Code} (hc:ev E c=some (.bool false)) (h:fz ro D Q n y E M R):fz ro D Q n (.cond c x y) E M R:=⟨fun w hw=>gH.fm hc (h.h w hw)⟩
theorem dO.ij {y:Code} (h:fz ro D Q n y E M R):dO D (Exit.then (y.wpIn (FW ro) 0 G.P Q) Q) n .normal E M R:=⟨fun w hw=>dj.ij (h.h w hw)⟩
theorem dO.il {K:Act→World→Prop} (h:dO D Q n .ret E M R):dO D (Exit.then K Q) n .ret E M R:=⟨fun w hw=>dj.il (h.h w hw)⟩
theorem dO.iq {K:Act→World→Prop} {id:Nat} (h:dO D Q n (.exit id) E M R):dO D (Exit.then K Q) n (.exit id) E M R:=⟨fun w hw=>dj.iq (h.h w hw)⟩
theorem dO.lj {id:Nat} (h:dO D Q n .normal E M R):dO D (Exit.inBlock id Q) n .normal E M R:=⟨fun w hw=>dj.lj (h.h w hw)⟩
theorem dO.ln {id:Nat} (h:dO D Q n .ret E M R):dO D (Exit.inBlock id Q) n .ret E M R:=⟨fun w hw=>dj.ln (h.h w hw)⟩
theorem dO.lq {id:Nat} (h:dO D Q n .normal E M R):dO D (Exit.inBlock id Q) n (.exit id) E M R:=⟨fun w hw=>dj.lq (h.h w hw)⟩
theorem aQ.nil (h:dO D Q n .normal E M R):aQ ro D ops Q n [] E M R:=⟨fun w hw=>cQ.nil (h.h w hw)⟩
theorem aQ.y_ (hy:Yl G n op E (Ok M R) v) (hd:(lH op && Nat.blt d n)=true) (h:aQ ro D ops Q n rest ((d,v)::E) M R):aQ ro D ops Q n (⟨some d,op,ty,pos,aft,none⟩::rest) E M R:=
 ⟨fun w hw=>cQ.y (hy.mono (by rintro _ rfl;exact hw)) hd (h.h w hw)⟩
section
variable {β:Type} {φ:β→Prop} {vf:β→Value} {Mf:β→List aU} {Rf:β→List (World→Prop)}
theorem aQ.he (he:HE n op E M R φ vf Mf Rf) (hn:gO op=true) (hd:Nat.blt d n=true) (h:∀x,φ x→aQ ro D ops Q n rest ((d,vf x)::E) (Mf x) (Rf x)):aQ ro D ops Q n (⟨some d,op,ty,pos,aft,none⟩::rest) E M R:=
 ⟨fun w hw=>cQ.e (he.h w hw) hn hd fun v w' ⟨x,h1,h2,h3⟩=>by subst h2;exact(h x h1).h w' h3⟩
theorem aQ.nc (he:gI n op E M R φ Mf Rf) (hn:gO op=true) (h:∀x,φ x→aQ ro D ops Q n rest E (Mf x) (Rf x)):aQ ro D ops Q n (⟨none,op,ty,pos,aft,none⟩::rest) E M R:=
 ⟨fun w hw=>cQ.e0 (he.h w hw) hn fun _ w' ⟨x,h1,h3⟩=>(h x h1).h w' h3⟩
end
theorem aQ.is (h:aQ ro D ops Q n l E M R):aQ ro D ops Q n l E M R:=h
theorem fz.is {c:Code} (h:fz ro D Q n c E M R):fz ro D Q n c E M R:=h
theorem dO.is {e:Exit} (h:dO D Q n e E M R):dO D Q n e E M R:=h
theorem aQ.an {bo:BinOp} (h:aQ ro D ops Q n (⟨dd,.binOp bo t x y t2,ty,pos,aft,gd⟩::rest) E M R):aQ ro D ops Q n (⟨dd,.binOp bo t x y t2,ty,pos,aft,gd⟩::rest) E M R:=h
theorem aQ.bW (h:aQ ro D ops Q n (⟨dd,.load t x,ty,pos,aft,gd⟩::rest) E M R):aQ ro D ops Q n (⟨dd,.load t x,ty,pos,aft,gd⟩::rest) E M R:=h
theorem yz {g g':Prop} (h:g') (hw:dP g'→g:=by(intro hk_;(repeat(first|(refine aQ.is ?_;(first|refine aQ.nil ?_|refine aQ.y_ (Yl.move rfl) rfl ?_|refine aQ.y_ (Yl.assign rfl) rfl ?_|(refine aQ.an ?_;(first|(refine aQ.an (bo:=.lss) ?_;(first|refine aQ.y_ (Yl.iG rfl rfl FY) rfl ?_|refine aQ.y_ (Yl.iF rfl rfl FY) rfl ?_))|(refine aQ.an (bo:=.eql) ?_;(first|refine aQ.y_ (Yl.iw rfl rfl FY) rfl ?_|refine aQ.y_ (Yl.iu rfl rfl FY) rfl ?_))|(refine aQ.an (bo:=.neq) ?_;(first|refine aQ.y_ (Yl.iI rfl rfl FY) rfl ?_|refine aQ.y_ (Yl.iH rfl rfl FY) rfl ?_))|(refine aQ.an (bo:=.leq) ?_;(first|refine aQ.y_ (Yl.iE rfl rfl FY) rfl ?_|refine aQ.y_ (Yl.iD rfl rfl FY) rfl ?_))|(refine aQ.an (bo:=.gtr) ?_;(first|refine aQ.y_ (Yl.iC rfl rfl FY) rfl ?_|refine aQ.y_ (Yl.iB rfl rfl FY) rfl ?_))|(refine aQ.an (bo:=.geq) ?_;(first|refine aQ.y_ (Yl.iA rfl rfl FY) rfl ?_|refine aQ.y_ (Yl.iz rfl rfl FY) rfl ?_))|refine aQ.y_ (Yl.add rfl rfl FY) rfl ?_|refine aQ.y_ (Yl.sub rfl rfl FY) rfl ?_|refine aQ.y_ (Yl.fu rfl rfl rfl rfl) rfl ?_|refine aQ.y_ (Yl.je Tryz.underlying4 rfl rfl) rfl ?_|refine aQ.y_ (Yl.pY rfl rfl) rfl ?_|refine aQ.y_ (Yl.kf rfl rfl) rfl ?_|refine aQ.y_ (Yl.kc rfl rfl FY) rfl ?_|fail))|(refine aQ.bW ?_;(first|refine aQ.y_ (Yl.jr rfl rfl rfl Fu) rfl ?_|refine aQ.y_ (Yl.jo rfl rfl rfl rfl FD) rfl ?_|refine aQ.y_ (Yl.js rfl rfl rfl rfl FD FA) rfl ?_|refine aQ.y_ (Yl.jq rfl rfl rfl Fy rfl) rfl ?_))|refine aQ.y_ (Yl.len rfl rfl rfl) rfl ?_|refine aQ.y_ (Yl.extract rfl rfl) rfl ?_|refine aQ.y_ (Yl.dF rfl rfl) rfl ?_|refine aQ.y_ (Yl.dE rfl rfl) rfl ?_|refine aQ.y_ (Yl.nilCheck rfl) rfl ?_|refine aQ.y_ (Yl.not rfl) rfl ?_|refine aQ.y_ (Yl.makeFunc rfl rfl) rfl ?_|refine aQ.y_ (Yl.fW rfl rfl) rfl ?_|refine aQ.y_ (Yl.fX rfl rfl rfl Fw F0) rfl ?_|refine aQ.y_ (Yl.fY rfl rfl rfl Fx) rfl ?_|refine aQ.y_ (Yl.dU rfl rfl rfl rfl) rfl ?_|refine aQ.y_ (Yl.cR Tryz.underlying9 rfl rfl rfl FY) rfl ?_|refine aQ.y_ (Yl.cm Tryz.underlying9 rfl rfl rfl FY) rfl ?_|refine aQ.y_ (Yl.ck rfl rfl rfl rfl rfl rfl FY) rfl ?_|refine aQ.y_ (Yl.ke Tryz.underlying9 rfl) rfl ?_))|(refine fz.is ?_;(first|refine fz.seq ?_|refine fz.region ?_|refine fz.block ?_|refine fz.skip ?_|refine fz.ret ?_|refine fz.exit ?_|refine fz.fp rfl ?_|refine fz.fm rfl ?_))|(refine dO.is ?_;(first|refine dO.ij ?_|refine dO.lj ?_|refine dO.il ?_|refine dO.ln ?_|refine dO.iq ?_|refine dO.lq ?_|fail))));exact hk_.out)):g:=hw ⟨h⟩
theorem fz.DM {c:Code} (h:aP Q n c E M R):fz none [] Q n c E M R:=⟨fun w hw=>⟨fun _ ha=>wpIn_wide.2 ((h.h w hw).h _ ha.zy)⟩⟩
theorem ai.BJ {y:Code} (h:fz none [] Q n y E M R):ai (Exit.then (y.wpIn (FW none) 0 G.P Q) Q) n .normal E M R:=⟨fun w hw=>⟨fun _ ha=>((h.h w hw).h _ (nM.of ha))⟩⟩
theorem fz.at {c:Code} {w:World} (hw:Ok M R w) (h:fz ro D Q n c E M R):gH ro 0 D Q n c E w:=h.h w hw
theorem dO.at {e:Exit} {w:World} (hw:Ok M R w) (h:dO D Q n e E M R):dj D Q n e E w:=h.h w hw
theorem Ax {f:FuncId} {fn:Func} {c:Code} {l:List Value} {w:World} {Rp:Ending→World→Prop} (hf:G.P.funcs[f]?=some fn) (hb:fn.body=some c) (hn:fn.ntmps=n) (hl:Nat.ble l.length n=true) (hw:Ok M R w)
  (h:fz none [] (bodyPostM (FW none) 0 G.P fn Rp) n c (tB 0 l) M R):Calls G.P f l.toArray w Rp:=xz 0 hf hb hn hl (h.h w hw)
end
theorem Ok.grow {M:List aU} {w0 W W':World} {row:Option Nat} {B:Nat} (h:Ok M [Ext w0] W) (hB:w0.heap.size≤B) (hg:W.grownBy W' row) (hr:∀r,row=some r→B≤r∧∃o:Obj,W.heap[r]?=some o∧o.isCells=false) (hM:∀(r:Nat) (o:Obj),B≤r→W.heap[r]?=some o→o.isCells=false→¬Mb M r):Ok M [Ext w0] W':=by
 have hc:=bz.iP hg
 have hx:Ext w0 W:=h.get FZ
 have hx':Ext w0 W':=bz.trans' hx hc (fun k hk e=>by have:=(hr k e).1;omega)
 refine⟨fun q hq=>?_,h.d,fun p hp w2 h2=>?_⟩
 ·obtain⟨h1,h2⟩:=h.m q hq
  refine⟨q.st h1 hc fun k _ hk e=>?_,fun k hk=>Nat.lt_of_lt_of_le (h2 k hk) hc.size⟩
  obtain⟨h3,o,h4,h5⟩:=hr k e
  exact hM k o h3 h4 h5 ⟨q,hq,hk⟩
 ·rw[List.mem_singleton]at hp
  subst hp
  exact bz.trans' hx' h2 (fun k hk hm=>absurd (h.origin (S:=fun _=>False) (by simp[]) k hm hk) id)
end Go.Proofs.YtceedealggognaaGreatDoor
