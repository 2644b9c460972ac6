import Derived.Maps.Keyed
import Derived.Maps.RangeRun
import Derived.Test.YtdkcljdfbemnbaaGreatDoorJIo
import Derived.Test.YtdkcljdfbemnbaaGreatDoorJR7
namespace Go.Proofs.YtdkcljdfbemnbaaGreatDoor
section
open Go.RowKit
open Go.ChangeMaps (setBlock)
open Go.MapKept (Stamped)
theorem bX.setBlock (w:World) (b:Nat) (o:Obj):bX (fun k=>k=b) w (setBlock w b o):=
 ⟨rfl,rfl,rfl,by simp[ChangeMaps.setBlock],fun k _ hs=>by simp only[ChangeMaps.setBlock];rw[Array.getElem?_setIfInBounds_ne (fun e=>hs e.symm)]⟩
end
section
open Go.RowKit _root_.Go.Proofs.Tryz
set_option maxHeartbeats 4000000
open Int renaming eq_ofNat_of_zero_le→PJ,toNat_natCast→PZ
open List renaming Sublist→Pv,getElem?_eq_getElem→Pw,length_append→Py,mem_cons_of_mem→PP,mem_cons_self→PT,range→PH,replicate→PL
theorem Ht {g g':Prop} (h:g') (hw:eA g'→g:=by(intro hk_;(refine aq.is ?_;(first|(refine aq.CF ?_;(first|refine aq.gs rfl rfl rfl ?_|refine aq.gu rfl rfl ?_|refine aq.yg rfl (Yl.move rfl) rfl ?_|refine aq.yg rfl (Yl.assign rfl) rfl ?_|(refine aq.aE ?_;(first|(refine aq.aE (bo:=.lss) ?_;(first|refine aq.yg rfl (Yl.lH rfl rfl Pi) rfl ?_|refine aq.yg rfl (Yl.lG rfl rfl Pi) rfl ?_))|(refine aq.aE (bo:=.eql) ?_;(first|refine aq.yg rfl (Yl.ly rfl rfl Pi) rfl ?_|refine aq.yg rfl (Yl.lx rfl rfl Pi) rfl ?_))|(refine aq.aE (bo:=.neq) ?_;(first|refine aq.yg rfl (Yl.lK rfl rfl Pi) rfl ?_|refine aq.yg rfl (Yl.lJ rfl rfl Pi) rfl ?_))|(refine aq.aE (bo:=.leq) ?_;(first|refine aq.yg rfl (Yl.lF rfl rfl Pi) rfl ?_|refine aq.yg rfl (Yl.lE rfl rfl Pi) rfl ?_))|(refine aq.aE (bo:=.gtr) ?_;(first|refine aq.yg rfl (Yl.lC rfl rfl Pi) rfl ?_|refine aq.yg rfl (Yl.lB rfl rfl Pi) rfl ?_))|(refine aq.aE (bo:=.geq) ?_;(first|refine aq.yg rfl (Yl.lA rfl rfl Pi) rfl ?_|refine aq.yg rfl (Yl.lz rfl rfl Pi) rfl ?_))|refine aq.yg rfl (Yl.add rfl rfl Pi) rfl ?_|refine aq.yg rfl (Yl.sub rfl rfl Pi) rfl ?_|refine aq.yg rfl (Yl.jh rfl rfl rfl rfl) rfl ?_|refine aq.yg rfl (Yl.mr Tryz.underlying4 rfl rfl) rfl ?_|refine aq.yg rfl (Yl.mq Tryz.underlying4 rfl rfl) rfl ?_|refine aq.yg rfl (Yl.xj rfl rfl) rfl ?_|refine aq.yg rfl (Yl.nV rfl rfl) rfl ?_|refine aq.yg rfl (Yl.nS rfl rfl Pi) rfl ?_|fail))|(refine aq.isField ?_;(first|refine aq.yg rfl (Yl.kS rfl rfl rfl) rfl ?_|refine aq.yg rfl (Yl.gJ rfl rfl rfl) rfl ?_|refine aq.yg rfl (Yl.field rfl rfl rfl) rfl ?_))|(refine aq.dn ?_;(first|refine aq.yg rfl (Yl.mN rfl rfl rfl OF) rfl ?_|refine aq.yg rfl (Yl.mL rfl rfl rfl rfl OO) rfl ?_|refine aq.yg rfl (Yl.mO rfl rfl rfl rfl OO OL) rfl ?_|refine aq.yg rfl (Yl.mM rfl rfl rfl OJ rfl) rfl ?_))|(refine aq.eN ?_;(first|refine aq.yg rfl (Yl.gn rfl rfl rfl rfl rfl rfl Pi) rfl ?_|refine aq.yg rfl (Yl.idx rfl rfl rfl rfl rfl rfl Pi) rfl ?_))|refine aq.yg rfl (Yl.len rfl rfl rfl) rfl ?_|refine aq.yg rfl (Yl.extract rfl rfl) rfl ?_|refine aq.yg rfl (Yl.fT rfl rfl) rfl ?_|refine aq.yg rfl (Yl.fS rfl rfl) rfl ?_|refine aq.yg rfl (Yl.nilCheck rfl) rfl ?_|refine aq.yg rfl (Yl.not rfl) rfl ?_|refine aq.yg rfl (Yl.makeFunc rfl rfl) rfl ?_|refine aq.yg rfl (Yl.jW rfl rfl) rfl ?_|refine aq.yg rfl (Yl.jX rfl rfl rfl OH Pk) rfl ?_|refine aq.yg rfl (Yl.jY rfl rfl rfl OI) rfl ?_|refine aq.yg rfl (Yl.gH rfl rfl rfl rfl) rfl ?_|refine aq.yg rfl (Yl.ed Tryz.underlying9 rfl rfl rfl Pi) rfl ?_|refine aq.yg rfl (Yl.dC Tryz.underlying9 rfl rfl rfl Pi) rfl ?_|refine aq.yg rfl (Yl.eW Tryz.underlying9 rfl rfl rfl rfl rfl Pi Pi) rfl ?_|refine aq.yg rfl (Yl.cZ rfl rfl rfl rfl rfl rfl Pi) rfl ?_|refine aq.yg rfl (Yl.nT Tryz.underlying9 rfl) rfl ?_))|refine aq.Kc ?_|refine aq.y (Yl.move rfl) rfl ?_|refine aq.y (Yl.assign rfl) rfl ?_|(refine aq.aE ?_;(first|(refine aq.aE (bo:=.lss) ?_;(first|refine aq.y (Yl.lH rfl rfl Pi) rfl ?_|refine aq.y (Yl.lG rfl rfl Pi) rfl ?_))|(refine aq.aE (bo:=.eql) ?_;(first|refine aq.y (Yl.ly rfl rfl Pi) rfl ?_|refine aq.y (Yl.lx rfl rfl Pi) rfl ?_))|(refine aq.aE (bo:=.neq) ?_;(first|refine aq.y (Yl.lK rfl rfl Pi) rfl ?_|refine aq.y (Yl.lJ rfl rfl Pi) rfl ?_))|(refine aq.aE (bo:=.leq) ?_;(first|refine aq.y (Yl.lF rfl rfl Pi) rfl ?_|refine aq.y (Yl.lE rfl rfl Pi) rfl ?_))|(refine aq.aE (bo:=.gtr) ?_;(first|refine aq.y (Yl.lC rfl rfl Pi) rfl ?_|refine aq.y (Yl.lB rfl rfl Pi) rfl ?_))|(refine aq.aE (bo:=.geq) ?_;(first|refine aq.y (Yl.lA rfl rfl Pi) rfl ?_|refine aq.y (Yl.lz rfl rfl Pi) rfl ?_))|refine aq.y (Yl.add rfl rfl Pi) rfl ?_|refine aq.y (Yl.sub rfl rfl Pi) rfl ?_|refine aq.y (Yl.jh rfl rfl rfl rfl) rfl ?_|refine aq.y (Yl.mr Tryz.underlying4 rfl rfl) rfl ?_|refine aq.y (Yl.mq Tryz.underlying4 rfl rfl) rfl ?_|refine aq.y (Yl.xj rfl rfl) rfl ?_|refine aq.y (Yl.nV rfl rfl) rfl ?_|refine aq.y (Yl.nS rfl rfl Pi) rfl ?_|fail))|(refine aq.isField ?_;(first|refine aq.y (Yl.kS rfl rfl rfl) rfl ?_|refine aq.y (Yl.gJ rfl rfl rfl) rfl ?_|refine aq.y (Yl.field rfl rfl rfl) rfl ?_))|(refine aq.dn ?_;(first|refine aq.y (Yl.mN rfl rfl rfl OF) rfl ?_|refine aq.y (Yl.mL rfl rfl rfl rfl OO) rfl ?_|refine aq.y (Yl.mO rfl rfl rfl rfl OO OL) rfl ?_|refine aq.y (Yl.mM rfl rfl rfl OJ rfl) rfl ?_))|(refine aq.eN ?_;(first|refine aq.y (Yl.gn rfl rfl rfl rfl rfl rfl Pi) rfl ?_|refine aq.y (Yl.idx rfl rfl rfl rfl rfl rfl Pi) rfl ?_))|refine aq.y (Yl.len rfl rfl rfl) rfl ?_|refine aq.y (Yl.extract rfl rfl) rfl ?_|refine aq.y (Yl.fT rfl rfl) rfl ?_|refine aq.y (Yl.fS rfl rfl) rfl ?_|refine aq.y (Yl.nilCheck rfl) rfl ?_|refine aq.y (Yl.not rfl) rfl ?_|refine aq.y (Yl.makeFunc rfl rfl) rfl ?_|refine aq.y (Yl.jW rfl rfl) rfl ?_|refine aq.y (Yl.jX rfl rfl rfl OH Pk) rfl ?_|refine aq.y (Yl.jY rfl rfl rfl OI) rfl ?_|refine aq.y (Yl.gH rfl rfl rfl rfl) rfl ?_|refine aq.y (Yl.ed Tryz.underlying9 rfl rfl rfl Pi) rfl ?_|refine aq.y (Yl.dC Tryz.underlying9 rfl rfl rfl Pi) rfl ?_|refine aq.y (Yl.eW Tryz.underlying9 rfl rfl rfl rfl rfl Pi Pi) rfl ?_|refine aq.y (Yl.cZ rfl rfl rfl rfl rfl rfl Pi) rfl ?_|refine aq.y (Yl.nT Tryz.underlying9 rfl) rfl ?_));exact hk_.out)):g:=hw ⟨h⟩
set_option maxRecDepth 100000
theorem cq {g g':Prop} (h:g') (hw:eA g'→g:=by(intro hk_;(repeat(first|(refine aa.is ?_;(first|(refine aa.CF ?_;(first|refine aa.gs rfl rfl rfl ?_|refine aa.gu rfl rfl ?_|refine aa.yg rfl (Yl.move rfl) rfl ?_|refine aa.yg rfl (Yl.assign rfl) rfl ?_|(refine aa.aE ?_;(first|(refine aa.aE (bo:=.lss) ?_;(first|refine aa.yg rfl (Yl.lH rfl rfl Pi) rfl ?_|refine aa.yg rfl (Yl.lG rfl rfl Pi) rfl ?_))|(refine aa.aE (bo:=.eql) ?_;(first|refine aa.yg rfl (Yl.ly rfl rfl Pi) rfl ?_|refine aa.yg rfl (Yl.lx rfl rfl Pi) rfl ?_))|(refine aa.aE (bo:=.neq) ?_;(first|refine aa.yg rfl (Yl.lK rfl rfl Pi) rfl ?_|refine aa.yg rfl (Yl.lJ rfl rfl Pi) rfl ?_))|(refine aa.aE (bo:=.leq) ?_;(first|refine aa.yg rfl (Yl.lF rfl rfl Pi) rfl ?_|refine aa.yg rfl (Yl.lE rfl rfl Pi) rfl ?_))|(refine aa.aE (bo:=.gtr) ?_;(first|refine aa.yg rfl (Yl.lC rfl rfl Pi) rfl ?_|refine aa.yg rfl (Yl.lB rfl rfl Pi) rfl ?_))|(refine aa.aE (bo:=.geq) ?_;(first|refine aa.yg rfl (Yl.lA rfl rfl Pi) rfl ?_|refine aa.yg rfl (Yl.lz rfl rfl Pi) rfl ?_))|refine aa.yg rfl (Yl.add rfl rfl Pi) rfl ?_|refine aa.yg rfl (Yl.sub rfl rfl Pi) rfl ?_|refine aa.yg rfl (Yl.jh rfl rfl rfl rfl) rfl ?_|refine aa.yg rfl (Yl.mr Tryz.underlying4 rfl rfl) rfl ?_|refine aa.yg rfl (Yl.mq Tryz.underlying4 rfl rfl) rfl ?_|refine aa.yg rfl (Yl.xj rfl rfl) rfl ?_|refine aa.yg rfl (Yl.nV rfl rfl) rfl ?_|refine aa.yg rfl (Yl.nS rfl rfl Pi) rfl ?_|fail))|(refine aa.isField ?_;(first|refine aa.yg rfl (Yl.kS rfl rfl rfl) rfl ?_|refine aa.yg rfl (Yl.gJ rfl rfl rfl) rfl ?_|refine aa.yg rfl (Yl.field rfl rfl rfl) rfl ?_))|(refine aa.dn ?_;(first|refine aa.yg rfl (Yl.mN rfl rfl rfl OF) rfl ?_|refine aa.yg rfl (Yl.mL rfl rfl rfl rfl OO) rfl ?_|refine aa.yg rfl (Yl.mO rfl rfl rfl rfl OO OL) rfl ?_|refine aa.yg rfl (Yl.mM rfl rfl rfl OJ rfl) rfl ?_))|(refine aa.eN ?_;(first|refine aa.yg rfl (Yl.gn rfl rfl rfl rfl rfl rfl Pi) rfl ?_|refine aa.yg rfl (Yl.idx rfl rfl rfl rfl rfl rfl Pi) rfl ?_))|refine aa.yg rfl (Yl.len rfl rfl rfl) rfl ?_|refine aa.yg rfl (Yl.extract rfl rfl) rfl ?_|refine aa.yg rfl (Yl.fT rfl rfl) rfl ?_|refine aa.yg rfl (Yl.fS rfl rfl) rfl ?_|refine aa.yg rfl (Yl.nilCheck rfl) rfl ?_|refine aa.yg rfl (Yl.not rfl) rfl ?_|refine aa.yg rfl (Yl.makeFunc rfl rfl) rfl ?_|refine aa.yg rfl (Yl.jW rfl rfl) rfl ?_|refine aa.yg rfl (Yl.jX rfl rfl rfl OH Pk) rfl ?_|refine aa.yg rfl (Yl.jY rfl rfl rfl OI) rfl ?_|refine aa.yg rfl (Yl.gH rfl rfl rfl rfl) rfl ?_|refine aa.yg rfl (Yl.ed Tryz.underlying9 rfl rfl rfl Pi) rfl ?_|refine aa.yg rfl (Yl.dC Tryz.underlying9 rfl rfl rfl Pi) rfl ?_|refine aa.yg rfl (Yl.eW Tryz.underlying9 rfl rfl rfl rfl rfl Pi Pi) rfl ?_|refine aa.yg rfl (Yl.cZ rfl rfl rfl rfl rfl rfl Pi) rfl ?_|refine aa.yg rfl (Yl.nT Tryz.underlying9 rfl) rfl ?_))|refine aa.nil ?_|(refine aa.yh ?_;(first|refine aa.bn _ rfl rfl rfl rfl rfl rfl OO rfl ?_|refine aa.gz rfl rfl rfl rfl rfl OO OT ?_))|refine aa.y_ (Yl.move rfl) rfl ?_|refine aa.y_ (Yl.assign rfl) rfl ?_|(refine aa.aE ?_;(first|(refine aa.aE (bo:=.lss) ?_;(first|refine aa.y_ (Yl.lH rfl rfl Pi) rfl ?_|refine aa.y_ (Yl.lG rfl rfl Pi) rfl ?_))|(refine aa.aE (bo:=.eql) ?_;(first|refine aa.y_ (Yl.ly rfl rfl Pi) rfl ?_|refine aa.y_ (Yl.lx rfl rfl Pi) rfl ?_))|(refine aa.aE (bo:=.neq) ?_;(first|refine aa.y_ (Yl.lK rfl rfl Pi) rfl ?_|refine aa.y_ (Yl.lJ rfl rfl Pi) rfl ?_))|(refine aa.aE (bo:=.leq) ?_;(first|refine aa.y_ (Yl.lF rfl rfl Pi) rfl ?_|refine aa.y_ (Yl.lE rfl rfl Pi) rfl ?_))|(refine aa.aE (bo:=.gtr) ?_;(first|refine aa.y_ (Yl.lC rfl rfl Pi) rfl ?_|refine aa.y_ (Yl.lB rfl rfl Pi) rfl ?_))|(refine aa.aE (bo:=.geq) ?_;(first|refine aa.y_ (Yl.lA rfl rfl Pi) rfl ?_|refine aa.y_ (Yl.lz rfl rfl Pi) rfl ?_))|refine aa.y_ (Yl.add rfl rfl Pi) rfl ?_|refine aa.y_ (Yl.sub rfl rfl Pi) rfl ?_|refine aa.y_ (Yl.jh rfl rfl rfl rfl) rfl ?_|refine aa.y_ (Yl.mr Tryz.underlying4 rfl rfl) rfl ?_|refine aa.y_ (Yl.mq Tryz.underlying4 rfl rfl) rfl ?_|refine aa.y_ (Yl.xj rfl rfl) rfl ?_|refine aa.y_ (Yl.nV rfl rfl) rfl ?_|refine aa.y_ (Yl.nS rfl rfl Pi) rfl ?_|fail))|(refine aa.isField ?_;(first|refine aa.y_ (Yl.kS rfl rfl rfl) rfl ?_|refine aa.y_ (Yl.gJ rfl rfl rfl) rfl ?_|refine aa.y_ (Yl.field rfl rfl rfl) rfl ?_))|(refine aa.dn ?_;(first|refine aa.y_ (Yl.mN rfl rfl rfl OF) rfl ?_|refine aa.y_ (Yl.mL rfl rfl rfl rfl OO) rfl ?_|refine aa.y_ (Yl.mO rfl rfl rfl rfl OO OL) rfl ?_|refine aa.y_ (Yl.mM rfl rfl rfl OJ rfl) rfl ?_))|(refine aa.eN ?_;(first|refine aa.y_ (Yl.gn rfl rfl rfl rfl rfl rfl Pi) rfl ?_|refine aa.y_ (Yl.idx rfl rfl rfl rfl rfl rfl Pi) rfl ?_))|refine aa.y_ (Yl.len rfl rfl rfl) rfl ?_|refine aa.y_ (Yl.extract rfl rfl) rfl ?_|refine aa.y_ (Yl.fT rfl rfl) rfl ?_|refine aa.y_ (Yl.fS rfl rfl) rfl ?_|refine aa.y_ (Yl.nilCheck rfl) rfl ?_|refine aa.y_ (Yl.not rfl) rfl ?_|refine aa.y_ (Yl.makeFunc rfl rfl) rfl ?_|refine aa.y_ (Yl.jW rfl rfl) rfl ?_|refine aa.y_ (Yl.jX rfl rfl rfl OH Pk) rfl ?_|refine aa.y_ (Yl.jY rfl rfl rfl OI) rfl ?_|refine aa.y_ (Yl.gH rfl rfl rfl rfl) rfl ?_|refine aa.y_ (Yl.ed Tryz.underlying9 rfl rfl rfl Pi) rfl ?_|refine aa.y_ (Yl.dC Tryz.underlying9 rfl rfl rfl Pi) rfl ?_|refine aa.y_ (Yl.eW Tryz.underlying9 rfl rfl rfl rfl rfl Pi Pi) rfl ?_|refine aa.y_ (Yl.cZ rfl rfl rfl rfl rfl rfl Pi) rfl ?_|refine aa.y_ (Yl.nT Tryz.underlying9 rfl) rfl ?_))|(refine bh.is ?_;(first|refine bh.seq ?_|refine bh.region ?_|refine bh.oJ rfl Pb ?_|refine bh.block ?_|refine bh.jf rfl ?_|refine bh.je rfl ?_|refine bh.skip ?_|refine bh.ret ?_|refine bh.exit ?_|fail))|(refine ah.is ?_;(first|refine ah.lf ?_|refine ah.pR ?_|refine ah.lg ?_|refine ah.pS ?_|refine ah.lh ?_|refine ah.pT ?_|refine ah.xV rfl ?_|fail))|refine Ht ?_));exact hk_.out)):g:=hw ⟨h⟩
theorem m7 {g g':Prop} (h:g') (hw:eA g'→g:=by(intro hk_;(repeat(first|refine bF.y_ (Yl.move rfl) rfl ?_|refine bF.y_ (Yl.assign rfl) rfl ?_|(refine bF.aE ?_;(first|(refine bF.aE (bo:=.lss) ?_;(first|refine bF.y_ (Yl.lH rfl rfl Pi) rfl ?_|refine bF.y_ (Yl.lG rfl rfl Pi) rfl ?_))|(refine bF.aE (bo:=.eql) ?_;(first|refine bF.y_ (Yl.ly rfl rfl Pi) rfl ?_|refine bF.y_ (Yl.lx rfl rfl Pi) rfl ?_))|(refine bF.aE (bo:=.neq) ?_;(first|refine bF.y_ (Yl.lK rfl rfl Pi) rfl ?_|refine bF.y_ (Yl.lJ rfl rfl Pi) rfl ?_))|(refine bF.aE (bo:=.leq) ?_;(first|refine bF.y_ (Yl.lF rfl rfl Pi) rfl ?_|refine bF.y_ (Yl.lE rfl rfl Pi) rfl ?_))|(refine bF.aE (bo:=.gtr) ?_;(first|refine bF.y_ (Yl.lC rfl rfl Pi) rfl ?_|refine bF.y_ (Yl.lB rfl rfl Pi) rfl ?_))|(refine bF.aE (bo:=.geq) ?_;(first|refine bF.y_ (Yl.lA rfl rfl Pi) rfl ?_|refine bF.y_ (Yl.lz rfl rfl Pi) rfl ?_))|refine bF.y_ (Yl.add rfl rfl Pi) rfl ?_|refine bF.y_ (Yl.sub rfl rfl Pi) rfl ?_|refine bF.y_ (Yl.jh rfl rfl rfl rfl) rfl ?_|refine bF.y_ (Yl.mr Tryz.underlying4 rfl rfl) rfl ?_|refine bF.y_ (Yl.mq Tryz.underlying4 rfl rfl) rfl ?_|refine bF.y_ (Yl.xj rfl rfl) rfl ?_|refine bF.y_ (Yl.nV rfl rfl) rfl ?_|refine bF.y_ (Yl.nS rfl rfl Pi) rfl ?_|fail))|(refine bF.isField ?_;(first|refine bF.y_ (Yl.kS rfl rfl rfl) rfl ?_|refine bF.y_ (Yl.gJ rfl rfl rfl) rfl ?_|refine bF.y_ (Yl.field rfl rfl rfl) rfl ?_))|(refine bF.dn ?_;(first|refine bF.y_ (Yl.mN rfl rfl rfl OF) rfl ?_|refine bF.y_ (Yl.mL rfl rfl rfl rfl OO) rfl ?_|refine bF.y_ (Yl.mO rfl rfl rfl rfl OO OL) rfl ?_|refine bF.y_ (Yl.mM rfl rfl rfl OJ rfl) rfl ?_))|refine bF.y_ (Yl.len rfl rfl rfl) rfl ?_|refine bF.y_ (Yl.extract rfl rfl) rfl ?_|refine bF.y_ (Yl.fT rfl rfl) rfl ?_|refine bF.y_ (Yl.fS rfl rfl) rfl ?_|refine bF.y_ (Yl.nilCheck rfl) rfl ?_|refine bF.y_ (Yl.not rfl) rfl ?_|refine bF.y_ (Yl.makeFunc rfl rfl) rfl ?_|refine bF.y_ (Yl.jW rfl rfl) rfl ?_|refine bF.y_ (Yl.jX rfl rfl rfl OH Pk) rfl ?_|refine bF.y_ (Yl.jY rfl rfl rfl OI) rfl ?_|refine bF.y_ (Yl.gH rfl rfl rfl rfl) rfl ?_|refine bF.y_ (Yl.ed Tryz.underlying9 rfl rfl rfl Pi) rfl ?_|refine bF.y_ (Yl.dC Tryz.underlying9 rfl rfl rfl Pi) rfl ?_|refine bF.y_ (Yl.eW Tryz.underlying9 rfl rfl rfl rfl rfl Pi Pi) rfl ?_|refine bF.y_ (Yl.cZ rfl rfl rfl rfl rfl rfl Pi) rfl ?_|refine bF.y_ (Yl.nT Tryz.underlying9 rfl) rfl ?_));exact hk_.out)):g:=hw ⟨h⟩
theorem er {vs cs:List Value} (h:Cells vs cs:=by repeat(first|exact Cells.nil|exact App.nil|(with_reducible apply Cells.agg)|apply Cells.one|apply App.cons)):Cells vs cs:=h
theorem pn {v:Value} {l l':List Value} {j:Nat} (h:fX v l j l':=by(repeat(first|exact fX.zero|apply fX.succ))):fX v l j l':=h
theorem aH {q q':bu} {M M':List bu} (h:Up q q' M M':=by repeat(first|with_reducible exact Up.head|apply Up.tail)):Up q q' M M':=h
theorem bz {M M':List bu} (h:M'.Sublist M:=by repeat(first|with_reducible exact List.Sublist.refl _|exact List.nil_sublist _|(with_reducible refine List.Sublist.cons_cons _ ?_)|((with_reducible refine nC ?_ ?_ ?_ ?_);rfl;(first|rfl|simp);(first|rfl|simp))|refine List.Sublist.cons _ ?_)):M'.Sublist M:=h
theorem aU {R R':List (World→Prop)} (h:∀p,p∈R'→p∈R:=by repeat(first|exact vz|refine rO OJ ?_)):∀p,p∈R'→p∈R:=h
variable {l:List Int} {M:List bu} {R:List (World→Prop)} {w:World} {p:World→Prop} {xs:List cv} {k:Nat} {a:Int} {i:Nat} {w0 wr:World} {rb e1 e2 e3 e4 sb n:Nat} {E1 E2 E3 E4:List Int} {ov:Value}
theorem ak (h:p∈R:=by repeat(first|with_reducible exact List.mem_cons_self|apply List.mem_cons_of_mem)):p∈R:=h
theorem nW (h:Ext w∈R:=by repeat(first|with_reducible exact List.mem_cons_self|apply List.mem_cons_of_mem)):∀w',Ok M R w'→w.heap.size≤w'.heap.size:=fun w' hw=>(show Ext w w' from hw.get h).size
theorem Ok.own {B T s n:Nat} {v:Value} {xs:List Value} (h:Ok M R w) (hm:bu.own B T s v n xs∈M:=by repeat(first|with_reducible exact List.mem_cons_self|apply List.mem_cons_of_mem)):w.ownsRow B T s v n xs:=(h.m _ hm).1
theorem Ok.at (h:Ok M R w) (hm:p∈R:=by repeat(first|with_reducible exact List.mem_cons_self|apply List.mem_cons_of_mem)):p w:=h.get hm
theorem A6 (h:∀r,r∈R→r w) (hm:p∈R:=by repeat(first|with_reducible exact List.mem_cons_self|apply List.mem_cons_of_mem)):p w:=h p hm
theorem bO {q:bu} {M:List bu} (h:q∈M:=by repeat(first|with_reducible exact List.mem_cons_self|apply List.mem_cons_of_mem)):q∈M:=h
theorem jH {q:bu} {M M':List bu} (h:Rm q M M':=by(repeat(first|with_reducible exact Rm.head|apply Rm.tail))):Rm q M M':=h
def jR (l:List Int) (i:Int) (op:Int):List Int:=
 let l1:=if eG op then l++[i]else l
 if op=11∧0<l1.length then l1.dropLast else l1
def aD (xs:List cv):Nat→List Int
 |0=>[-1]
 |k+1=>jR (aD xs k) k (ix xs k).op
theorem Eo (l:List Int) (i op:Int):(jR l i op).length≤l.length+1:=by
 unfold jR
 dsimp only
 split<;>split<;>simp<;>omega
theorem nA (xs:List cv) (k:Nat):(aD xs k).length≤k+1:=by
 induction k with
 |zero=>simp[aD]
 |succ k ih=>have:=Eo (aD xs k) k (ix xs k).op;simp only[aD];omega
theorem oE (xs:List cv) (v:Value) (at_:Nat) (w:World) (_hat:at_≤xs.length) (hb:Body w v xs):
  Calls G.P 58 #[v,.int .i64 at_] w fun e w'=>∃r,e=.returned r∧hU w.heap.size w' r (aD xs at_)∧Ext w w':=by
 obtain⟨p,cap,rfl,hl⟩:=hb.slice
 refine enter (G:=G) func58 rfl ntmps58 rfl ?_
 refine lu ?_
 refine aq.e (bU.buildSlice (cs:=[.int .i64 (-1)]) (e:=3) rfl Pb) rfl ?_
 rintro _ w1 ⟨rfl,hn1⟩
 refine lu ?_
 refine Cd.loop (σ:=Nat×Value) (fun s=>[(0,.slice p xs.length cap),(1,.int .i64 at_),(5,s.2),(6,.int .i64 s.1)]) (fun s wr=>s.1≤at_∧hU w.heap.size wr s.2 (aD xs s.1)∧Ext w wr) (fun s=>at_ - s.1) (0,_) bH
  ⟨Nat.zero_le _,hU.dR hn1 (xs:=[-1]) rfl (Nat.le_refl _) Ph,hn1.ext⟩ ?_
 rintro⟨k,l⟩ wr ⟨hk,hown,hext⟩
 dsimp only at hk hown hext ⊢
 have hlen:=nA xs k
 obtain⟨pl,cl,rfl,hcl,hcm,hg⟩:=aw hown
 by_cases hlt:k<at_
 ·obtain⟨b,off,rfl,-,hI⟩:=hb.at (i:=k) Pi
  have hop:=hext.cell (hI k Pi).op
  refine lu ?_
  refine aq.call rfl rfl rfl (nr _ _) ?_
  rintro _ _ ⟨rfl,rfl⟩
  refine⟨_,rfl,?_⟩
  have hR:aD xs (k+1)=jR (aD xs k) k (ix xs k).op:=rfl
  cases ho:eG (ix xs k).op
  ·by_cases h11:(ix xs k).op=11
   ·by_cases hz:0<(aD xs k).length
    ·refine lu ?_
     obtain⟨g,rfl,hg1,hg2⟩:=hg hz
     refine aq.y (Yl.cZ rfl rfl rfl rfl rfl (i:=(aD xs k).length - 1) Pi Pi) rfl ?_
     refine lu ?_
     have hR':aD xs (k+1)=(aD xs k).dropLast:=by rw[hR,jR,ho];simp[h11,hz]
     refine Fin.next (k+1,_) bH ⟨by omega,?_,hext⟩ Pi
     dsimp only
     rw[hR']
     refine hU.pop ?_ Pi
     rw[show(aD xs k).length - 1+1=(aD xs k).length by omega]
     exact hown
    ·refine lu ?_
     have hR':aD xs (k+1)=aD xs k:=by rw[hR,jR,ho];simp;intro _ h;simp[h]at hz
     refine Fin.next (k+1,_) bH ⟨by omega,by rw[hR'];exact hown,hext⟩ Pi
   ·refine lu ?_
    have hR':aD xs (k+1)=aD xs k:=by rw[hR,jR,ho];simp[h11]
    refine Fin.next (k+1,_) bH ⟨by omega,by rw[hR'];exact hown,hext⟩ Pi
  ·refine lu ?_
   refine aq.e (bU.buildSlice (cs:=[.int .i64 k]) (e:=3) rfl Pb) rfl ?_
   rintro _ w2 ⟨rfl,hn2⟩
   refine aq.e (bU.JR rfl rfl (hown.ext hn2.ext) (by have:=hext.size;have:=hn2.size;omega) (hn2.aW.cell rfl) Pi) rfl ?_
   rintro v3 w3 ⟨hown3,hc3⟩
   have hext3:Ext w w3:=(hext.trans hn2.ext).trans' hc3 (fun i hi h=>by have:=(hown.lt i h).1;omega)
   obtain⟨p3,cl3,rfl,hcl3,hcm3,hg3⟩:=aw hown3
   have hop3:=hext3.cell (hI k Pi).op
   have h11:(ix xs k).op≠11:=by simp[eG]at ho;omega
   refine lu ?_
   have hR':aD xs (k+1)=aD xs k++[(k:Int)]:=by rw[hR,jR,ho];simp[h11]
   refine Fin.next (k+1,_) bH ⟨by omega,by rw[hR'];exact hown3,hext3⟩ Pi
 ·refine lu ?_
  obtain rfl:k=at_:=by omega
  exact Fin.aG rfl rfl ⟨_,rfl,hown,hext⟩
def hZ (l:List Int):Int:=ix l (l.length - 1)
theorem Ep {i op a:Int} (h:a∈jR l i op):a∈l∨a=i:=by
 have h1:a∈(if eG op then l++[i]else l):=by
  unfold jR at h
  dsimp only at h
  by_cases hc:op=11∧0<(if eG op then l++[i]else l).length
  ·rw[if_pos hc]at h;exact(List.dropLast_sublist _).subset h
  ·rw[if_neg hc]at h;exact h
 split at h1
 ·simpa using h1
 ·exact .inl h1
theorem vd (h:a∈aD xs k):-1≤a∧a<k:=by
 induction k with
 |zero=>simp[aD]at h;omega
 |succ k ih=>
  rcases Ep h with h|h
  ·have:=ih h;omega
  ·omega
theorem DA (h:0<l.length):hZ l∈l:=by
 have:=h;clear this
 unfold hZ;rw[cz Pi];exact List.getElem_mem _
theorem HF (h:0<(aD xs k).length):-1≤hZ (aD xs k)∧hZ (aD xs k)<k:=vd (DA h)
def iq (xs:List cv) (h:Nat) (i:Nat):Bool:=decide (h<i∧(ix xs i).op=5∧0<(aD xs i).length∧hZ (aD xs i)=h)
def jt (xs:List cv) (h at_:Nat):Bool:=(PH at_).any (iq xs h)
theorem qI {h at_:Nat} (hn:∀i,i<at_→iq xs h i=false):jt xs h at_=false:=by
 unfold jt
 rw[List.any_eq_false]
 intro i hi
 rw[hn i (List.mem_range.1 hi)];simp
theorem rV {h at_ i:Nat} (hi:i<at_) (hn:iq xs h i=true):jt xs h at_=true:=by
 unfold jt
 rw[List.any_eq_true]
 exact⟨i,List.mem_range.2 hi,hn⟩
theorem Ak (xs:List cv) (v:Value) (h at_:Nat) (w:World) (_hh:h<xs.length) (_hat:at_≤xs.length) (hb:Body w v xs):
  Calls G.P 59 #[v,.int .i64 h,.int .i64 at_] w fun e w'=>e=.returned (.bool (jt xs h at_))∧Ext w w':=by
 obtain⟨p,cap,rfl,hl⟩:=hb.slice
 refine enter (G:=G) func59 rfl ntmps59 rfl ?_
 refine lu ?_
 refine Cd.loop (σ:=Nat) (fun k=>[(0,.slice p xs.length cap),(1,.int .i64 h),(2,.int .i64 at_),(7,.int .i64 k)]) (fun k wr=>h<k∧k≤xs.length∧(∀i,i<k→iq xs h i=false)∧Ext w wr) (fun k=>at_ - k) (h+1) bH
  ⟨by omega,by omega,fun i hi=>by simp[iq];omega,bX.refl _ _⟩ ?_
 rintro k wr ⟨hk,hk2,hn,hext⟩
 by_cases hlt:k<at_
 ·refine lu ?_
  refine aq.call rfl rfl rfl (oE xs _ k wr Pi (hb.ext hext)) ?_
  rintro _ w1 ⟨r,rfl,hown,hext1⟩
  refine⟨_,rfl,?_⟩
  have hx1:Ext w w1:=hext.trans hext1
  obtain⟨b,off,rfl,-,hI⟩:=hb.at (i:=k) Pi
  have hop:=hx1.cell (hI k Pi).op
  obtain⟨pr,cr,rfl,hcr,hcm,hg⟩:=aw hown
  have hnext:iq xs h k=false→∀i,i<k+1→iq xs h i=false:=fun hf i hi=>by
   by_cases e:i=k
   ·subst e;exact hf
   ·exact hn i Pi
  have hlen:=nA xs k
  by_cases h5:(ix xs k).op=5
  ·by_cases hz:0<(aD xs k).length
   ·obtain⟨g,rfl,hg1,hg2⟩:=hg hz
    have hc:=hown.get (i:=(aD xs k).length - 1) Pi
    refine lu ?_
    refine aq.yg rfl (Yl.gn rfl rfl rfl rfl rfl (i:=(aD xs k).length - 1) Pi Pi) rfl ?_
    by_cases he:ix (aD xs k) ((aD xs k).length - 1)=h
    ·refine lu ?_
     refine Fin.aG rfl rfl ⟨?_,hx1⟩
     rw[rV hlt (by simp[iq,hk,h5,hz,hZ,he])]
    ·refine lu ?_
     refine Fin.next (k+1) bH ⟨by omega,by omega,hnext ?_,hx1⟩ Pi
     simp[iq,hZ,he]
   ·refine lu ?_
    refine Fin.next (k+1) bH ⟨by omega,by omega,hnext ?_,hx1⟩ Pi
    simp only[iq,decide_eq_false_iff_not];omega
  ·refine lu ?_
   refine Fin.next (k+1) bH ⟨by omega,by omega,hnext ?_,hx1⟩ Pi
   simp[iq,h5]
 ·refine lu ?_
  refine Fin.aG rfl rfl ⟨?_,hext⟩
  rw[qI (fun i hi=>hn i Pi)]
def iw (xs:List cv) (i:Nat):Option (Int×Int):=
 let l:=aD xs i
 let h:=hZ l
 if l.length=0 then some (i,16)
 else if(ix xs i).op=5∧(h<0∨(ix xs h.toNat).op≠4∨jt xs h.toNat i=true)then some (i,16)
 else if eG (ix xs i).op=true∧32≤l.length then some (i,6)
 else none
def jy (xs:List cv):Nat→Nat→Int×Int
 |0,i=>if 0<(aD xs i).length then(i,3)else(0,0)
 |f+1,i=>match iw xs i with
  |some r=>r
  |none=>jy xs f (i+1)
def fN (xs:List cv):Int×Int:=jy xs xs.length 0
theorem so (xs:List cv) (v:Value) (w:World) (hb:Body w v xs):
  Calls G.P 34 #[v] w fun e w'=>e=.returned (.tuple #[.int .i64 (fN xs).1,.int .i64 (fN xs).2])∧Ext w w':=by
 obtain⟨p,cap,rfl,hl⟩:=hb.slice
 refine enter (G:=G) func34 rfl ntmps34 rfl ?_
 refine lu ?_
 refine Cd.loop (σ:=Nat) (fun k=>[(0,.slice p xs.length cap),(4,.int .i64 k)]) (fun k wr=>k≤xs.length∧fN xs=jy xs (xs.length - k) k∧Ext w wr) (fun k=>xs.length - k) 0 bH
  ⟨Nat.zero_le _,rfl,bX.refl _ _⟩ ?_
 rintro k wr ⟨hk,hn,hext⟩
 by_cases hlt:k<xs.length
 ·rw[show xs.length - k=(xs.length - (k+1))+1 by omega,jy]at hn
  refine lu ?_
  refine aq.call rfl rfl rfl (oE xs _ k wr Pi (hb.ext hext)) ?_
  rintro _ w1 ⟨r,rfl,hown,hext1⟩
  refine⟨_,rfl,?_⟩
  have hx1:Ext w w1:=hext.trans hext1
  obtain⟨b,off,rfl,-,hI⟩:=hb.at hlt
  have hop:=hx1.cell (hI k hlt).op
  obtain⟨pr,cr,rfl,hcr,hcm,hg⟩:=aw hown
  have hlen:=nA xs k
  by_cases hz:0<(aD xs k).length
  ·obtain⟨g,rfl,hg1,hg2⟩:=hg hz
   have hc:=hown.get (i:=(aD xs k).length - 1) Pi
   have hlast:=HF hz
   unfold hZ at hlast
   refine lu ?_
   refine aq.y (Yl.gn rfl rfl rfl rfl rfl (i:=(aD xs k).length - 1) Pi Pi) rfl ?_
   have hz':(aD xs k).length≠0:=by omega
   have hck:iw xs k=if(ix xs k).op=5∧(ix (aD xs k) ((aD xs k).length - 1)<0∨(ix xs (ix (aD xs k) ((aD xs k).length - 1)).toNat).op≠4∨jt xs (ix (aD xs k) ((aD xs k).length - 1)).toNat k=true)then some ((k:Int),16)
     else if eG (ix xs k).op=true∧32≤(aD xs k).length then some ((k:Int),6)else none:=by
    unfold iw;dsimp only;rw[if_neg hz'];rfl
   generalize ix (aD xs k) ((aD xs k).length - 1)=hd at*
   by_cases h5:(ix xs k).op=5
   ·have ho:eG (ix xs k).op=false:=by rw[h5];rfl
    by_cases hneg:hd<0
    ·rw[if_pos ⟨h5,.inl hneg⟩]at hck
     rw[hck]at hn
     refine lu ?_
     exact Mj
    ·obtain⟨h,rfl⟩:=PJ (Int.not_lt.1 hneg)
     simp only[PZ]at hck
     have hoph:=hx1.cell (hI h Pi).op
     by_cases h4:(ix xs h).op=4
     ·refine lu ?_
      refine aq.xg rfl rfl rfl rfl (Ak xs _ h k w1 Pi Pi (hb.ext hx1)) ?_
      rintro _ w2 ⟨rfl,hext2⟩
      refine⟨_,rfl,?_⟩
      have hx2:Ext w w2:=hx1.trans hext2
      have hop2:=hx2.cell (hI k hlt).op
      cases hel:jt xs h k with
      |true=>
       rw[if_pos ⟨h5,.inr (.inr hel)⟩]at hck
       rw[hck]at hn
       refine lu ?_
       exact Fin.ie rfl rfl rfl ⟨by rw[hn],hx2⟩
      |false=>
       rw[if_neg (by simp[h4,hel]),if_neg (by simp[ho])]at hck
       rw[hck]at hn
       refine lu ?_
       refine aq.call rfl rfl rfl (nr _ _) ?_
       rintro _ _ ⟨rfl,rfl⟩
       refine⟨_,rfl,?_⟩
       rw[ho]
       refine lu ?_
       exact Fin.next (k+1) bH ⟨by omega,hn,hx2⟩ Pi
     ·rw[if_pos ⟨h5,.inr (.inl h4)⟩]at hck
      rw[hck]at hn
      refine lu ?_
      exact Mj
   ·rw[if_neg (by simp[h5])]at hck
    refine lu ?_
    refine aq.call rfl rfl rfl (nr _ _) ?_
    rintro _ _ ⟨rfl,rfl⟩
    refine⟨_,rfl,?_⟩
    cases ho:eG (ix xs k).op with
    |true=>
     by_cases h32:32≤(aD xs k).length
     ·rw[if_pos ⟨ho,h32⟩]at hck
      rw[hck]at hn
      refine lu ?_
      exact Mj
     ·rw[if_neg (by simp[h32])]at hck
      rw[hck]at hn
      refine lu ?_
      exact Fin.next (k+1) bH ⟨by omega,hn,hx1⟩ Pi
    |false=>
     rw[if_neg (by simp[ho])]at hck
     rw[hck]at hn
     refine lu ?_
     exact Fin.next (k+1) bH ⟨by omega,hn,hx1⟩ Pi
  ·have hz':(aD xs k).length=0:=by omega
   have hck:iw xs k=some ((k:Int),16):=by simp only[iw,hz',if_true]
   rw[hck]at hn
   refine lu ?_
   exact Mj
 ·obtain rfl:k=xs.length:=by omega
  rw[show xs.length - xs.length=0 by omega,jy]at hn
  refine lu ?_
  refine aq.call rfl rfl rfl (oE xs _ xs.length wr Pi (hb.ext hext)) ?_
  rintro _ w1 ⟨r,rfl,hown,hext1⟩
  refine⟨_,rfl,?_⟩
  have hx1:Ext w w1:=hext.trans hext1
  obtain⟨pr,cr,rfl,hcr,hcm,hg⟩:=aw hown
  by_cases hz:0<(aD xs xs.length).length
  ·rw[if_pos hz]at hn
   refine lu ?_
   exact Mj
  ·rw[if_neg hz]at hn
   refine lu ?_
   exact Mj
def fi (xs:List cv):Nat→List Int
 |0=>PL xs.length (-1)
 |k+1=>if(ix xs k).op=11∧0≤hZ (aD xs k)then(fi xs k).set (hZ (aD xs k)).toNat k else fi xs k
def fZ (xs:List cv):Nat→List Int
 |0=>PL xs.length (-1)
 |k+1=>if(ix xs k).op=5 then(fZ xs k).set (hZ (aD xs k)).toNat k else fZ xs k
theorem Bf (xs:List cv) (k:Nat):(fi xs k).length=xs.length:=by
 induction k with
 |zero=>simp[fi]
 |succ k ih=>simp only[fi];split<;>simp[ih]
theorem zI (xs:List cv) (k:Nat):(fZ xs k).length=xs.length:=by
 induction k with
 |zero=>simp[fZ]
 |succ k ih=>simp only[fZ];split<;>simp[ih]
def Cz (xs:List cv):List Int:=fi xs xs.length
def yc (xs:List cv):List Int:=fZ xs xs.length
def Hm (xs:List cv) (a:Nat) (l:Int):Option Int:=
 let r:=aD xs a
 if l<0∨(r.length:Int)≤l then none
 else
  let h:=ix r (r.length - 1 - l.toNat)
  if h<0 then some ((xs.length:Int) - 1)
  else if(ix xs h.toNat).op=3 then some (h+1)
  else some (ix (Cz xs) h.toNat)
def Iw (xs:List cv) (p:Nat):Bool:=p==0 || (ix xs p).op==11 || I4 (ix xs (p - 1)).op
def JJ (xs:List cv) (p:Nat) (l:Int):Int:=(Hm xs p l).getD (-1)
def zH (xs:List cv) (p:Int):Nat→Nat→Int
 |0,_=>-1
 |f+1,i=>if ix (yc xs) i=p then ix (Cz xs) i else zH xs p f (i+1)
def I3 (xs:List cv) (p:Nat):Int:=zH xs p xs.length 0
def GQ (x:cv) (tv lv:Value):List Value:=[.int .i64 x.op,.int .i64 x.a,.int .i64 x.b,.int .u64 x.n,.int .i64 x.kind,.int .i64 x.val,.int .i64 x.index,tv,lv]
theorem nQ.cells {F:Nat→Prop} {w:World} {b o:Nat} {x:cv} (h:nQ F w b o x):∃pt ct pl cl,ai F w (.slice pt x.types.length ct) x.types∧ai F w (.slice pl x.labels.length cl) x.labels∧
  ∀j,j<9→w.cell? ⟨b,o+j,none⟩=(GQ x (.slice pt x.types.length ct) (.slice pl x.labels.length cl))[j]?:=by
 obtain⟨tv,h1,h2⟩:=h.types
 obtain⟨lv,h3,h4⟩:=h.labels
 obtain⟨pt,ct,rfl,_⟩:=h2.slice
 obtain⟨pl,cl,rfl,_⟩:=h4.slice
 refine⟨pt,ct,pl,cl,h2,h4,fun j hj=>?_⟩
 match j,hj with
 |0,_=>exact h.op
 |1,_=>exact h.a
 |2,_=>exact h.b
 |3,_=>exact h.n
 |4,_=>exact h.kind
 |5,_=>exact h.val
 |6,_=>exact h.index
 |7,_=>exact h1
 |8,_=>exact h3
def HW (xs:List cv) (p:Nat):List Int:=
 let x:=ix xs p
 if x.op=4 then(if 0≤ix (yc xs) p then[(p:Int)+1,ix (yc xs) p+1]else[(p:Int)+1,ix (Cz xs) p])
 else if x.op=5 then[I3 xs p]
 else if x.op=12 then[JJ xs p x.a]
 else if x.op=13 then[JJ xs p x.a,(p:Int)+1]
 else if x.op=14 then x.labels.map (JJ xs p)++[JJ xs p x.a]
 else if x.op=15∨x.op=0 then[]
 else if xs.length≤p+1 then[]else[(p:Int)+1]
def Bh (xs:List cv):Nat→List (Nat×Nat)
 |0=>[]
 |k+1=>
  let l:=if Iw xs k then Bh xs k++[(k,0)]else Bh xs k
  l.set (l.length - 1) ((ix l (l.length - 1)).1,k+1)
def J9 (fb:List (Nat×Nat)) (nx:Nat→List Int) (lv:Nat→Bool):List Bk:=(PH fb.length).map (fun j=>⟨(ix fb j).1,(ix fb j).2,nx j,lv j⟩)
def JC (fb:List (Nat×Nat)) (q:Int):Int:=Le (J9 fb (fun _=>[]) (fun _=>false)) q
def Kx (xs:List cv) (j:Nat):List Int:=HW xs ((ix (Bh xs xs.length) j).2 - 1)
def HI (xs:List cv) (j:Nat):List Int:=(Kx xs j).map (JC (Bh xs xs.length))
def JT (xs:List cv):Prop:=∃j,j<(Bh xs xs.length).length∧∃a∈Kx xs j,a<0
def Gz (xs:List cv):List Bk:=
 let g:=J9 (Bh xs xs.length) (HI xs) (fun _=>false)
 J9 (Bh xs xs.length) (HI xs) (fun j=>(Ir g).contains (j:Int))
def c0 (p:Nat×Nat) (nv:Value):List Value:=[.int .i64 p.1,.int .i64 p.2,nv,.bool false]
theorem yL (xs:List cv) (k:Nat):(aD xs k).Pairwise (·< ·):=by
 induction k with
 |zero=>simp[aD]
 |succ k ih=>
  have h1:∀l:List Int,l=aD xs k→((if eG (ix xs k).op then l++[(k:Int)]else l):List Int).Pairwise (·< ·):=by
   rintro l rfl
   split
   ·rw[List.pairwise_append]
    refine⟨ih,by simp,fun a ha b hb=>?_⟩
    simp at hb;subst hb;exact(vd ha).2
   ·exact ih
  have h2:∀l:List Int,l.Pairwise (·< ·)→(if(ix xs k).op=11∧0<l.length then l.dropLast else l).Pairwise (·< ·):=by
   intro l hl
   split
   ·exact hl.sublist (List.dropLast_sublist _)
   ·exact hl
  exact h2 _ (h1 _ rfl)
theorem Ef {k i j:Nat} (hi:i<(aD xs k).length) (hj:j<(aD xs k).length) (h:ix (aD xs k) i=ix (aD xs k) j):i=j:=by
 rw[cz hi,cz hj]at h
 have hs:=yL xs k
 rw[List.pairwise_iff_getElem]at hs
 rcases Nat.lt_trichotomy i j with h1|h1|h1
 ·have:=hs i j hi hj h1;omega
 ·exact h1
 ·have:=hs j i hj hi h1;omega
theorem rU (xs:List cv) (h i:Nat):jt xs h (i+1)=(jt xs h i || iq xs h i):=by
 unfold jt;rw[List.range_succ,List.any_append];simp
def lU (xs:List cv) (a:Int) (i:Nat):Bool:=decide (0≤a) && jt xs a.toNat i
theorem om (h:(ix xs i).op≠5):lU xs a (i+1)=lU xs a i:=by
 unfold lU;rw[rU]
 have:iq xs a.toNat i=false:=by simp[iq,h]
 rw[this,Bool.or_false]
theorem Dx:lU xs (i:Int) (i+1)=false:=by
 unfold lU
 rw[qI (fun j hj=>by simp only[iq,decide_eq_false_iff_not,PZ];omega)]
 simp
theorem Bm {i h:Nat} (h5:(ix xs i).op=5) (hz:0<(aD xs i).length) (hl:hZ (aD xs i)=h) (hi:h<i):lU xs (h:Int) (i+1)=true:=by
 unfold lU
 rw[rV (i:=i) Pi (by simp[iq,h5,hz,hl,hi])]
 simp
theorem tH {a:Int} (hl:hZ (aD xs i)≠a):lU xs a (i+1)=lU xs a i:=by
 unfold lU
 by_cases h0:0≤a
 ·rw[rU]
  have:iq xs a.toNat i=false:=by
   simp only[iq,decide_eq_false_iff_not]
   rintro⟨_,_,_,h⟩
   rw[Int.toNat_of_nonneg h0]at h;exact hl h
  rw[this,Bool.or_false]
 ·simp[h0]
theorem qf (h:eG (ix xs i).op=true):aD xs (i+1)=aD xs i++[(i:Int)]:=by
 have h11:(ix xs i).op≠11:=by simp[eG]at h;omega
 show jR _ _ _=_
 unfold jR;simp[h,h11]
theorem rJ (h:(ix xs i).op=11) (hz:0<(aD xs i).length):aD xs (i+1)=(aD xs i).dropLast:=by
 show jR _ _ _=_
 unfold jR;simp[h,eG]
 intro h0;simp[h0]at hz
theorem kv (h:eG (ix xs i).op=false) (h11:(ix xs i).op≠11):aD xs (i+1)=aD xs i:=by
 show jR _ _ _=_
 unfold jR;simp[h,h11]
theorem AD {xs:List cv}:∀(i:Nat),(∀j,j<i→iw xs j=none)→(aD xs i).length≤32
 |0,_=>by simp[aD]
 |i+1,h=>by
  have ih:=AD i (fun j hj=>h j Pi)
  have hc:=h i Pi
  cases ho:eG (ix xs i).op with
  |true=>
   rw[qf ho,Py]
   unfold iw at hc
   dsimp only at hc
   split at hc
   ·cases hc
   ·split at hc
    ·cases hc
    ·split at hc
     ·cases hc
     ·rename_i h32;simp only[ho,true_and]at h32;simp;omega
  |false=>
   by_cases h11:(ix xs i).op=11
   ·by_cases hz:0<(aD xs i).length
    ·rw[rJ h11 hz];simp;omega
    ·have:aD xs (i+1)=aD xs i:=by
      show jR _ _ _=_
      unfold jR;simp[ho];intro _ h;simp[h]at hz
     rw[this];exact ih
   ·rw[kv ho h11];exact ih
def jg (xs:List cv):Nat→List Int
 |0=>PL xs.length (-1)
 |k+1=>(jg xs k).set k (aD xs k).length
def kj (xs:List cv):Nat→List Int
 |0=>PL xs.length (-1)
 |k+1=>(kj xs k).set k (hZ (aD xs k))
theorem yb (xs:List cv) (k:Nat):(jg xs k).length=xs.length:=by induction k with
 |zero=>simp[jg]
 |succ k ih=>simp[jg,ih]
theorem zN (xs:List cv) (k:Nat):(kj xs k).length=xs.length:=by induction k with
 |zero=>simp[kj]
 |succ k ih=>simp[kj,ih]
def GI (xs:List cv):List Int:=jg xs xs.length
def Ie (xs:List cv):List Int:=kj xs xs.length
theorem Fin.qW {fn:Func} {R:Ending→World→Prop} {n:Nat} {E:Env} {w:World} {a T t u b Tb s:Nat} {ti:TI} {v x:Value} {cs:List Value} (hr:fn.results=#[.cell a T,.tmp t,.tmp u]) (ha:lk E a=some (.pointer (some ⟨b,0,none⟩))) (hT:G.ty T=some ti) (hag:ti.agg=true) (hsz:ti.size=s) (hb:gQ w b cs Tb) (hl:cs.length=s)
  (hv:lk E t=some v) (hx:lk E u=some x) (hR:R (.returned (.tuple #[.agg cs.toArray,v,x])) w):Fin (bodyPost G.P fn R) n .ret E w:=
 Fin.qN (.inl rfl) (fun ac hac=>by
  have h1:=(G.iT T ti hT).agg w
  have h2:=(G.iT T ti hT).size w
  rw[hag]at h1
  subst hl
  have h3:=run_loadCells (P:=G.P) (w:=w) (bk:=b) cs 0 0 #[] (fun j hj=>by
   have:=hb.cell (j:=j) (Pw hj)
   rw[Pw hj,←this];simp)
  have g1:ac.tmps[a]?.getD undef=.pointer (some ⟨b,0,none⟩):=by have:=(hac.eq a _ ha).2;simpa using this
  have g2:ac.tmps[t]?.getD undef=v:=by have:=(hac.eq t _ hv).2;simpa using this
  have g3:ac.tmps[u]?.getD undef=x:=by have:=(hac.eq u _ hx).2;simpa using this
  simp[results,hr,g1,g2,g3,asAddr,loadVar,h1,h2,hsz,loadCells,h3]) hR
abbrev sl (g n:Nat):Value:=.slice (some ⟨g,0,none⟩) n n
theorem oV (n:Nat) (w:World) (_hn:n≤1000000000000):
  Calls G.P 79 #[.int .i64 n] w fun e w'=>e=.returned (sl w.heap.size n)∧hU w.heap.size w' (sl w.heap.size n) (PL n (-1))∧Ext w w'∧w.heap.size<w'.heap.size:=by
 refine enter (G:=G) func79 rfl ntmps79 rfl ?_
 refine lu ?_
 refine aq.e (bU.make (base:=w.heap.size) rfl rfl rfl rfl (by show 8*n≤_;omega) O4 (Nat.le_refl _)) rfl ?_
 rintro _ w1 ⟨rfl,hm1,hx1,hsz1⟩
 have hm2:hU w.heap.size w1 (sl w.heap.size n) (PL n 0):=by
  have h3:w1.ownsRow w.heap.size 3 1 (sl w.heap.size n) n (madeCells #[.int .i64 0] (n*1)).toList:=hm1
  rw[Nat.mul_one,toList_madeCells_one]at h3
  unfold hU;simpa using h3
 refine lu ?_
 refine Cd.loop (σ:=Nat) (fun s=>[(3,sl w.heap.size n),(8,.int .i64 n),(9,.int .i64 s)]) (fun s wr=>s≤n∧hU w.heap.size wr (sl w.heap.size n) (PL s (-1)++PL (n - s) 0)∧Ext w wr∧w.heap.size<wr.heap.size) (fun s=>n - s) 0 bH ⟨Nat.zero_le _,by simpa using hm2,hx1,hsz1⟩ ?_
 rintro s wr ⟨hs,hown,hext,hsz⟩
 by_cases hlt:s<n
 ·have hcl:=hown.get (i:=s) Pe
  refine lu ?_
  refine aq.e0 (bU.store rfl rfl rfl rfl rfl hcl (hown.free _)) ?_
  rintro _ _ rfl
  obtain⟨hs1,hs2⟩:=hown.set s (-1)
  refine lu ?_
  refine Fin.next (s+1) bH ⟨by omega,?_,hext.trans' hs2 (fun i hi e=>by omega),by simpa[World.setCell]using hsz⟩ Pi
  have e:(PL s (-1:Int)++PL (n - s) 0).set s (-1)=PL (s+1) (-1)++PL (n - (s+1)) 0:=by
   rw[List.set_append_right _ _ Pj,show n - s=(n - (s+1))+1 by omega,List.replicate_succ,List.length_replicate,Nat.sub_self,List.set_cons_zero,List.replicate_succ' (n:=s)]
   simp
  rw[e]at hs1;exact hs1
 ·obtain rfl:s=n:=by omega
  refine lu ?_
  refine Fin.aG rfl rfl ⟨rfl,by simpa using hown,hext,hsz⟩
structure LS (w0 wr:World) (rb e1 e2 e3 e4 sb n:Nat) (E1 E2 E3 E4:List Int) (ov:Value) (m:Nat) (f:Nat→List Value):Prop where
 ext:Ext w0 wr
 ord:w0.heap.size≤rb∧rb<e1∧e1<e2∧e2<e3∧e3<e4∧e4<sb∧sb<wr.heap.size
 res:gQ wr rb [.slice none 0 0,.slice none 0 0,.slice none 0 0,.slice none 0 0] 135
 sh:gQ wr sb [sl e1 n,sl e2 n,sl e3 n,sl e4 n] 135
 o1:hU w0.heap.size wr (sl e1 n) E1
 o2:hU w0.heap.size wr (sl e2 n) E2
 o3:hU w0.heap.size wr (sl e3 n) E3
 o4:hU w0.heap.size wr (sl e4 n) E4
 op:iE w0.heap.size 173 2 wr ov m f
 ob:∀k,ov.ownBlock=some k→sb<k
theorem LS.aN {S:Nat→Prop} {w0 wr w':World} {rb e1 e2 e3 e4 sb n:Nat} {E1 E2 E3 E4:List Int} {ov:Value} {m:Nat} {f:Nat→List Value} (h:LS w0 wr rb e1 e2 e3 e4 sb n E1 E2 E3 E4 ov m f) (hc:bX S wr w') (hS:∀k,S k→sb<k∧ov.ownBlock≠some k):LS w0 w' rb e1 e2 e3 e4 sb n E1 E2 E3 E4 ov m f:=by
 have ho:=h.ord
 have key:∀e,e≤sb→∀k,(sl e n).ownBlock=some k→¬S k:=fun e he k hk hs=>by
  have e2:e=k:=Option.some.inj hk
  have:=(hS k hs).1;omega
 exact⟨h.ext.trans' hc (fun i hi hs=>by have:=(hS i hs).1;omega),by have:=hc.size;omega,h.res.aN hc (fun hs=>by have:=(hS _ hs).1;omega),h.sh.aN hc (fun hs=>by have:=(hS _ hs).1;omega),
  cm h.o1 hc (key e1 Pi),cm h.o2 hc (key e2 Pi),cm h.o3 hc (key e3 Pi),cm h.o4 hc (key e4 Pi),h.op.aN hc (fun k hk hs=>(hS k hs).2 hk),h.ob⟩
theorem LS.Kg {m:Nat} {f:Nat→List Value} (h:LS w0 wr rb e1 e2 e3 e4 sb n E1 E2 E3 E4 ov m f) (i:Nat) (a:Int):
  LS w0 (wr.setCell ⟨e1,0+i,none⟩ (.int .i64 a)) rb e1 e2 e3 e4 sb n (E1.set i a) E2 E3 E4 ov m f:=by
 obtain⟨hs1,hs2⟩:=h.o1.set i a
 have hz:(wr.setCell ⟨e1,0+i,none⟩ (.int .i64 a)).heap.size=wr.heap.size:=by simp[World.setCell]
 have ho:=h.ord
 exact⟨h.ext.trans' hs2 (fun q hq e=>by omega),by rw[hz];exact ho,h.res.aN hs2 (fun e=>by omega),h.sh.aN hs2 (fun e=>by omega),hs1,cm h.o2 hs2 (fun q hq e=>by have e2:e2=q:=Option.some.inj hq;have:=h.ord;omega),cm h.o3 hs2 (fun q hq e=>by have e2:e3=q:=Option.some.inj hq;have:=h.ord;omega),cm h.o4 hs2 (fun q hq e=>by have e2:e4=q:=Option.some.inj hq;have:=h.ord;omega),h.op.aN hs2 (fun q hq e=>by have:=h.ob q hq;omega),h.ob⟩
theorem LS.Kh {m:Nat} {f:Nat→List Value} (h:LS w0 wr rb e1 e2 e3 e4 sb n E1 E2 E3 E4 ov m f) (i:Nat) (a:Int):
  LS w0 (wr.setCell ⟨e2,0+i,none⟩ (.int .i64 a)) rb e1 e2 e3 e4 sb n E1 (E2.set i a) E3 E4 ov m f:=by
 obtain⟨hs1,hs2⟩:=h.o2.set i a
 have hz:(wr.setCell ⟨e2,0+i,none⟩ (.int .i64 a)).heap.size=wr.heap.size:=by simp[World.setCell]
 have ho:=h.ord
 exact⟨h.ext.trans' hs2 (fun q hq e=>by omega),by rw[hz];exact ho,h.res.aN hs2 (fun e=>by omega),h.sh.aN hs2 (fun e=>by omega),cm h.o1 hs2 (fun q hq e=>by have e2:e1=q:=Option.some.inj hq;have:=h.ord;omega),hs1,cm h.o3 hs2 (fun q hq e=>by have e2:e3=q:=Option.some.inj hq;have:=h.ord;omega),cm h.o4 hs2 (fun q hq e=>by have e2:e4=q:=Option.some.inj hq;have:=h.ord;omega),h.op.aN hs2 (fun q hq e=>by have:=h.ob q hq;omega),h.ob⟩
theorem LS.Ki {m:Nat} {f:Nat→List Value} (h:LS w0 wr rb e1 e2 e3 e4 sb n E1 E2 E3 E4 ov m f) (i:Nat) (a:Int):
  LS w0 (wr.setCell ⟨e3,0+i,none⟩ (.int .i64 a)) rb e1 e2 e3 e4 sb n E1 E2 (E3.set i a) E4 ov m f:=by
 obtain⟨hs1,hs2⟩:=h.o3.set i a
 have hz:(wr.setCell ⟨e3,0+i,none⟩ (.int .i64 a)).heap.size=wr.heap.size:=by simp[World.setCell]
 have ho:=h.ord
 exact⟨h.ext.trans' hs2 (fun q hq e=>by omega),by rw[hz];exact ho,h.res.aN hs2 (fun e=>by omega),h.sh.aN hs2 (fun e=>by omega),cm h.o1 hs2 (fun q hq e=>by have e2:e1=q:=Option.some.inj hq;have:=h.ord;omega),cm h.o2 hs2 (fun q hq e=>by have e2:e2=q:=Option.some.inj hq;have:=h.ord;omega),hs1,cm h.o4 hs2 (fun q hq e=>by have e2:e4=q:=Option.some.inj hq;have:=h.ord;omega),h.op.aN hs2 (fun q hq e=>by have:=h.ob q hq;omega),h.ob⟩
theorem LS.Kj {m:Nat} {f:Nat→List Value} (h:LS w0 wr rb e1 e2 e3 e4 sb n E1 E2 E3 E4 ov m f) (i:Nat) (a:Int):
  LS w0 (wr.setCell ⟨e4,0+i,none⟩ (.int .i64 a)) rb e1 e2 e3 e4 sb n E1 E2 E3 (E4.set i a) ov m f:=by
 obtain⟨hs1,hs2⟩:=h.o4.set i a
 have hz:(wr.setCell ⟨e4,0+i,none⟩ (.int .i64 a)).heap.size=wr.heap.size:=by simp[World.setCell]
 have ho:=h.ord
 exact⟨h.ext.trans' hs2 (fun q hq e=>by omega),by rw[hz];exact ho,h.res.aN hs2 (fun e=>by omega),h.sh.aN hs2 (fun e=>by omega),cm h.o1 hs2 (fun q hq e=>by have e2:e1=q:=Option.some.inj hq;have:=h.ord;omega),cm h.o2 hs2 (fun q hq e=>by have e2:e2=q:=Option.some.inj hq;have:=h.ord;omega),cm h.o3 hs2 (fun q hq e=>by have e2:e3=q:=Option.some.inj hq;have:=h.ord;omega),hs1,h.op.aN hs2 (fun q hq e=>by have:=h.ob q hq;omega),h.ob⟩
theorem LS.Kk {g cap m:Nat} {f:Nat→List Value} (h:LS w0 wr rb e1 e2 e3 e4 sb n E1 E2 E3 E4 (.slice (some ⟨g,0,none⟩) m cap) m f) {i j:Nat} (hi:i<m) (hj:j<2) (u:Value):
  LS w0 (wr.setCell ⟨g,0+i*2+j,none⟩ u) rb e1 e2 e3 e4 sb n E1 E2 E3 E4 (.slice (some ⟨g,0,none⟩) m cap) m (qj f i ((f i).set j u)):=by
 obtain⟨hs1,hs2⟩:=h.op.set hi hj u
 have hz:(wr.setCell ⟨g,0+i*2+j,none⟩ u).heap.size=wr.heap.size:=by simp[World.setCell]
 have ho:=h.ord
 have hg:=h.ob g rfl
 have key:∀e,e≤sb→∀k,(sl e n).ownBlock=some k→¬k=g:=fun e he k hk hs=>by
  have e2:e=k:=Option.some.inj hk
  omega
 exact⟨h.ext.trans' hs2 (fun q hq e=>by omega),by rw[hz];exact ho,h.res.aN hs2 (fun e=>by omega),h.sh.aN hs2 (fun e=>by omega),
  cm h.o1 hs2 (key e1 Pi),cm h.o2 hs2 (key e2 Pi),cm h.o3 hs2 (key e3 Pi),cm h.o4 hs2 (key e4 Pi),hs1,h.ob⟩
theorem LS.app {w0 wr w':World} {rb e1 e2 e3 e4 sb n:Nat} {E1 E2 E3 E4:List Int} {ov v':Value} {m:Nat} {f f':Nat→List Value} (h:LS w0 wr rb e1 e2 e3 e4 sb n E1 E2 E3 E4 ov m f) (ho:iE w0.heap.size 173 2 w' v' (m+1) f') (hc:bX (fun k=>ov.ownBlock=some k) wr w') (hb:v'.ownBlock=ov.ownBlock∨v'.ownBlock=some wr.heap.size):
  LS w0 w' rb e1 e2 e3 e4 sb n E1 E2 E3 E4 v' (m+1) f':=by
 have hor:=h.ord
 have hn:∀k,k≤sb→ov.ownBlock≠some k:=fun k hk e=>by have:=h.ob k e;omega
 have key:∀e,e≤sb→∀k,(sl e n).ownBlock=some k→¬ov.ownBlock=some k:=fun e he k hk=>by
  have e2:e=k:=Option.some.inj hk
  exact hn k Pi
 refine⟨h.ext.trans' hc (fun i hi hs=>by have:=h.ob i hs;omega),by have:=hc.size;omega,h.res.aN hc (hn _ Pi),h.sh.aN hc (hn _ Pi),
  cm h.o1 hc (key e1 Pi),cm h.o2 hc (key e2 Pi),cm h.o3 hc (key e3 Pi),cm h.o4 hc (key e4 Pi),ho,fun k hk=>?_⟩
 rcases hb with e|e
 ·rw[e]at hk;exact h.ob k hk
 ·rw[e]at hk;cases hk;omega
theorem LS.pop {g cap m:Nat} {f:Nat→List Value} (h:LS w0 wr rb e1 e2 e3 e4 sb n E1 E2 E3 E4 (.slice (some ⟨g,0,none⟩) (m+1) cap) (m+1) f):LS w0 wr rb e1 e2 e3 e4 sb n E1 E2 E3 E4 (.slice (some ⟨g,0,none⟩) m cap) m f:=
 ⟨h.ext,h.ord,h.res,h.sh,h.o1,h.o2,h.o3,h.o4,h.op.pop,h.ob⟩
theorem LS.congr {m:Nat} {f g:Nat→List Value} (h:LS w0 wr rb e1 e2 e3 e4 sb n E1 E2 E3 E4 ov m f) (e:∀i,i<m→f i=g i):LS w0 wr rb e1 e2 e3 e4 sb n E1 E2 E3 E4 ov m g:=
 ⟨h.ext,h.ord,h.res,h.sh,h.o1,h.o2,h.o3,h.o4,h.op.congr e,h.ob⟩
def xz (xs:List cv) (i:Nat) (j:Nat):List Value:=[.int .i64 (ix (aD xs i) j),.bool (lU xs (ix (aD xs i) j) i)]
def EH (w:World) (xs:List cv) (e:Ending) (w':World):Prop:=
  Ext w w'∧(((fN xs).2≠0∧e=.returned (.tuple #[.agg #[.slice none 0 0,.slice none 0 0,.slice none 0 0,.slice none 0 0],.int .i64 (fN xs).1,.int .i64 (fN xs).2]))∨
   ((fN xs).2=0∧∃v1 v2 v3 v4,e=.returned (.tuple #[.agg #[v1,v2,v3,v4],.int .i64 (fN xs).1,.int .i64 (fN xs).2])∧hU w.heap.size w' v1 (Cz xs)∧hU w.heap.size w' v2 (yc xs)∧hU w.heap.size w' v3 (GI xs)∧hU w.heap.size w' v4 (Ie xs)))
theorem FH (h:eG (ix xs i).op=true) (j:Nat) (_hj:j<(aD xs i).length+1):qj (xz xs i) (aD xs i).length [.int .i64 (i:Int),.bool false] j=xz xs (i+1) j:=by
 have h5:(ix xs i).op≠5:=by simp[eG]at h;omega
 unfold xz
 rw[qf h]
 by_cases e:j=(aD xs i).length
 ·subst e
  rw[oQ,tM rfl,Dx]
 ·rw[kM _ _ e,tN Pi,om h5]
theorem DU (h:eG (ix xs i).op=false) (h11:(ix xs i).op≠11) (h5:(ix xs i).op≠5) (j:Nat):xz xs i j=xz xs (i+1) j:=by
 unfold xz
 rw[kv h h11,om h5]
theorem FG {i h:Nat} (h5:(ix xs i).op=5) (hz:0<(aD xs i).length) (hl:hZ (aD xs i)=h) (hi:h<i) (j:Nat) (hj:j<(aD xs i).length):
  qj (xz xs i) ((aD xs i).length - 1) ((xz xs i ((aD xs i).length - 1)).set 1 (.bool true)) j=xz xs (i+1) j:=by
 have hr:aD xs (i+1)=aD xs i:=kv (by rw[h5];rfl) Pi
 have hl':ix (aD xs i) ((aD xs i).length - 1)=h:=hl
 unfold xz
 rw[hr]
 by_cases e:j=(aD xs i).length - 1
 ·subst e
  rw[oQ,hl',Bm h5 hz hl hi];rfl
 ·rw[kM _ _ e,tH (fun e2=>e (Ef hj Pi e2.symm))]
theorem zQ {α:Type} [Inhabited α] {l:List α} {j:Nat} (h:j<l.length - 1):ix l.dropLast j=ix l j:=by
 have:=h;clear this
 rw[cz Pa,cz Pi,List.getElem_dropLast]
theorem CL (h11:(ix xs i).op=11) (hz:0<(aD xs i).length) (j:Nat) (hj:j<(aD xs i).length - 1):xz xs i j=xz xs (i+1) j:=by
 unfold xz
 rw[rJ h11 hz,om Pi,zQ hj]
set_option maxRecDepth 100000 in
theorem DO (xs:List cv) (v:Value) (w:World) (hb:Body w v xs) (_hsm:xs.length≤1000000000):
  Calls G.P 45 #[v] w (EH w xs):=by
 obtain⟨p,cap,rfl,hl⟩:=hb.slice
 refine enter (G:=G) func45 rfl ntmps45 rfl ?_
 refine eM ?_
 refine NB ?_
 rintro _ wa ⟨rfl,hna⟩
 refine eM ?_
 refine aq.call rfl rfl rfl (oV xs.length wa Pi) ?_
 rintro _ w1 ⟨rfl,ho1,hx1,hz1⟩
 refine⟨_,rfl,?_⟩
 refine eM ?_
 refine aq.call rfl rfl rfl (oV xs.length w1 Pi) ?_
 rintro _ w2 ⟨rfl,ho2,hx2,hz2⟩
 refine⟨_,rfl,?_⟩
 refine eM ?_
 refine aq.call rfl rfl rfl (oV xs.length w2 Pi) ?_
 rintro _ w3 ⟨rfl,ho3,hx3,hz3⟩
 refine⟨_,rfl,?_⟩
 refine eM ?_
 refine aq.call rfl rfl rfl (oV xs.length w3 Pi) ?_
 rintro _ w4 ⟨rfl,ho4,hx4,hz4⟩
 refine⟨_,rfl,?_⟩
 refine aq.y (Yl.build (v:=.agg #[sl wa.heap.size xs.length,sl w1.heap.size xs.length,sl w2.heap.size xs.length,sl w3.heap.size xs.length]) rfl (fun _=>by kernel_rfl)) rfl ?_
 refine NB ?_
 rintro _ w5 ⟨rfl,hn5⟩
 refine aq.e0 (bU.bn rfl rfl rfl rfl rfl O3 hn5.aW rfl) ?_
 rintro _ w6 ⟨hb6,hc6,hs6⟩
 refine eM ?_
 refine aq.y (Yl.build (v:=.agg #[.int .i64 (-1),.bool false]) rfl (fun _=>by kernel_rfl)) rfl ?_
 refine aq.e (bU.buildSlice (cs:=[.int .i64 (-1),.bool false]) (e:=173) rfl Pb) rfl ?_
 rintro _ w7 ⟨rfl,hn7⟩
 have hxa:Ext w wa:=hna.ext
 have hza:=hna.size
 have hz5:=hn5.size
 have hz7:=hn7.size
 have h67:bX (fun k=>k=w4.heap.size) w4 w7:=(hn5.ext.any.trans hc6).trans hn7.ext.any
 have hLS:LS w w7 w.heap.size wa.heap.size w1.heap.size w2.heap.size w3.heap.size w4.heap.size xs.length (fi xs 0) (fZ xs 0) (jg xs 0) (kj xs 0) (.slice (some ⟨w6.heap.size,0,none⟩) 1 1) 1 (xz xs 0):=by
  have e17:bX (fun k=>k=w4.heap.size) w1 w7:=(show Ext w1 w4 from(hx2.trans hx3).trans hx4).any.trans h67
  have e27:bX (fun k=>k=w4.heap.size) w2 w7:=(show Ext w2 w4 from hx3.trans hx4).any.trans h67
  have e37:bX (fun k=>k=w4.heap.size) w3 w7:=hx4.any.trans h67
  have key:∀e,e<w4.heap.size→∀k,(sl e xs.length).ownBlock=some k→¬k=w4.heap.size:=fun e he k hk hs=>by
   have e2:e=k:=Option.some.inj hk
   omega
  refine⟨(((((hxa.trans hx1).trans hx2).trans hx3).trans hx4)).trans' h67 (fun q hq e=>by omega),⟨Nat.le_refl _,by omega,by omega,by omega,by omega,by omega,by omega⟩,?_,hb6.aN hn7.ext (fun h=>h),?_,?_,?_,?_,?_,?_⟩
  ·exact(hna.aW.aN hx1 (fun h=>h)).aN e17 (fun e=>by omega)
  ·exact ox (cm ho1 e17 (key _ Pi)) (fun k hk=>by have e2:wa.heap.size=k:=Option.some.inj hk;omega)
  ·exact ox (cm ho2 e27 (key _ Pi)) (fun k hk=>by have e2:w1.heap.size=k:=Option.some.inj hk;omega)
  ·exact ox (cm ho3 e37 (key _ Pi)) (fun k hk=>by have e2:w2.heap.size=k:=Option.some.inj hk;omega)
  ·exact ox (cm ho4 h67 (key _ Pi)) (fun k hk=>by have e2:w3.heap.size=k:=Option.some.inj hk;omega)
  ·refine(iE.dR hn7 Pi).congr (fun i hi=>?_)
   obtain rfl:i=0:=by omega
   rfl
  ·intro k hk
   have e2:w6.heap.size=k:=Option.some.inj hk
   omega
 clear h67 hn7 hn5 hb6 hc6 hna hxa ho1 ho2 ho3 ho4 hx1 hx2 hx3 hx4 hza hz1 hz2 hz3 hz4 hz5 hz7
 generalize w.heap.size=rb at hLS ⊢
 generalize wa.heap.size=e1 at hLS ⊢
 generalize w1.heap.size=e2 at hLS ⊢
 generalize w2.heap.size=e3 at hLS ⊢
 generalize w3.heap.size=e4 at hLS ⊢
 generalize w4.heap.size=sb at hLS ⊢
 refine eM ?_
 refine Cd.loop (σ:=Nat×Value) (fun s=>[(0,.slice p xs.length cap),(2,.pointer (some ⟨rb,0,none⟩)),(5,.int .i64 xs.length),(6,.pointer (some ⟨sb,0,none⟩)),(7,s.2),(24,.slice p xs.length cap),(25,.int .i64 xs.length),(26,.int .i64 s.1)])
  (fun s wr=>s.1≤xs.length∧fN xs=jy xs (xs.length - s.1) s.1∧(∀j,j<s.1→iw xs j=none)∧LS w wr rb e1 e2 e3 e4 sb xs.length (fi xs s.1) (fZ xs s.1) (jg xs s.1) (kj xs s.1) s.2 (aD xs s.1).length (xz xs s.1)) (fun s=>xs.length - s.1) (0,_) bH ⟨Nat.zero_le _,rfl,fun j hj=>by omega,hLS⟩ ?_
 rintro⟨i,ov⟩ wr ⟨hi,hn,hall,hls⟩
 dsimp only at hi hn hall hls ⊢
 have hord:=hls.ord
 have hlen:=nA xs i
 by_cases hlt:i<xs.length
 ·rw[show xs.length - i=(xs.length - (i+1))+1 by omega,jy]at hn
  obtain⟨b,off,rfl,-,hI0⟩:=hb.at hlt
  have hbr:Body wr _ xs:=hb.ext hls.ext
  obtain⟨b',off',hbb,-,hI⟩:=hbr.at hlt
  cases hbb
  obtain⟨pt,ct,pl,cl,hti,hli,hcells⟩:=(hI i hlt).cells
  refine eM ?_
  refine aq.y (Yl.rZ (s:=9) rfl rfl rfl rfl rfl (by intro _ hw_;cases hw_;exact hcells)) rfl ?_
  refine NB ?_
  rintro _ wx ⟨rfl,hnx⟩
  refine eM ?_
  refine aq.e0 (bU.bn rfl rfl rfl rfl rfl (by simp[GQ,Value.oneCell']) hnx.aW rfl) ?_
  rintro _ wy ⟨hby,hcy,hsy⟩
  have hxo:ov.ownBlock≠some wr.heap.size:=fun e=>by have:=hls.op.lt _ e;omega
  have hxb:sb<wr.heap.size:=by omega
  have hlsy:=(hls.aN hnx.ext (fun _ h=>h.elim)).aN hcy (fun k hk=>by subst hk;exact⟨hxb,hxo⟩)
  have hordy:=hlsy.ord
  clear hcells hcy hnx hti hli hls
  generalize hxbe:wr.heap.size=xb at*
  obtain⟨po,co,rfl,hco,hcm,hg⟩:=hlsy.op.slice
  by_cases hz:0<(aD xs i).length
  ·obtain⟨g,rfl,hg1,hg2⟩:=hg hz
   have hsg:sb<g:=hlsy.ob g rfl
   have hgx:g≠xb:=fun e=>hxo (by rw[e];rfl)
   have hlast:=HF hz
   have hd3:wy.cell? ⟨sb,0+2,none⟩=some (sl e3 xs.length):=hlsy.sh.cell rfl
   refine eM ?_
   refine aq.y (Yl.idx rfl rfl rfl rfl rfl (i:=(aD xs i).length - 1) Pi Pi) rfl ?_
   refine eM ?_
   refine aq.e0 (bU.store rfl rfl rfl rfl rfl (hlsy.o3.get (by rw[yb];exact hlt)) (hlsy.o3.free _)) ?_
   rintro _ wz hwz
   have hls3:LS w wz rb e1 e2 e3 e4 sb xs.length (fi xs i) (fZ xs i) (jg xs (i+1)) (kj xs i) (.slice (some ⟨g,0,none⟩) (aD xs i).length co) (aD xs i).length (xz xs i):=by rw[hwz];exact hlsy.Ki i _
   have hbz:=hby.aN (hlsy.o3.set i ((aD xs i).length:Int)).2 (fun e=>by omega)
   rw[←hwz]at hbz
   clear hwz hlsy hby
   have hd4:wz.cell? ⟨sb,0+3,none⟩=some (sl e4 xs.length):=hls3.sh.cell rfl
   have hat:wz.cell? ⟨g,0+((aD xs i).length - 1)*2,none⟩=some (.int .i64 (hZ (aD xs i))):=hls3.op.cell (j:=0) Pi rfl
   refine eM ?_
   refine Cd.yK 8 Pb ?_
   refine eM ?_
   have hls3d:=hls3.aN (w':=wz.drew) (S:=fun _=>False) (bX.refl _ _).drew (fun _ h=>h.elim)
   refine aq.e0 (bU.store rfl rfl rfl rfl rfl (hls3d.o4.get (by rw[zN];exact hlt)) (hls3d.o4.free _)) ?_
   rintro _ w4 hw4
   have hls4:LS w w4 rb e1 e2 e3 e4 sb xs.length (fi xs i) (fZ xs i) (jg xs (i+1)) (kj xs (i+1)) (.slice (some ⟨g,0,none⟩) (aD xs i).length co) (aD xs i).length (xz xs i):=by rw[hw4];exact hls3d.Kj i _
   have hb4:=(hbz.aN (S:=fun _=>False) (w':=wz.drew) (bX.refl _ _).drew (fun h=>h)).aN (hls3d.o4.set i (hZ (aD xs i))).2 (fun e=>by omega)
   rw[←hw4]at hb4
   clear hw4 hls3d hls3 hbz hat hd4 hd3
   have hop:w4.cell? ⟨xb,0,none⟩=some (.int .i64 (ix xs i).op):=hb4.cell rfl
   have hat:w4.cell? ⟨g,0+((aD xs i).length - 1)*2,none⟩=some (.int .i64 (hZ (aD xs i))):=hls4.op.cell (j:=0) Pi rfl
   have hhad:w4.cell? ⟨g,0+((aD xs i).length - 1)*2+1,none⟩=some (.bool (lU xs (hZ (aD xs i)) i)):=hls4.op.cell (j:=1) Pi rfl
   have hz':(aD xs i).length≠0:=by omega
   have hck:iw xs i=if(ix xs i).op=5∧(hZ (aD xs i)<0∨(ix xs (hZ (aD xs i)).toNat).op≠4∨jt xs (hZ (aD xs i)).toNat i=true)then some ((i:Int),16)
     else if eG (ix xs i).op=true∧32≤(aD xs i).length then some ((i:Int),6)else none:=by
    unfold iw;dsimp only;rw[if_neg hz']
   have h32:=AD i hall
   have hr4:=hls4.ext
   have hallS:iw xs i=none→∀j,j<i+1→iw xs j=none:=fun hc j hj=>by
    by_cases e:j=i
    ·subst e;exact hc
    ·exact hall j Pi
   refine eM ?_
   by_cases h5:(ix xs i).op=5
   ·have ho:eG (ix xs i).op=false:=by rw[h5];rfl
    by_cases hneg:hZ (aD xs i)<0
    ·rw[if_pos ⟨h5,.inl hneg⟩]at hck
     refine eM ?_
     refine NP ?_
     refine eM ?_
     refine NQ ?_
     rintro _ w9 ⟨hb9,hc9,hs9⟩
     refine eM ?_
     rw[hck]at hn
     refine Fin.qW rfl rfl rfl rfl rfl hb9 rfl rfl rfl ⟨hls4.ext.trans' hc9 (fun q hq e=>by have:=hls4.ord;omega),.inl ⟨by rw[hn];exact(by decide:(16:Int)≠0),by rw[hn]⟩⟩
    ·obtain⟨h,hh⟩:=PJ (Int.not_lt.1 hneg)
     rw[hh]at hat hhad hck hlast
     simp only[PZ]at hck
     have hoph:=hr4.cell (hI0 h Pi).op
     by_cases h4:(ix xs h).op=4
     ·have hhe:lU xs (h:Int) i=jt xs h i:=by simp[lU]
      rw[hhe]at hhad
      cases hel:jt xs h i with
      |true=>
       rw[hel]at hhad
       rw[if_pos ⟨h5,.inr (.inr hel)⟩]at hck
       refine eM ?_
       refine NP ?_
       refine eM ?_
       refine NQ ?_
       rintro _ w9 ⟨hb9,hc9,hs9⟩
       refine eM ?_
       rw[hck]at hn
       refine Fin.qW rfl rfl rfl rfl rfl hb9 rfl rfl rfl ⟨hls4.ext.trans' hc9 (fun q hq e=>by have:=hls4.ord;omega),.inl ⟨by rw[hn];exact(by decide:(16:Int)≠0),by rw[hn]⟩⟩
      |false=>
       rw[hel]at hhad
       rw[if_neg (by simp[h4,hel]),if_neg (by simp[ho])]at hck
       rw[hck]at hn
       refine eM ?_
       refine aq.e0 (bU.store rfl rfl rfl rfl rfl hhad (hls4.op.free _)) ?_
       rintro _ w5 hw5
       have hls5:=hls4.Kk (i:=(aD xs i).length - 1) (j:=1) Pi Pi (.bool true)
       rw[←hw5]at hls5
       clear hw5
       have hd2:w5.cell? ⟨sb,0+1,none⟩=some (sl e2 xs.length):=hls5.sh.cell rfl
       have hat5:w5.cell? ⟨g,0+((aD xs i).length - 1)*2,none⟩=some (.int .i64 h):=hls5.op.cell (j:=0) Pi (by rw[oQ];simp[xz];exact hh)
       refine eM ?_
       refine Cd.yK 8 Pb ?_
       refine eM ?_
       have hls5d:=hls5.aN (w':=w5.drew) (S:=fun _=>False) (bX.refl _ _).drew (fun _ h=>h.elim)
       refine aq.e0 (bU.store rfl rfl rfl rfl rfl (hls5d.o2.get (by rw[zI];omega)) (hls5d.o2.free _)) ?_
       rintro _ w6 hw6
       have hls6:=hls5d.Kh h (i:Int)
       rw[←hw6]at hls6
       refine eM ?_
       refine Fin.next (i+1,_) bH ⟨by omega,hn,hallS hck,?_⟩ O6
       have q1:fi xs (i+1)=fi xs i:=by simp[fi,h5]
       have q2:fZ xs (i+1)=(fZ xs i).set h i:=by simp[fZ,h5,hh]
       have q3:aD xs (i+1)=aD xs i:=kv ho Pi
       dsimp only
       rw[q1,q2,q3]
       exact hls6.congr (fun j hj=>FG h5 hz hh Pi j hj)
     ·rw[if_pos ⟨h5,.inr (.inl h4)⟩]at hck
      refine eM ?_
      refine NP ?_
      refine eM ?_
      refine NQ ?_
      rintro _ w9 ⟨hb9,hc9,hs9⟩
      refine eM ?_
      rw[hck]at hn
      refine Fin.qW rfl rfl rfl rfl rfl hb9 rfl rfl rfl ⟨hls4.ext.trans' hc9 (fun q hq e=>by have:=hls4.ord;omega),.inl ⟨by rw[hn];exact(by decide:(16:Int)≠0),by rw[hn]⟩⟩
   ·rw[if_neg (by simp[h5])]at hck
    have q2:fZ xs (i+1)=fZ xs i:=by simp[fZ,h5]
    by_cases ho:eG (ix xs i).op=true
    ·have h11:(ix xs i).op≠11:=by simp[eG]at ho;omega
     have q1:fi xs (i+1)=fi xs i:=by simp[fi,h11]
     have hops:(ix xs i).op=2∨(ix xs i).op=3∨(ix xs i).op=4:=by simp[eG]at ho;omega
     have ho2:=ho
     by_cases hm:32≤(aD xs i).length
     ·rw[if_pos ⟨ho,hm⟩]at hck
      have hm':((aD xs i).length:Int)=32:=by omega
      rcases hops with hop_|hop_|hop_
      ·refine eM ?_
       refine NP ?_
       refine eM ?_
       refine NQ ?_
       rintro _ w9 ⟨hb9,hc9,hs9⟩
       refine eM ?_
       rw[hck]at hn
       refine Fin.qW rfl rfl rfl rfl rfl hb9 rfl rfl rfl ⟨hls4.ext.trans' hc9 (fun q hq e=>by have:=hls4.ord;omega),.inl ⟨by rw[hn];exact(by decide:(6:Int)≠0),by rw[hn]⟩⟩
      ·refine eM ?_
       refine NP ?_
       refine eM ?_
       refine NQ ?_
       rintro _ w9 ⟨hb9,hc9,hs9⟩
       refine eM ?_
       rw[hck]at hn
       refine Fin.qW rfl rfl rfl rfl rfl hb9 rfl rfl rfl ⟨hls4.ext.trans' hc9 (fun q hq e=>by have:=hls4.ord;omega),.inl ⟨by rw[hn];exact(by decide:(6:Int)≠0),by rw[hn]⟩⟩
      ·refine eM ?_
       refine NP ?_
       refine eM ?_
       refine NQ ?_
       rintro _ w9 ⟨hb9,hc9,hs9⟩
       refine eM ?_
       rw[hck]at hn
       refine Fin.qW rfl rfl rfl rfl rfl hb9 rfl rfl rfl ⟨hls4.ext.trans' hc9 (fun q hq e=>by have:=hls4.ord;omega),.inl ⟨by rw[hn];exact(by decide:(6:Int)≠0),by rw[hn]⟩⟩
     ·rw[if_neg (by simp[hm])]at hck
      rw[hck]at hn
      have hfin:∀(w5 w6:World) (v6:Value),zk w4 w5 [.int .i64 (i:Int),.bool false] 173→iE w.heap.size 173 2 w6 v6 ((aD xs i).length+1) (qj (xz xs i) (aD xs i).length [.int .i64 (i:Int),.bool false])→bX (fun k=>(Value.slice (some ⟨g,0,none⟩) (aD xs i).length co).ownBlock=some k) w5 w6→(v6.ownBlock=(Value.slice (some ⟨g,0,none⟩) (aD xs i).length co).ownBlock∨v6.ownBlock=some w5.heap.size)→
        LS w w6 rb e1 e2 e3 e4 sb xs.length (fi xs (i+1)) (fZ xs (i+1)) (jg xs (i+1)) (kj xs (i+1)) v6 (aD xs (i+1)).length (xz xs (i+1)):=by
       intro w5 w6 v6 hn5 ho6 hc6 hb6
       have hls6:=((hls4.aN hn5.ext (fun _ h=>h.elim)).app ho6 hc6 hb6).congr (FH ho2)
       rw[q1,q2,qf ho2,Py]
       exact hls6
      have hsz4:w.heap.size≤w4.heap.size:=hr4.size
      rcases hops with hop_|hop_|hop_
      ·refine eM ?_
       refine NR ?_
       refine NS ?_
       rintro _ w5 ⟨rfl,hn5⟩
       refine aq.e (iE.HX (hls4.op.ext hn5.ext) rfl rfl rfl rfl rfl Ph Ph rfl rfl (by have:=hn5.size;omega) hn5.aW rfl O3 Pi) rfl ?_
       rintro v6 w6 ⟨ho6,hc6,hb6⟩
       refine eM ?_
       exact Mk
      ·refine eM ?_
       refine NR ?_
       refine NS ?_
       rintro _ w5 ⟨rfl,hn5⟩
       refine aq.e (iE.HX (hls4.op.ext hn5.ext) rfl rfl rfl rfl rfl Ph Ph rfl rfl (by have:=hn5.size;omega) hn5.aW rfl O3 Pi) rfl ?_
       rintro v6 w6 ⟨ho6,hc6,hb6⟩
       refine eM ?_
       exact Mk
      ·refine eM ?_
       refine NR ?_
       refine NS ?_
       rintro _ w5 ⟨rfl,hn5⟩
       refine aq.e (iE.HX (hls4.op.ext hn5.ext) rfl rfl rfl rfl rfl Ph Ph rfl rfl (by have:=hn5.size;omega) hn5.aW rfl O3 Pi) rfl ?_
       rintro v6 w6 ⟨ho6,hc6,hb6⟩
       refine eM ?_
       exact Mk
    ·have ho':eG (ix xs i).op=false:=by simpa using ho
     have hno:(ix xs i).op≠2∧(ix xs i).op≠3∧(ix xs i).op≠4:=by simp[eG]at ho';omega
     rw[if_neg (by simp[ho'])]at hck
     rw[hck]at hn
     by_cases h11:(ix xs i).op=11
     ·have q3:(aD xs (i+1)).length=(aD xs i).length - 1:=by rw[rJ h11 hz];simp
      by_cases hneg:hZ (aD xs i)<0
      ·refine eM ?_
       refine aq.y (Yl.cZ rfl rfl rfl rfl rfl (i:=(aD xs i).length - 1) Pi Pi) rfl ?_
       refine eM ?_
       refine Fin.next (i+1,_) bH ⟨by omega,hn,hallS hck,?_⟩ O6
       have q1:fi xs (i+1)=fi xs i:=by simp[fi,h11];omega
       dsimp only
       rw[q1,q2,q3]
       have e9:(aD xs i).length=((aD xs i).length - 1)+1:=by omega
       rw[e9]at hls4
       exact hls4.pop.congr (CL h11 hz)
      ·obtain⟨h,hh⟩:=PJ (Int.not_lt.1 hneg)
       rw[hh]at hat
       have hd1:w4.cell? ⟨sb,0,none⟩=some (sl e1 xs.length):=hls4.sh.cell rfl
       refine eM ?_
       refine Cd.yK 8 Pb ?_
       refine eM ?_
       have hls5d:=hls4.aN (w':=w4.drew) (S:=fun _=>False) (bX.refl _ _).drew (fun _ h=>h.elim)
       refine aq.e0 (bU.store rfl rfl rfl rfl rfl (hls5d.o1.get (by rw[Bf];omega)) (hls5d.o1.free _)) ?_
       rintro _ w6 hw6
       have hls6:=hls5d.Kg h (i:Int)
       rw[←hw6]at hls6
       refine eM ?_
       refine aq.y (Yl.cZ rfl rfl rfl rfl rfl (i:=(aD xs i).length - 1) Pi Pi) rfl ?_
       refine eM ?_
       refine Fin.next (i+1,_) bH ⟨by omega,hn,hallS hck,?_⟩ O6
       have q1:fi xs (i+1)=(fi xs i).set h i:=by simp[fi,h11,hh]
       dsimp only
       rw[q1,q2,q3]
       have e9:(aD xs i).length=((aD xs i).length - 1)+1:=by omega
       rw[e9]at hls6
       exact hls6.pop.congr (CL h11 hz)
     ·refine eM ?_
      refine Fin.next (i+1,_) bH ⟨by omega,hn,hallS hck,?_⟩ O6
      have q1:fi xs (i+1)=fi xs i:=by simp[fi,h11]
      dsimp only
      rw[q1,q2,kv ho' h11]
      exact hls4.congr (fun j _=>DU ho' h11 h5 j)
  ·have hz':(aD xs i).length=0:=by omega
   have hck:iw xs i=some ((i:Int),16):=by simp only[iw,hz',if_true]
   refine eM ?_
   refine NP ?_
   refine eM ?_
   refine aq.e0 (bU.bn rfl rfl rfl rfl rfl O3 hlsy.res rfl) ?_
   rintro _ w9 ⟨hb9,hc9,hs9⟩
   refine eM ?_
   rw[hck]at hn
   refine Fin.qW rfl rfl rfl rfl rfl hb9 rfl rfl rfl ⟨hlsy.ext.trans' hc9 (fun q hq e=>by have:=hlsy.ord;omega),.inl ⟨by rw[hn];exact(by decide:(16:Int)≠0),by rw[hn]⟩⟩
 ·obtain rfl:i=xs.length:=by omega
  rw[show xs.length - xs.length=0 by omega,jy]at hn
  obtain⟨po,co,rfl,hco,hcm,hg⟩:=hls.op.slice
  by_cases hz:0<(aD xs xs.length).length
  ·rw[if_pos hz]at hn
   refine eM ?_
   refine NP ?_
   refine eM ?_
   refine aq.e0 (bU.bn rfl rfl rfl rfl rfl O3 hls.res rfl) ?_
   rintro _ w9 ⟨hb9,hc9,hs9⟩
   refine eM ?_
   have:=hn
   refine Fin.qW rfl rfl rfl rfl rfl hb9 rfl rfl rfl ⟨hls.ext.trans' hc9 (fun q hq e=>by have:=hls.ord;omega),.inl ⟨by rw[hn];exact(by decide:(3:Int)≠0),by rw[hn]⟩⟩
  ·rw[if_neg hz]at hn
   refine eM ?_
   refine aq.y (Yl.rZ (s:=4) (cs:=[sl e1 xs.length,sl e2 xs.length,sl e3 xs.length,sl e4 xs.length]) rfl rfl rfl rfl rfl (by
    intro _ hw_;cases hw_;intro j hj
    match j,hj with
    |0,_=>exact hls.sh.cell rfl
    |1,_=>exact hls.sh.cell rfl
    |2,_=>exact hls.sh.cell rfl
    |3,_=>exact hls.sh.cell rfl)) rfl ?_
   refine eM ?_
   refine aq.e0 (bU.bn rfl rfl rfl rfl rfl O3 hls.res rfl) ?_
   rintro _ w9 ⟨hb9,hc9,hs9⟩
   refine eM ?_
   have key:∀e,rb<e→∀k,(sl e xs.length).ownBlock=some k→¬k=rb:=fun e he k hk hs=>by
    have e2:e=k:=Option.some.inj hk
    omega
   refine Fin.qW rfl rfl rfl rfl rfl hb9 rfl rfl rfl ⟨hls.ext.trans' hc9 (fun q hq e=>by omega),.inr ⟨by rw[hn],_,_,_,_,by rw[hn],cm hls.o1 hc9 (key _ Pi),cm hls.o2 hc9 (key _ Pi),cm hls.o3 hc9 (key _ Pi),cm hls.o4 hc9 (key _ Pi)⟩⟩
theorem tS (xs:List cv) (v:Value) (w:World) (hb:Body w v xs) (hsm:xs.length≤1000000000):
  Calls G.P 30 #[v] w fun e w'=>e=.returned (.tuple #[.int .i64 (fN xs).1,.int .i64 (fN xs).2])∧Ext w w':=by
 obtain⟨p,cap,rfl,hl⟩:=hb.slice
 have hR:Calls G.P 45 #[.slice p xs.length cap] w fun e w'=>∃p1 l1 c1 p2 l2 c2 p3 l3 c3 p4 l4 c4,e=.returned (.tuple #[.agg #[.slice p1 l1 c1,.slice p2 l2 c2,.slice p3 l3 c3,.slice p4 l4 c4],.int .i64 (fN xs).1,.int .i64 (fN xs).2])∧Ext w w':=by
  refine(DO xs _ w hb hsm).mono ?_
  rintro e w' ⟨hx,⟨h,rfl⟩|⟨h,v1,v2,v3,v4,rfl,o1,o2,o3,o4⟩⟩
  ·exact⟨none,0,0,none,0,0,none,0,0,none,0,0,rfl,hx⟩
  ·obtain⟨p1,c1,rfl,_⟩:=aw o1
   obtain⟨p2,c2,rfl,_⟩:=aw o2
   obtain⟨p3,c3,rfl,_⟩:=aw o3
   obtain⟨p4,c4,rfl,_⟩:=aw o4
   exact⟨_,_,_,_,_,_,_,_,_,_,_,_,rfl,hx⟩
 refine enter (G:=G) func30 rfl ntmps30 rfl ?_
 refine lu ?_
 refine aq.call rfl rfl rfl hR ?_
 rintro _ w1 ⟨p1,l1,c1,p2,l2,c2,p3,l3,c3,p4,l4,c4,rfl,hx1⟩
 refine⟨_,rfl,?_⟩
 refine lu ?_
 refine NB ?_
 rintro _ w2 ⟨rfl,hn2⟩
 refine aq.e0 (bU.bn rfl rfl rfl rfl rfl O3 hn2.aW rfl) ?_
 rintro _ w3 ⟨hb3,hc3,hs3⟩
 have hx3:Ext w1 w3:=hn2.ext.trans' hc3 (fun i hi e=>by omega)
 refine lu ?_
 exact Fin.ie rfl rfl rfl ⟨rfl,hx1.trans hx3⟩
theorem ru {α β:Type} [Inhabited α] [Inhabited β] {l:List α} {f:α→β} {i:Nat} (h:i<l.length):ix (l.map f) i=f (ix l i):=by
 rw[cz Pa,cz h,List.getElem_map]
end
end Go.Proofs.YtdkcljdfbemnbaaGreatDoor
