/- The walker over the symbolic heap. -/
import Derived.Test.YtgbgnipidakdhaaGreatDoorJIo
import Derived.Test.YtgbgnipidakdhaaGreatDoorJSh
import Derived.Test.YtgbgnipidakdhaaGreatDoorJM2
import Derived.Test.YtgbgnipidakdhaaGreatDoorJF2
namespace Go.Proofs.YtgbgnipidakdhaaGreatDoor
open Go.RowKit
theorem HB {g g':Prop} (h:g') (hw:dS g'→g:=by(intro hk_;(refine aw.is ?_;(first|(refine aw.As ?_;(first|refine aw.gs rfl rfl rfl ?_|refine aw.gu rfl rfl ?_|refine aw.yg rfl (Yl.move rfl) rfl ?_|refine aw.yg rfl (Yl.assign rfl) rfl ?_|(refine aw.aK ?_;(first|(refine aw.aK (bo:=.lss) ?_;(first|refine aw.yg rfl (Yl.mj rfl rfl Mj) rfl ?_|refine aw.yg rfl (Yl.lQ rfl rfl Mj) rfl ?_))|(refine aw.aK (bo:=.eql) ?_;(first|refine aw.yg rfl (Yl.lH rfl rfl Mj) rfl ?_|refine aw.yg rfl (Yl.lY rfl rfl Mj) rfl ?_))|(refine aw.aK (bo:=.neq) ?_;(first|refine aw.yg rfl (Yl.lN rfl rfl Mj) rfl ?_|refine aw.yg rfl (Yl.lJ rfl rfl Mj) rfl ?_))|(refine aw.aK (bo:=.leq) ?_;(first|refine aw.yg rfl (Yl.me rfl rfl Mj) rfl ?_|refine aw.yg rfl (Yl.lV rfl rfl Mj) rfl ?_))|(refine aw.aK (bo:=.gtr) ?_;(first|refine aw.yg rfl (Yl.lR rfl rfl Mj) rfl ?_|refine aw.yg rfl (Yl.mc rfl rfl Mj) rfl ?_))|(refine aw.aK (bo:=.geq) ?_;(first|refine aw.yg rfl (Yl.mq rfl rfl Mj) rfl ?_|refine aw.yg rfl (Yl.lO rfl rfl Mj) rfl ?_))|refine aw.yg rfl (Yl.add rfl rfl Mj) rfl ?_|refine aw.yg rfl (Yl.sub rfl rfl Mj) rfl ?_|refine aw.yg rfl (Yl.jg rfl rfl rfl rfl) rfl ?_|refine aw.yg rfl (Yl.tH rfl rfl) rfl ?_|refine aw.yg rfl (Yl.ml rfl rfl) rfl ?_|refine aw.yg rfl (Yl.mn rfl rfl Mj) rfl ?_|fail))|(refine aw.isField ?_;(first|refine aw.yg rfl (Yl.jF rfl rfl rfl) rfl ?_|refine aw.yg rfl (Yl.gP rfl rfl rfl) rfl ?_|refine aw.yg rfl (Yl.field rfl rfl rfl) rfl ?_))|(refine aw.dk ?_;(first|refine aw.yg rfl (Yl.kI rfl rfl rfl Lu) rfl ?_|refine aw.yg rfl (Yl.ko rfl rfl rfl rfl LE) rfl ?_|refine aw.yg rfl (Yl.kv rfl rfl rfl rfl LE LA) rfl ?_|refine aw.yg rfl (Yl.ku rfl rfl rfl Ly rfl) rfl ?_))|(refine aw.ek ?_;(first|refine aw.yg rfl (Yl.gh rfl rfl rfl rfl rfl rfl Mj) rfl ?_|refine aw.yg rfl (Yl.idx rfl rfl rfl rfl rfl rfl Mj) rfl ?_))|refine aw.yg rfl (Yl.len rfl rfl rfl) rfl ?_|refine aw.yg rfl (Yl.extract rfl rfl) rfl ?_|refine aw.yg rfl (Yl.fZ rfl rfl) rfl ?_|refine aw.yg rfl (Yl.fW rfl rfl) rfl ?_|refine aw.yg rfl (Yl.nilCheck rfl) rfl ?_|refine aw.yg rfl (Yl.not rfl) rfl ?_|refine aw.yg rfl (Yl.makeFunc rfl rfl) rfl ?_|refine aw.yg rfl (Yl.iV rfl rfl) rfl ?_|refine aw.yg rfl (Yl.jc rfl rfl rfl Lw Ml) rfl ?_|refine aw.yg rfl (Yl.iQ rfl rfl rfl Lx) rfl ?_|refine aw.yg rfl (Yl.fM rfl rfl rfl rfl) rfl ?_|refine aw.yg rfl (Yl.dw Tryz.underlying9 rfl rfl rfl Mj) rfl ?_|refine aw.yg rfl (Yl.de Tryz.underlying9 rfl rfl rfl Mj) rfl ?_|refine aw.yg rfl (Yl.dR Tryz.underlying9 rfl rfl rfl rfl rfl Mj Mj) rfl ?_|refine aw.yg rfl (Yl.cO rfl rfl rfl rfl rfl rfl Mj) rfl ?_|refine aw.yg rfl (Yl.lT Tryz.underlying9 rfl) rfl ?_))|refine aw.G7 ?_|refine aw.y (Yl.move rfl) rfl ?_|refine aw.y (Yl.assign rfl) rfl ?_|(refine aw.aK ?_;(first|(refine aw.aK (bo:=.lss) ?_;(first|refine aw.y (Yl.mj rfl rfl Mj) rfl ?_|refine aw.y (Yl.lQ rfl rfl Mj) rfl ?_))|(refine aw.aK (bo:=.eql) ?_;(first|refine aw.y (Yl.lH rfl rfl Mj) rfl ?_|refine aw.y (Yl.lY rfl rfl Mj) rfl ?_))|(refine aw.aK (bo:=.neq) ?_;(first|refine aw.y (Yl.lN rfl rfl Mj) rfl ?_|refine aw.y (Yl.lJ rfl rfl Mj) rfl ?_))|(refine aw.aK (bo:=.leq) ?_;(first|refine aw.y (Yl.me rfl rfl Mj) rfl ?_|refine aw.y (Yl.lV rfl rfl Mj) rfl ?_))|(refine aw.aK (bo:=.gtr) ?_;(first|refine aw.y (Yl.lR rfl rfl Mj) rfl ?_|refine aw.y (Yl.mc rfl rfl Mj) rfl ?_))|(refine aw.aK (bo:=.geq) ?_;(first|refine aw.y (Yl.mq rfl rfl Mj) rfl ?_|refine aw.y (Yl.lO rfl rfl Mj) rfl ?_))|refine aw.y (Yl.add rfl rfl Mj) rfl ?_|refine aw.y (Yl.sub rfl rfl Mj) rfl ?_|refine aw.y (Yl.jg rfl rfl rfl rfl) rfl ?_|refine aw.y (Yl.tH rfl rfl) rfl ?_|refine aw.y (Yl.ml rfl rfl) rfl ?_|refine aw.y (Yl.mn rfl rfl Mj) rfl ?_|fail))|(refine aw.isField ?_;(first|refine aw.y (Yl.jF rfl rfl rfl) rfl ?_|refine aw.y (Yl.gP rfl rfl rfl) rfl ?_|refine aw.y (Yl.field rfl rfl rfl) rfl ?_))|(refine aw.dk ?_;(first|refine aw.y (Yl.kI rfl rfl rfl Lu) rfl ?_|refine aw.y (Yl.ko rfl rfl rfl rfl LE) rfl ?_|refine aw.y (Yl.kv rfl rfl rfl rfl LE LA) rfl ?_|refine aw.y (Yl.ku rfl rfl rfl Ly rfl) rfl ?_))|(refine aw.ek ?_;(first|refine aw.y (Yl.gh rfl rfl rfl rfl rfl rfl Mj) rfl ?_|refine aw.y (Yl.idx rfl rfl rfl rfl rfl rfl Mj) rfl ?_))|refine aw.y (Yl.len rfl rfl rfl) rfl ?_|refine aw.y (Yl.extract rfl rfl) rfl ?_|refine aw.y (Yl.fZ rfl rfl) rfl ?_|refine aw.y (Yl.fW rfl rfl) rfl ?_|refine aw.y (Yl.nilCheck rfl) rfl ?_|refine aw.y (Yl.not rfl) rfl ?_|refine aw.y (Yl.makeFunc rfl rfl) rfl ?_|refine aw.y (Yl.iV rfl rfl) rfl ?_|refine aw.y (Yl.jc rfl rfl rfl Lw Ml) rfl ?_|refine aw.y (Yl.iQ rfl rfl rfl Lx) rfl ?_|refine aw.y (Yl.fM rfl rfl rfl rfl) rfl ?_|refine aw.y (Yl.dw Tryz.underlying9 rfl rfl rfl Mj) rfl ?_|refine aw.y (Yl.de Tryz.underlying9 rfl rfl rfl Mj) rfl ?_|refine aw.y (Yl.dR Tryz.underlying9 rfl rfl rfl rfl rfl Mj Mj) rfl ?_|refine aw.y (Yl.cO rfl rfl rfl rfl rfl rfl Mj) rfl ?_|refine aw.y (Yl.lT Tryz.underlying9 rfl) rfl ?_));exact hk_.out)):g:=hw ⟨h⟩
set_option maxRecDepth 100000
theorem bQ {g g':Prop} (h:g') (hw:dS g'→g:=by(intro hk_;(repeat(first|(refine aa.is ?_;(first|(refine aa.As ?_;(first|refine aa.gs rfl rfl rfl ?_|refine aa.gu rfl rfl ?_|refine aa.yg rfl (Yl.move rfl) rfl ?_|refine aa.yg rfl (Yl.assign rfl) rfl ?_|(refine aa.aK ?_;(first|(refine aa.aK (bo:=.lss) ?_;(first|refine aa.yg rfl (Yl.mj rfl rfl Mj) rfl ?_|refine aa.yg rfl (Yl.lQ rfl rfl Mj) rfl ?_))|(refine aa.aK (bo:=.eql) ?_;(first|refine aa.yg rfl (Yl.lH rfl rfl Mj) rfl ?_|refine aa.yg rfl (Yl.lY rfl rfl Mj) rfl ?_))|(refine aa.aK (bo:=.neq) ?_;(first|refine aa.yg rfl (Yl.lN rfl rfl Mj) rfl ?_|refine aa.yg rfl (Yl.lJ rfl rfl Mj) rfl ?_))|(refine aa.aK (bo:=.leq) ?_;(first|refine aa.yg rfl (Yl.me rfl rfl Mj) rfl ?_|refine aa.yg rfl (Yl.lV rfl rfl Mj) rfl ?_))|(refine aa.aK (bo:=.gtr) ?_;(first|refine aa.yg rfl (Yl.lR rfl rfl Mj) rfl ?_|refine aa.yg rfl (Yl.mc rfl rfl Mj) rfl ?_))|(refine aa.aK (bo:=.geq) ?_;(first|refine aa.yg rfl (Yl.mq rfl rfl Mj) rfl ?_|refine aa.yg rfl (Yl.lO rfl rfl Mj) rfl ?_))|refine aa.yg rfl (Yl.add rfl rfl Mj) rfl ?_|refine aa.yg rfl (Yl.sub rfl rfl Mj) rfl ?_|refine aa.yg rfl (Yl.jg rfl rfl rfl rfl) rfl ?_|refine aa.yg rfl (Yl.tH rfl rfl) rfl ?_|refine aa.yg rfl (Yl.ml rfl rfl) rfl ?_|refine aa.yg rfl (Yl.mn rfl rfl Mj) rfl ?_|fail))|(refine aa.isField ?_;(first|refine aa.yg rfl (Yl.jF rfl rfl rfl) rfl ?_|refine aa.yg rfl (Yl.gP rfl rfl rfl) rfl ?_|refine aa.yg rfl (Yl.field rfl rfl rfl) rfl ?_))|(refine aa.dk ?_;(first|refine aa.yg rfl (Yl.kI rfl rfl rfl Lu) rfl ?_|refine aa.yg rfl (Yl.ko rfl rfl rfl rfl LE) rfl ?_|refine aa.yg rfl (Yl.kv rfl rfl rfl rfl LE LA) rfl ?_|refine aa.yg rfl (Yl.ku rfl rfl rfl Ly rfl) rfl ?_))|(refine aa.ek ?_;(first|refine aa.yg rfl (Yl.gh rfl rfl rfl rfl rfl rfl Mj) rfl ?_|refine aa.yg rfl (Yl.idx rfl rfl rfl rfl rfl rfl Mj) rfl ?_))|refine aa.yg rfl (Yl.len rfl rfl rfl) rfl ?_|refine aa.yg rfl (Yl.extract rfl rfl) rfl ?_|refine aa.yg rfl (Yl.fZ rfl rfl) rfl ?_|refine aa.yg rfl (Yl.fW rfl rfl) rfl ?_|refine aa.yg rfl (Yl.nilCheck rfl) rfl ?_|refine aa.yg rfl (Yl.not rfl) rfl ?_|refine aa.yg rfl (Yl.makeFunc rfl rfl) rfl ?_|refine aa.yg rfl (Yl.iV rfl rfl) rfl ?_|refine aa.yg rfl (Yl.jc rfl rfl rfl Lw Ml) rfl ?_|refine aa.yg rfl (Yl.iQ rfl rfl rfl Lx) rfl ?_|refine aa.yg rfl (Yl.fM rfl rfl rfl rfl) rfl ?_|refine aa.yg rfl (Yl.dw Tryz.underlying9 rfl rfl rfl Mj) rfl ?_|refine aa.yg rfl (Yl.de Tryz.underlying9 rfl rfl rfl Mj) rfl ?_|refine aa.yg rfl (Yl.dR Tryz.underlying9 rfl rfl rfl rfl rfl Mj Mj) rfl ?_|refine aa.yg rfl (Yl.cO rfl rfl rfl rfl rfl rfl Mj) rfl ?_|refine aa.yg rfl (Yl.lT Tryz.underlying9 rfl) rfl ?_))|refine aa.nil ?_|(refine aa.wv ?_;(first|refine aa.bn _ rfl rfl rfl rfl rfl rfl LE rfl ?_|refine aa.gg rfl rfl rfl rfl rfl LE LI ?_))|refine aa.y_ (Yl.move rfl) rfl ?_|refine aa.y_ (Yl.assign rfl) rfl ?_|(refine aa.aK ?_;(first|(refine aa.aK (bo:=.lss) ?_;(first|refine aa.y_ (Yl.mj rfl rfl Mj) rfl ?_|refine aa.y_ (Yl.lQ rfl rfl Mj) rfl ?_))|(refine aa.aK (bo:=.eql) ?_;(first|refine aa.y_ (Yl.lH rfl rfl Mj) rfl ?_|refine aa.y_ (Yl.lY rfl rfl Mj) rfl ?_))|(refine aa.aK (bo:=.neq) ?_;(first|refine aa.y_ (Yl.lN rfl rfl Mj) rfl ?_|refine aa.y_ (Yl.lJ rfl rfl Mj) rfl ?_))|(refine aa.aK (bo:=.leq) ?_;(first|refine aa.y_ (Yl.me rfl rfl Mj) rfl ?_|refine aa.y_ (Yl.lV rfl rfl Mj) rfl ?_))|(refine aa.aK (bo:=.gtr) ?_;(first|refine aa.y_ (Yl.lR rfl rfl Mj) rfl ?_|refine aa.y_ (Yl.mc rfl rfl Mj) rfl ?_))|(refine aa.aK (bo:=.geq) ?_;(first|refine aa.y_ (Yl.mq rfl rfl Mj) rfl ?_|refine aa.y_ (Yl.lO rfl rfl Mj) rfl ?_))|refine aa.y_ (Yl.add rfl rfl Mj) rfl ?_|refine aa.y_ (Yl.sub rfl rfl Mj) rfl ?_|refine aa.y_ (Yl.jg rfl rfl rfl rfl) rfl ?_|refine aa.y_ (Yl.tH rfl rfl) rfl ?_|refine aa.y_ (Yl.ml rfl rfl) rfl ?_|refine aa.y_ (Yl.mn rfl rfl Mj) rfl ?_|fail))|(refine aa.isField ?_;(first|refine aa.y_ (Yl.jF rfl rfl rfl) rfl ?_|refine aa.y_ (Yl.gP rfl rfl rfl) rfl ?_|refine aa.y_ (Yl.field rfl rfl rfl) rfl ?_))|(refine aa.dk ?_;(first|refine aa.y_ (Yl.kI rfl rfl rfl Lu) rfl ?_|refine aa.y_ (Yl.ko rfl rfl rfl rfl LE) rfl ?_|refine aa.y_ (Yl.kv rfl rfl rfl rfl LE LA) rfl ?_|refine aa.y_ (Yl.ku rfl rfl rfl Ly rfl) rfl ?_))|(refine aa.ek ?_;(first|refine aa.y_ (Yl.gh rfl rfl rfl rfl rfl rfl Mj) rfl ?_|refine aa.y_ (Yl.idx rfl rfl rfl rfl rfl rfl Mj) rfl ?_))|refine aa.y_ (Yl.len rfl rfl rfl) rfl ?_|refine aa.y_ (Yl.extract rfl rfl) rfl ?_|refine aa.y_ (Yl.fZ rfl rfl) rfl ?_|refine aa.y_ (Yl.fW rfl rfl) rfl ?_|refine aa.y_ (Yl.nilCheck rfl) rfl ?_|refine aa.y_ (Yl.not rfl) rfl ?_|refine aa.y_ (Yl.makeFunc rfl rfl) rfl ?_|refine aa.y_ (Yl.iV rfl rfl) rfl ?_|refine aa.y_ (Yl.jc rfl rfl rfl Lw Ml) rfl ?_|refine aa.y_ (Yl.iQ rfl rfl rfl Lx) rfl ?_|refine aa.y_ (Yl.fM rfl rfl rfl rfl) rfl ?_|refine aa.y_ (Yl.dw Tryz.underlying9 rfl rfl rfl Mj) rfl ?_|refine aa.y_ (Yl.de Tryz.underlying9 rfl rfl rfl Mj) rfl ?_|refine aa.y_ (Yl.dR Tryz.underlying9 rfl rfl rfl rfl rfl Mj Mj) rfl ?_|refine aa.y_ (Yl.cO rfl rfl rfl rfl rfl rfl Mj) rfl ?_|refine aa.y_ (Yl.lT Tryz.underlying9 rfl) rfl ?_))|(refine aZ.is ?_;(first|refine aZ.seq ?_|refine aZ.region ?_|refine aZ.mY rfl L9 ?_|refine aZ.block ?_|refine aZ.iU rfl ?_|refine aZ.iW rfl ?_|refine aZ.skip ?_|refine aZ.ret ?_|refine aZ.exit ?_|fail))|(refine ah.is ?_;(first|refine ah.kY ?_|refine ah.pf ?_|refine ah.lB ?_|refine ah.oZ ?_|refine ah.lj ?_|refine ah.py ?_|refine ah.zp rfl ?_|fail))|refine HB ?_));exact hk_.out)):g:=hw ⟨h⟩
theorem pO {g g':Prop} (h:g') (hw:dS g'→g:=by(intro hk_;(repeat(first|refine bq.y_ (Yl.move rfl) rfl ?_|refine bq.y_ (Yl.assign rfl) rfl ?_|(refine bq.aK ?_;(first|(refine bq.aK (bo:=.lss) ?_;(first|refine bq.y_ (Yl.mj rfl rfl Mj) rfl ?_|refine bq.y_ (Yl.lQ rfl rfl Mj) rfl ?_))|(refine bq.aK (bo:=.eql) ?_;(first|refine bq.y_ (Yl.lH rfl rfl Mj) rfl ?_|refine bq.y_ (Yl.lY rfl rfl Mj) rfl ?_))|(refine bq.aK (bo:=.neq) ?_;(first|refine bq.y_ (Yl.lN rfl rfl Mj) rfl ?_|refine bq.y_ (Yl.lJ rfl rfl Mj) rfl ?_))|(refine bq.aK (bo:=.leq) ?_;(first|refine bq.y_ (Yl.me rfl rfl Mj) rfl ?_|refine bq.y_ (Yl.lV rfl rfl Mj) rfl ?_))|(refine bq.aK (bo:=.gtr) ?_;(first|refine bq.y_ (Yl.lR rfl rfl Mj) rfl ?_|refine bq.y_ (Yl.mc rfl rfl Mj) rfl ?_))|(refine bq.aK (bo:=.geq) ?_;(first|refine bq.y_ (Yl.mq rfl rfl Mj) rfl ?_|refine bq.y_ (Yl.lO rfl rfl Mj) rfl ?_))|refine bq.y_ (Yl.add rfl rfl Mj) rfl ?_|refine bq.y_ (Yl.sub rfl rfl Mj) rfl ?_|refine bq.y_ (Yl.jg rfl rfl rfl rfl) rfl ?_|refine bq.y_ (Yl.tH rfl rfl) rfl ?_|refine bq.y_ (Yl.ml rfl rfl) rfl ?_|refine bq.y_ (Yl.mn rfl rfl Mj) rfl ?_|fail))|(refine bq.isField ?_;(first|refine bq.y_ (Yl.jF rfl rfl rfl) rfl ?_|refine bq.y_ (Yl.gP rfl rfl rfl) rfl ?_|refine bq.y_ (Yl.field rfl rfl rfl) rfl ?_))|(refine bq.dk ?_;(first|refine bq.y_ (Yl.kI rfl rfl rfl Lu) rfl ?_|refine bq.y_ (Yl.ko rfl rfl rfl rfl LE) rfl ?_|refine bq.y_ (Yl.kv rfl rfl rfl rfl LE LA) rfl ?_|refine bq.y_ (Yl.ku rfl rfl rfl Ly rfl) rfl ?_))|refine bq.y_ (Yl.len rfl rfl rfl) rfl ?_|refine bq.y_ (Yl.extract rfl rfl) rfl ?_|refine bq.y_ (Yl.fZ rfl rfl) rfl ?_|refine bq.y_ (Yl.fW rfl rfl) rfl ?_|refine bq.y_ (Yl.nilCheck rfl) rfl ?_|refine bq.y_ (Yl.not rfl) rfl ?_|refine bq.y_ (Yl.makeFunc rfl rfl) rfl ?_|refine bq.y_ (Yl.iV rfl rfl) rfl ?_|refine bq.y_ (Yl.jc rfl rfl rfl Lw Ml) rfl ?_|refine bq.y_ (Yl.iQ rfl rfl rfl Lx) rfl ?_|refine bq.y_ (Yl.fM rfl rfl rfl rfl) rfl ?_|refine bq.y_ (Yl.dw Tryz.underlying9 rfl rfl rfl Mj) rfl ?_|refine bq.y_ (Yl.de Tryz.underlying9 rfl rfl rfl Mj) rfl ?_|refine bq.y_ (Yl.dR Tryz.underlying9 rfl rfl rfl rfl rfl Mj Mj) rfl ?_|refine bq.y_ (Yl.cO rfl rfl rfl rfl rfl rfl Mj) rfl ?_|refine bq.y_ (Yl.lT Tryz.underlying9 rfl) rfl ?_));exact hk_.out)):g:=hw ⟨h⟩
theorem eT {vs cs:List Value} (h:Cells vs cs:=by repeat(first|exact Cells.nil|exact App.nil|(with_reducible apply Cells.agg)|apply Cells.one|apply App.cons)):Cells vs cs:=h
theorem nZ {v:Value} {l l':List Value} {j:Nat} (h:fw v l j l':=by(repeat(first|exact fw.zero|apply fw.succ))):fw v l j l':=h
theorem aA {q q':a8} {M M':List a8} (h:Up q q' M M':=by repeat(first|with_reducible exact Up.head|apply Up.tail)):Up q q' M M':=h
theorem bc {M M':List a8} (h:M'.Sublist M:=by repeat(first|with_reducible exact List.Sublist.refl _|exact List.nil_sublist _|(with_reducible refine List.Sublist.cons_cons _ ?_)|((with_reducible refine vI ?_ ?_ ?_ ?_);rfl;(first|rfl|simp);(first|rfl|simp))|refine List.Sublist.cons _ ?_)):M'.Sublist M:=h
theorem aV {R R':List (World→Prop)} (h:∀p,p∈R'→p∈R:=by repeat(first|exact rj|refine pg Ly ?_)):∀p,p∈R'→p∈R:=h
theorem ak {R:List (World→Prop)} {p:World→Prop} (h:p∈R:=by repeat(first|with_reducible exact List.mem_cons_self|apply List.mem_cons_of_mem)):p∈R:=h
theorem mI {M:List a8} {R:List (World→Prop)} {w:World} (h:Ext w∈R:=by repeat(first|with_reducible exact List.mem_cons_self|apply List.mem_cons_of_mem)):∀w',Ok M R w'→w.heap.size≤w'.heap.size:=fun w' hw=>(show Ext w w' from hw.get h).size
theorem Ok.own {M:List a8} {R:List (World→Prop)} {w:World} {B T s n:Nat} {v:Value} {xs:List Value} (h:Ok M R w) (hm:a8.own B T s v n xs∈M:=by repeat(first|with_reducible exact List.mem_cons_self|apply List.mem_cons_of_mem)):w.ownsRow B T s v n xs:=(h.m _ hm).1
theorem Ok.at {M:List a8} {R:List (World→Prop)} {w:World} {p:World→Prop} (h:Ok M R w) (hm:p∈R:=by repeat(first|with_reducible exact List.mem_cons_self|apply List.mem_cons_of_mem)):p w:=h.get hm
theorem yB {R:List (World→Prop)} {w:World} {p:World→Prop} (h:∀r,r∈R→r w) (hm:p∈R:=by repeat(first|with_reducible exact List.mem_cons_self|apply List.mem_cons_of_mem)):p w:=h p hm
theorem bG {q:a8} {M:List a8} (h:q∈M:=by repeat(first|with_reducible exact List.mem_cons_self|apply List.mem_cons_of_mem)):q∈M:=h
theorem je {q:a8} {M M':List a8} (h:Rm q M M':=by(repeat(first|with_reducible exact Rm.head|apply Rm.tail))):Rm q M M':=h
open Go.ChangeMaps (setBlock)
open Go.MapKept (Stamped)
theorem yQ {a:Int} (h:dV a):(Lit.int .i64 a).wf=true:=by
 have e1:IntKind.i64.min=-9223372036854775808:=by decide
 have e2:IntKind.i64.max=9223372036854775807:=by decide
 simp only[Lit.wf,e1,e2,Bool.and_eq_true,decide_eq_true_eq]
 exact h
def IV (w:World) (bm:Nat) (g:Int→Option Value):Prop:=∃es clock,w.heap[bm]?=some (.map es clock)∧(∀e∈es.toList,∃b,e.key=.int .i64 b∧(Lit.int .i64 b).wf=true)∧(∀a u,g a=some u↔∃e∈es.toList,e.key=.int .i64 a∧e.val=u)∧Stamped es clock
theorem IV.lt {w:World} {bm:Nat} {g:Int→Option Value} (h:IV w bm g):bm<w.heap.size:=by
 obtain⟨es,clock,hb,_⟩:=h
 exact(Array.getElem?_eq_some_iff.1 hb).1
theorem IV.aO {S:Nat→Prop} {w w':World} {bm:Nat} {g:Int→Option Value} (h:IV w bm g) (hc:cg S w w') (hS:¬S bm):IV w' bm g:=by
 have hl:=h.lt
 obtain⟨es,clock,hb,h2⟩:=h
 exact⟨es,clock,by rw[hc.block bm hl hS];exact hb,h2⟩
def a8.iv (bm:Nat) (g:Int→Option Value):a8:=⟨fun k=>k=bm,fun w=>IV w bm g,fun h hc hd=>h.aO hc (hd bm h.lt rfl)⟩
def put (g:Int→Option Value) (a:Int) (v:Value):Int→Option Value:=fun b=>if b=a then some v else g b
section
variable {n:Nat} {E:Env} {w:World} {t:TypeId} {x y z:Operand} {C:World→Prop}
theorem A5 {k e:TypeId} (ht:G.P.underlying t=some (.map k e)) (hk:G.P.underlying k=some (.int .i64)) {bm:Nat} {g:Int→Option Value} (h:IV w bm g) {a:Int} (ha:(Lit.int .i64 a).wf=true) (val:Value):
  ∃w',(Instr.mapUpdate t (.map (some bm)) (.int .i64 a) val).run G.P w=.ok () w'∧IV w' bm (put g a val)∧cg (fun k=>k=bm) w w'∧w'.heap.size=w.heap.size:=by
 obtain⟨es,clock,hb,hkeys,hg,hst⟩:=h
 have hlt:bm<w.heap.size:=(Array.getElem?_eq_some_iff.1 hb).1
 have K:=Maps.int_keyed (P:=G.P) (k:=k) hk
 have hkey:=Maps.keyOf_int_mk hk ha
 have hall:∀e∈es.toList,∃l,keyOf G.P k e.key=some l:=fun e he=>by
  obtain⟨b,e1,hw⟩:=hkeys e he
  exact⟨_,by rw[e1];exact Maps.keyOf_int_mk hk hw⟩
 have hset:∀o,(setBlock w bm o).heap[bm]?=some o:=fun o=>by simp[ChangeMaps.setBlock,hlt]
 have hsz:∀o,(setBlock w bm o).heap.size=w.heap.size:=fun o=>by simp[ChangeMaps.setBlock]
 rcases K.find w hkey es.toList hall with⟨h1,h2⟩|⟨j,e0,h1,h2,h3⟩
 ·refine⟨setBlock w bm (.map (es.push ⟨.int .i64 a,val,clock⟩) (clock+1)),?_,⟨_,_,hset _,?_,?_,MapKept.stamped_push hst h2⟩,cg.setBlock _ _ _,hsz _⟩
  ·simp[Instr.mapUpdate,run_underlying ht,MapKept.run_getObj_map hb,K.check w false hkey,h1,MapKept.run_setObj_map _ hb,Result.andThen,ChangeMaps.setBlock]
  ·intro e he
   rw[Array.toList_push,List.mem_append,List.mem_singleton]at he
   rcases he with he|rfl
   ·exact hkeys e he
   ·exact⟨a,rfl,ha⟩
  ·intro b u
   unfold put
   rw[Array.toList_push]
   simp only[List.mem_append,List.mem_singleton]
   by_cases e:b=a
   ·subst e
    rw[if_pos rfl]
    constructor
    ·intro hu;cases hu;exact⟨_,.inr rfl,rfl,rfl⟩
    ·rintro⟨e',he|rfl,e1,e2⟩
     ·exact absurd e1 (h2 e' he)
     ·exact congrArg some e2
   ·rw[if_neg e,hg]
    constructor
    ·rintro⟨e',he,e1,e2⟩;exact⟨e',.inl he,e1,e2⟩
    ·rintro⟨e',he|rfl,e1,e2⟩
     ·exact⟨e',he,e1,e2⟩
     ·cases e1;exact absurd rfl e
 ·have hj:es[j]?=some e0:=by simpa using h2
  have hmod:∀i:Nat,(es.modify j (fun e'=>{e' with key:=Value.int .i64 a,val:=val})).toList[i]?=if j=i then(es.toList[i]?).map (fun e'=>{e' with key:=Value.int .i64 a,val:=val})else es.toList[i]?:=fun i=>by
   rw[Array.toList_modify,List.getElem?_modify]
   by_cases e:j=i<;>simp[e]
  have huniq:∀i e',es.toList[i]?=some e'→e'.key=.int .i64 a→i=j:=fun i e' hi he=>by
   have hnd:=hst.2.2
   have q1:(es.toList.map (·.key))[i]?=some (.int .i64 a):=by rw[List.getElem?_map,hi];exact congrArg some he
   have q2:(es.toList.map (·.key))[j]?=some (.int .i64 a):=by rw[List.getElem?_map,h2];exact congrArg some h3
   obtain⟨l1,l2⟩:=List.getElem?_eq_some_iff.1 q1
   obtain⟨l3,l4⟩:=List.getElem?_eq_some_iff.1 q2
   have hpw:=List.pairwise_iff_getElem.1 hnd
   rcases Nat.lt_trichotomy i j with h|h|h
   ·exact absurd (l2.trans l4.symm) (hpw i j l1 l3 h)
   ·exact h
   ·exact absurd (l4.trans l2.symm) (hpw j i l3 l1 h)
  refine⟨setBlock w bm (.map (es.modify j (fun e'=>{e' with key:=.int .i64 a,val:=val})) clock),?_,⟨_,_,hset _,?_,?_,MapKept.stamped_modify hst _ _ (fun _ _=>rfl) (fun e' _ he'=>by rw[hj]at he';cases he';exact h3.symm)⟩,cg.setBlock _ _ _,hsz _⟩
  ·simp[Instr.mapUpdate,run_underlying ht,MapKept.run_getObj_map hb,K.check w false hkey,h1,hj,h3,K.stays w hkey,MapKept.run_setObj_map _ hb,Result.andThen,ChangeMaps.setBlock]
  ·intro e he
   obtain⟨i,hi⟩:=List.mem_iff_getElem?.1 he
   rw[hmod]at hi
   by_cases ei:j=i
   ·subst ei
    rw[if_pos rfl,h2,Option.map_some]at hi
    cases hi;exact⟨a,rfl,ha⟩
   ·rw[if_neg ei]at hi
    exact hkeys e (List.mem_of_getElem? hi)
  ·intro b u
   unfold put
   by_cases e:b=a
   ·subst e
    rw[if_pos rfl]
    constructor
    ·intro hu;cases hu
     exact⟨_,List.mem_of_getElem? (by rw[hmod,if_pos rfl,h2];rfl),rfl,rfl⟩
    ·rintro⟨e',he,e1,e2⟩
     obtain⟨i,hi⟩:=List.mem_iff_getElem?.1 he
     rw[hmod]at hi
     by_cases ei:j=i
     ·subst ei
      rw[if_pos rfl,h2,Option.map_some]at hi
      cases hi;exact congrArg some e2
     ·rw[if_neg ei]at hi
      exact absurd (huniq i e' hi e1) (fun h=>ei h.symm)
   ·rw[if_neg e,hg]
    constructor
    ·rintro⟨e',he,e1,e2⟩
     obtain⟨i,hi⟩:=List.mem_iff_getElem?.1 he
     have ei:¬j=i:=fun ei=>by
      subst ei;rw[h2]at hi;cases hi;rw[h3]at e1;cases e1;exact e rfl
     exact⟨e',List.mem_of_getElem? (by rw[hmod,if_neg ei];exact hi),e1,e2⟩
    ·rintro⟨e',he,e1,e2⟩
     obtain⟨i,hi⟩:=List.mem_iff_getElem?.1 he
     rw[hmod]at hi
     by_cases ei:j=i
     ·subst ei
      rw[if_pos rfl,h2,Option.map_some]at hi
      cases hi;cases e1;exact absurd rfl e
     ·rw[if_neg ei]at hi
      exact⟨e',List.mem_of_getElem? hi,e1,e2⟩
theorem uZ {k e:TypeId} {zv:Value} (ht:G.P.underlying t=some (.map k e)) (hk:G.P.underlying k=some (.int .i64)) (hz:∀w,(zeroValue e).run G.P w=.ok zv w) {bm:Nat} {g:Int→Option Value} (h:IV w bm g) {a:Int} (ha:(Lit.int .i64 a).wf=true):
  (Instr.lookup t (.map (some bm)) (.int .i64 a) false).run G.P w=.ok ((g a).getD zv) w:=by
 obtain⟨es,clock,hb,hkeys,hg,hst⟩:=h
 have K:=Maps.int_keyed (P:=G.P) (k:=k) hk
 have hkey:=Maps.keyOf_int_mk hk ha
 have hall:∀e∈es.toList,∃l,keyOf G.P k e.key=some l:=fun e he=>by
  obtain⟨b,e1,hw⟩:=hkeys e he
  exact⟨_,by rw[e1];exact Maps.keyOf_int_mk hk hw⟩
 rcases K.find w hkey es.toList hall with⟨h1,h2⟩|⟨j,e0,h1,h2,h3⟩
 ·have hn:g a=none:=by
   cases hga:g a with
   |none=>rfl
   |some u=>
    obtain⟨e',he,e1,_⟩:=(hg a u).1 hga
    exact absurd e1 (h2 e' he)
  simp[Instr.lookup,run_underlying ht,MapKept.run_getObj_map hb,K.check w _ hkey,h1,hz,hn]
 ·have hs:g a=some e0.val:=(hg a e0.val).2 ⟨e0,List.mem_of_getElem? h2,h3,rfl⟩
  simp[Instr.lookup,run_underlying ht,MapKept.run_getObj_map hb,K.check w _ hkey,h1,hs]
end
section
variable {ops:Array Oper} {Q:Exit→Act→World→Prop} {n:Nat} {E:Env} {M M':List a8} {R:List (World→Prop)} {rest l:List Oper} {op:Op} {d:Nat} {ty:TypeId} {pos:String} {aft:Array Edge} {v:Value} {x y z:Operand} {t:TypeId}
theorem HE.makeMap:HE n (.makeMap t none) E M R (fun _:Nat=>True) (fun b=>.map (some b)) (fun b=>.iv b (fun _=>none)::M) (fun _=>R):=
 ⟨fun w hw=>⟨fun a ha d ty pos aft gd=>by
  have hr:(execOp a.eval ⟨d,.makeMap t none,ty,pos,aft,gd⟩).run G.P w=.ok (.value (.map (some w.heap.size))) (w.alloc (.map #[] 0)):=by simp[execOp,Instr.makeMap]
  rw[hr]
  refine⟨w.heap.size,trivial,rfl,hw.push (q:=.iv w.heap.size (fun _=>none)) ((cg.refl _ _).alloc _) ⟨#[],0,heap_alloc_new w _,by simp,by simp,by simp[Stamped]⟩ (fun k hk=>?_)⟩
  have:k=w.heap.size:=hk
  simp;omega⟩⟩
theorem fQ.mapUpdate {k e:TypeId} {bm:Nat} {g:Int→Option Value} {a:Int} {val:Value} (ht:G.P.underlying t=some (.map k e)) (hk:G.P.underlying k=some (.int .i64)) (hx:ev E x=some (.map (some bm))) (hy:ev E y=some (.int .i64 a)) (hz:ev E z=some val) (ha:dV a)
  (hM:Up (.iv bm g) (.iv bm (put g a val)) M M'):fQ n (.mapUpdate t x y z) E M R (fun _:Unit=>True) (fun _=>M') (fun _=>R):=
 ⟨fun w hw=>by
  have hiv:IV w bm g:=(hw.m _ hM.mem).1
  obtain⟨w',hr,h1,h2,h3⟩:=A5 ht hk hiv (yQ ha) val
  refine ck.iI (w':=w') (fun ac hac d ty pos aft gd=>?_) ⟨(),trivial,hw.yu hM h2 h1 (fun k hk=>?_)⟩
  ·simp[execOp,hac.eval hx,hac.eval hy,hac.eval hz,hr]
  ·have:k=bm:=hk
   have:=hiv.lt
   exact⟨by omega,fun _=>hk⟩⟩
theorem Yl.Ds {k e:TypeId} {zv:Value} {bm:Nat} {g:Int→Option Value} {a:Int} (ht:G.P.underlying t=some (.map k e)) (hk:G.P.underlying k=some (.int .i64)) (hzv:∀w,(zeroValue e).run G.P w=.ok zv w) (hx:ev E x=some (.map (some bm))) (hy:ev E y=some (.int .i64 a)) (ha:dV a)
  (hM:a8.iv bm g∈M):Yl G n (.lookup t x y false) E (Ok M R) ((g a).getD zv):=
 ⟨fun w hw ac hac d ty pos aft gd=>by
  have:=uZ (t:=t) ht hk hzv (hw.m _ hM).1 (yQ ha)
  simp[execOp,hac.eval hx,hac.eval hy,this]⟩
theorem bq.pure {Mc:List a8} {Rc:List (World→Prop)} {φ:Prop} (hp:∀w,Ok M R w→φ) (h:φ→bq ops Q Mc Rc n l E M R):bq ops Q Mc Rc n l E M R:=⟨fun w hw=>(h (hp w hw)).h w hw⟩
theorem ju {w:World} {B T s m:Nat} {v:Value} {xs:List Value} (h:w.ownsRow B T s v m xs):v.oneCell'=true:=by obtain⟨p,c,rfl,_⟩:=ax h;rfl
theorem Ok.front {w:World} {q:a8} (h:Ok M R w) (hr:Rm q M M'):Ok (q::M') R w:=by
 refine h.step (cg.refl _ w) (fun x hx=>?_) (List.pairwise_cons.2 ⟨hr.HW h.d,h.d.sublist hr.sub⟩) (fun k ⟨x,hx,hk⟩ _=>?_)
 ·rcases List.mem_cons.1 hx with rfl|hx
  ·exact h.m _ hr.mem
  ·exact h.m x (hr.sub.subset hx)
 ·rcases List.mem_cons.1 hx with rfl|hx
  ·exact⟨_,hr.mem,hk⟩
  ·exact⟨x,hr.sub.subset hx,hk⟩
theorem aZ.front {c:Code} {q:a8} (hr:Rm q M M') (h:aZ Q n c E (q::M') R):aZ Q n c E M R:=⟨fun w hw=>h.h w (hw.front hr)⟩
theorem Ok.frame {M0 M1 Mr:List a8} {w w':World} (h:Ok (M0++Mr) R w) (h1:Ok M1 [] w') (hc:cg (Mb M0) w w') (ho:∀k,Mb M1 k→k<w.heap.size→Mb M0 k):Ok (M1++Mr) R w':=by
 have hd:=List.pairwise_append.1 h.d
 have hmr:∀q,q∈Mr→∀k,q.F k→¬Mb M0 k:=fun q hq k hk ⟨q0,hq0,hk0⟩=>hd.2.2 q0 hq0 q hq k hk0 hk
 refine h.step (hc.mono fun k _ ⟨q,hq,hk⟩=>⟨q,List.mem_append_left _ hq,hk⟩) (fun q hq=>?_) (List.pairwise_append.2 ⟨h1.d,hd.2.1,fun a ha b hb k hk hk'=>?_⟩) (fun k ⟨q,hq,hk⟩ hlt=>?_)
 ·rcases List.mem_append.1 hq with hq|hq
  ·exact h1.m q hq
  ·have:=h.m q (List.mem_append_right _ hq)
   exact⟨q.st this.1 hc (fun k _ hk=>hmr q hq k hk),fun k hk=>Nat.lt_of_lt_of_le (this.2 k hk) hc.size⟩
 ·have hlt:=(h.m b (List.mem_append_right _ hb)).2 k hk'
  exact hmr b hb k hk' (ho k ⟨a,ha,hk⟩ hlt)
 ·rcases List.mem_append.1 hq with hq|hq
  ·obtain⟨q0,hq0,hk0⟩:=ho k ⟨q,hq,hk⟩ hlt
   exact⟨q0,List.mem_append_left _ hq0,hk0⟩
  ·exact⟨q,List.mem_append_right _ hq,hk⟩
theorem Ok.origin {S:Nat→Prop} {w0 w:World} (h:Ok M R w) (hS:cg S w0∈R):∀k,Mb M k→k<w0.heap.size→S k:=by
 intro k hk hlt
 by_cases hs:S k
 ·exact hs
 ·exfalso
  have h1:cg S w0 w:=h.get hS
  have hkw:k<w.heap.size:=Nat.lt_of_lt_of_le hlt h1.size
  have key:∀o:Obj,w.heap[k]?=some o:=fun o=>by
   have hc:cg (Mb M) w (setBlock w k o):=(cg.setBlock w k o).mono (fun i _ e=>by subst e;exact hk)
   have h2:cg S w0 (setBlock w k o):=h.r _ hS _ hc
   have e1:=h2.block k hlt hs
   have e2:=h1.block k hlt hs
   rw[e2,←e1];simp[ChangeMaps.setBlock,hkw]
  have a:=key (.map #[] 0)
  have b:=key (.map #[] 1)
  rw[a]at b;cases b
def aM {β:Type} (M0:List a8) (w:World) (tf:β→Value) (φ:β→Prop) (M1:β→List a8) (e:Ending) (w':World):Prop:=
 ∃x,e=.returned (tf x)∧φ x∧Ok (M1 x) [] w'∧cg (Mb M0) w w'∧∀k,Mb (M1 x) k→k<w.heap.size→Mb M0 k
theorem aM.of {β:Type} {M0:List a8} {w w':World} {tf:β→Value} {φ:β→Prop} {M1:β→List a8} (x:β) (hφ:φ x) (h:Ok M R w') (hM:M1 x=M) (hR:cg (Mb M0) w∈R):aM M0 w tf φ M1 (.returned (tf x)) w':=by
 subst hM
 exact⟨x,rfl,hφ,h.sub (List.Sublist.refl _) (fun p hp=>absurd hp Mk),h.get hR,h.origin hR⟩
theorem HE.sA {β:Type} {M0 Mr:List a8} {tf:β→Value} {φ:β→Prop} {M1:β→List a8} {f:Nat} {args:List Operand} {tys:Array TypeId} {vs:List Value} (hf:G.fb[f]?=some true) (ha:jQ E args=some vs)
  (hc:∀w,Ok M0 R w→Calls G.P f vs.toArray w (aM M0 w tf φ M1)):HE n (.call ⟨.value (.func f),args.toArray,tys⟩) E (M0++Mr) R φ tf (fun x=>M1 x++Mr) (fun _=>R):=
 HE.call tf hf ha fun w hw=>(hc w (hw.sub (List.sublist_append_left _ _) (fun _ h=>h))).mono fun _e _w' ⟨x,e1,h1,h2,h3,h4⟩=>⟨x,e1,h1,hw.frame h2 h3 h4⟩
theorem Ok.dj {w:World} (h:Ok M R w):Ok M (cg (Mb M) w::R) w:=h.add fun _ hc=>hc
end
section
variable {ops:Array Oper} {Q:Exit→Act→World→Prop} {n:Nat} {E:Env} {M M':List a8} {R:List (World→Prop)} {rest l:List Oper} {op:Op} {d:Nat} {ty:TypeId} {pos:String} {aft:Array Edge} {v:Value} {x y z:Operand} {t t2:TypeId} {C:World→Prop} {P:Prop} {j:Nat} {b:Bool}
theorem Fp [Decidable P] (h:ev E x=some (.bool (decide P))) (hp:P):ev E x=some (.bool true):=by rw[h,decide_eq_true hp]
theorem Fs [Decidable P] (h:ev E x=some (.bool (decide P))) (hp:¬P):ev E x=some (.bool false):=by rw[h,decide_eq_false hp]
theorem BH {c:Bool} (h:ev E x=some (.bool c)) (hp:c=b):ev E x=some (.bool b):=by rw[h,hp]
theorem qA [Decidable P] (h:nH ops E j=some (decide P)) (hp:P):nH ops E j=some true:=by rw[h,decide_eq_true hp]
theorem tY [Decidable P] (h:nH ops E j=some (decide P)) (hp:¬P):nH ops E j=some false:=by rw[h,decide_eq_false hp]
theorem HJ {c:Bool} (h:nH ops E j=some c) (hp:c=b):nH ops E j=some b:=by rw[h,hp]
theorem A8 {c:Bool} (h:nH ops E j=some c) (hp:c=true):nH ops E j=some true:=HJ h hp
theorem AK {c:Bool} (h:nH ops E j=some c) (hp:c=false):nH ops E j=some false:=HJ h hp
theorem Yl.DN {k:IntKind} {p q:Int} (hx:ev E x=some (.int k p)) (hy:ev E y=some (.int k q)):Yl G n (.binOp .eql t x y t2) E C (.bool (decide (p=q))):=Yl.bin hx hy (fun w=>by simp[binOp,Op.intCmp];by_cases h:p=q<;>simp[h])
theorem Yl.DF {k:IntKind} {p q:Int} (hx:ev E x=some (.int k p)) (hy:ev E y=some (.int k q)):Yl G n (.binOp .neq t x y t2) E C (.bool (decide (p≠q))):=Yl.bin hx hy (fun w=>by simp[binOp,Op.intCmp];by_cases h:p=q<;>simp[h])
theorem aa.HA {dd:Option Nat} (h:aa ops Q n (⟨dd,op,ty,pos,aft,none⟩::rest) E M R):aa ops Q n (⟨dd,op,ty,pos,aft,none⟩::rest) E M R:=h
theorem aZ.De [Decidable P] {c:Operand} {x y:Code} (hc:ev E c=some (.bool (decide P))) (hx:P→aZ Q n x E M R) (hy:¬P→aZ Q n y E M R):aZ Q n (.cond c x y) E M R:=by
 by_cases h:P
 ·exact aZ.iU (Fp hc h) (hx h)
 ·exact aZ.iW (Fs hc h) (hy h)
theorem aa.B8 [Decidable P] {gd:Nat×Bool} (_hg:nH ops E gd.1=some (decide P)) (hT:P→aa ops Q n (⟨some d,op,ty,pos,aft,some gd⟩::rest) E M R) (hF:¬P→aa ops Q n (⟨some d,op,ty,pos,aft,some gd⟩::rest) E M R):aa ops Q n (⟨some d,op,ty,pos,aft,some gd⟩::rest) E M R:=by
 by_cases h:P
 ·exact hT h
 ·exact hF h
theorem aa.Ax {gd:Nat×Bool} {c:Bool} (_:nH ops E gd.1=some c) (hT:c=true→aa ops Q n (⟨some d,op,ty,pos,aft,some gd⟩::rest) E M R) (hF:c=false→aa ops Q n (⟨some d,op,ty,pos,aft,some gd⟩::rest) E M R):aa ops Q n (⟨some d,op,ty,pos,aft,some gd⟩::rest) E M R:=by
 cases h:c with
 |true=>exact hT h
 |false=>exact hF h
end
theorem eu {ops:Array Oper} {E:Env} {j:Nat} {b:Bool} (h:nH ops E j=some b:=by first|rfl|exact qA rfl eZ|exact tY rfl eZ|exact A8 rfl eZ|exact AK rfl eZ):nH ops E j=some b:=h
theorem F2 {g g':Prop} (h:g') (hw:dS g'→g:=by(intro hk_;(first|(refine aa.is ?_;(first|(refine aa.As ?_;(first|refine aa.gs eu rfl rfl ?_|refine aa.gu rfl rfl ?_|refine aa.yg eu (Yl.move rfl) rfl ?_|refine aa.yg eu (Yl.assign rfl) rfl ?_|(refine aa.aK ?_;(first|(refine aa.aK (bo:=.lss) ?_;(first|refine aa.yg eu (Yl.mj rfl rfl Mj) rfl ?_|refine aa.yg eu (Yl.lQ rfl rfl Mj) rfl ?_))|(refine aa.aK (bo:=.eql) ?_;(first|refine aa.yg eu (Yl.lH rfl rfl Mj) rfl ?_|refine aa.yg eu (Yl.lY rfl rfl Mj) rfl ?_))|(refine aa.aK (bo:=.neq) ?_;(first|refine aa.yg eu (Yl.lN rfl rfl Mj) rfl ?_|refine aa.yg eu (Yl.lJ rfl rfl Mj) rfl ?_))|(refine aa.aK (bo:=.leq) ?_;(first|refine aa.yg eu (Yl.me rfl rfl Mj) rfl ?_|refine aa.yg eu (Yl.lV rfl rfl Mj) rfl ?_))|(refine aa.aK (bo:=.gtr) ?_;(first|refine aa.yg eu (Yl.lR rfl rfl Mj) rfl ?_|refine aa.yg eu (Yl.mc rfl rfl Mj) rfl ?_))|(refine aa.aK (bo:=.geq) ?_;(first|refine aa.yg eu (Yl.mq rfl rfl Mj) rfl ?_|refine aa.yg eu (Yl.lO rfl rfl Mj) rfl ?_))|refine aa.yg eu (Yl.add rfl rfl Mj) rfl ?_|refine aa.yg eu (Yl.sub rfl rfl Mj) rfl ?_|refine aa.yg eu (Yl.jg rfl rfl rfl rfl) rfl ?_|refine aa.yg eu (Yl.tH rfl rfl) rfl ?_|refine aa.yg eu (Yl.ml rfl rfl) rfl ?_|refine aa.yg eu (Yl.mn rfl rfl Mj) rfl ?_|refine aa.yg eu (Yl.DY rfl rfl) rfl ?_|refine aa.yg eu (Yl.DN rfl rfl) rfl ?_|refine aa.yg eu (Yl.DF rfl rfl) rfl ?_|refine aa.yg eu (Yl.Eg rfl rfl) rfl ?_|refine aa.yg eu (Yl.DS rfl rfl) rfl ?_|refine aa.yg eu (Yl.DX rfl rfl) rfl ?_))|(refine aa.isField ?_;(first|refine aa.yg eu (Yl.jF rfl rfl rfl) rfl ?_|refine aa.yg eu (Yl.gP rfl rfl rfl) rfl ?_|refine aa.yg eu (Yl.field rfl rfl rfl) rfl ?_))|(refine aa.dk ?_;(first|refine aa.yg eu (Yl.kI rfl rfl rfl Lu) rfl ?_|refine aa.yg eu (Yl.ko rfl rfl rfl rfl LE) rfl ?_|refine aa.yg eu (Yl.kv rfl rfl rfl rfl LE LA) rfl ?_|refine aa.yg eu (Yl.ku rfl rfl rfl Ly rfl) rfl ?_))|(refine aa.ek ?_;(first|refine aa.yg eu (Yl.gh rfl rfl rfl rfl rfl rfl Mj) rfl ?_|refine aa.yg eu (Yl.idx rfl rfl rfl rfl rfl rfl Mj) rfl ?_))|refine aa.yg eu (Yl.len rfl rfl rfl) rfl ?_|refine aa.yg eu (Yl.extract rfl rfl) rfl ?_|refine aa.yg eu (Yl.fZ (Fp rfl eZ) rfl) rfl ?_|refine aa.yg eu (Yl.fW (Fs rfl eZ) rfl) rfl ?_|refine aa.yg eu (Yl.fZ (BH rfl eZ) rfl) rfl ?_|refine aa.yg eu (Yl.fW (BH rfl eZ) rfl) rfl ?_|refine aa.yg eu (Yl.fZ rfl rfl) rfl ?_|refine aa.yg eu (Yl.fW rfl rfl) rfl ?_|refine aa.yg eu (Yl.nilCheck rfl) rfl ?_|refine aa.yg eu (Yl.not rfl) rfl ?_|refine aa.yg eu (Yl.makeFunc rfl rfl) rfl ?_|refine aa.yg eu (Yl.iV rfl rfl) rfl ?_|refine aa.yg eu (Yl.jc rfl rfl rfl Lw Ml) rfl ?_|refine aa.yg eu (Yl.iQ rfl rfl rfl Lx) rfl ?_|refine aa.yg eu (Yl.fM rfl rfl rfl rfl) rfl ?_|refine aa.yg eu (Yl.dw Tryz.underlying9 rfl rfl rfl Mj) rfl ?_|refine aa.yg eu (Yl.de Tryz.underlying9 rfl rfl rfl Mj) rfl ?_|refine aa.yg eu (Yl.dR Tryz.underlying9 rfl rfl rfl rfl rfl Mj Mj) rfl ?_|refine aa.yg eu (Yl.cO rfl rfl rfl rfl rfl rfl Mj) rfl ?_|refine aa.yg eu (Yl.lT Tryz.underlying9 rfl) rfl ?_))|refine aa.nil ?_|(refine aa.HA ?_;(first|(refine aa.wv ?_;(first|refine aa.bn _ rfl rfl rfl rfl rfl rfl LE rfl ?_|refine aa.gg rfl rfl rfl rfl rfl LE LI ?_))|refine aa.y_ (Yl.move rfl) rfl ?_|refine aa.y_ (Yl.assign rfl) rfl ?_|(refine aa.aK ?_;(first|(refine aa.aK (bo:=.lss) ?_;(first|refine aa.y_ (Yl.mj rfl rfl Mj) rfl ?_|refine aa.y_ (Yl.lQ rfl rfl Mj) rfl ?_))|(refine aa.aK (bo:=.eql) ?_;(first|refine aa.y_ (Yl.lH rfl rfl Mj) rfl ?_|refine aa.y_ (Yl.lY rfl rfl Mj) rfl ?_))|(refine aa.aK (bo:=.neq) ?_;(first|refine aa.y_ (Yl.lN rfl rfl Mj) rfl ?_|refine aa.y_ (Yl.lJ rfl rfl Mj) rfl ?_))|(refine aa.aK (bo:=.leq) ?_;(first|refine aa.y_ (Yl.me rfl rfl Mj) rfl ?_|refine aa.y_ (Yl.lV rfl rfl Mj) rfl ?_))|(refine aa.aK (bo:=.gtr) ?_;(first|refine aa.y_ (Yl.lR rfl rfl Mj) rfl ?_|refine aa.y_ (Yl.mc rfl rfl Mj) rfl ?_))|(refine aa.aK (bo:=.geq) ?_;(first|refine aa.y_ (Yl.mq rfl rfl Mj) rfl ?_|refine aa.y_ (Yl.lO rfl rfl Mj) rfl ?_))|refine aa.y_ (Yl.add rfl rfl Mj) rfl ?_|refine aa.y_ (Yl.sub rfl rfl Mj) rfl ?_|refine aa.y_ (Yl.jg rfl rfl rfl rfl) rfl ?_|refine aa.y_ (Yl.tH rfl rfl) rfl ?_|refine aa.y_ (Yl.ml rfl rfl) rfl ?_|refine aa.y_ (Yl.mn rfl rfl Mj) rfl ?_|refine aa.y_ (Yl.DY rfl rfl) rfl ?_|refine aa.y_ (Yl.DN rfl rfl) rfl ?_|refine aa.y_ (Yl.DF rfl rfl) rfl ?_|refine aa.y_ (Yl.Eg rfl rfl) rfl ?_|refine aa.y_ (Yl.DS rfl rfl) rfl ?_|refine aa.y_ (Yl.DX rfl rfl) rfl ?_))|(refine aa.isField ?_;(first|refine aa.y_ (Yl.jF rfl rfl rfl) rfl ?_|refine aa.y_ (Yl.gP rfl rfl rfl) rfl ?_|refine aa.y_ (Yl.field rfl rfl rfl) rfl ?_))|(refine aa.dk ?_;(first|refine aa.y_ (Yl.kI rfl rfl rfl Lu) rfl ?_|refine aa.y_ (Yl.ko rfl rfl rfl rfl LE) rfl ?_|refine aa.y_ (Yl.kv rfl rfl rfl rfl LE LA) rfl ?_|refine aa.y_ (Yl.ku rfl rfl rfl Ly rfl) rfl ?_))|(refine aa.ek ?_;(first|refine aa.y_ (Yl.gh rfl rfl rfl rfl rfl rfl Mj) rfl ?_|refine aa.y_ (Yl.idx rfl rfl rfl rfl rfl rfl Mj) rfl ?_))|refine aa.y_ (Yl.len rfl rfl rfl) rfl ?_|refine aa.y_ (Yl.extract rfl rfl) rfl ?_|refine aa.y_ (Yl.fZ (Fp rfl eZ) rfl) rfl ?_|refine aa.y_ (Yl.fW (Fs rfl eZ) rfl) rfl ?_|refine aa.y_ (Yl.fZ (BH rfl eZ) rfl) rfl ?_|refine aa.y_ (Yl.fW (BH rfl eZ) rfl) rfl ?_|refine aa.y_ (Yl.fZ rfl rfl) rfl ?_|refine aa.y_ (Yl.fW rfl rfl) rfl ?_|refine aa.y_ (Yl.nilCheck rfl) rfl ?_|refine aa.y_ (Yl.not rfl) rfl ?_|refine aa.y_ (Yl.makeFunc rfl rfl) rfl ?_|refine aa.y_ (Yl.iV rfl rfl) rfl ?_|refine aa.y_ (Yl.jc rfl rfl rfl Lw Ml) rfl ?_|refine aa.y_ (Yl.iQ rfl rfl rfl Lx) rfl ?_|refine aa.y_ (Yl.fM rfl rfl rfl rfl) rfl ?_|refine aa.y_ (Yl.dw Tryz.underlying9 rfl rfl rfl Mj) rfl ?_|refine aa.y_ (Yl.de Tryz.underlying9 rfl rfl rfl Mj) rfl ?_|refine aa.y_ (Yl.dR Tryz.underlying9 rfl rfl rfl rfl rfl Mj Mj) rfl ?_|refine aa.y_ (Yl.cO rfl rfl rfl rfl rfl rfl Mj) rfl ?_|refine aa.y_ (Yl.lT Tryz.underlying9 rfl) rfl ?_))))|(refine aZ.is ?_;(first|(first|refine aZ.seq ?_|refine aZ.region ?_|refine aZ.mY rfl L9 ?_|refine aZ.block ?_|refine aZ.iU rfl ?_|refine aZ.iW rfl ?_|refine aZ.skip ?_|refine aZ.ret ?_|refine aZ.exit ?_|fail)|refine aZ.iU (Fp rfl (by first|with_reducible assumption|omega)) ?_|refine aZ.iW (Fs rfl (by first|with_reducible assumption|omega)) ?_|refine aZ.iU (BH rfl eZ) ?_|refine aZ.iW (BH rfl eZ) ?_))|(refine ah.is ?_;(first|refine ah.kY ?_|refine ah.pf ?_|refine ah.lB ?_|refine ah.oZ ?_|refine ah.lj ?_|refine ah.py ?_|refine ah.zp rfl ?_|fail))|refine HB ?_);exact hk_.out)):g:=hw ⟨h⟩
theorem ar {g g':Prop} (h:g') (hw:dS g'→g:=by(intro hk_;refine F2 ?_;(repeat refine F2 ?_);exact hk_.out)):g:=hw ⟨h⟩
theorem eH {g:Prop} {g':Nat→Prop} (h:∀b,True→g' b) (hw:dS (∀b,True→g' b)→g:=by(intro hk_;refine aa.FV ?_;exact aa.he (HE.jJ rfl rfl rfl rfl rfl eT Ml Ml) rfl hk_.out)):g:=hw ⟨h⟩
theorem aC {g:Prop} {g':Nat→Prop} (h:∀b,g' b) (hw:dS (∀b,g' b)→g:=by(intro hk_;refine aa.Gt ?_;exact aa.box _ rfl rfl rfl hk_.out)):g:=hw ⟨h⟩
theorem a7 {g a b:Prop} (ha:a) (hb:b) (hw:dS a→dS b→g:=by(intro h1_ h2_;(first|exact aZ.De rfl h1_.out h2_.out|exact aZ.Au rfl h1_.out h2_.out|exact aa.B8 rfl h1_.out h2_.out|(refine aa.Ax rfl ?_ ?_;(all_goals fail_if_success (intro hc_;cases hc_;done));exact h1_.out;exact h2_.out)|fail))):g:=hw ⟨ha⟩ ⟨hb⟩
def Fq (xs:List cJ) (p:Nat):Bool:=p==0 || (ix xs p).op==11 || F8 (ix xs (p - 1)).op
def GO (xs:List cJ) (p:Nat) (l:Int):Int:=(DT xs p l).getD (-1)
def xf (xs:List cJ) (p:Int):Nat→Nat→Int
 |0,_=>-1
 |f+1,i=>if ix (yW xs) i=p then ix (Cl xs) i else xf xs p f (i+1)
def GG (xs:List cJ) (p:Nat):Int:=xf xs p xs.length 0
def HU (x:cJ) (tv lv:Value):List Value:=[.int .i64 x.op,.int .i64 x.a,.int .i64 x.b,.int .u64 x.n,.int .i64 x.kind,.int .i64 x.val,.int .i64 x.index,tv,lv]
theorem nr.cells {F:Nat→Prop} {w:World} {b o:Nat} {x:cJ} (h:nr F w b o x):∃pt ct pl cl,af F w (.slice pt x.types.length ct) x.types∧af F w (.slice pl x.labels.length cl) x.labels∧
  ∀j,j<9→w.cell? ⟨b,o+j,none⟩=(HU x (.slice pt x.types.length ct) (.slice pl x.labels.length cl))[j]?:=by
 obtain⟨tv,h1,h2⟩:=h.types
 obtain⟨lv,h3,h4⟩:=h.labels
 obtain⟨pt,ct,rfl,_⟩:=h2.slice
 obtain⟨pl,cl,rfl,_⟩:=h4.slice
 refine⟨pt,ct,pl,cl,h2,h4,fun j hj=>?_⟩
 match j,hj with
 |0,_=>exact h.op
 |1,_=>exact h.a
 |2,_=>exact h.b
 |3,_=>exact h.n
 |4,_=>exact h.kind
 |5,_=>exact h.val
 |6,_=>exact h.index
 |7,_=>exact h1
 |8,_=>exact h3
def Fo (xs:List cJ) (p:Nat):List Int:=
 let x:=ix xs p
 if x.op=4 then(if 0≤ix (yW xs) p then[(p:Int)+1,ix (yW xs) p+1]else[(p:Int)+1,ix (Cl xs) p])
 else if x.op=5 then[GG xs p]
 else if x.op=12 then[GO xs p x.a]
 else if x.op=13 then[GO xs p x.a,(p:Int)+1]
 else if x.op=14 then x.labels.map (GO xs p)++[GO xs p x.a]
 else if x.op=15∨x.op=0 then[]
 else if xs.length≤p+1 then[]else[(p:Int)+1]
structure bw (ro:Option Nat) (D:List Deferred) (ops:Array Oper) (Q:Exit→Act→World→Prop) (n:Nat) (l:List Oper) (E:Env) (M:List a8) (R:List (World→Prop)):Prop where
 h:∀w,Ok M R w→dW ro 0 D ops Q n l E w
structure iE (ro:Option Nat) (D:List Deferred) (Q:Exit→Act→World→Prop) (n:Nat) (c:Code) (E:Env) (M:List a8) (R:List (World→Prop)):Prop where
 h:∀w,Ok M R w→jE ro 0 D Q n c E w
structure fO (D:List Deferred) (Q:Exit→Act→World→Prop) (n:Nat) (e:Exit) (E:Env) (M:List a8) (R:List (World→Prop)):Prop where
 h:∀w,Ok M R w→eJ D Q n e E w
section
variable {ro:Option Nat} {D:List Deferred} {ops:Array Oper} {Q:Exit→Act→World→Prop} {n:Nat} {E:Env} {M M':List a8} {R R':List (World→Prop)} {rest l:List Oper} {op:Op} {d:Nat} {ty:TypeId} {pos:String} {aft:Array Edge} {v:Value} {x y:Operand} {t t2:TypeId} {gd:Option (Nat×Bool)} {dd:Option Nat}
theorem iE.seq {x y:Code} (h:iE ro D (Exit.then (y.wpIn (FW ro) 0 G.P Q) Q) n x E M R):iE ro D Q n (.seq x y) E M R:=⟨fun w hw=>jE.seq (h.h w hw)⟩
theorem iE.block {id:Nat} {c:Code} (h:iE ro D (Exit.inBlock id Q) n c E M R):iE ro D Q n (.block id c) E M R:=⟨fun w hw=>jE.block (h.h w hw)⟩
theorem iE.skip (h:fO D Q n .normal E M R):iE ro D Q n .skip E M R:=⟨fun w hw=>jE.skip (h.h w hw)⟩
theorem iE.exit {id:Nat} (h:fO D Q n (.exit id) E M R):iE ro D Q n (.exit id) E M R:=⟨fun w hw=>jE.exit (h.h w hw)⟩
theorem iE.ret (h:fO D Q n .ret E M R):iE ro D Q n .ret E M R:=⟨fun w hw=>jE.ret (h.h w hw)⟩
theorem iE.region {id:Nat} {l:List Oper} (h:bw ro D l.toArray Q n l E M R):iE ro D Q n (.region id l.toArray false) E M R:=⟨fun w hw=>jE.region (h.h w hw)⟩
theorem iE.iU {c:Operand} {x y:Code} (hc:ev E c=some (.bool true)) (h:iE ro D Q n x E M R):iE ro D Q n (.cond c x y) E M R:=⟨fun w hw=>jE.iU hc (h.h w hw)⟩
theorem iE.iW {c:Operand} {x y:Code} (hc:ev E c=some (.bool false)) (h:iE ro D Q n y E M R):iE ro D Q n (.cond c x y) E M R:=⟨fun w hw=>jE.iW hc (h.h w hw)⟩
theorem fO.kY {y:Code} (h:iE ro D Q n y E M R):fO D (Exit.then (y.wpIn (FW ro) 0 G.P Q) Q) n .normal E M R:=⟨fun w hw=>eJ.kY (h.h w hw)⟩
theorem fO.lB {K:Act→World→Prop} (h:fO D Q n .ret E M R):fO D (Exit.then K Q) n .ret E M R:=⟨fun w hw=>eJ.lB (h.h w hw)⟩
theorem fO.lj {K:Act→World→Prop} {id:Nat} (h:fO D Q n (.exit id) E M R):fO D (Exit.then K Q) n (.exit id) E M R:=⟨fun w hw=>eJ.lj (h.h w hw)⟩
theorem fO.pf {id:Nat} (h:fO D Q n .normal E M R):fO D (Exit.inBlock id Q) n .normal E M R:=⟨fun w hw=>eJ.pf (h.h w hw)⟩
theorem fO.oZ {id:Nat} (h:fO D Q n .ret E M R):fO D (Exit.inBlock id Q) n .ret E M R:=⟨fun w hw=>eJ.oZ (h.h w hw)⟩
theorem fO.py {id:Nat} (h:fO D Q n .normal E M R):fO D (Exit.inBlock id Q) n (.exit id) E M R:=⟨fun w hw=>eJ.py (h.h w hw)⟩
theorem bw.nil (h:fO D Q n .normal E M R):bw ro D ops Q n [] E M R:=⟨fun w hw=>dW.nil (h.h w hw)⟩
theorem bw.y_ (hy:Yl G n op E (Ok M R) v) (hd:(nL op && Nat.blt d n)=true) (h:bw ro D ops Q n rest ((d,v)::E) M R):bw ro D ops Q n (⟨some d,op,ty,pos,aft,none⟩::rest) E M R:=
 ⟨fun w hw=>dW.y (hy.mono (by rintro _ rfl;exact hw)) hd (h.h w hw)⟩
section
variable {β:Type} {φ:β→Prop} {vf:β→Value} {Mf:β→List a8} {Rf:β→List (World→Prop)}
theorem bw.he (he:HE n op E M R φ vf Mf Rf) (hn:jI op=true) (hd:Nat.blt d n=true) (h:∀x,φ x→bw ro D ops Q n rest ((d,vf x)::E) (Mf x) (Rf x)):bw ro D ops Q n (⟨some d,op,ty,pos,aft,none⟩::rest) E M R:=
 ⟨fun w hw=>dW.e (he.h w hw) hn hd fun v w' ⟨x,h1,h2,h3⟩=>by subst h2;exact(h x h1).h w' h3⟩
theorem bw.jf (he:fQ n op E M R φ Mf Rf) (hn:jI op=true) (h:∀x,φ x→bw ro D ops Q n rest E (Mf x) (Rf x)):bw ro D ops Q n (⟨none,op,ty,pos,aft,none⟩::rest) E M R:=
 ⟨fun w hw=>dW.e0 (he.h w hw) hn fun _ w' ⟨x,h1,h3⟩=>(h x h1).h w' h3⟩
end
theorem bw.is (h:bw ro D ops Q n l E M R):bw ro D ops Q n l E M R:=h
theorem iE.is {c:Code} (h:iE ro D Q n c E M R):iE ro D Q n c E M R:=h
theorem fO.is {e:Exit} (h:fO D Q n e E M R):fO D Q n e E M R:=h
theorem bw.aK {bo:BinOp} (h:bw ro D ops Q n (⟨dd,.binOp bo t x y t2,ty,pos,aft,gd⟩::rest) E M R):bw ro D ops Q n (⟨dd,.binOp bo t x y t2,ty,pos,aft,gd⟩::rest) E M R:=h
theorem bw.dk (h:bw ro D ops Q n (⟨dd,.load t x,ty,pos,aft,gd⟩::rest) E M R):bw ro D ops Q n (⟨dd,.load t x,ty,pos,aft,gd⟩::rest) E M R:=h
theorem Hr {g g':Prop} (h:g') (hw:dS g'→g:=by(intro hk_;(repeat(first|(refine bw.is ?_;(first|refine bw.nil ?_|refine bw.y_ (Yl.move rfl) rfl ?_|refine bw.y_ (Yl.assign rfl) rfl ?_|(refine bw.aK ?_;(first|(refine bw.aK (bo:=.lss) ?_;(first|refine bw.y_ (Yl.mj rfl rfl Mj) rfl ?_|refine bw.y_ (Yl.lQ rfl rfl Mj) rfl ?_))|(refine bw.aK (bo:=.eql) ?_;(first|refine bw.y_ (Yl.lH rfl rfl Mj) rfl ?_|refine bw.y_ (Yl.lY rfl rfl Mj) rfl ?_))|(refine bw.aK (bo:=.neq) ?_;(first|refine bw.y_ (Yl.lN rfl rfl Mj) rfl ?_|refine bw.y_ (Yl.lJ rfl rfl Mj) rfl ?_))|(refine bw.aK (bo:=.leq) ?_;(first|refine bw.y_ (Yl.me rfl rfl Mj) rfl ?_|refine bw.y_ (Yl.lV rfl rfl Mj) rfl ?_))|(refine bw.aK (bo:=.gtr) ?_;(first|refine bw.y_ (Yl.lR rfl rfl Mj) rfl ?_|refine bw.y_ (Yl.mc rfl rfl Mj) rfl ?_))|(refine bw.aK (bo:=.geq) ?_;(first|refine bw.y_ (Yl.mq rfl rfl Mj) rfl ?_|refine bw.y_ (Yl.lO rfl rfl Mj) rfl ?_))|refine bw.y_ (Yl.add rfl rfl Mj) rfl ?_|refine bw.y_ (Yl.sub rfl rfl Mj) rfl ?_|refine bw.y_ (Yl.jg rfl rfl rfl rfl) rfl ?_|refine bw.y_ (Yl.tH rfl rfl) rfl ?_|refine bw.y_ (Yl.ml rfl rfl) rfl ?_|refine bw.y_ (Yl.mn rfl rfl Mj) rfl ?_|fail))|(refine bw.dk ?_;(first|refine bw.y_ (Yl.kI rfl rfl rfl Lu) rfl ?_|refine bw.y_ (Yl.ko rfl rfl rfl rfl LE) rfl ?_|refine bw.y_ (Yl.kv rfl rfl rfl rfl LE LA) rfl ?_|refine bw.y_ (Yl.ku rfl rfl rfl Ly rfl) rfl ?_))|refine bw.y_ (Yl.len rfl rfl rfl) rfl ?_|refine bw.y_ (Yl.extract rfl rfl) rfl ?_|refine bw.y_ (Yl.fZ rfl rfl) rfl ?_|refine bw.y_ (Yl.fW rfl rfl) rfl ?_|refine bw.y_ (Yl.nilCheck rfl) rfl ?_|refine bw.y_ (Yl.not rfl) rfl ?_|refine bw.y_ (Yl.makeFunc rfl rfl) rfl ?_|refine bw.y_ (Yl.iV rfl rfl) rfl ?_|refine bw.y_ (Yl.jc rfl rfl rfl Lw Ml) rfl ?_|refine bw.y_ (Yl.iQ rfl rfl rfl Lx) rfl ?_|refine bw.y_ (Yl.fM rfl rfl rfl rfl) rfl ?_|refine bw.y_ (Yl.dw Tryz.underlying9 rfl rfl rfl Mj) rfl ?_|refine bw.y_ (Yl.de Tryz.underlying9 rfl rfl rfl Mj) rfl ?_|refine bw.y_ (Yl.dR Tryz.underlying9 rfl rfl rfl rfl rfl Mj Mj) rfl ?_|refine bw.y_ (Yl.cO rfl rfl rfl rfl rfl rfl Mj) rfl ?_|refine bw.y_ (Yl.lT Tryz.underlying9 rfl) rfl ?_))|(refine iE.is ?_;(first|refine iE.seq ?_|refine iE.region ?_|refine iE.block ?_|refine iE.skip ?_|refine iE.ret ?_|refine iE.exit ?_|refine iE.iU rfl ?_|refine iE.iW rfl ?_))|(refine fO.is ?_;(first|refine fO.kY ?_|refine fO.pf ?_|refine fO.lB ?_|refine fO.oZ ?_|refine fO.lj ?_|refine fO.py ?_|fail))));exact hk_.out)):g:=hw ⟨h⟩
theorem iE.Ik {c:Code} (h:aZ Q n c E M R):iE none [] Q n c E M R:=⟨fun w hw=>⟨fun _ ha=>wpIn_wide.2 ((h.h w hw).h _ ha.Em)⟩⟩
theorem ah.F4 {y:Code} (h:iE none [] Q n y E M R):ah (Exit.then (y.wpIn (FW none) 0 G.P Q) Q) n .normal E M R:=⟨fun w hw=>⟨fun _ ha=>((h.h w hw).h _ (s7.of ha))⟩⟩
theorem iE.at {c:Code} {w:World} (hw:Ok M R w) (h:iE ro D Q n c E M R):jE ro 0 D Q n c E w:=h.h w hw
theorem fO.at {e:Exit} {w:World} (hw:Ok M R w) (h:fO D Q n e E M R):eJ D Q n e E w:=h.h w hw
theorem FB {f:FuncId} {fn:Func} {c:Code} {l:List Value} {w:World} {Rp:Ending→World→Prop} (hf:G.P.funcs[f]?=some fn) (hb:fn.body=some c) (hn:fn.ntmps=n) (hl:Nat.ble l.length n=true) (hw:Ok M R w)
  (h:iE none [] (bodyPostM (FW none) 0 G.P fn Rp) n c (yX 0 l) M R):Calls G.P f l.toArray w Rp:=CB 0 hf hb hn hl (h.h w hw)
end
theorem Ok.grow {M:List a8} {w0 W W':World} {row:Option Nat} {B:Nat} (h:Ok M [Ext w0] W) (hB:w0.heap.size≤B) (hg:W.grownBy W' row) (hr:∀r,row=some r→B≤r∧∃o:Obj,W.heap[r]?=some o∧o.isCells=false) (hM:∀(r:Nat) (o:Obj),B≤r→W.heap[r]?=some o→o.isCells=false→¬Mb M r):Ok M [Ext w0] W':=by
 have hc:=cg.nh hg
 have hx:Ext w0 W:=h.get Mk
 have hx':Ext w0 W':=cg.trans' hx hc (fun k hk e=>by have:=(hr k e).1;omega)
 refine⟨fun q hq=>?_,h.d,fun p hp w2 h2=>?_⟩
 ·obtain⟨h1,h2⟩:=h.m q hq
  refine⟨q.st h1 hc fun k _ hk e=>?_,fun k hk=>Nat.lt_of_lt_of_le (h2 k hk) hc.size⟩
  obtain⟨h3,o,h4,h5⟩:=hr k e
  exact hM k o h3 h4 h5 ⟨q,hq,hk⟩
 ·rw[List.mem_singleton]at hp
  subst hp
  exact cg.trans' hx' h2 (fun k hk hm=>absurd (h.origin (S:=fun _=>False) (by simp[]) k hm hk) id)
end Go.Proofs.YtgbgnipidakdhaaGreatDoor
