/- ref05.Plain. Printed by gen_gq.py. -/
import Derived.Test.YtdkcljdfbemnbaaGreatDoorJGp
namespace Go.Proofs.YtdkcljdfbemnbaaGreatDoor
open Go.RowKit
set_option maxHeartbeats 16000000
open Value renaming int→Pf,slice→Pg
set_option maxRecDepth 100000
def bG (known:Bool) (k a b n kind val index:Int) (nt nl:Nat) (t0:Int) (lal:Bool):Bool:=
 let ab:=decide (a=0) && decide (b=0)
 if known=false∨(k≠1∧¬(kind=0∧val=0∧index=0))∨(k≠3∧0<nl)∨(k≠6∧0<nt)then false else
 if k=0 then ab && decide (n=0)else
 if k=1 then ab && decide (n=0) && jr kind val index else
 if k=3 then br a && decide (b=0) && decide (n=0) && lal else
 if k=6 then ab && decide (n=0) && decide (nt=1) && kj t0 else
 if k=2∨k=4∨k=7∨k=8∨k=9∨k=12∨k=16 then br a && decide (b=0) && decide (n=0)else
 if k=5∨k=10∨k=11∨k=14∨k=15 then br a && br b && decide (n=0)else
 if k=13 then decide (a=0) && br b && decide (n=0)else
 if k=17 then decide (0≤a) && decide (a≤63) && br b && decide (n<4294967296)else
 if k=18 then ab && decide (n<4294967296)else
 if k=19 then ab else(decide (a=3) || decide (a=4)) && decide (b=0) && decide (n=0)
theorem rz (known:Bool) (k a b n kind val index:Int) (types labels:List Int):FI known k a b n kind val index types labels=bG known k a b n kind val index types.length labels.length (ix types 0) (labels.all br):=rfl
attribute [local irreducible] br kj jr
theorem yx (op a b n kind val index:Int) (nt nl:Nat) (pt pl:Option Addr) (ct cl:Nat) (k:Int) (w:World)
  (hk:∀w',Ext w w'→Calls G.P 106 #[.int .i64 op] w' fun e w2=>e=.returned (.bool false)∧Ext w' w2) (ho:∀w',Ext w w'→Calls G.P 105 #[.int .i64 op] w' fun e w2=>e=.returned (.int .i64 k)∧Ext w' w2):
  Calls G.P 64 #[.agg #[Pf .i64 op,Pf .i64 a,Pf .i64 b,Pf .u64 n,Pf .i64 kind,Pf .i64 val,Pf .i64 index,Pg pt nt ct,Pg pl nl cl]] w fun e w'=>e=.returned (.bool false)∧Ext w w':=by
 have:=hk;clear this;have:=ho;clear this
 refine MO ?_
 repeat'(first|refine mq ?_|(refine aE fun b_=>?_)|refine Oj ?_|refine Ol ?_|fail)
 all_goals exact ci
theorem G1 {g g':Prop} (h:g') (hw:eI g'→g:=by(intro hk_;(first|refine N8 ?_|refine Oj ?_|refine Ol ?_);exact hk_.out)):g:=hw ⟨h⟩
variable (op a b n kind val index t0:Int) (nt nl:Nat) (pt pl:Option Addr)
theorem vS (ct cl:Nat) (lal:Bool) (w:World)
  (hl:∀w',Ext w w'→Calls G.P 109 #[.slice pl nl cl] w' fun e w2=>e=.returned (.bool lal)∧Ext w' w2)
  (hk:∀w',Ext w w'→Calls G.P 106 #[.int .i64 op] w' fun e w2=>e=.returned (.bool true)∧Ext w' w2) (ho:∀w',Ext w w'→Calls G.P 105 #[.int .i64 op] w' fun e w2=>e=.returned (.int .i64 0)∧Ext w' w2):
  Calls G.P 64 #[.agg #[Pf .i64 op,Pf .i64 a,Pf .i64 b,Pf .u64 n,Pf .i64 kind,Pf .i64 val,Pf .i64 index,Pg pt nt ct,Pg pl nl cl]] w fun e w'=>e=.returned (.bool (bG true 0 a b n kind val index nt nl t0 lal))∧Ext w w':=by
 have:=hk;clear this;have:=ho;clear this
 have:=hl;clear this
 refine MO ?_
 repeat'(first|refine mq ?_|(refine aE fun b_=>?_)|refine G1 ?_|(refine gL ?_ ?_<;>(intro hc_;try subst hc_)))
 all_goals exact t6
theorem vT (ct cl:Nat) (lal:Bool) (w:World)
  (hl:∀w',Ext w w'→Calls G.P 109 #[.slice pl nl cl] w' fun e w2=>e=.returned (.bool lal)∧Ext w' w2)
  (hk:∀w',Ext w w'→Calls G.P 106 #[.int .i64 op] w' fun e w2=>e=.returned (.bool true)∧Ext w' w2) (ho:∀w',Ext w w'→Calls G.P 105 #[.int .i64 op] w' fun e w2=>e=.returned (.int .i64 1)∧Ext w' w2):
  Calls G.P 64 #[.agg #[Pf .i64 op,Pf .i64 a,Pf .i64 b,Pf .u64 n,Pf .i64 kind,Pf .i64 val,Pf .i64 index,Pg pt nt ct,Pg pl nl cl]] w fun e w'=>e=.returned (.bool (bG true 1 a b n kind val index nt nl t0 lal))∧Ext w w':=by
 have:=hk;clear this;have:=ho;clear this
 have:=hl;clear this
 refine MO ?_
 repeat'(first|refine mq ?_|(refine aE fun b_=>?_)|refine Oj ?_|refine Ol ?_|(refine aa.cQ (f:=107) ?_;refine aa.cH pF rfl rfl rfl (fun w' hw'=>Ac _ _ _ w') ?_)|refine Od ?_|(refine gL ?_ ?_<;>(intro hc_;try subst hc_)))
 all_goals exact t6
theorem FQ {g g':Prop} (h:g') (hw:eI g'→g:=by(intro hk_;(first|refine G1 ?_|refine Ou ?_);exact hk_.out)):g:=hw ⟨h⟩
theorem vU (ct cl:Nat) (lal:Bool) (w:World)
  (hl:∀w',Ext w w'→Calls G.P 109 #[.slice pl nl cl] w' fun e w2=>e=.returned (.bool lal)∧Ext w' w2)
  (hk:∀w',Ext w w'→Calls G.P 106 #[.int .i64 op] w' fun e w2=>e=.returned (.bool true)∧Ext w' w2) (ho:∀w',Ext w w'→Calls G.P 105 #[.int .i64 op] w' fun e w2=>e=.returned (.int .i64 2)∧Ext w' w2):
  Calls G.P 64 #[.agg #[Pf .i64 op,Pf .i64 a,Pf .i64 b,Pf .u64 n,Pf .i64 kind,Pf .i64 val,Pf .i64 index,Pg pt nt ct,Pg pl nl cl]] w fun e w'=>e=.returned (.bool (bG true 2 a b n kind val index nt nl t0 lal))∧Ext w w':=by
 have:=hk;clear this;have:=ho;clear this
 have:=hl;clear this
 refine MO ?_
 repeat'(first|refine mq ?_|(refine aE fun b_=>?_)|refine FQ ?_|(refine gL ?_ ?_<;>(intro hc_;try subst hc_)))
 all_goals exact t6
theorem Jg {g g':Prop} (h:g') (hw:eI g'→g:=by(intro hk_;(first|refine FQ ?_|refine Oq ?_|refine Od ?_);exact hk_.out)):g:=hw ⟨h⟩
theorem vV (ct cl:Nat) (lal:Bool) (w:World)
  (hl:∀w',Ext w w'→Calls G.P 109 #[.slice pl nl cl] w' fun e w2=>e=.returned (.bool lal)∧Ext w' w2)
  (hk:∀w',Ext w w'→Calls G.P 106 #[.int .i64 op] w' fun e w2=>e=.returned (.bool true)∧Ext w' w2) (ho:∀w',Ext w w'→Calls G.P 105 #[.int .i64 op] w' fun e w2=>e=.returned (.int .i64 3)∧Ext w' w2):
  Calls G.P 64 #[.agg #[Pf .i64 op,Pf .i64 a,Pf .i64 b,Pf .u64 n,Pf .i64 kind,Pf .i64 val,Pf .i64 index,Pg pt nt ct,Pg pl nl cl]] w fun e w'=>e=.returned (.bool (bG true 3 a b n kind val index nt nl t0 lal))∧Ext w w':=by
 have:=hl;clear this;have:=hk;clear this;have:=ho;clear this
 refine MO ?_
 repeat'(first|refine mq ?_|(refine aE fun b_=>?_)|refine Jg ?_|(refine gL ?_ ?_<;>(intro hc_;try subst hc_)))
 all_goals exact t6
theorem vW (ct cl:Nat) (lal:Bool) (w:World)
  (hl:∀w',Ext w w'→Calls G.P 109 #[.slice pl nl cl] w' fun e w2=>e=.returned (.bool lal)∧Ext w' w2)
  (hk:∀w',Ext w w'→Calls G.P 106 #[.int .i64 op] w' fun e w2=>e=.returned (.bool true)∧Ext w' w2) (ho:∀w',Ext w w'→Calls G.P 105 #[.int .i64 op] w' fun e w2=>e=.returned (.int .i64 4)∧Ext w' w2):
  Calls G.P 64 #[.agg #[Pf .i64 op,Pf .i64 a,Pf .i64 b,Pf .u64 n,Pf .i64 kind,Pf .i64 val,Pf .i64 index,Pg pt nt ct,Pg pl nl cl]] w fun e w'=>e=.returned (.bool (bG true 4 a b n kind val index nt nl t0 lal))∧Ext w w':=by
 have:=hk;clear this;have:=ho;clear this
 have:=hl;clear this
 refine MO ?_
 repeat'(first|refine mq ?_|(refine aE fun b_=>?_)|refine FQ ?_|(refine gL ?_ ?_<;>(intro hc_;try subst hc_)))
 all_goals exact t6
theorem vX (ct cl:Nat) (lal:Bool) (w:World)
  (hl:∀w',Ext w w'→Calls G.P 109 #[.slice pl nl cl] w' fun e w2=>e=.returned (.bool lal)∧Ext w' w2)
  (hk:∀w',Ext w w'→Calls G.P 106 #[.int .i64 op] w' fun e w2=>e=.returned (.bool true)∧Ext w' w2) (ho:∀w',Ext w w'→Calls G.P 105 #[.int .i64 op] w' fun e w2=>e=.returned (.int .i64 5)∧Ext w' w2):
  Calls G.P 64 #[.agg #[Pf .i64 op,Pf .i64 a,Pf .i64 b,Pf .u64 n,Pf .i64 kind,Pf .i64 val,Pf .i64 index,Pg pt nt ct,Pg pl nl cl]] w fun e w'=>e=.returned (.bool (bG true 5 a b n kind val index nt nl t0 lal))∧Ext w w':=by
 have:=hk;clear this;have:=ho;clear this
 have:=hl;clear this
 refine MO ?_
 repeat'(first|refine mq ?_|(refine aE fun b_=>?_)|refine Jg ?_|(refine gL ?_ ?_<;>(intro hc_;try subst hc_)))
 all_goals exact t6
theorem uv (bt ot nl:Nat) (pl:Option Addr) (ct cl:Nat) (lal:Bool) (w:World) (_hcell:w.cell? ⟨bt,ot+0,none⟩=some (.int .i64 t0))
  (hl:∀w',Ext w w'→Calls G.P 109 #[.slice pl nl cl] w' fun e w2=>e=.returned (.bool lal)∧Ext w' w2)
  (hk:∀w',Ext w w'→Calls G.P 106 #[.int .i64 op] w' fun e w2=>e=.returned (.bool true)∧Ext w' w2) (ho:∀w',Ext w w'→Calls G.P 105 #[.int .i64 op] w' fun e w2=>e=.returned (.int .i64 6)∧Ext w' w2):
  Calls G.P 64 #[.agg #[Pf .i64 op,Pf .i64 a,Pf .i64 b,Pf .u64 n,Pf .i64 kind,Pf .i64 val,Pf .i64 index,Pg (some ⟨bt,ot,none⟩) 1 ct,Pg pl nl cl]] w fun e w'=>e=.returned (.bool (bG true 6 a b n kind val index 1 nl t0 lal))∧Ext w w':=by
 have:=hk;clear this;have:=ho;clear this
 have:=hl;clear this
 refine MO ?_
 repeat'(first|refine mq ?_|(refine aa.CC ?_;refine aa.eM ?_;refine aa.yg (by first|rfl|exact vD rfl eW) (Yl.gn (i:=0) rfl rfl rfl rfl rfl rfl Pb) rfl ?_)|(refine aE fun b_=>?_)|refine G1 ?_|(refine aa.cQ (f:=110) ?_;refine aa.cH pF rfl rfl rfl (fun w' hw'=>xB _ w') ?_)|refine Od ?_|(refine gL ?_ ?_<;>(intro hc_;try subst hc_)))
 all_goals exact t6
theorem uw (ct cl:Nat) (lal:Bool) (w:World) (_h1:¬((nt:Int)=1))
  (hl:∀w',Ext w w'→Calls G.P 109 #[.slice pl nl cl] w' fun e w2=>e=.returned (.bool lal)∧Ext w' w2)
  (hk:∀w',Ext w w'→Calls G.P 106 #[.int .i64 op] w' fun e w2=>e=.returned (.bool true)∧Ext w' w2) (ho:∀w',Ext w w'→Calls G.P 105 #[.int .i64 op] w' fun e w2=>e=.returned (.int .i64 6)∧Ext w' w2):
  Calls G.P 64 #[.agg #[Pf .i64 op,Pf .i64 a,Pf .i64 b,Pf .u64 n,Pf .i64 kind,Pf .i64 val,Pf .i64 index,Pg pt nt ct,Pg pl nl cl]] w fun e w'=>e=.returned (.bool (bG true 6 a b n kind val index nt nl t0 lal))∧Ext w w':=by
 have:=hk;clear this;have:=ho;clear this
 have:=hl;clear this
 refine MO ?_
 repeat'(first|refine mq ?_|(refine aE fun b_=>?_)|refine G1 ?_|(refine gL ?_ ?_<;>(intro hc_;try subst hc_)))
 all_goals exact t6
theorem vY (ct cl:Nat) (lal:Bool) (w:World)
  (hl:∀w',Ext w w'→Calls G.P 109 #[.slice pl nl cl] w' fun e w2=>e=.returned (.bool lal)∧Ext w' w2)
  (hk:∀w',Ext w w'→Calls G.P 106 #[.int .i64 op] w' fun e w2=>e=.returned (.bool true)∧Ext w' w2) (ho:∀w',Ext w w'→Calls G.P 105 #[.int .i64 op] w' fun e w2=>e=.returned (.int .i64 7)∧Ext w' w2):
  Calls G.P 64 #[.agg #[Pf .i64 op,Pf .i64 a,Pf .i64 b,Pf .u64 n,Pf .i64 kind,Pf .i64 val,Pf .i64 index,Pg pt nt ct,Pg pl nl cl]] w fun e w'=>e=.returned (.bool (bG true 7 a b n kind val index nt nl t0 lal))∧Ext w w':=by
 have:=hk;clear this;have:=ho;clear this
 have:=hl;clear this
 refine MO ?_
 repeat'(first|refine mq ?_|(refine aE fun b_=>?_)|refine FQ ?_|(refine gL ?_ ?_<;>(intro hc_;try subst hc_)))
 all_goals exact t6
theorem vZ (ct cl:Nat) (lal:Bool) (w:World)
  (hl:∀w',Ext w w'→Calls G.P 109 #[.slice pl nl cl] w' fun e w2=>e=.returned (.bool lal)∧Ext w' w2)
  (hk:∀w',Ext w w'→Calls G.P 106 #[.int .i64 op] w' fun e w2=>e=.returned (.bool true)∧Ext w' w2) (ho:∀w',Ext w w'→Calls G.P 105 #[.int .i64 op] w' fun e w2=>e=.returned (.int .i64 8)∧Ext w' w2):
  Calls G.P 64 #[.agg #[Pf .i64 op,Pf .i64 a,Pf .i64 b,Pf .u64 n,Pf .i64 kind,Pf .i64 val,Pf .i64 index,Pg pt nt ct,Pg pl nl cl]] w fun e w'=>e=.returned (.bool (bG true 8 a b n kind val index nt nl t0 lal))∧Ext w w':=by
 have:=hk;clear this;have:=ho;clear this
 have:=hl;clear this
 refine MO ?_
 repeat'(first|refine mq ?_|(refine aE fun b_=>?_)|refine FQ ?_|(refine gL ?_ ?_<;>(intro hc_;try subst hc_)))
 all_goals exact t6
end Go.Proofs.YtdkcljdfbemnbaaGreatDoor
