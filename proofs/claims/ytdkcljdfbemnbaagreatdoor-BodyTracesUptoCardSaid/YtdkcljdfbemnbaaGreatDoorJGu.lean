import Derived.Test.YtdkcljdfbemnbaaGreatDoorJGp
namespace Go.Proofs.YtdkcljdfbemnbaaGreatDoor
section
open Go.RowKit
set_option maxHeartbeats 16000000
open Value renaming int→Pm,slice→Pn
set_option maxRecDepth 100000
def bG (known:Bool) (k a b n kind val index:Int) (nt nl:Nat) (t0:Int) (lal:Bool):Bool:=
 let ab:=decide (a=0) && decide (b=0)
 if known=false∨(k≠1∧¬(kind=0∧val=0∧index=0))∨(k≠3∧0<nl)∨(k≠6∧0<nt)then false else
 if k=0 then ab && decide (n=0)else
 if k=1 then ab && decide (n=0) && jq kind val index else
 if k=3 then br a && decide (b=0) && decide (n=0) && lal else
 if k=6 then ab && decide (n=0) && decide (nt=1) && ki t0 else
 if k=2∨k=4∨k=7∨k=8∨k=9∨k=12∨k=16 then br a && decide (b=0) && decide (n=0)else
 if k=5∨k=10∨k=11∨k=14∨k=15 then br a && br b && decide (n=0)else
 if k=13 then decide (a=0) && br b && decide (n=0)else
 if k=17 then decide (0≤a) && decide (a≤63) && br b && decide (n<4294967296)else
 if k=18 then ab && decide (n<4294967296)else
 if k=19 then ab else(decide (a=3) || decide (a=4)) && decide (b=0) && decide (n=0)
theorem rE (known:Bool) (k a b n kind val index:Int) (types labels:List Int):FL known k a b n kind val index types labels=bG known k a b n kind val index types.length labels.length (ix types 0) (labels.all br):=rfl
attribute [local irreducible] br ki jq
theorem G8 {g g':Prop} (h:g') (hw:eA g'→g:=by(intro hk_;(first|refine Ot ?_|refine Ou ?_);exact hk_.out)):g:=hw ⟨h⟩
theorem yC (op a b n kind val index:Int) (nt nl:Nat) (pt pl:Option Addr) (ct cl:Nat) (k:Int) (w:World)
  (hk:∀w',Ext w w'→Calls G.P 106 #[.int .i64 op] w' fun e w2=>e=.returned (.bool false)∧Ext w' w2) (ho:∀w',Ext w w'→Calls G.P 105 #[.int .i64 op] w' fun e w2=>e=.returned (.int .i64 k)∧Ext w' w2):
  Calls G.P 64 #[.agg #[Pm .i64 op,Pm .i64 a,Pm .i64 b,Pm .u64 n,Pm .i64 kind,Pm .i64 val,Pm .i64 index,Pn pt nt ct,Pn pl nl cl]] w fun e w'=>e=.returned (.bool false)∧Ext w w':=by
 have:=hk;clear this;have:=ho;clear this
 refine MP ?_
 repeat'(first|refine mu ?_|(refine aF fun b_=>?_)|refine G8 ?_|fail)
 all_goals exact gt
theorem vX (op a b n kind val index t0:Int) (nt nl:Nat) (pt pl:Option Addr) (ct cl:Nat) (lal:Bool) (w:World)
  (hl:∀w',Ext w w'→Calls G.P 109 #[.slice pl nl cl] w' fun e w2=>e=.returned (.bool lal)∧Ext w' w2)
  (hk:∀w',Ext w w'→Calls G.P 106 #[.int .i64 op] w' fun e w2=>e=.returned (.bool true)∧Ext w' w2) (ho:∀w',Ext w w'→Calls G.P 105 #[.int .i64 op] w' fun e w2=>e=.returned (.int .i64 0)∧Ext w' w2):
  Calls G.P 64 #[.agg #[Pm .i64 op,Pm .i64 a,Pm .i64 b,Pm .u64 n,Pm .i64 kind,Pm .i64 val,Pm .i64 index,Pn pt nt ct,Pn pl nl cl]] w fun e w'=>e=.returned (.bool (bG true 0 a b n kind val index nt nl t0 lal))∧Ext w w':=by
 have:=hl;clear this;have:=hk;clear this;have:=ho;clear this
 refine MP ?_
 repeat'(first|refine mu ?_|(refine aF fun b_=>?_)|refine Od ?_|refine G8 ?_|(refine gP ?_ ?_<;>(intro hc_;try subst hc_)))
 all_goals exact rt
theorem vY (op a b n kind val index t0:Int) (nt nl:Nat) (pt pl:Option Addr) (ct cl:Nat) (lal:Bool) (w:World)
  (hl:∀w',Ext w w'→Calls G.P 109 #[.slice pl nl cl] w' fun e w2=>e=.returned (.bool lal)∧Ext w' w2)
  (hk:∀w',Ext w w'→Calls G.P 106 #[.int .i64 op] w' fun e w2=>e=.returned (.bool true)∧Ext w' w2) (ho:∀w',Ext w w'→Calls G.P 105 #[.int .i64 op] w' fun e w2=>e=.returned (.int .i64 1)∧Ext w' w2):
  Calls G.P 64 #[.agg #[Pm .i64 op,Pm .i64 a,Pm .i64 b,Pm .u64 n,Pm .i64 kind,Pm .i64 val,Pm .i64 index,Pn pt nt ct,Pn pl nl cl]] w fun e w'=>e=.returned (.bool (bG true 1 a b n kind val index nt nl t0 lal))∧Ext w w':=by
 have:=hl;clear this;have:=hk;clear this;have:=ho;clear this
 refine MP ?_
 repeat'(first|refine mu ?_|(refine aF fun b_=>?_)|refine G8 ?_|(refine aa.cK (f:=107) ?_;refine aa.cB pk rfl rfl rfl (fun w' hw'=>Ah _ _ _ w') ?_)|refine Oj ?_|(refine gP ?_ ?_<;>(intro hc_;try subst hc_)))
 all_goals exact rt
theorem Jp {g g':Prop} (h:g') (hw:eA g'→g:=by(intro hk_;(first|refine Od ?_|refine G8 ?_|refine OA ?_);exact hk_.out)):g:=hw ⟨h⟩
theorem vZ (op a b n kind val index t0:Int) (nt nl:Nat) (pt pl:Option Addr) (ct cl:Nat) (lal:Bool) (w:World)
  (hl:∀w',Ext w w'→Calls G.P 109 #[.slice pl nl cl] w' fun e w2=>e=.returned (.bool lal)∧Ext w' w2)
  (hk:∀w',Ext w w'→Calls G.P 106 #[.int .i64 op] w' fun e w2=>e=.returned (.bool true)∧Ext w' w2) (ho:∀w',Ext w w'→Calls G.P 105 #[.int .i64 op] w' fun e w2=>e=.returned (.int .i64 2)∧Ext w' w2):
  Calls G.P 64 #[.agg #[Pm .i64 op,Pm .i64 a,Pm .i64 b,Pm .u64 n,Pm .i64 kind,Pm .i64 val,Pm .i64 index,Pn pt nt ct,Pn pl nl cl]] w fun e w'=>e=.returned (.bool (bG true 2 a b n kind val index nt nl t0 lal))∧Ext w w':=by
 have:=hl;clear this;have:=hk;clear this;have:=ho;clear this
 refine MP ?_
 repeat'(first|refine mu ?_|(refine aF fun b_=>?_)|refine Jp ?_|(refine gP ?_ ?_<;>(intro hc_;try subst hc_)))
 all_goals exact rt
theorem wb (op a b n kind val index t0:Int) (nt nl:Nat) (pt pl:Option Addr) (ct cl:Nat) (lal:Bool) (w:World)
  (hl:∀w',Ext w w'→Calls G.P 109 #[.slice pl nl cl] w' fun e w2=>e=.returned (.bool lal)∧Ext w' w2)
  (hk:∀w',Ext w w'→Calls G.P 106 #[.int .i64 op] w' fun e w2=>e=.returned (.bool true)∧Ext w' w2) (ho:∀w',Ext w w'→Calls G.P 105 #[.int .i64 op] w' fun e w2=>e=.returned (.int .i64 3)∧Ext w' w2):
  Calls G.P 64 #[.agg #[Pm .i64 op,Pm .i64 a,Pm .i64 b,Pm .u64 n,Pm .i64 kind,Pm .i64 val,Pm .i64 index,Pn pt nt ct,Pn pl nl cl]] w fun e w'=>e=.returned (.bool (bG true 3 a b n kind val index nt nl t0 lal))∧Ext w w':=by
 have:=hl;clear this;have:=hk;clear this;have:=ho;clear this
 refine MP ?_
 repeat'(first|refine mu ?_|(refine aF fun b_=>?_)|refine Jp ?_|refine Oy ?_|refine Oj ?_|(refine gP ?_ ?_<;>(intro hc_;try subst hc_)))
 all_goals exact rt
end
section
open Go.RowKit
set_option maxHeartbeats 16000000
open Value renaming int→Pm,slice→Pn
set_option maxRecDepth 100000
attribute [local irreducible] br ki jq
theorem Is {g g':Prop} (h:g') (hw:eA g'→g:=by(intro hk_;(first|refine Od ?_|refine Ot ?_|refine Ou ?_);exact hk_.out)):g:=hw ⟨h⟩
theorem G9 {g g':Prop} (h:g') (hw:eA g'→g:=by(intro hk_;(first|refine Is ?_|refine OA ?_);exact hk_.out)):g:=hw ⟨h⟩
theorem wc (op a b n kind val index t0:Int) (nt nl:Nat) (pt pl:Option Addr) (ct cl:Nat) (lal:Bool) (w:World)
  (hl:∀w',Ext w w'→Calls G.P 109 #[.slice pl nl cl] w' fun e w2=>e=.returned (.bool lal)∧Ext w' w2)
  (hk:∀w',Ext w w'→Calls G.P 106 #[.int .i64 op] w' fun e w2=>e=.returned (.bool true)∧Ext w' w2) (ho:∀w',Ext w w'→Calls G.P 105 #[.int .i64 op] w' fun e w2=>e=.returned (.int .i64 4)∧Ext w' w2):
  Calls G.P 64 #[.agg #[Pm .i64 op,Pm .i64 a,Pm .i64 b,Pm .u64 n,Pm .i64 kind,Pm .i64 val,Pm .i64 index,Pn pt nt ct,Pn pl nl cl]] w fun e w'=>e=.returned (.bool (bG true 4 a b n kind val index nt nl t0 lal))∧Ext w w':=by
 have:=hl;clear this;have:=hk;clear this;have:=ho;clear this
 refine MP ?_
 repeat'(first|refine mu ?_|(refine aF fun b_=>?_)|refine G9 ?_|(refine gP ?_ ?_<;>(intro hc_;try subst hc_)))
 all_goals exact rt
theorem we (op a b n kind val index t0:Int) (nt nl:Nat) (pt pl:Option Addr) (ct cl:Nat) (lal:Bool) (w:World)
  (hl:∀w',Ext w w'→Calls G.P 109 #[.slice pl nl cl] w' fun e w2=>e=.returned (.bool lal)∧Ext w' w2)
  (hk:∀w',Ext w w'→Calls G.P 106 #[.int .i64 op] w' fun e w2=>e=.returned (.bool true)∧Ext w' w2) (ho:∀w',Ext w w'→Calls G.P 105 #[.int .i64 op] w' fun e w2=>e=.returned (.int .i64 5)∧Ext w' w2):
  Calls G.P 64 #[.agg #[Pm .i64 op,Pm .i64 a,Pm .i64 b,Pm .u64 n,Pm .i64 kind,Pm .i64 val,Pm .i64 index,Pn pt nt ct,Pn pl nl cl]] w fun e w'=>e=.returned (.bool (bG true 5 a b n kind val index nt nl t0 lal))∧Ext w w':=by
 have:=hl;clear this;have:=hk;clear this;have:=ho;clear this
 refine MP ?_
 repeat'(first|refine mu ?_|(refine aF fun b_=>?_)|refine G9 ?_|refine Oy ?_|refine Oj ?_|(refine gP ?_ ?_<;>(intro hc_;try subst hc_)))
 all_goals exact rt
theorem uB (op a b n kind val index t0:Int) (bt ot nl:Nat) (pl:Option Addr) (ct cl:Nat) (lal:Bool) (w:World) (_hcell:w.cell? ⟨bt,ot+0,none⟩=some (.int .i64 t0))
  (hl:∀w',Ext w w'→Calls G.P 109 #[.slice pl nl cl] w' fun e w2=>e=.returned (.bool lal)∧Ext w' w2)
  (hk:∀w',Ext w w'→Calls G.P 106 #[.int .i64 op] w' fun e w2=>e=.returned (.bool true)∧Ext w' w2) (ho:∀w',Ext w w'→Calls G.P 105 #[.int .i64 op] w' fun e w2=>e=.returned (.int .i64 6)∧Ext w' w2):
  Calls G.P 64 #[.agg #[Pm .i64 op,Pm .i64 a,Pm .i64 b,Pm .u64 n,Pm .i64 kind,Pm .i64 val,Pm .i64 index,Pn (some ⟨bt,ot,none⟩) 1 ct,Pn pl nl cl]] w fun e w'=>e=.returned (.bool (bG true 6 a b n kind val index 1 nl t0 lal))∧Ext w w':=by
 have:=hl;clear this;have:=hk;clear this;have:=ho;clear this
 refine MP ?_
 repeat'(first|refine mu ?_|(refine aa.CF ?_;refine aa.eN ?_;refine aa.yg (by first|rfl|exact td rfl eB) (Yl.gn (i:=0) rfl rfl rfl rfl rfl rfl Ph) rfl ?_)|(refine aF fun b_=>?_)|refine Is ?_|(refine aa.cK (f:=110) ?_;refine aa.cB pk rfl rfl rfl (fun w' hw'=>xE _ w') ?_)|refine Oj ?_|(refine gP ?_ ?_<;>(intro hc_;try subst hc_)))
 all_goals exact rt
theorem uC (op a b n kind val index t0:Int) (nt nl:Nat) (pt pl:Option Addr) (ct cl:Nat) (lal:Bool) (w:World) (_h1:¬((nt:Int)=1))
  (hl:∀w',Ext w w'→Calls G.P 109 #[.slice pl nl cl] w' fun e w2=>e=.returned (.bool lal)∧Ext w' w2)
  (hk:∀w',Ext w w'→Calls G.P 106 #[.int .i64 op] w' fun e w2=>e=.returned (.bool true)∧Ext w' w2) (ho:∀w',Ext w w'→Calls G.P 105 #[.int .i64 op] w' fun e w2=>e=.returned (.int .i64 6)∧Ext w' w2):
  Calls G.P 64 #[.agg #[Pm .i64 op,Pm .i64 a,Pm .i64 b,Pm .u64 n,Pm .i64 kind,Pm .i64 val,Pm .i64 index,Pn pt nt ct,Pn pl nl cl]] w fun e w'=>e=.returned (.bool (bG true 6 a b n kind val index nt nl t0 lal))∧Ext w w':=by
 have:=hl;clear this;have:=hk;clear this;have:=ho;clear this
 refine MP ?_
 repeat'(first|refine mu ?_|(refine aF fun b_=>?_)|refine Is ?_|(refine gP ?_ ?_<;>(intro hc_;try subst hc_)))
 all_goals exact rt
theorem wg (op a b n kind val index t0:Int) (nt nl:Nat) (pt pl:Option Addr) (ct cl:Nat) (lal:Bool) (w:World)
  (hl:∀w',Ext w w'→Calls G.P 109 #[.slice pl nl cl] w' fun e w2=>e=.returned (.bool lal)∧Ext w' w2)
  (hk:∀w',Ext w w'→Calls G.P 106 #[.int .i64 op] w' fun e w2=>e=.returned (.bool true)∧Ext w' w2) (ho:∀w',Ext w w'→Calls G.P 105 #[.int .i64 op] w' fun e w2=>e=.returned (.int .i64 7)∧Ext w' w2):
  Calls G.P 64 #[.agg #[Pm .i64 op,Pm .i64 a,Pm .i64 b,Pm .u64 n,Pm .i64 kind,Pm .i64 val,Pm .i64 index,Pn pt nt ct,Pn pl nl cl]] w fun e w'=>e=.returned (.bool (bG true 7 a b n kind val index nt nl t0 lal))∧Ext w w':=by
 have:=hl;clear this;have:=hk;clear this;have:=ho;clear this
 refine MP ?_
 repeat'(first|refine mu ?_|(refine aF fun b_=>?_)|refine G9 ?_|(refine gP ?_ ?_<;>(intro hc_;try subst hc_)))
 all_goals exact rt
theorem wh (op a b n kind val index t0:Int) (nt nl:Nat) (pt pl:Option Addr) (ct cl:Nat) (lal:Bool) (w:World)
  (hl:∀w',Ext w w'→Calls G.P 109 #[.slice pl nl cl] w' fun e w2=>e=.returned (.bool lal)∧Ext w' w2)
  (hk:∀w',Ext w w'→Calls G.P 106 #[.int .i64 op] w' fun e w2=>e=.returned (.bool true)∧Ext w' w2) (ho:∀w',Ext w w'→Calls G.P 105 #[.int .i64 op] w' fun e w2=>e=.returned (.int .i64 8)∧Ext w' w2):
  Calls G.P 64 #[.agg #[Pm .i64 op,Pm .i64 a,Pm .i64 b,Pm .u64 n,Pm .i64 kind,Pm .i64 val,Pm .i64 index,Pn pt nt ct,Pn pl nl cl]] w fun e w'=>e=.returned (.bool (bG true 8 a b n kind val index nt nl t0 lal))∧Ext w w':=by
 have:=hl;clear this;have:=hk;clear this;have:=ho;clear this
 refine MP ?_
 repeat'(first|refine mu ?_|(refine aF fun b_=>?_)|refine G9 ?_|(refine gP ?_ ?_<;>(intro hc_;try subst hc_)))
 all_goals exact rt
end
section
open Go.RowKit
set_option maxHeartbeats 16000000
open Value renaming int→Pm,slice→Pn
set_option maxRecDepth 100000
attribute [local irreducible] br ki jq
theorem FQ {g g':Prop} (h:g') (hw:eA g'→g:=by(intro hk_;(first|refine Od ?_|refine Ot ?_|refine Ou ?_|refine OA ?_);exact hk_.out)):g:=hw ⟨h⟩
theorem wi (op a b n kind val index t0:Int) (nt nl:Nat) (pt pl:Option Addr) (ct cl:Nat) (lal:Bool) (w:World)
  (hl:∀w',Ext w w'→Calls G.P 109 #[.slice pl nl cl] w' fun e w2=>e=.returned (.bool lal)∧Ext w' w2)
  (hk:∀w',Ext w w'→Calls G.P 106 #[.int .i64 op] w' fun e w2=>e=.returned (.bool true)∧Ext w' w2) (ho:∀w',Ext w w'→Calls G.P 105 #[.int .i64 op] w' fun e w2=>e=.returned (.int .i64 9)∧Ext w' w2):
  Calls G.P 64 #[.agg #[Pm .i64 op,Pm .i64 a,Pm .i64 b,Pm .u64 n,Pm .i64 kind,Pm .i64 val,Pm .i64 index,Pn pt nt ct,Pn pl nl cl]] w fun e w'=>e=.returned (.bool (bG true 9 a b n kind val index nt nl t0 lal))∧Ext w w':=by
 have:=hl;clear this;have:=hk;clear this;have:=ho;clear this
 refine MP ?_
 repeat'(first|refine mu ?_|(refine aF fun b_=>?_)|refine FQ ?_|(refine gP ?_ ?_<;>(intro hc_;try subst hc_)))
 all_goals exact rt
theorem Ha {g g':Prop} (h:g') (hw:eA g'→g:=by(intro hk_;(first|refine FQ ?_|refine Oy ?_|refine Oj ?_);exact hk_.out)):g:=hw ⟨h⟩
theorem um (op a b n kind val index t0:Int) (nt nl:Nat) (pt pl:Option Addr) (ct cl:Nat) (lal:Bool) (w:World)
  (hl:∀w',Ext w w'→Calls G.P 109 #[.slice pl nl cl] w' fun e w2=>e=.returned (.bool lal)∧Ext w' w2)
  (hk:∀w',Ext w w'→Calls G.P 106 #[.int .i64 op] w' fun e w2=>e=.returned (.bool true)∧Ext w' w2) (ho:∀w',Ext w w'→Calls G.P 105 #[.int .i64 op] w' fun e w2=>e=.returned (.int .i64 10)∧Ext w' w2):
  Calls G.P 64 #[.agg #[Pm .i64 op,Pm .i64 a,Pm .i64 b,Pm .u64 n,Pm .i64 kind,Pm .i64 val,Pm .i64 index,Pn pt nt ct,Pn pl nl cl]] w fun e w'=>e=.returned (.bool (bG true 10 a b n kind val index nt nl t0 lal))∧Ext w w':=by
 have:=hl;clear this;have:=hk;clear this;have:=ho;clear this
 refine MP ?_
 repeat'(first|refine mu ?_|(refine aF fun b_=>?_)|refine Ha ?_|(refine gP ?_ ?_<;>(intro hc_;try subst hc_)))
 all_goals exact rt
theorem uo (op a b n kind val index t0:Int) (nt nl:Nat) (pt pl:Option Addr) (ct cl:Nat) (lal:Bool) (w:World)
  (hl:∀w',Ext w w'→Calls G.P 109 #[.slice pl nl cl] w' fun e w2=>e=.returned (.bool lal)∧Ext w' w2)
  (hk:∀w',Ext w w'→Calls G.P 106 #[.int .i64 op] w' fun e w2=>e=.returned (.bool true)∧Ext w' w2) (ho:∀w',Ext w w'→Calls G.P 105 #[.int .i64 op] w' fun e w2=>e=.returned (.int .i64 11)∧Ext w' w2):
  Calls G.P 64 #[.agg #[Pm .i64 op,Pm .i64 a,Pm .i64 b,Pm .u64 n,Pm .i64 kind,Pm .i64 val,Pm .i64 index,Pn pt nt ct,Pn pl nl cl]] w fun e w'=>e=.returned (.bool (bG true 11 a b n kind val index nt nl t0 lal))∧Ext w w':=by
 have:=hl;clear this;have:=hk;clear this;have:=ho;clear this
 refine MP ?_
 repeat'(first|refine mu ?_|(refine aF fun b_=>?_)|refine Ha ?_|(refine gP ?_ ?_<;>(intro hc_;try subst hc_)))
 all_goals exact rt
theorem uq (op a b n kind val index t0:Int) (nt nl:Nat) (pt pl:Option Addr) (ct cl:Nat) (lal:Bool) (w:World)
  (hl:∀w',Ext w w'→Calls G.P 109 #[.slice pl nl cl] w' fun e w2=>e=.returned (.bool lal)∧Ext w' w2)
  (hk:∀w',Ext w w'→Calls G.P 106 #[.int .i64 op] w' fun e w2=>e=.returned (.bool true)∧Ext w' w2) (ho:∀w',Ext w w'→Calls G.P 105 #[.int .i64 op] w' fun e w2=>e=.returned (.int .i64 12)∧Ext w' w2):
  Calls G.P 64 #[.agg #[Pm .i64 op,Pm .i64 a,Pm .i64 b,Pm .u64 n,Pm .i64 kind,Pm .i64 val,Pm .i64 index,Pn pt nt ct,Pn pl nl cl]] w fun e w'=>e=.returned (.bool (bG true 12 a b n kind val index nt nl t0 lal))∧Ext w w':=by
 have:=hl;clear this;have:=hk;clear this;have:=ho;clear this
 refine MP ?_
 repeat'(first|refine mu ?_|(refine aF fun b_=>?_)|refine FQ ?_|(refine gP ?_ ?_<;>(intro hc_;try subst hc_)))
 all_goals exact rt
theorem ur (op a b n kind val index t0:Int) (nt nl:Nat) (pt pl:Option Addr) (ct cl:Nat) (lal:Bool) (w:World)
  (hl:∀w',Ext w w'→Calls G.P 109 #[.slice pl nl cl] w' fun e w2=>e=.returned (.bool lal)∧Ext w' w2)
  (hk:∀w',Ext w w'→Calls G.P 106 #[.int .i64 op] w' fun e w2=>e=.returned (.bool true)∧Ext w' w2) (ho:∀w',Ext w w'→Calls G.P 105 #[.int .i64 op] w' fun e w2=>e=.returned (.int .i64 13)∧Ext w' w2):
  Calls G.P 64 #[.agg #[Pm .i64 op,Pm .i64 a,Pm .i64 b,Pm .u64 n,Pm .i64 kind,Pm .i64 val,Pm .i64 index,Pn pt nt ct,Pn pl nl cl]] w fun e w'=>e=.returned (.bool (bG true 13 a b n kind val index nt nl t0 lal))∧Ext w w':=by
 have:=hl;clear this;have:=hk;clear this;have:=ho;clear this
 refine MP ?_
 repeat'(first|refine mu ?_|(refine aF fun b_=>?_)|refine Ha ?_|(refine gP ?_ ?_<;>(intro hc_;try subst hc_)))
 all_goals exact rt
theorem uu (op a b n kind val index t0:Int) (nt nl:Nat) (pt pl:Option Addr) (ct cl:Nat) (lal:Bool) (w:World)
  (hl:∀w',Ext w w'→Calls G.P 109 #[.slice pl nl cl] w' fun e w2=>e=.returned (.bool lal)∧Ext w' w2)
  (hk:∀w',Ext w w'→Calls G.P 106 #[.int .i64 op] w' fun e w2=>e=.returned (.bool true)∧Ext w' w2) (ho:∀w',Ext w w'→Calls G.P 105 #[.int .i64 op] w' fun e w2=>e=.returned (.int .i64 14)∧Ext w' w2):
  Calls G.P 64 #[.agg #[Pm .i64 op,Pm .i64 a,Pm .i64 b,Pm .u64 n,Pm .i64 kind,Pm .i64 val,Pm .i64 index,Pn pt nt ct,Pn pl nl cl]] w fun e w'=>e=.returned (.bool (bG true 14 a b n kind val index nt nl t0 lal))∧Ext w w':=by
 have:=hl;clear this;have:=hk;clear this;have:=ho;clear this
 refine MP ?_
 repeat'(first|refine mu ?_|(refine aF fun b_=>?_)|refine Ha ?_|(refine gP ?_ ?_<;>(intro hc_;try subst hc_)))
 all_goals exact rt
end
section
open Go.RowKit
set_option maxHeartbeats 16000000
open Value renaming int→Pm,slice→Pn
set_option maxRecDepth 100000
attribute [local irreducible] br ki jq
theorem CM {g g':Prop} (h:g') (hw:eA g'→g:=by(intro hk_;(first|refine Od ?_|refine Ot ?_|refine Ou ?_);exact hk_.out)):g:=hw ⟨h⟩
theorem HM {g g':Prop} (h:g') (hw:eA g'→g:=by(intro hk_;(first|refine CM ?_|refine OA ?_);exact hk_.out)):g:=hw ⟨h⟩
theorem HL {g g':Prop} (h:g') (hw:eA g'→g:=by(intro hk_;(first|refine HM ?_|refine Oy ?_|refine Oj ?_);exact hk_.out)):g:=hw ⟨h⟩
theorem uv (op a b n kind val index t0:Int) (nt nl:Nat) (pt pl:Option Addr) (ct cl:Nat) (lal:Bool) (w:World)
  (hl:∀w',Ext w w'→Calls G.P 109 #[.slice pl nl cl] w' fun e w2=>e=.returned (.bool lal)∧Ext w' w2)
  (hk:∀w',Ext w w'→Calls G.P 106 #[.int .i64 op] w' fun e w2=>e=.returned (.bool true)∧Ext w' w2) (ho:∀w',Ext w w'→Calls G.P 105 #[.int .i64 op] w' fun e w2=>e=.returned (.int .i64 15)∧Ext w' w2):
  Calls G.P 64 #[.agg #[Pm .i64 op,Pm .i64 a,Pm .i64 b,Pm .u64 n,Pm .i64 kind,Pm .i64 val,Pm .i64 index,Pn pt nt ct,Pn pl nl cl]] w fun e w'=>e=.returned (.bool (bG true 15 a b n kind val index nt nl t0 lal))∧Ext w w':=by
 have:=hl;clear this;have:=hk;clear this;have:=ho;clear this
 refine MP ?_
 repeat'(first|refine mu ?_|(refine aF fun b_=>?_)|refine HL ?_|(refine gP ?_ ?_<;>(intro hc_;try subst hc_)))
 all_goals exact rt
theorem uw (op a b n kind val index t0:Int) (nt nl:Nat) (pt pl:Option Addr) (ct cl:Nat) (lal:Bool) (w:World)
  (hl:∀w',Ext w w'→Calls G.P 109 #[.slice pl nl cl] w' fun e w2=>e=.returned (.bool lal)∧Ext w' w2)
  (hk:∀w',Ext w w'→Calls G.P 106 #[.int .i64 op] w' fun e w2=>e=.returned (.bool true)∧Ext w' w2) (ho:∀w',Ext w w'→Calls G.P 105 #[.int .i64 op] w' fun e w2=>e=.returned (.int .i64 16)∧Ext w' w2):
  Calls G.P 64 #[.agg #[Pm .i64 op,Pm .i64 a,Pm .i64 b,Pm .u64 n,Pm .i64 kind,Pm .i64 val,Pm .i64 index,Pn pt nt ct,Pn pl nl cl]] w fun e w'=>e=.returned (.bool (bG true 16 a b n kind val index nt nl t0 lal))∧Ext w w':=by
 have:=hl;clear this;have:=hk;clear this;have:=ho;clear this
 refine MP ?_
 repeat'(first|refine mu ?_|(refine aF fun b_=>?_)|refine HM ?_|(refine gP ?_ ?_<;>(intro hc_;try subst hc_)))
 all_goals exact rt
theorem ux (op a b n kind val index t0:Int) (nt nl:Nat) (pt pl:Option Addr) (ct cl:Nat) (lal:Bool) (w:World)
  (hl:∀w',Ext w w'→Calls G.P 109 #[.slice pl nl cl] w' fun e w2=>e=.returned (.bool lal)∧Ext w' w2)
  (hk:∀w',Ext w w'→Calls G.P 106 #[.int .i64 op] w' fun e w2=>e=.returned (.bool true)∧Ext w' w2) (ho:∀w',Ext w w'→Calls G.P 105 #[.int .i64 op] w' fun e w2=>e=.returned (.int .i64 17)∧Ext w' w2):
  Calls G.P 64 #[.agg #[Pm .i64 op,Pm .i64 a,Pm .i64 b,Pm .u64 n,Pm .i64 kind,Pm .i64 val,Pm .i64 index,Pn pt nt ct,Pn pl nl cl]] w fun e w'=>e=.returned (.bool (bG true 17 a b n kind val index nt nl t0 lal))∧Ext w w':=by
 have:=hl;clear this;have:=hk;clear this;have:=ho;clear this
 refine MP ?_
 repeat'(first|refine mu ?_|(refine aF fun b_=>?_)|refine HL ?_|(refine gP ?_ ?_<;>(intro hc_;try subst hc_)))
 all_goals exact rt
theorem uy (op a b n kind val index t0:Int) (nt nl:Nat) (pt pl:Option Addr) (ct cl:Nat) (lal:Bool) (w:World)
  (hl:∀w',Ext w w'→Calls G.P 109 #[.slice pl nl cl] w' fun e w2=>e=.returned (.bool lal)∧Ext w' w2)
  (hk:∀w',Ext w w'→Calls G.P 106 #[.int .i64 op] w' fun e w2=>e=.returned (.bool true)∧Ext w' w2) (ho:∀w',Ext w w'→Calls G.P 105 #[.int .i64 op] w' fun e w2=>e=.returned (.int .i64 18)∧Ext w' w2):
  Calls G.P 64 #[.agg #[Pm .i64 op,Pm .i64 a,Pm .i64 b,Pm .u64 n,Pm .i64 kind,Pm .i64 val,Pm .i64 index,Pn pt nt ct,Pn pl nl cl]] w fun e w'=>e=.returned (.bool (bG true 18 a b n kind val index nt nl t0 lal))∧Ext w w':=by
 have:=hl;clear this;have:=hk;clear this;have:=ho;clear this
 refine MP ?_
 repeat'(first|refine mu ?_|(refine aF fun b_=>?_)|refine CM ?_|(refine gP ?_ ?_<;>(intro hc_;try subst hc_)))
 all_goals exact rt
theorem uz (op a b n kind val index t0:Int) (nt nl:Nat) (pt pl:Option Addr) (ct cl:Nat) (lal:Bool) (w:World)
  (hl:∀w',Ext w w'→Calls G.P 109 #[.slice pl nl cl] w' fun e w2=>e=.returned (.bool lal)∧Ext w' w2)
  (hk:∀w',Ext w w'→Calls G.P 106 #[.int .i64 op] w' fun e w2=>e=.returned (.bool true)∧Ext w' w2) (ho:∀w',Ext w w'→Calls G.P 105 #[.int .i64 op] w' fun e w2=>e=.returned (.int .i64 19)∧Ext w' w2):
  Calls G.P 64 #[.agg #[Pm .i64 op,Pm .i64 a,Pm .i64 b,Pm .u64 n,Pm .i64 kind,Pm .i64 val,Pm .i64 index,Pn pt nt ct,Pn pl nl cl]] w fun e w'=>e=.returned (.bool (bG true 19 a b n kind val index nt nl t0 lal))∧Ext w w':=by
 have:=hl;clear this;have:=hk;clear this;have:=ho;clear this
 refine MP ?_
 repeat'(first|refine mu ?_|(refine aF fun b_=>?_)|refine CM ?_|(refine gP ?_ ?_<;>(intro hc_;try subst hc_)))
 all_goals exact rt
theorem uA (op a b n kind val index t0:Int) (nt nl:Nat) (pt pl:Option Addr) (ct cl:Nat) (lal:Bool) (w:World)
  (hl:∀w',Ext w w'→Calls G.P 109 #[.slice pl nl cl] w' fun e w2=>e=.returned (.bool lal)∧Ext w' w2)
  (hk:∀w',Ext w w'→Calls G.P 106 #[.int .i64 op] w' fun e w2=>e=.returned (.bool true)∧Ext w' w2) (ho:∀w',Ext w w'→Calls G.P 105 #[.int .i64 op] w' fun e w2=>e=.returned (.int .i64 20)∧Ext w' w2):
  Calls G.P 64 #[.agg #[Pm .i64 op,Pm .i64 a,Pm .i64 b,Pm .u64 n,Pm .i64 kind,Pm .i64 val,Pm .i64 index,Pn pt nt ct,Pn pl nl cl]] w fun e w'=>e=.returned (.bool (bG true 20 a b n kind val index nt nl t0 lal))∧Ext w w':=by
 have:=hl;clear this;have:=hk;clear this;have:=ho;clear this
 refine MP ?_
 repeat'(first|refine mu ?_|(refine aF fun b_=>?_)|refine CM ?_|(refine gP ?_ ?_<;>(intro hc_;try subst hc_)))
 all_goals exact rt
end
end Go.Proofs.YtdkcljdfbemnbaaGreatDoor
