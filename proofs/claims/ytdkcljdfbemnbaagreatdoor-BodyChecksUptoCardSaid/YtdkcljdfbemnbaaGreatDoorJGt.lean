/- ref05.Plain: more kinds of immediates. Printed by gen_gq.py. -/
import Derived.Test.YtdkcljdfbemnbaaGreatDoorJGs
namespace Go.Proofs.YtdkcljdfbemnbaaGreatDoor
open Go.RowKit
set_option maxHeartbeats 16000000
open Value renaming int→Pf,slice→Pg
set_option maxRecDepth 100000
attribute [local irreducible] br kj jr
theorem Ig {g g':Prop} (h:g') (hw:eI g'→g:=by(intro hk_;(first|refine N8 ?_|refine Oj ?_|refine Ol ?_|refine Ou ?_);exact hk_.out)):g:=hw ⟨h⟩
variable (op a b n kind val index t0:Int) (nt nl:Nat) (pt pl:Option Addr)
theorem wb (ct cl:Nat) (lal:Bool) (w:World)
  (hl:∀w',Ext w w'→Calls G.P 109 #[.slice pl nl cl] w' fun e w2=>e=.returned (.bool lal)∧Ext w' w2)
  (hk:∀w',Ext w w'→Calls G.P 106 #[.int .i64 op] w' fun e w2=>e=.returned (.bool true)∧Ext w' w2) (ho:∀w',Ext w w'→Calls G.P 105 #[.int .i64 op] w' fun e w2=>e=.returned (.int .i64 9)∧Ext w' w2):
  Calls G.P 64 #[.agg #[Pf .i64 op,Pf .i64 a,Pf .i64 b,Pf .u64 n,Pf .i64 kind,Pf .i64 val,Pf .i64 index,Pg pt nt ct,Pg pl nl cl]] w fun e w'=>e=.returned (.bool (bG true 9 a b n kind val index nt nl t0 lal))∧Ext w w':=by
 have:=hl;clear this;have:=hk;clear this;have:=ho;clear this
 refine MO ?_
 repeat'(first|refine mq ?_|(refine aE fun b_=>?_)|refine Ig ?_|(refine gL ?_ ?_<;>(intro hc_;try subst hc_)))
 all_goals exact t6
theorem G2 {g g':Prop} (h:g') (hw:eI g'→g:=by(intro hk_;(first|refine Ig ?_|refine Oq ?_|refine Od ?_);exact hk_.out)):g:=hw ⟨h⟩
theorem uf (ct cl:Nat) (lal:Bool) (w:World)
  (hl:∀w',Ext w w'→Calls G.P 109 #[.slice pl nl cl] w' fun e w2=>e=.returned (.bool lal)∧Ext w' w2)
  (hk:∀w',Ext w w'→Calls G.P 106 #[.int .i64 op] w' fun e w2=>e=.returned (.bool true)∧Ext w' w2) (ho:∀w',Ext w w'→Calls G.P 105 #[.int .i64 op] w' fun e w2=>e=.returned (.int .i64 10)∧Ext w' w2):
  Calls G.P 64 #[.agg #[Pf .i64 op,Pf .i64 a,Pf .i64 b,Pf .u64 n,Pf .i64 kind,Pf .i64 val,Pf .i64 index,Pg pt nt ct,Pg pl nl cl]] w fun e w'=>e=.returned (.bool (bG true 10 a b n kind val index nt nl t0 lal))∧Ext w w':=by
 have:=hl;clear this;have:=hk;clear this;have:=ho;clear this
 refine MO ?_
 repeat'(first|refine mq ?_|(refine aE fun b_=>?_)|refine G2 ?_|(refine gL ?_ ?_<;>(intro hc_;try subst hc_)))
 all_goals exact t6
theorem ug (ct cl:Nat) (lal:Bool) (w:World)
  (hl:∀w',Ext w w'→Calls G.P 109 #[.slice pl nl cl] w' fun e w2=>e=.returned (.bool lal)∧Ext w' w2)
  (hk:∀w',Ext w w'→Calls G.P 106 #[.int .i64 op] w' fun e w2=>e=.returned (.bool true)∧Ext w' w2) (ho:∀w',Ext w w'→Calls G.P 105 #[.int .i64 op] w' fun e w2=>e=.returned (.int .i64 11)∧Ext w' w2):
  Calls G.P 64 #[.agg #[Pf .i64 op,Pf .i64 a,Pf .i64 b,Pf .u64 n,Pf .i64 kind,Pf .i64 val,Pf .i64 index,Pg pt nt ct,Pg pl nl cl]] w fun e w'=>e=.returned (.bool (bG true 11 a b n kind val index nt nl t0 lal))∧Ext w w':=by
 have:=hl;clear this;have:=hk;clear this;have:=ho;clear this
 refine MO ?_
 repeat'(first|refine mq ?_|(refine aE fun b_=>?_)|refine G2 ?_|(refine gL ?_ ?_<;>(intro hc_;try subst hc_)))
 all_goals exact t6
theorem uh (ct cl:Nat) (lal:Bool) (w:World)
  (hl:∀w',Ext w w'→Calls G.P 109 #[.slice pl nl cl] w' fun e w2=>e=.returned (.bool lal)∧Ext w' w2)
  (hk:∀w',Ext w w'→Calls G.P 106 #[.int .i64 op] w' fun e w2=>e=.returned (.bool true)∧Ext w' w2) (ho:∀w',Ext w w'→Calls G.P 105 #[.int .i64 op] w' fun e w2=>e=.returned (.int .i64 12)∧Ext w' w2):
  Calls G.P 64 #[.agg #[Pf .i64 op,Pf .i64 a,Pf .i64 b,Pf .u64 n,Pf .i64 kind,Pf .i64 val,Pf .i64 index,Pg pt nt ct,Pg pl nl cl]] w fun e w'=>e=.returned (.bool (bG true 12 a b n kind val index nt nl t0 lal))∧Ext w w':=by
 have:=hl;clear this;have:=hk;clear this;have:=ho;clear this
 refine MO ?_
 repeat'(first|refine mq ?_|(refine aE fun b_=>?_)|refine Ig ?_|(refine gL ?_ ?_<;>(intro hc_;try subst hc_)))
 all_goals exact t6
theorem ui (ct cl:Nat) (lal:Bool) (w:World)
  (hl:∀w',Ext w w'→Calls G.P 109 #[.slice pl nl cl] w' fun e w2=>e=.returned (.bool lal)∧Ext w' w2)
  (hk:∀w',Ext w w'→Calls G.P 106 #[.int .i64 op] w' fun e w2=>e=.returned (.bool true)∧Ext w' w2) (ho:∀w',Ext w w'→Calls G.P 105 #[.int .i64 op] w' fun e w2=>e=.returned (.int .i64 13)∧Ext w' w2):
  Calls G.P 64 #[.agg #[Pf .i64 op,Pf .i64 a,Pf .i64 b,Pf .u64 n,Pf .i64 kind,Pf .i64 val,Pf .i64 index,Pg pt nt ct,Pg pl nl cl]] w fun e w'=>e=.returned (.bool (bG true 13 a b n kind val index nt nl t0 lal))∧Ext w w':=by
 have:=hl;clear this;have:=hk;clear this;have:=ho;clear this
 refine MO ?_
 repeat'(first|refine mq ?_|(refine aE fun b_=>?_)|refine G2 ?_|(refine gL ?_ ?_<;>(intro hc_;try subst hc_)))
 all_goals exact t6
theorem uj (ct cl:Nat) (lal:Bool) (w:World)
  (hl:∀w',Ext w w'→Calls G.P 109 #[.slice pl nl cl] w' fun e w2=>e=.returned (.bool lal)∧Ext w' w2)
  (hk:∀w',Ext w w'→Calls G.P 106 #[.int .i64 op] w' fun e w2=>e=.returned (.bool true)∧Ext w' w2) (ho:∀w',Ext w w'→Calls G.P 105 #[.int .i64 op] w' fun e w2=>e=.returned (.int .i64 14)∧Ext w' w2):
  Calls G.P 64 #[.agg #[Pf .i64 op,Pf .i64 a,Pf .i64 b,Pf .u64 n,Pf .i64 kind,Pf .i64 val,Pf .i64 index,Pg pt nt ct,Pg pl nl cl]] w fun e w'=>e=.returned (.bool (bG true 14 a b n kind val index nt nl t0 lal))∧Ext w w':=by
 have:=hl;clear this;have:=hk;clear this;have:=ho;clear this
 refine MO ?_
 repeat'(first|refine mq ?_|(refine aE fun b_=>?_)|refine G2 ?_|(refine gL ?_ ?_<;>(intro hc_;try subst hc_)))
 all_goals exact t6
end Go.Proofs.YtdkcljdfbemnbaaGreatDoor
