/- ref05.Plain. Printed by gen_gq.py. -/
import Derived.Test.YtgbgnipidakdhaaGreatDoorJGp
namespace Go.Proofs.YtgbgnipidakdhaaGreatDoor
open Go.RowKit
set_option maxRecDepth 100000
def bp (known:Bool) (k a b n kind val index:Int) (nt nl:Nat) (t0:Int) (lal:Bool):Bool:=
 let ab:=decide (a=0) && decide (b=0)
 if known=false∨(k≠1∧¬(kind=0∧val=0∧index=0))∨(k≠3∧0<nl)∨(k≠6∧0<nt)then false else
 if k=0 then ab && decide (n=0)else
 if k=1 then ab && decide (n=0) && iK kind val index else
 if k=3 then aW a && decide (b=0) && decide (n=0) && lal else
 if k=6 then ab && decide (n=0) && decide (nt=1) && jo t0 else
 if k=2∨k=4∨k=7∨k=8∨k=9∨k=12∨k=16 then aW a && decide (b=0) && decide (n=0)else
 if k=5∨k=10∨k=11∨k=14∨k=15 then aW a && aW b && decide (n=0)else
 if k=13 then decide (a=0) && aW b && decide (n=0)else
 if k=17 then decide (0≤a) && decide (a≤63) && aW b && decide (n<4294967296)else
 if k=18 then ab && decide (n<4294967296)else
 if k=19 then ab else(decide (a=3) || decide (a=4)) && decide (b=0) && decide (n=0)
theorem px (known:Bool) (k a b n kind val index:Int) (types labels:List Int):Cj known k a b n kind val index types labels=bp known k a b n kind val index types.length labels.length (ix types 0) (labels.all aW):=rfl
attribute [local irreducible] aW jo iK
theorem Hw {g g':Prop} (h:g') (hw:dS g'→g:=by(intro hk_;(first|refine Lk ?_|refine Ll ?_);exact hk_.out)):g:=hw ⟨h⟩
theorem vW (op a b n kind val index:Int) (nt nl:Nat) (pt pl:Option Addr) (ct cl:Nat) (k:Int) (w:World)
  (hk:∀w',Ext w w'→Calls G.P 87 #[.int .i64 op] w' fun e w2=>e=.returned (.bool false)∧Ext w' w2) (ho:∀w',Ext w w'→Calls G.P 86 #[.int .i64 op] w' fun e w2=>e=.returned (.int .i64 k)∧Ext w' w2):
  Calls G.P 40 #[.agg #[Value.int .i64 op,Value.int .i64 a,Value.int .i64 b,Value.int .u64 n,Value.int .i64 kind,Value.int .i64 val,Value.int .i64 index,Value.slice pt nt ct,Value.slice pl nl cl]] w fun e w'=>e=.returned (.bool false)∧Ext w w':=by
 refine Km ?_
 repeat'(first|refine kQ ?_|(refine aC fun b_=>?_)|refine Hw ?_|fail)
 all_goals exact am
set_option maxHeartbeats 16000000 in
theorem tG (op a b n kind val index t0:Int) (nt nl:Nat) (pt pl:Option Addr) (ct cl:Nat) (lal:Bool) (w:World)
  (_hl:∀w',Ext w w'→Calls G.P 90 #[.slice pl nl cl] w' fun e w2=>e=.returned (.bool lal)∧Ext w' w2)
  (hk:∀w',Ext w w'→Calls G.P 87 #[.int .i64 op] w' fun e w2=>e=.returned (.bool true)∧Ext w' w2) (ho:∀w',Ext w w'→Calls G.P 86 #[.int .i64 op] w' fun e w2=>e=.returned (.int .i64 0)∧Ext w' w2):
  Calls G.P 40 #[.agg #[Value.int .i64 op,Value.int .i64 a,Value.int .i64 b,Value.int .u64 n,Value.int .i64 kind,Value.int .i64 val,Value.int .i64 index,Value.slice pt nt ct,Value.slice pl nl cl]] w fun e w'=>e=.returned (.bool (bp true 0 a b n kind val index nt nl t0 lal))∧Ext w w':=by
 refine Km ?_
 repeat'(first|refine kQ ?_|(refine aC fun b_=>?_)|refine K4 ?_|refine Hw ?_|(refine fV ?_ ?_<;>(intro hc_;try subst hc_)))
 all_goals first|(exfalso;omega)|exact ah.aB rfl rfl fun w' hw'=>⟨by clear hw' _hl hk ho;first|(simp_all [bp];done)|(simp_all [bp]<;>(intros;omega)),hw'.at⟩
set_option maxHeartbeats 16000000 in
theorem tQ (op a b n kind val index t0:Int) (nt nl:Nat) (pt pl:Option Addr) (ct cl:Nat) (lal:Bool) (w:World)
  (_hl:∀w',Ext w w'→Calls G.P 90 #[.slice pl nl cl] w' fun e w2=>e=.returned (.bool lal)∧Ext w' w2)
  (hk:∀w',Ext w w'→Calls G.P 87 #[.int .i64 op] w' fun e w2=>e=.returned (.bool true)∧Ext w' w2) (ho:∀w',Ext w w'→Calls G.P 86 #[.int .i64 op] w' fun e w2=>e=.returned (.int .i64 1)∧Ext w' w2):
  Calls G.P 40 #[.agg #[Value.int .i64 op,Value.int .i64 a,Value.int .i64 b,Value.int .u64 n,Value.int .i64 kind,Value.int .i64 val,Value.int .i64 index,Value.slice pt nt ct,Value.slice pl nl cl]] w fun e w'=>e=.returned (.bool (bp true 1 a b n kind val index nt nl t0 lal))∧Ext w w':=by
 refine Km ?_
 repeat'(first|refine kQ ?_|(refine aC fun b_=>?_)|refine Hw ?_|(refine aa.cm (f:=88) ?_;refine aa.bV ny rfl rfl rfl (fun w' hw'=>xP _ _ _ w') ?_)|(refine aa.cm (f:=90) ?_;refine aa.bV ny rfl rfl rfl (fun w' hw'=>_hl w' hw'.at) ?_)|(refine fV ?_ ?_<;>(intro hc_;try subst hc_)))
 all_goals first|(exfalso;omega)|exact ah.aB rfl rfl fun w' hw'=>⟨by clear hw' _hl hk ho;first|(simp_all [bp];done)|(simp_all [bp]<;>(intros;omega)),hw'.at⟩
theorem HZ {g g':Prop} (h:g') (hw:dS g'→g:=by(intro hk_;(first|refine K4 ?_|refine Hw ?_|refine Lp ?_);exact hk_.out)):g:=hw ⟨h⟩
set_option maxHeartbeats 16000000 in
theorem tu (op a b n kind val index t0:Int) (nt nl:Nat) (pt pl:Option Addr) (ct cl:Nat) (lal:Bool) (w:World)
  (_hl:∀w',Ext w w'→Calls G.P 90 #[.slice pl nl cl] w' fun e w2=>e=.returned (.bool lal)∧Ext w' w2)
  (hk:∀w',Ext w w'→Calls G.P 87 #[.int .i64 op] w' fun e w2=>e=.returned (.bool true)∧Ext w' w2) (ho:∀w',Ext w w'→Calls G.P 86 #[.int .i64 op] w' fun e w2=>e=.returned (.int .i64 2)∧Ext w' w2):
  Calls G.P 40 #[.agg #[Value.int .i64 op,Value.int .i64 a,Value.int .i64 b,Value.int .u64 n,Value.int .i64 kind,Value.int .i64 val,Value.int .i64 index,Value.slice pt nt ct,Value.slice pl nl cl]] w fun e w'=>e=.returned (.bool (bp true 2 a b n kind val index nt nl t0 lal))∧Ext w w':=by
 refine Km ?_
 repeat'(first|refine kQ ?_|(refine aC fun b_=>?_)|refine HZ ?_|(refine fV ?_ ?_<;>(intro hc_;try subst hc_)))
 all_goals first|(exfalso;omega)|exact ah.aB rfl rfl fun w' hw'=>⟨by clear hw' _hl hk ho;first|(simp_all [bp];done)|(simp_all [bp]<;>(intros;omega)),hw'.at⟩
set_option maxHeartbeats 16000000 in
theorem tr (op a b n kind val index t0:Int) (nt nl:Nat) (pt pl:Option Addr) (ct cl:Nat) (lal:Bool) (w:World)
  (hl:∀w',Ext w w'→Calls G.P 90 #[.slice pl nl cl] w' fun e w2=>e=.returned (.bool lal)∧Ext w' w2)
  (hk:∀w',Ext w w'→Calls G.P 87 #[.int .i64 op] w' fun e w2=>e=.returned (.bool true)∧Ext w' w2) (ho:∀w',Ext w w'→Calls G.P 86 #[.int .i64 op] w' fun e w2=>e=.returned (.int .i64 3)∧Ext w' w2):
  Calls G.P 40 #[.agg #[Value.int .i64 op,Value.int .i64 a,Value.int .i64 b,Value.int .u64 n,Value.int .i64 kind,Value.int .i64 val,Value.int .i64 index,Value.slice pt nt ct,Value.slice pl nl cl]] w fun e w'=>e=.returned (.bool (bp true 3 a b n kind val index nt nl t0 lal))∧Ext w w':=by
 refine Km ?_
 repeat'(first|refine kQ ?_|(refine aC fun b_=>?_)|refine HZ ?_|refine Ln ?_|refine Lb ?_|(refine fV ?_ ?_<;>(intro hc_;try subst hc_)))
 all_goals exact ut
end Go.Proofs.YtgbgnipidakdhaaGreatDoor
