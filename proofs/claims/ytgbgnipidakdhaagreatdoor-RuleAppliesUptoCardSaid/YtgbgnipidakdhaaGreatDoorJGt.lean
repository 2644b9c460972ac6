/- ref05.Plain: more kinds of immediates. Printed by gen_gq.py. -/
import Derived.Test.YtgbgnipidakdhaaGreatDoorJGq
namespace Go.Proofs.YtgbgnipidakdhaaGreatDoor
open Go.RowKit
set_option maxRecDepth 100000
attribute [local irreducible] aW jo iK
theorem HK {g g':Prop} (h:g') (hw:dS g'→g:=by(intro hk_;(first|refine K4 ?_|refine Lk ?_|refine Ll ?_|refine Lp ?_);exact hk_.out)):g:=hw ⟨h⟩
set_option maxHeartbeats 16000000 in
theorem tz (op a b n kind val index t0:Int) (nt nl:Nat) (pt pl:Option Addr) (ct cl:Nat) (lal:Bool) (w:World)
  (_hl:∀w',Ext w w'→Calls G.P 90 #[.slice pl nl cl] w' fun e w2=>e=.returned (.bool lal)∧Ext w' w2)
  (hk:∀w',Ext w w'→Calls G.P 87 #[.int .i64 op] w' fun e w2=>e=.returned (.bool true)∧Ext w' w2) (ho:∀w',Ext w w'→Calls G.P 86 #[.int .i64 op] w' fun e w2=>e=.returned (.int .i64 9)∧Ext w' w2):
  Calls G.P 40 #[.agg #[Value.int .i64 op,Value.int .i64 a,Value.int .i64 b,Value.int .u64 n,Value.int .i64 kind,Value.int .i64 val,Value.int .i64 index,Value.slice pt nt ct,Value.slice pl nl cl]] w fun e w'=>e=.returned (.bool (bp true 9 a b n kind val index nt nl t0 lal))∧Ext w w':=by
 refine Km ?_
 repeat'(first|refine kQ ?_|(refine aC fun b_=>?_)|refine HK ?_|(refine fV ?_ ?_<;>(intro hc_;try subst hc_)))
 all_goals first|(exfalso;omega)|exact ah.aB rfl rfl fun w' hw'=>⟨by clear hw' _hl hk ho;first|(simp_all [bp];done)|(simp_all [bp]<;>(intros;omega)),hw'.at⟩
theorem Hy {g g':Prop} (h:g') (hw:dS g'→g:=by(intro hk_;(first|refine HK ?_|refine Ln ?_|refine Lb ?_);exact hk_.out)):g:=hw ⟨h⟩
set_option maxHeartbeats 16000000 in
theorem sY (op a b n kind val index t0:Int) (nt nl:Nat) (pt pl:Option Addr) (ct cl:Nat) (lal:Bool) (w:World)
  (_hl:∀w',Ext w w'→Calls G.P 90 #[.slice pl nl cl] w' fun e w2=>e=.returned (.bool lal)∧Ext w' w2)
  (hk:∀w',Ext w w'→Calls G.P 87 #[.int .i64 op] w' fun e w2=>e=.returned (.bool true)∧Ext w' w2) (ho:∀w',Ext w w'→Calls G.P 86 #[.int .i64 op] w' fun e w2=>e=.returned (.int .i64 10)∧Ext w' w2):
  Calls G.P 40 #[.agg #[Value.int .i64 op,Value.int .i64 a,Value.int .i64 b,Value.int .u64 n,Value.int .i64 kind,Value.int .i64 val,Value.int .i64 index,Value.slice pt nt ct,Value.slice pl nl cl]] w fun e w'=>e=.returned (.bool (bp true 10 a b n kind val index nt nl t0 lal))∧Ext w w':=by
 refine Km ?_
 repeat'(first|refine kQ ?_|(refine aC fun b_=>?_)|refine Hy ?_|(refine fV ?_ ?_<;>(intro hc_;try subst hc_)))
 all_goals first|(exfalso;omega)|exact ah.aB rfl rfl fun w' hw'=>⟨by clear hw' _hl hk ho;first|(simp_all [bp];done)|(simp_all [bp]<;>(intros;omega)),hw'.at⟩
set_option maxHeartbeats 16000000 in
theorem rY (op a b n kind val index t0:Int) (nt nl:Nat) (pt pl:Option Addr) (ct cl:Nat) (lal:Bool) (w:World)
  (_hl:∀w',Ext w w'→Calls G.P 90 #[.slice pl nl cl] w' fun e w2=>e=.returned (.bool lal)∧Ext w' w2)
  (hk:∀w',Ext w w'→Calls G.P 87 #[.int .i64 op] w' fun e w2=>e=.returned (.bool true)∧Ext w' w2) (ho:∀w',Ext w w'→Calls G.P 86 #[.int .i64 op] w' fun e w2=>e=.returned (.int .i64 11)∧Ext w' w2):
  Calls G.P 40 #[.agg #[Value.int .i64 op,Value.int .i64 a,Value.int .i64 b,Value.int .u64 n,Value.int .i64 kind,Value.int .i64 val,Value.int .i64 index,Value.slice pt nt ct,Value.slice pl nl cl]] w fun e w'=>e=.returned (.bool (bp true 11 a b n kind val index nt nl t0 lal))∧Ext w w':=by
 refine Km ?_
 repeat'(first|refine kQ ?_|(refine aC fun b_=>?_)|refine Hy ?_|(refine fV ?_ ?_<;>(intro hc_;try subst hc_)))
 all_goals first|(exfalso;omega)|exact ah.aB rfl rfl fun w' hw'=>⟨by clear hw' _hl hk ho;first|(simp_all [bp];done)|(simp_all [bp]<;>(intros;omega)),hw'.at⟩
set_option maxHeartbeats 16000000 in
theorem rV (op a b n kind val index t0:Int) (nt nl:Nat) (pt pl:Option Addr) (ct cl:Nat) (lal:Bool) (w:World)
  (_hl:∀w',Ext w w'→Calls G.P 90 #[.slice pl nl cl] w' fun e w2=>e=.returned (.bool lal)∧Ext w' w2)
  (hk:∀w',Ext w w'→Calls G.P 87 #[.int .i64 op] w' fun e w2=>e=.returned (.bool true)∧Ext w' w2) (ho:∀w',Ext w w'→Calls G.P 86 #[.int .i64 op] w' fun e w2=>e=.returned (.int .i64 12)∧Ext w' w2):
  Calls G.P 40 #[.agg #[Value.int .i64 op,Value.int .i64 a,Value.int .i64 b,Value.int .u64 n,Value.int .i64 kind,Value.int .i64 val,Value.int .i64 index,Value.slice pt nt ct,Value.slice pl nl cl]] w fun e w'=>e=.returned (.bool (bp true 12 a b n kind val index nt nl t0 lal))∧Ext w w':=by
 refine Km ?_
 repeat'(first|refine kQ ?_|(refine aC fun b_=>?_)|refine HK ?_|(refine fV ?_ ?_<;>(intro hc_;try subst hc_)))
 all_goals first|(exfalso;omega)|exact ah.aB rfl rfl fun w' hw'=>⟨by clear hw' _hl hk ho;first|(simp_all [bp];done)|(simp_all [bp]<;>(intros;omega)),hw'.at⟩
set_option maxHeartbeats 16000000 in
theorem rA (op a b n kind val index t0:Int) (nt nl:Nat) (pt pl:Option Addr) (ct cl:Nat) (lal:Bool) (w:World)
  (_hl:∀w',Ext w w'→Calls G.P 90 #[.slice pl nl cl] w' fun e w2=>e=.returned (.bool lal)∧Ext w' w2)
  (hk:∀w',Ext w w'→Calls G.P 87 #[.int .i64 op] w' fun e w2=>e=.returned (.bool true)∧Ext w' w2) (ho:∀w',Ext w w'→Calls G.P 86 #[.int .i64 op] w' fun e w2=>e=.returned (.int .i64 13)∧Ext w' w2):
  Calls G.P 40 #[.agg #[Value.int .i64 op,Value.int .i64 a,Value.int .i64 b,Value.int .u64 n,Value.int .i64 kind,Value.int .i64 val,Value.int .i64 index,Value.slice pt nt ct,Value.slice pl nl cl]] w fun e w'=>e=.returned (.bool (bp true 13 a b n kind val index nt nl t0 lal))∧Ext w w':=by
 refine Km ?_
 repeat'(first|refine kQ ?_|(refine aC fun b_=>?_)|refine Hy ?_|(refine fV ?_ ?_<;>(intro hc_;try subst hc_)))
 all_goals first|(exfalso;omega)|exact ah.aB rfl rfl fun w' hw'=>⟨by clear hw' _hl hk ho;first|(simp_all [bp];done)|(simp_all [bp]<;>(intros;omega)),hw'.at⟩
set_option maxHeartbeats 16000000 in
theorem sn (op a b n kind val index t0:Int) (nt nl:Nat) (pt pl:Option Addr) (ct cl:Nat) (lal:Bool) (w:World)
  (_hl:∀w',Ext w w'→Calls G.P 90 #[.slice pl nl cl] w' fun e w2=>e=.returned (.bool lal)∧Ext w' w2)
  (hk:∀w',Ext w w'→Calls G.P 87 #[.int .i64 op] w' fun e w2=>e=.returned (.bool true)∧Ext w' w2) (ho:∀w',Ext w w'→Calls G.P 86 #[.int .i64 op] w' fun e w2=>e=.returned (.int .i64 14)∧Ext w' w2):
  Calls G.P 40 #[.agg #[Value.int .i64 op,Value.int .i64 a,Value.int .i64 b,Value.int .u64 n,Value.int .i64 kind,Value.int .i64 val,Value.int .i64 index,Value.slice pt nt ct,Value.slice pl nl cl]] w fun e w'=>e=.returned (.bool (bp true 14 a b n kind val index nt nl t0 lal))∧Ext w w':=by
 refine Km ?_
 repeat'(first|refine kQ ?_|(refine aC fun b_=>?_)|refine Hy ?_|(refine fV ?_ ?_<;>(intro hc_;try subst hc_)))
 all_goals first|(exfalso;omega)|exact ah.aB rfl rfl fun w' hw'=>⟨by clear hw' _hl hk ho;first|(simp_all [bp];done)|(simp_all [bp]<;>(intros;omega)),hw'.at⟩
end Go.Proofs.YtgbgnipidakdhaaGreatDoor
