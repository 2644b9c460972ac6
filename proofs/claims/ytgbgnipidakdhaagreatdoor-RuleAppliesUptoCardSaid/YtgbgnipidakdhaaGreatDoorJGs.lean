/- ref05.Plain: more kinds of immediates. Printed by gen_gq.py. -/
import Derived.Test.YtgbgnipidakdhaaGreatDoorJGq
namespace Go.Proofs.YtgbgnipidakdhaaGreatDoor
open Go.RowKit
set_option maxRecDepth 100000
attribute [local irreducible] aW jo iK
theorem HH {g g':Prop} (h:g') (hw:dS g'→g:=by(intro hk_;(first|refine K4 ?_|refine Lk ?_|refine Ll ?_);exact hk_.out)):g:=hw ⟨h⟩
theorem Hx {g g':Prop} (h:g') (hw:dS g'→g:=by(intro hk_;(first|refine HH ?_|refine Lp ?_);exact hk_.out)):g:=hw ⟨h⟩
set_option maxHeartbeats 16000000 in
theorem tL (op a b n kind val index t0:Int) (nt nl:Nat) (pt pl:Option Addr) (ct cl:Nat) (lal:Bool) (w:World)
  (_hl:∀w',Ext w w'→Calls G.P 90 #[.slice pl nl cl] w' fun e w2=>e=.returned (.bool lal)∧Ext w' w2)
  (hk:∀w',Ext w w'→Calls G.P 87 #[.int .i64 op] w' fun e w2=>e=.returned (.bool true)∧Ext w' w2) (ho:∀w',Ext w w'→Calls G.P 86 #[.int .i64 op] w' fun e w2=>e=.returned (.int .i64 4)∧Ext w' w2):
  Calls G.P 40 #[.agg #[Value.int .i64 op,Value.int .i64 a,Value.int .i64 b,Value.int .u64 n,Value.int .i64 kind,Value.int .i64 val,Value.int .i64 index,Value.slice pt nt ct,Value.slice pl nl cl]] w fun e w'=>e=.returned (.bool (bp true 4 a b n kind val index nt nl t0 lal))∧Ext w w':=by
 refine Km ?_
 repeat'(first|refine kQ ?_|(refine aC fun b_=>?_)|refine Hx ?_|(refine fV ?_ ?_<;>(intro hc_;try subst hc_)))
 all_goals first|(exfalso;omega)|exact ah.aB rfl rfl fun w' hw'=>⟨by clear hw' _hl hk ho;first|(simp_all [bp];done)|(simp_all [bp]<;>(intros;omega)),hw'.at⟩
set_option maxHeartbeats 16000000 in
theorem tT (op a b n kind val index t0:Int) (nt nl:Nat) (pt pl:Option Addr) (ct cl:Nat) (lal:Bool) (w:World)
  (_hl:∀w',Ext w w'→Calls G.P 90 #[.slice pl nl cl] w' fun e w2=>e=.returned (.bool lal)∧Ext w' w2)
  (hk:∀w',Ext w w'→Calls G.P 87 #[.int .i64 op] w' fun e w2=>e=.returned (.bool true)∧Ext w' w2) (ho:∀w',Ext w w'→Calls G.P 86 #[.int .i64 op] w' fun e w2=>e=.returned (.int .i64 5)∧Ext w' w2):
  Calls G.P 40 #[.agg #[Value.int .i64 op,Value.int .i64 a,Value.int .i64 b,Value.int .u64 n,Value.int .i64 kind,Value.int .i64 val,Value.int .i64 index,Value.slice pt nt ct,Value.slice pl nl cl]] w fun e w'=>e=.returned (.bool (bp true 5 a b n kind val index nt nl t0 lal))∧Ext w w':=by
 refine Km ?_
 repeat'(first|refine kQ ?_|(refine aC fun b_=>?_)|refine Hx ?_|refine Ln ?_|(refine aa.cm (f:=90) ?_;refine aa.bV ny rfl rfl rfl (fun w' hw'=>_hl w' hw'.at) ?_)|(refine fV ?_ ?_<;>(intro hc_;try subst hc_)))
 all_goals first|(exfalso;omega)|exact ah.aB rfl rfl fun w' hw'=>⟨by clear hw' _hl hk ho;first|(simp_all [bp];done)|(simp_all [bp]<;>(intros;omega)),hw'.at⟩
set_option maxHeartbeats 16000000 in
theorem rE (op a b n kind val index t0:Int) (bt ot nl:Nat) (pl:Option Addr) (ct cl:Nat) (lal:Bool) (w:World) (hcell:w.cell? ⟨bt,ot+0,none⟩=some (.int .i64 t0))
  (_hl:∀w',Ext w w'→Calls G.P 90 #[.slice pl nl cl] w' fun e w2=>e=.returned (.bool lal)∧Ext w' w2)
  (hk:∀w',Ext w w'→Calls G.P 87 #[.int .i64 op] w' fun e w2=>e=.returned (.bool true)∧Ext w' w2) (ho:∀w',Ext w w'→Calls G.P 86 #[.int .i64 op] w' fun e w2=>e=.returned (.int .i64 6)∧Ext w' w2):
  Calls G.P 40 #[.agg #[Value.int .i64 op,Value.int .i64 a,Value.int .i64 b,Value.int .u64 n,Value.int .i64 kind,Value.int .i64 val,Value.int .i64 index,Value.slice (some ⟨bt,ot,none⟩) 1 ct,Value.slice pl nl cl]] w fun e w'=>e=.returned (.bool (bp true 6 a b n kind val index 1 nl t0 lal))∧Ext w w':=by
 refine Km ?_
 repeat'(first|refine kQ ?_|(refine aa.As ?_;refine aa.ek ?_;refine aa.yg (by first|rfl|exact qA rfl dN) (Yl.gh (i:=0) rfl rfl rfl rfl rfl rfl Mh) rfl ?_)|(refine aC fun b_=>?_)|refine HH ?_|(refine aa.cm (f:=91) ?_;refine aa.bV ny rfl rfl rfl (fun w' hw'=>vj _ w') ?_)|(refine aa.cm (f:=90) ?_;refine aa.bV ny rfl rfl rfl (fun w' hw'=>_hl w' hw'.at) ?_)|(refine fV ?_ ?_<;>(intro hc_;try subst hc_)))
 all_goals first|(exfalso;omega)|exact ah.aB rfl rfl fun w' hw'=>⟨by clear hw' _hl hk ho;first|(simp_all [bp];done)|(simp_all [bp]<;>(intros;omega)),hw'.at⟩
set_option maxHeartbeats 16000000 in
theorem rN (op a b n kind val index t0:Int) (nt nl:Nat) (pt pl:Option Addr) (ct cl:Nat) (lal:Bool) (w:World) (h1:¬((nt:Int)=1))
  (_hl:∀w',Ext w w'→Calls G.P 90 #[.slice pl nl cl] w' fun e w2=>e=.returned (.bool lal)∧Ext w' w2)
  (hk:∀w',Ext w w'→Calls G.P 87 #[.int .i64 op] w' fun e w2=>e=.returned (.bool true)∧Ext w' w2) (ho:∀w',Ext w w'→Calls G.P 86 #[.int .i64 op] w' fun e w2=>e=.returned (.int .i64 6)∧Ext w' w2):
  Calls G.P 40 #[.agg #[Value.int .i64 op,Value.int .i64 a,Value.int .i64 b,Value.int .u64 n,Value.int .i64 kind,Value.int .i64 val,Value.int .i64 index,Value.slice pt nt ct,Value.slice pl nl cl]] w fun e w'=>e=.returned (.bool (bp true 6 a b n kind val index nt nl t0 lal))∧Ext w w':=by
 refine Km ?_
 repeat'(first|refine kQ ?_|(refine aC fun b_=>?_)|refine HH ?_|(refine fV ?_ ?_<;>(intro hc_;try subst hc_)))
 all_goals first|(exfalso;omega)|exact ah.aB rfl rfl fun w' hw'=>⟨by clear hw' _hl hk ho;first|(simp_all [bp];done)|(simp_all [bp]<;>(intros;omega)),hw'.at⟩
set_option maxHeartbeats 16000000 in
theorem tI (op a b n kind val index t0:Int) (nt nl:Nat) (pt pl:Option Addr) (ct cl:Nat) (lal:Bool) (w:World)
  (_hl:∀w',Ext w w'→Calls G.P 90 #[.slice pl nl cl] w' fun e w2=>e=.returned (.bool lal)∧Ext w' w2)
  (hk:∀w',Ext w w'→Calls G.P 87 #[.int .i64 op] w' fun e w2=>e=.returned (.bool true)∧Ext w' w2) (ho:∀w',Ext w w'→Calls G.P 86 #[.int .i64 op] w' fun e w2=>e=.returned (.int .i64 7)∧Ext w' w2):
  Calls G.P 40 #[.agg #[Value.int .i64 op,Value.int .i64 a,Value.int .i64 b,Value.int .u64 n,Value.int .i64 kind,Value.int .i64 val,Value.int .i64 index,Value.slice pt nt ct,Value.slice pl nl cl]] w fun e w'=>e=.returned (.bool (bp true 7 a b n kind val index nt nl t0 lal))∧Ext w w':=by
 refine Km ?_
 repeat'(first|refine kQ ?_|(refine aC fun b_=>?_)|refine Hx ?_|(refine fV ?_ ?_<;>(intro hc_;try subst hc_)))
 all_goals first|(exfalso;omega)|exact ah.aB rfl rfl fun w' hw'=>⟨by clear hw' _hl hk ho;first|(simp_all [bp];done)|(simp_all [bp]<;>(intros;omega)),hw'.at⟩
set_option maxHeartbeats 16000000 in
theorem tP (op a b n kind val index t0:Int) (nt nl:Nat) (pt pl:Option Addr) (ct cl:Nat) (lal:Bool) (w:World)
  (_hl:∀w',Ext w w'→Calls G.P 90 #[.slice pl nl cl] w' fun e w2=>e=.returned (.bool lal)∧Ext w' w2)
  (hk:∀w',Ext w w'→Calls G.P 87 #[.int .i64 op] w' fun e w2=>e=.returned (.bool true)∧Ext w' w2) (ho:∀w',Ext w w'→Calls G.P 86 #[.int .i64 op] w' fun e w2=>e=.returned (.int .i64 8)∧Ext w' w2):
  Calls G.P 40 #[.agg #[Value.int .i64 op,Value.int .i64 a,Value.int .i64 b,Value.int .u64 n,Value.int .i64 kind,Value.int .i64 val,Value.int .i64 index,Value.slice pt nt ct,Value.slice pl nl cl]] w fun e w'=>e=.returned (.bool (bp true 8 a b n kind val index nt nl t0 lal))∧Ext w w':=by
 refine Km ?_
 repeat'(first|refine kQ ?_|(refine aC fun b_=>?_)|refine Hx ?_|(refine fV ?_ ?_<;>(intro hc_;try subst hc_)))
 all_goals first|(exfalso;omega)|exact ah.aB rfl rfl fun w' hw'=>⟨by clear hw' _hl hk ho;first|(simp_all [bp];done)|(simp_all [bp]<;>(intros;omega)),hw'.at⟩
end Go.Proofs.YtgbgnipidakdhaaGreatDoor
