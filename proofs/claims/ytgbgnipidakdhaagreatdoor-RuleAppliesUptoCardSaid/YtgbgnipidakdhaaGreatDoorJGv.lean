/- opcode.Plain: more kinds of immediates. Printed by gen_go.py. -/
import Derived.Test.YtgbgnipidakdhaaGreatDoorJGo
namespace Go.Proofs.YtgbgnipidakdhaaGreatDoor
open Go.RowKit
set_option maxRecDepth 100000
attribute [local irreducible] aW jo iK
theorem Gu {g g':Prop} (h:g') (hw:dS g'→g:=by(intro hk_;(first|refine K4 ?_|refine Lj ?_|refine Le ?_|refine Lf ?_|refine Lm ?_);exact hk_.out)):g:=hw ⟨h⟩
set_option maxHeartbeats 16000000 in
theorem pZ (F:Nat→Prop) (op a b n kind val index t0:Int) (labels:List Int) (nt:Nat) (pt:Option Addr) (pl:Option Addr) (ct cl:Nat) (w:World) (hl:af F w (.slice pl labels.length cl) labels)
  (hk:∀w',Ext w w'→Calls G.P 124 #[.int .i64 op] w' fun e w2=>e=.returned (.bool true)∧Ext w' w2) (ho:∀w',Ext w w'→Calls G.P 76 #[.int .i64 op] w' fun e w2=>e=.returned (.int .i64 17)∧Ext w' w2)
  (hu:∀w',Ext w w'→Calls G.P 123 #[.int .i64 17] w' fun e w2=>e=.returned (.tuple #[.bool true,.bool true,.bool true])∧Ext w' w2):
  Calls G.P 75 #[.agg #[Value.int .i64 op,Value.int .i64 a,Value.int .i64 b,Value.int .u64 n,Value.int .i64 kind,Value.int .i64 val,Value.int .i64 index,Value.slice pt nt ct,Value.slice pl labels.length cl]] w fun e w'=>e=.returned (.bool (bK true true true true 17 a b n kind val index nt t0 labels))∧Ext w w':=by
 obtain⟨_,_,_,hll⟩:=hl.slice
 obtain⟨lal,hlal⟩:∃q,q=labels.all aW:=⟨_,rfl⟩
 refine EQ ?_
 repeat'(first|refine kQ ?_|(refine aC fun b_=>?_)|refine Gu ?_|(refine fV ?_ ?_<;>(intro hc_;try subst hc_)))
 all_goals first|(exfalso;omega)|exact ah.aB rfl rfl fun w' hw'=>⟨by clear hw' hl hk ho hu;first|(simp_all [bK];done)|(simp_all [bK]<;>(intros;omega)),hw'.at⟩|skip
set_option maxHeartbeats 16000000 in
theorem qs (F:Nat→Prop) (op a b n kind val index t0:Int) (labels:List Int) (nt:Nat) (pt:Option Addr) (pl:Option Addr) (ct cl:Nat) (w:World) (hl:af F w (.slice pl labels.length cl) labels)
  (hk:∀w',Ext w w'→Calls G.P 124 #[.int .i64 op] w' fun e w2=>e=.returned (.bool true)∧Ext w' w2) (ho:∀w',Ext w w'→Calls G.P 76 #[.int .i64 op] w' fun e w2=>e=.returned (.int .i64 19)∧Ext w' w2)
  (hu:∀w',Ext w w'→Calls G.P 123 #[.int .i64 19] w' fun e w2=>e=.returned (.tuple #[.bool false,.bool false,.bool true])∧Ext w' w2):
  Calls G.P 75 #[.agg #[Value.int .i64 op,Value.int .i64 a,Value.int .i64 b,Value.int .u64 n,Value.int .i64 kind,Value.int .i64 val,Value.int .i64 index,Value.slice pt nt ct,Value.slice pl labels.length cl]] w fun e w'=>e=.returned (.bool (bK true false false true 19 a b n kind val index nt t0 labels))∧Ext w w':=by
 obtain⟨_,_,_,hll⟩:=hl.slice
 obtain⟨lal,hlal⟩:∃q,q=labels.all aW:=⟨_,rfl⟩
 refine EQ ?_
 repeat'(first|refine kQ ?_|(refine aC fun b_=>?_)|refine Gu ?_|(refine fV ?_ ?_<;>(intro hc_;try subst hc_)))
 all_goals first|(exfalso;omega)|exact ah.aB rfl rfl fun w' hw'=>⟨by clear hw' hl hk ho hu;first|(simp_all [bK];done)|(simp_all [bK]<;>(intros;omega)),hw'.at⟩|skip
 all_goals
  refine Fd ?_
  rintro j ⟨hj,hall⟩
  by_cases hjl:j<labels.length
  ·obtain⟨b7,o7,rfl,-,hc⟩:=hl.at hjl
   have hcj:=hc j hjl
   have hst:=jz (f:=aW) hjl
   rw[hall,Bool.true_and]at hst
   cases hi:aW (ix labels j)with
   |true=>
    repeat'(first|refine ar ?_|(refine aa.ai (f:=125) ?_;refine aa.aq (v:=.bool true) rfl rfl rfl (fun w' hw'=>by have:=bW (ix labels j) w';rw[hi]at this;exact this) ?_)|fail)
    all_goals exact ap
   |false=>
    have hsub:=ks (j:=j+1) (l:=labels) (f:=aW) LZ
    repeat'(first|refine ar ?_|(refine aa.ai (f:=125) ?_;refine aa.aq (v:=.bool false) rfl rfl rfl (fun w' hw'=>by have:=bW (ix labels j) w';rw[hi]at this;exact this) ?_)|fail)
    all_goals exact bi
  ·obtain rfl:j=labels.length:=by omega
   rw[List.take_length]at hall
   refine bQ ?_
   exact bi
set_option maxHeartbeats 16000000 in
theorem qo (F:Nat→Prop) (op a b n kind val index t0:Int) (labels:List Int) (nt:Nat) (pt:Option Addr) (pl:Option Addr) (ct cl:Nat) (w:World) (hl:af F w (.slice pl labels.length cl) labels)
  (hk:∀w',Ext w w'→Calls G.P 124 #[.int .i64 op] w' fun e w2=>e=.returned (.bool true)∧Ext w' w2) (ho:∀w',Ext w w'→Calls G.P 76 #[.int .i64 op] w' fun e w2=>e=.returned (.int .i64 20)∧Ext w' w2)
  (hu:∀w',Ext w w'→Calls G.P 123 #[.int .i64 20] w' fun e w2=>e=.returned (.tuple #[.bool true,.bool false,.bool false])∧Ext w' w2):
  Calls G.P 75 #[.agg #[Value.int .i64 op,Value.int .i64 a,Value.int .i64 b,Value.int .u64 n,Value.int .i64 kind,Value.int .i64 val,Value.int .i64 index,Value.slice pt nt ct,Value.slice pl labels.length cl]] w fun e w'=>e=.returned (.bool (bK true true false false 20 a b n kind val index nt t0 labels))∧Ext w w':=by
 obtain⟨_,_,_,hll⟩:=hl.slice
 obtain⟨lal,hlal⟩:∃q,q=labels.all aW:=⟨_,rfl⟩
 refine EQ ?_
 repeat'(first|refine kQ ?_|(refine aC fun b_=>?_)|refine Gu ?_|(refine fV ?_ ?_<;>(intro hc_;try subst hc_)))
 all_goals first|(exfalso;omega)|exact ah.aB rfl rfl fun w' hw'=>⟨by clear hw' hl hk ho hu;first|(simp_all [bK];done)|(simp_all [bK]<;>(intros;omega)),hw'.at⟩|skip
set_option maxHeartbeats 16000000 in
theorem qd (F:Nat→Prop) (op a b n kind val index t0:Int) (labels:List Int) (nt:Nat) (pt:Option Addr) (pl:Option Addr) (ct cl:Nat) (w:World) (hl:af F w (.slice pl labels.length cl) labels)
  (hk:∀w',Ext w w'→Calls G.P 124 #[.int .i64 op] w' fun e w2=>e=.returned (.bool true)∧Ext w' w2) (ho:∀w',Ext w w'→Calls G.P 76 #[.int .i64 op] w' fun e w2=>e=.returned (.int .i64 18)∧Ext w' w2)
  (hu:∀w',Ext w w'→Calls G.P 123 #[.int .i64 18] w' fun e w2=>e=.returned (.tuple #[.bool false,.bool false,.bool true])∧Ext w' w2):
  Calls G.P 75 #[.agg #[Value.int .i64 op,Value.int .i64 a,Value.int .i64 b,Value.int .u64 n,Value.int .i64 kind,Value.int .i64 val,Value.int .i64 index,Value.slice pt nt ct,Value.slice pl labels.length cl]] w fun e w'=>e=.returned (.bool (bK true false false true 18 a b n kind val index nt t0 labels))∧Ext w w':=by
 obtain⟨_,_,_,hll⟩:=hl.slice
 obtain⟨lal,hlal⟩:∃q,q=labels.all aW:=⟨_,rfl⟩
 refine EQ ?_
 repeat'(first|refine kQ ?_|(refine aC fun b_=>?_)|refine Gu ?_|(refine fV ?_ ?_<;>(intro hc_;try subst hc_)))
 all_goals first|(exfalso;omega)|exact ah.aB rfl rfl fun w' hw'=>⟨by clear hw' hl hk ho hu;first|(simp_all [bK];done)|(simp_all [bK]<;>(intros;omega)),hw'.at⟩|skip
 all_goals
  refine Fd ?_
  rintro j ⟨hj,hall⟩
  by_cases hjl:j<labels.length
  ·obtain⟨b7,o7,rfl,-,hc⟩:=hl.at hjl
   have hcj:=hc j hjl
   have hst:=jz (f:=aW) hjl
   rw[hall,Bool.true_and]at hst
   cases hi:aW (ix labels j)with
   |true=>
    repeat'(first|refine ar ?_|(refine aa.ai (f:=125) ?_;refine aa.aq (v:=.bool true) rfl rfl rfl (fun w' hw'=>by have:=bW (ix labels j) w';rw[hi]at this;exact this) ?_)|fail)
    all_goals exact ap
   |false=>
    have hsub:=ks (j:=j+1) (l:=labels) (f:=aW) LZ
    repeat'(first|refine ar ?_|(refine aa.ai (f:=125) ?_;refine aa.aq (v:=.bool false) rfl rfl rfl (fun w' hw'=>by have:=bW (ix labels j) w';rw[hi]at this;exact this) ?_)|fail)
    all_goals exact bi
  ·obtain rfl:j=labels.length:=by omega
   rw[List.take_length]at hall
   refine bQ ?_
   exact bi
end Go.Proofs.YtgbgnipidakdhaaGreatDoor
