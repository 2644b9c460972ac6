/- opcode.Plain: more kinds of immediates. Printed by gen_go.py. -/
import Derived.Test.YtceedealggognaaGreatDoorJGo
namespace Go.Proofs.YtceedealggognaaGreatDoor
open Go.RowKit
set_option maxRecDepth 100000
attribute [local irreducible] aI kg iY
theorem zl {g g':Prop} (h:g') (hw:dP g'→g:=by(intro hk_;(first|refine Fk ?_|refine Fo ?_|refine Fl ?_|refine Fm ?_|refine Fp ?_);exact hk_.out)):g:=hw ⟨h⟩
set_option maxHeartbeats 16000000 in
theorem ng (F:Nat→Prop) (op a b n kind val index t0:Int) (labels:List Int) (nt:Nat) (pt:Option Addr) (pl:Option Addr) (ct cl:Nat) (w:World) (hl:af F w (.slice pl labels.length cl) labels)
  (hk:∀w',Ext w w'→Calls G.P 127 #[.int .i64 op] w' fun e w2=>e=.returned (.bool true)∧Ext w' w2) (ho:∀w',Ext w w'→Calls G.P 98 #[.int .i64 op] w' fun e w2=>e=.returned (.int .i64 13)∧Ext w' w2)
  (hu:∀w',Ext w w'→Calls G.P 126 #[.int .i64 13] w' fun e w2=>e=.returned (.tuple #[.bool false,.bool true,.bool false])∧Ext w' w2):
  Calls G.P 83 #[.agg #[Value.int .i64 op,Value.int .i64 a,Value.int .i64 b,Value.int .u64 n,Value.int .i64 kind,Value.int .i64 val,Value.int .i64 index,Value.slice pt nt ct,Value.slice pl labels.length cl]] w fun e w'=>e=.returned (.bool (bn true false true false 13 a b n kind val index nt t0 labels))∧Ext w w':=by
 obtain⟨_,_,_,hll⟩:=hl.slice
 obtain⟨lal,hlal⟩:∃q,q=labels.all aI:=⟨_,rfl⟩
 refine EF ?_
 repeat'(first|refine tk ?_|(refine br fun b_=>?_)|refine zl ?_|(refine kP ?_ ?_<;>(intro hc_;try subst hc_)))
 all_goals first|(exfalso;omega)|exact ai.aA rfl rfl fun w' hw'=>⟨by clear hw' hl hk ho hu;first|(simp_all [bn];done)|(simp_all [bn]<;>(intros;omega)),hw'.at⟩|skip
 all_goals
  refine EG ?_
  rintro j ⟨hj,hall⟩
  by_cases hjl:j<labels.length
  ·obtain⟨b7,o7,rfl,-,hc⟩:=hl.at hjl
   have hcj:=hc j hjl
   have hst:=gZ (f:=aI) hjl
   rw[hall,Bool.true_and]at hst
   cases hi:aI (ix labels j)with
   |true=>
    repeat'(first|refine ay ?_|(refine aa.ak (f:=128) ?_;refine aa.az (v:=.bool true) rfl rfl rfl (fun w' hw'=>by have:=bD (ix labels j) w';rw[hi]at this;exact this) ?_)|fail)
    all_goals exact lw
   |false=>
    have hsub:=jE (j:=j+1) (l:=labels) (f:=aI) (by rw[hst,hi])
    repeat'(first|refine ay ?_|(refine aa.ak (f:=128) ?_;refine aa.az (v:=.bool false) rfl rfl rfl (fun w' hw'=>by have:=bD (ix labels j) w';rw[hi]at this;exact this) ?_)|fail)
    all_goals exact mp
  ·obtain rfl:j=labels.length:=by omega
   rw[List.take_length]at hall
   refine dr ?_
   exact mp
set_option maxHeartbeats 16000000 in
theorem ox (F:Nat→Prop) (op a b n kind val index t0:Int) (labels:List Int) (nt:Nat) (pt:Option Addr) (pl:Option Addr) (ct cl:Nat) (w:World) (hl:af F w (.slice pl labels.length cl) labels)
  (hk:∀w',Ext w w'→Calls G.P 127 #[.int .i64 op] w' fun e w2=>e=.returned (.bool true)∧Ext w' w2) (ho:∀w',Ext w w'→Calls G.P 98 #[.int .i64 op] w' fun e w2=>e=.returned (.int .i64 0)∧Ext w' w2)
  (hu:∀w',Ext w w'→Calls G.P 126 #[.int .i64 0] w' fun e w2=>e=.returned (.tuple #[.bool false,.bool false,.bool false])∧Ext w' w2):
  Calls G.P 83 #[.agg #[Value.int .i64 op,Value.int .i64 a,Value.int .i64 b,Value.int .u64 n,Value.int .i64 kind,Value.int .i64 val,Value.int .i64 index,Value.slice pt nt ct,Value.slice pl labels.length cl]] w fun e w'=>e=.returned (.bool (bn true false false false 0 a b n kind val index nt t0 labels))∧Ext w w':=by
 obtain⟨_,_,_,hll⟩:=hl.slice
 obtain⟨lal,hlal⟩:∃q,q=labels.all aI:=⟨_,rfl⟩
 refine EF ?_
 repeat'(first|refine tk ?_|(refine br fun b_=>?_)|refine zl ?_|(refine kP ?_ ?_<;>(intro hc_;try subst hc_)))
 all_goals first|(exfalso;omega)|exact ai.aA rfl rfl fun w' hw'=>⟨by clear hw' hl hk ho hu;first|(simp_all [bn];done)|(simp_all [bn]<;>(intros;omega)),hw'.at⟩|skip
 all_goals
  refine EG ?_
  rintro j ⟨hj,hall⟩
  by_cases hjl:j<labels.length
  ·obtain⟨b7,o7,rfl,-,hc⟩:=hl.at hjl
   have hcj:=hc j hjl
   have hst:=gZ (f:=aI) hjl
   rw[hall,Bool.true_and]at hst
   cases hi:aI (ix labels j)with
   |true=>
    repeat'(first|refine ay ?_|(refine aa.ak (f:=128) ?_;refine aa.az (v:=.bool true) rfl rfl rfl (fun w' hw'=>by have:=bD (ix labels j) w';rw[hi]at this;exact this) ?_)|fail)
    all_goals exact lw
   |false=>
    have hsub:=jE (j:=j+1) (l:=labels) (f:=aI) (by rw[hst,hi])
    repeat'(first|refine ay ?_|(refine aa.ak (f:=128) ?_;refine aa.az (v:=.bool false) rfl rfl rfl (fun w' hw'=>by have:=bD (ix labels j) w';rw[hi]at this;exact this) ?_)|fail)
    all_goals exact mp
  ·obtain rfl:j=labels.length:=by omega
   rw[List.take_length]at hall
   refine dr ?_
   exact mp
set_option maxHeartbeats 16000000 in
theorem oA (F:Nat→Prop) (op a b n kind val index t0:Int) (labels:List Int) (nt:Nat) (pt:Option Addr) (pl:Option Addr) (ct cl:Nat) (k:Int) (w:World) (h1:k≠1) (h3:k≠3) (h6:k≠6) (h17:k≠17) (h19:k≠19) (h20:k≠20) (hl:af F w (.slice pl labels.length cl) labels)
  (hk:∀w',Ext w w'→Calls G.P 127 #[.int .i64 op] w' fun e w2=>e=.returned (.bool true)∧Ext w' w2) (ho:∀w',Ext w w'→Calls G.P 98 #[.int .i64 op] w' fun e w2=>e=.returned (.int .i64 k)∧Ext w' w2)
  (hu:∀w',Ext w w'→Calls G.P 126 #[.int .i64 k] w' fun e w2=>e=.returned (.tuple #[.bool true,.bool false,.bool false])∧Ext w' w2):
  Calls G.P 83 #[.agg #[Value.int .i64 op,Value.int .i64 a,Value.int .i64 b,Value.int .u64 n,Value.int .i64 kind,Value.int .i64 val,Value.int .i64 index,Value.slice pt nt ct,Value.slice pl labels.length cl]] w fun e w'=>e=.returned (.bool (bn true true false false k a b n kind val index nt t0 labels))∧Ext w w':=by
 obtain⟨_,_,_,hll⟩:=hl.slice
 obtain⟨lal,hlal⟩:∃q,q=labels.all aI:=⟨_,rfl⟩
 refine EF ?_
 repeat'(first|refine tk ?_|(refine br fun b_=>?_)|refine zl ?_|(refine kP ?_ ?_<;>(intro hc_;try subst hc_)))
 all_goals first|(exfalso;omega)|exact ai.aA rfl rfl fun w' hw'=>⟨by clear hw' hl hk ho hu;first|(simp_all [bn];done)|(simp_all [bn]<;>(intros;omega)),hw'.at⟩|skip
 all_goals
  refine EG ?_
  rintro j ⟨hj,hall⟩
  by_cases hjl:j<labels.length
  ·obtain⟨b7,o7,rfl,-,hc⟩:=hl.at hjl
   have hcj:=hc j hjl
   have hst:=gZ (f:=aI) hjl
   rw[hall,Bool.true_and]at hst
   cases hi:aI (ix labels j)with
   |true=>
    repeat'(first|refine ay ?_|(refine aa.ak (f:=128) ?_;refine aa.az (v:=.bool true) rfl rfl rfl (fun w' hw'=>by have:=bD (ix labels j) w';rw[hi]at this;exact this) ?_)|fail)
    all_goals exact lw
   |false=>
    have hsub:=jE (j:=j+1) (l:=labels) (f:=aI) (by rw[hst,hi])
    repeat'(first|refine ay ?_|(refine aa.ak (f:=128) ?_;refine aa.az (v:=.bool false) rfl rfl rfl (fun w' hw'=>by have:=bD (ix labels j) w';rw[hi]at this;exact this) ?_)|fail)
    all_goals exact mp
  ·obtain rfl:j=labels.length:=by omega
   rw[List.take_length]at hall
   refine dr ?_
   exact mp
set_option maxHeartbeats 16000000 in
theorem oB (F:Nat→Prop) (op a b n kind val index t0:Int) (labels:List Int) (nt:Nat) (pt:Option Addr) (pl:Option Addr) (ct cl:Nat) (k:Int) (w:World) (h1:k≠1) (h3:k≠3) (h6:k≠6) (h17:k≠17) (h19:k≠19) (h20:k≠20) (hl:af F w (.slice pl labels.length cl) labels)
  (hk:∀w',Ext w w'→Calls G.P 127 #[.int .i64 op] w' fun e w2=>e=.returned (.bool true)∧Ext w' w2) (ho:∀w',Ext w w'→Calls G.P 98 #[.int .i64 op] w' fun e w2=>e=.returned (.int .i64 k)∧Ext w' w2)
  (hu:∀w',Ext w w'→Calls G.P 126 #[.int .i64 k] w' fun e w2=>e=.returned (.tuple #[.bool true,.bool true,.bool false])∧Ext w' w2):
  Calls G.P 83 #[.agg #[Value.int .i64 op,Value.int .i64 a,Value.int .i64 b,Value.int .u64 n,Value.int .i64 kind,Value.int .i64 val,Value.int .i64 index,Value.slice pt nt ct,Value.slice pl labels.length cl]] w fun e w'=>e=.returned (.bool (bn true true true false k a b n kind val index nt t0 labels))∧Ext w w':=by
 obtain⟨_,_,_,hll⟩:=hl.slice
 obtain⟨lal,hlal⟩:∃q,q=labels.all aI:=⟨_,rfl⟩
 refine EF ?_
 repeat'(first|refine tk ?_|(refine br fun b_=>?_)|refine zl ?_|(refine kP ?_ ?_<;>(intro hc_;try subst hc_)))
 all_goals first|(exfalso;omega)|exact ai.aA rfl rfl fun w' hw'=>⟨by clear hw' hl hk ho hu;first|(simp_all [bn];done)|(simp_all [bn]<;>(intros;omega)),hw'.at⟩|skip
 all_goals
  refine EG ?_
  rintro j ⟨hj,hall⟩
  by_cases hjl:j<labels.length
  ·obtain⟨b7,o7,rfl,-,hc⟩:=hl.at hjl
   have hcj:=hc j hjl
   have hst:=gZ (f:=aI) hjl
   rw[hall,Bool.true_and]at hst
   cases hi:aI (ix labels j)with
   |true=>
    repeat'(first|refine ay ?_|(refine aa.ak (f:=128) ?_;refine aa.az (v:=.bool true) rfl rfl rfl (fun w' hw'=>by have:=bD (ix labels j) w';rw[hi]at this;exact this) ?_)|fail)
    all_goals exact lw
   |false=>
    have hsub:=jE (j:=j+1) (l:=labels) (f:=aI) (by rw[hst,hi])
    repeat'(first|refine ay ?_|(refine aa.ak (f:=128) ?_;refine aa.az (v:=.bool false) rfl rfl rfl (fun w' hw'=>by have:=bD (ix labels j) w';rw[hi]at this;exact this) ?_)|fail)
    all_goals exact mp
  ·obtain rfl:j=labels.length:=by omega
   rw[List.take_length]at hall
   refine dr ?_
   exact mp
end Go.Proofs.YtceedealggognaaGreatDoor
