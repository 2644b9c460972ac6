/- opcode.Plain: more kinds of immediates. Printed by gen_go.py. -/
import Derived.Test.YtceedealggognaaGreatDoorJGo
namespace Go.Proofs.YtceedealggognaaGreatDoor
open Go.RowKit
set_option maxRecDepth 100000
attribute [local irreducible] aL kC jn
theorem Az {g g':Prop} (h:g') (hw:ek g'→g:=by(intro hk_;(first|refine Gx ?_|refine GB ?_|refine Gz ?_|refine GA ?_|refine GC ?_);exact hk_.out)):g:=hw ⟨h⟩
set_option maxHeartbeats 16000000 in
theorem nT (F:Nat→Prop) (op a b n kind val index t0:Int) (labels:List Int) (nt:Nat) (pt:Option Addr) (pl:Option Addr) (ct cl:Nat) (w:World) (hl:af F w (.slice pl labels.length cl) labels)
  (hk:∀w',Ext w w'→Calls G.P 127 #[.int .i64 op] w' fun e w2=>e=.returned (.bool true)∧Ext w' w2) (ho:∀w',Ext w w'→Calls G.P 98 #[.int .i64 op] w' fun e w2=>e=.returned (.int .i64 13)∧Ext w' w2)
  (hu:∀w',Ext w w'→Calls G.P 126 #[.int .i64 13] w' fun e w2=>e=.returned (.tuple #[.bool false,.bool true,.bool false])∧Ext w' w2):
  Calls G.P 83 #[.agg #[Value.int .i64 op,Value.int .i64 a,Value.int .i64 b,Value.int .u64 n,Value.int .i64 kind,Value.int .i64 val,Value.int .i64 index,Value.slice pt nt ct,Value.slice pl labels.length cl]] w fun e w'=>e=.returned (.bool (bh true false true false 13 a b n kind val index nt t0 labels))∧Ext w w':=by
 obtain⟨_,_,_,hll⟩:=hl.slice
 obtain⟨lal,hlal⟩:∃q,q=labels.all aL:=⟨_,rfl⟩
 refine t6 ?_
 repeat'(first|refine uk ?_|(refine bz fun b_=>?_)|refine Az ?_|(refine lC ?_ ?_<;>(intro hc_;try subst hc_)))
 all_goals first|(exfalso;omega)|exact ai.aA rfl rfl fun w' hw'=>⟨by clear hw' hl hk ho hu;first|(simp_all [bh];done)|(simp_all [bh]<;>(intros;omega)),hw'.at⟩|skip
 all_goals
  refine t7 ?_
  rintro j ⟨hj,hall⟩
  by_cases hjl:j<labels.length
  ·obtain⟨b7,o7,rfl,-,hc⟩:=hl.at hjl
   have hcj:=hc j hjl
   have hst:=ie (f:=aL) hjl
   rw[hall,Bool.true_and]at hst
   cases hi:aL (ix labels j)with
   |true=>
    repeat'(first|refine ax ?_|(refine aa.ak (f:=128) ?_;refine aa.az (v:=.bool true) rfl rfl rfl (fun w' hw'=>by have:=bE (ix labels j) w';rw[hi]at this;exact this) ?_)|fail)
    all_goals exact bi
   |false=>
    have hsub:=jQ (j:=j+1) (l:=labels) (f:=aL) (by rw[hst,hi])
    repeat'(first|refine ax ?_|(refine aa.ak (f:=128) ?_;refine aa.az (v:=.bool false) rfl rfl rfl (fun w' hw'=>by have:=bE (ix labels j) w';rw[hi]at this;exact this) ?_)|fail)
    all_goals exact ci
  ·obtain rfl:j=labels.length:=by omega
   rw[List.take_length]at hall
   refine dy ?_
   exact ci
set_option maxHeartbeats 16000000 in
theorem oY (F:Nat→Prop) (op a b n kind val index t0:Int) (labels:List Int) (nt:Nat) (pt:Option Addr) (pl:Option Addr) (ct cl:Nat) (w:World) (hl:af F w (.slice pl labels.length cl) labels)
  (hk:∀w',Ext w w'→Calls G.P 127 #[.int .i64 op] w' fun e w2=>e=.returned (.bool true)∧Ext w' w2) (ho:∀w',Ext w w'→Calls G.P 98 #[.int .i64 op] w' fun e w2=>e=.returned (.int .i64 0)∧Ext w' w2)
  (hu:∀w',Ext w w'→Calls G.P 126 #[.int .i64 0] w' fun e w2=>e=.returned (.tuple #[.bool false,.bool false,.bool false])∧Ext w' w2):
  Calls G.P 83 #[.agg #[Value.int .i64 op,Value.int .i64 a,Value.int .i64 b,Value.int .u64 n,Value.int .i64 kind,Value.int .i64 val,Value.int .i64 index,Value.slice pt nt ct,Value.slice pl labels.length cl]] w fun e w'=>e=.returned (.bool (bh true false false false 0 a b n kind val index nt t0 labels))∧Ext w w':=by
 obtain⟨_,_,_,hll⟩:=hl.slice
 obtain⟨lal,hlal⟩:∃q,q=labels.all aL:=⟨_,rfl⟩
 refine t6 ?_
 repeat'(first|refine uk ?_|(refine bz fun b_=>?_)|refine Az ?_|(refine lC ?_ ?_<;>(intro hc_;try subst hc_)))
 all_goals first|(exfalso;omega)|exact ai.aA rfl rfl fun w' hw'=>⟨by clear hw' hl hk ho hu;first|(simp_all [bh];done)|(simp_all [bh]<;>(intros;omega)),hw'.at⟩|skip
 all_goals
  refine t7 ?_
  rintro j ⟨hj,hall⟩
  by_cases hjl:j<labels.length
  ·obtain⟨b7,o7,rfl,-,hc⟩:=hl.at hjl
   have hcj:=hc j hjl
   have hst:=ie (f:=aL) hjl
   rw[hall,Bool.true_and]at hst
   cases hi:aL (ix labels j)with
   |true=>
    repeat'(first|refine ax ?_|(refine aa.ak (f:=128) ?_;refine aa.az (v:=.bool true) rfl rfl rfl (fun w' hw'=>by have:=bE (ix labels j) w';rw[hi]at this;exact this) ?_)|fail)
    all_goals exact bi
   |false=>
    have hsub:=jQ (j:=j+1) (l:=labels) (f:=aL) (by rw[hst,hi])
    repeat'(first|refine ax ?_|(refine aa.ak (f:=128) ?_;refine aa.az (v:=.bool false) rfl rfl rfl (fun w' hw'=>by have:=bE (ix labels j) w';rw[hi]at this;exact this) ?_)|fail)
    all_goals exact ci
  ·obtain rfl:j=labels.length:=by omega
   rw[List.take_length]at hall
   refine dy ?_
   exact ci
set_option maxHeartbeats 16000000 in
theorem o9 (F:Nat→Prop) (op a b n kind val index t0:Int) (labels:List Int) (nt:Nat) (pt:Option Addr) (pl:Option Addr) (ct cl:Nat) (k:Int) (w:World) (h1:k≠1) (h3:k≠3) (h6:k≠6) (h17:k≠17) (h19:k≠19) (h20:k≠20) (hl:af F w (.slice pl labels.length cl) labels)
  (hk:∀w',Ext w w'→Calls G.P 127 #[.int .i64 op] w' fun e w2=>e=.returned (.bool true)∧Ext w' w2) (ho:∀w',Ext w w'→Calls G.P 98 #[.int .i64 op] w' fun e w2=>e=.returned (.int .i64 k)∧Ext w' w2)
  (hu:∀w',Ext w w'→Calls G.P 126 #[.int .i64 k] w' fun e w2=>e=.returned (.tuple #[.bool true,.bool false,.bool false])∧Ext w' w2):
  Calls G.P 83 #[.agg #[Value.int .i64 op,Value.int .i64 a,Value.int .i64 b,Value.int .u64 n,Value.int .i64 kind,Value.int .i64 val,Value.int .i64 index,Value.slice pt nt ct,Value.slice pl labels.length cl]] w fun e w'=>e=.returned (.bool (bh true true false false k a b n kind val index nt t0 labels))∧Ext w w':=by
 obtain⟨_,_,_,hll⟩:=hl.slice
 obtain⟨lal,hlal⟩:∃q,q=labels.all aL:=⟨_,rfl⟩
 refine t6 ?_
 repeat'(first|refine uk ?_|(refine bz fun b_=>?_)|refine Az ?_|(refine lC ?_ ?_<;>(intro hc_;try subst hc_)))
 all_goals first|(exfalso;omega)|exact ai.aA rfl rfl fun w' hw'=>⟨by clear hw' hl hk ho hu;first|(simp_all [bh];done)|(simp_all [bh]<;>(intros;omega)),hw'.at⟩|skip
 all_goals
  refine t7 ?_
  rintro j ⟨hj,hall⟩
  by_cases hjl:j<labels.length
  ·obtain⟨b7,o7,rfl,-,hc⟩:=hl.at hjl
   have hcj:=hc j hjl
   have hst:=ie (f:=aL) hjl
   rw[hall,Bool.true_and]at hst
   cases hi:aL (ix labels j)with
   |true=>
    repeat'(first|refine ax ?_|(refine aa.ak (f:=128) ?_;refine aa.az (v:=.bool true) rfl rfl rfl (fun w' hw'=>by have:=bE (ix labels j) w';rw[hi]at this;exact this) ?_)|fail)
    all_goals exact bi
   |false=>
    have hsub:=jQ (j:=j+1) (l:=labels) (f:=aL) (by rw[hst,hi])
    repeat'(first|refine ax ?_|(refine aa.ak (f:=128) ?_;refine aa.az (v:=.bool false) rfl rfl rfl (fun w' hw'=>by have:=bE (ix labels j) w';rw[hi]at this;exact this) ?_)|fail)
    all_goals exact ci
  ·obtain rfl:j=labels.length:=by omega
   rw[List.take_length]at hall
   refine dy ?_
   exact ci
set_option maxHeartbeats 16000000 in
theorem pd (F:Nat→Prop) (op a b n kind val index t0:Int) (labels:List Int) (nt:Nat) (pt:Option Addr) (pl:Option Addr) (ct cl:Nat) (k:Int) (w:World) (h1:k≠1) (h3:k≠3) (h6:k≠6) (h17:k≠17) (h19:k≠19) (h20:k≠20) (hl:af F w (.slice pl labels.length cl) labels)
  (hk:∀w',Ext w w'→Calls G.P 127 #[.int .i64 op] w' fun e w2=>e=.returned (.bool true)∧Ext w' w2) (ho:∀w',Ext w w'→Calls G.P 98 #[.int .i64 op] w' fun e w2=>e=.returned (.int .i64 k)∧Ext w' w2)
  (hu:∀w',Ext w w'→Calls G.P 126 #[.int .i64 k] w' fun e w2=>e=.returned (.tuple #[.bool true,.bool true,.bool false])∧Ext w' w2):
  Calls G.P 83 #[.agg #[Value.int .i64 op,Value.int .i64 a,Value.int .i64 b,Value.int .u64 n,Value.int .i64 kind,Value.int .i64 val,Value.int .i64 index,Value.slice pt nt ct,Value.slice pl labels.length cl]] w fun e w'=>e=.returned (.bool (bh true true true false k a b n kind val index nt t0 labels))∧Ext w w':=by
 obtain⟨_,_,_,hll⟩:=hl.slice
 obtain⟨lal,hlal⟩:∃q,q=labels.all aL:=⟨_,rfl⟩
 refine t6 ?_
 repeat'(first|refine uk ?_|(refine bz fun b_=>?_)|refine Az ?_|(refine lC ?_ ?_<;>(intro hc_;try subst hc_)))
 all_goals first|(exfalso;omega)|exact ai.aA rfl rfl fun w' hw'=>⟨by clear hw' hl hk ho hu;first|(simp_all [bh];done)|(simp_all [bh]<;>(intros;omega)),hw'.at⟩|skip
 all_goals
  refine t7 ?_
  rintro j ⟨hj,hall⟩
  by_cases hjl:j<labels.length
  ·obtain⟨b7,o7,rfl,-,hc⟩:=hl.at hjl
   have hcj:=hc j hjl
   have hst:=ie (f:=aL) hjl
   rw[hall,Bool.true_and]at hst
   cases hi:aL (ix labels j)with
   |true=>
    repeat'(first|refine ax ?_|(refine aa.ak (f:=128) ?_;refine aa.az (v:=.bool true) rfl rfl rfl (fun w' hw'=>by have:=bE (ix labels j) w';rw[hi]at this;exact this) ?_)|fail)
    all_goals exact bi
   |false=>
    have hsub:=jQ (j:=j+1) (l:=labels) (f:=aL) (by rw[hst,hi])
    repeat'(first|refine ax ?_|(refine aa.ak (f:=128) ?_;refine aa.az (v:=.bool false) rfl rfl rfl (fun w' hw'=>by have:=bE (ix labels j) w';rw[hi]at this;exact this) ?_)|fail)
    all_goals exact ci
  ·obtain rfl:j=labels.length:=by omega
   rw[List.take_length]at hall
   refine dy ?_
   exact ci
end Go.Proofs.YtceedealggognaaGreatDoor
