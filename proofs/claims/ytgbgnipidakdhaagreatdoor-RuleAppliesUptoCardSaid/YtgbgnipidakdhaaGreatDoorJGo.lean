/- opcode.Plain. Printed by gen_go.py. -/
import Derived.Test.YtgbgnipidakdhaaGreatDoorJGp
namespace Go.Proofs.YtgbgnipidakdhaaGreatDoor
open Go.RowKit
set_option maxRecDepth 100000
def bK (known ua ub un:Bool) (k a b n kind val index:Int) (nt:Nat) (t0:Int) (labels:List Int):Bool:=
 if known=false∨(ua=false∧a≠0)∨(ub=false∧b≠0)∨(un=false∧n≠0)∨aW a=false∨aW b=false then false else
 if(k≠19∧4294967296≤n)∨(k≠1∧¬(kind=0∧val=0∧index=0))∨(k≠6∧0<nt)∨(k≠3∧0<labels.length)then false else
 if k=1 then iK kind val index else if k=6 then decide (nt=1) && jo t0 else if k=17 then decide (a≤63)else if k=20 then decide (a=3) || decide (a=4)else labels.all aW
attribute [local irreducible] aW jo iK
theorem Hl {g g':Prop} (h:g') (hw:dS g'→g:=by(intro hk_;(first|refine Lj ?_|refine Le ?_|refine Lf ?_);exact hk_.out)):g:=hw ⟨h⟩
theorem uh (op a b n kind val index:Int) (nt nl:Nat) (pt pl:Option Addr) (ct cl:Nat) (ua ub un:Bool) (k:Int) (w:World)
  (hk:∀w',Ext w w'→Calls G.P 124 #[.int .i64 op] w' fun e w2=>e=.returned (.bool false)∧Ext w' w2) (ho:∀w',Ext w w'→Calls G.P 76 #[.int .i64 op] w' fun e w2=>e=.returned (.int .i64 k)∧Ext w' w2)
  (hu:∀w',Ext w w'→Calls G.P 123 #[.int .i64 k] w' fun e w2=>e=.returned (.tuple #[.bool ua,.bool ub,.bool un])∧Ext w' w2):
  Calls G.P 75 #[.agg #[Value.int .i64 op,Value.int .i64 a,Value.int .i64 b,Value.int .u64 n,Value.int .i64 kind,Value.int .i64 val,Value.int .i64 index,Value.slice pt nt ct,Value.slice pl nl cl]] w fun e w'=>e=.returned (.bool false)∧Ext w w':=by
 refine EQ ?_
 repeat'(first|refine kQ ?_|(refine aC fun b_=>?_)|refine Hl ?_|fail)
 all_goals exact am
set_option maxHeartbeats 16000000 in
theorem qQ (F:Nat→Prop) (op a b n kind val index t0:Int) (labels:List Int) (nt:Nat) (pt:Option Addr) (pl:Option Addr) (ct cl:Nat) (w:World) (hl:af F w (.slice pl labels.length cl) labels)
  (hk:∀w',Ext w w'→Calls G.P 124 #[.int .i64 op] w' fun e w2=>e=.returned (.bool true)∧Ext w' w2) (ho:∀w',Ext w w'→Calls G.P 76 #[.int .i64 op] w' fun e w2=>e=.returned (.int .i64 1)∧Ext w' w2)
  (hu:∀w',Ext w w'→Calls G.P 123 #[.int .i64 1] w' fun e w2=>e=.returned (.tuple #[.bool false,.bool false,.bool false])∧Ext w' w2):
  Calls G.P 75 #[.agg #[Value.int .i64 op,Value.int .i64 a,Value.int .i64 b,Value.int .u64 n,Value.int .i64 kind,Value.int .i64 val,Value.int .i64 index,Value.slice pt nt ct,Value.slice pl labels.length cl]] w fun e w'=>e=.returned (.bool (bK true false false false 1 a b n kind val index nt t0 labels))∧Ext w w':=by
 obtain⟨_,_,_,hll⟩:=hl.slice
 obtain⟨lal,hlal⟩:∃q,q=labels.all aW:=⟨_,rfl⟩
 refine EQ ?_
 repeat'(first|refine kQ ?_|(refine aC fun b_=>?_)|refine Hl ?_|refine Lm ?_|(refine aa.ai (f:=126) ?_;refine aa.aq rfl rfl rfl (fun w' hw'=>wi _ _ _ w') ?_)|(refine fV ?_ ?_<;>(intro hc_;try subst hc_)))
 all_goals first|(exfalso;omega)|exact ah.aB rfl rfl fun w' hw'=>⟨by clear hw' hl hk ho hu;first|(simp_all [bK];done)|(simp_all [bK]<;>(intros;omega)),hw'.at⟩|skip
theorem Hk {g g':Prop} (h:g') (hw:dS g'→g:=by(intro hk_;(first|refine K4 ?_|refine Hl ?_|refine Lm ?_);exact hk_.out)):g:=hw ⟨h⟩
set_option maxHeartbeats 16000000 in
theorem tj (F:Nat→Prop) (op a b n kind val index t0:Int) (labels:List Int) (nt:Nat) (pt:Option Addr) (pl:Option Addr) (ct cl:Nat) (w:World) (hl:af F w (.slice pl labels.length cl) labels)
  (hk:∀w',Ext w w'→Calls G.P 124 #[.int .i64 op] w' fun e w2=>e=.returned (.bool true)∧Ext w' w2) (ho:∀w',Ext w w'→Calls G.P 76 #[.int .i64 op] w' fun e w2=>e=.returned (.int .i64 3)∧Ext w' w2)
  (hu:∀w',Ext w w'→Calls G.P 123 #[.int .i64 3] w' fun e w2=>e=.returned (.tuple #[.bool true,.bool false,.bool false])∧Ext w' w2):
  Calls G.P 75 #[.agg #[Value.int .i64 op,Value.int .i64 a,Value.int .i64 b,Value.int .u64 n,Value.int .i64 kind,Value.int .i64 val,Value.int .i64 index,Value.slice pt nt ct,Value.slice pl labels.length cl]] w fun e w'=>e=.returned (.bool (bK true true false false 3 a b n kind val index nt t0 labels))∧Ext w w':=by
 obtain⟨_,_,_,hll⟩:=hl.slice
 obtain⟨lal,hlal⟩:∃q,q=labels.all aW:=⟨_,rfl⟩
 refine EQ ?_
 repeat'(first|refine kQ ?_|(refine aC fun b_=>?_)|refine Hk ?_|(refine fV ?_ ?_<;>(intro hc_;try subst hc_)))
 all_goals first|(exfalso;omega)|exact ah.aB rfl rfl fun w' hw'=>⟨by clear hw' hl hk ho hu;first|(simp_all [bK];done)|(simp_all [bK]<;>(intros;omega)),hw'.at⟩|skip
 all_goals
  refine Fd ?_
  rintro j ⟨hj,hall⟩
  by_cases hjl:j<labels.length
  ·obtain⟨b7,o7,rfl,-,hc⟩:=hl.at hjl
   have hcj:=hc j hjl
   have hst:=jz (f:=aW) hjl
   rw[hall,Bool.true_and]at hst
   cases hi:aW (ix labels j)with
   |true=>
    repeat'(first|refine ar ?_|(refine aa.ai (f:=125) ?_;refine aa.aq (v:=.bool true) rfl rfl rfl (fun w' hw'=>by have:=bW (ix labels j) w';rw[hi]at this;exact this) ?_)|fail)
    all_goals exact ap
   |false=>
    have hsub:=ks (j:=j+1) (l:=labels) (f:=aW) LZ
    repeat'(first|refine ar ?_|(refine aa.ai (f:=125) ?_;refine aa.aq (v:=.bool false) rfl rfl rfl (fun w' hw'=>by have:=bW (ix labels j) w';rw[hi]at this;exact this) ?_)|fail)
    all_goals exact bi
  ·obtain rfl:j=labels.length:=by omega
   rw[List.take_length]at hall
   refine bQ ?_
   exact bi
set_option maxHeartbeats 16000000 in
theorem qh (F:Nat→Prop) (op a b n kind val index t0:Int) (labels:List Int) (bt ot:Nat) (pl:Option Addr) (ct cl:Nat) (w:World) (hcell:w.cell? ⟨bt,ot+0,none⟩=some (.int .i64 t0)) (hl:af F w (.slice pl labels.length cl) labels)
  (hk:∀w',Ext w w'→Calls G.P 124 #[.int .i64 op] w' fun e w2=>e=.returned (.bool true)∧Ext w' w2) (ho:∀w',Ext w w'→Calls G.P 76 #[.int .i64 op] w' fun e w2=>e=.returned (.int .i64 6)∧Ext w' w2)
  (hu:∀w',Ext w w'→Calls G.P 123 #[.int .i64 6] w' fun e w2=>e=.returned (.tuple #[.bool false,.bool false,.bool false])∧Ext w' w2):
  Calls G.P 75 #[.agg #[Value.int .i64 op,Value.int .i64 a,Value.int .i64 b,Value.int .u64 n,Value.int .i64 kind,Value.int .i64 val,Value.int .i64 index,Value.slice (some ⟨bt,ot,none⟩) 1 ct,Value.slice pl labels.length cl]] w fun e w'=>e=.returned (.bool (bK true false false false 6 a b n kind val index 1 t0 labels))∧Ext w w':=by
 obtain⟨_,_,_,hll⟩:=hl.slice
 obtain⟨lal,hlal⟩:∃q,q=labels.all aW:=⟨_,rfl⟩
 refine EQ ?_
 repeat'(first|refine kQ ?_|(refine aa.As ?_;refine aa.ek ?_;refine aa.yg (by first|rfl|exact qA rfl dN) (Yl.gh (i:=0) rfl rfl rfl rfl rfl rfl Mh) rfl ?_)|(refine aC fun b_=>?_)|refine Hk ?_|(refine aa.cm (f:=127) ?_;refine aa.bV ny rfl rfl rfl (fun w' hw'=>sJ _ w') ?_)|(refine fV ?_ ?_<;>(intro hc_;try subst hc_)))
 all_goals first|(exfalso;omega)|exact ah.aB rfl rfl fun w' hw'=>⟨by clear hw' hl hk ho hu;first|(simp_all [bK];done)|(simp_all [bK]<;>(intros;omega)),hw'.at⟩|skip
set_option maxHeartbeats 16000000 in
theorem qf (F:Nat→Prop) (op a b n kind val index t0:Int) (labels:List Int) (nt:Nat) (pt:Option Addr) (pl:Option Addr) (ct cl:Nat) (w:World) (h1:¬((nt:Int)=1)) (hl:af F w (.slice pl labels.length cl) labels)
  (hk:∀w',Ext w w'→Calls G.P 124 #[.int .i64 op] w' fun e w2=>e=.returned (.bool true)∧Ext w' w2) (ho:∀w',Ext w w'→Calls G.P 76 #[.int .i64 op] w' fun e w2=>e=.returned (.int .i64 6)∧Ext w' w2)
  (hu:∀w',Ext w w'→Calls G.P 123 #[.int .i64 6] w' fun e w2=>e=.returned (.tuple #[.bool false,.bool false,.bool false])∧Ext w' w2):
  Calls G.P 75 #[.agg #[Value.int .i64 op,Value.int .i64 a,Value.int .i64 b,Value.int .u64 n,Value.int .i64 kind,Value.int .i64 val,Value.int .i64 index,Value.slice pt nt ct,Value.slice pl labels.length cl]] w fun e w'=>e=.returned (.bool (bK true false false false 6 a b n kind val index nt t0 labels))∧Ext w w':=by
 obtain⟨_,_,_,hll⟩:=hl.slice
 obtain⟨lal,hlal⟩:∃q,q=labels.all aW:=⟨_,rfl⟩
 refine EQ ?_
 repeat'(first|refine kQ ?_|(refine aC fun b_=>?_)|refine Hk ?_|(refine fV ?_ ?_<;>(intro hc_;try subst hc_)))
 all_goals first|(exfalso;omega)|exact ah.aB rfl rfl fun w' hw'=>⟨by clear hw' hl hk ho hu;first|(simp_all [bK];done)|(simp_all [bK]<;>(intros;omega)),hw'.at⟩|skip
end Go.Proofs.YtgbgnipidakdhaaGreatDoor
