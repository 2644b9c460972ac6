/- opcode.Plain. Printed by gen_go.py. -/
import Derived.Test.YtceedealggognaaGreatDoorJGp
namespace Go.Proofs.YtceedealggognaaGreatDoor
open Go.RowKit
set_option maxRecDepth 100000
def bn (known ua ub un:Bool) (k a b n kind val index:Int) (nt:Nat) (t0:Int) (labels:List Int):Bool:=
 if known=false∨(ua=false∧a≠0)∨(ub=false∧b≠0)∨(un=false∧n≠0)∨aI a=false∨aI b=false then false else
 if(k≠19∧4294967296≤n)∨(k≠1∧¬(kind=0∧val=0∧index=0))∨(k≠6∧0<nt)∨(k≠3∧0<labels.length)then false else
 if k=1 then iY kind val index else if k=6 then decide (nt=1) && kg t0 else if k=17 then decide (a≤63)else if k=20 then decide (a=3) || decide (a=4)else labels.all aI
attribute [local irreducible] aI kg iY
theorem AS {g g':Prop} (h:g') (hw:dP g'→g:=by(intro hk_;(first|refine Fo ?_|refine Fl ?_|refine Fm ?_);exact hk_.out)):g:=hw ⟨h⟩
theorem pA (op a b n kind val index:Int) (nt nl:Nat) (pt pl:Option Addr) (ct cl:Nat) (ua ub un:Bool) (k:Int) (w:World)
  (hk:∀w',Ext w w'→Calls G.P 127 #[.int .i64 op] w' fun e w2=>e=.returned (.bool false)∧Ext w' w2) (ho:∀w',Ext w w'→Calls G.P 98 #[.int .i64 op] w' fun e w2=>e=.returned (.int .i64 k)∧Ext w' w2)
  (hu:∀w',Ext w w'→Calls G.P 126 #[.int .i64 k] w' fun e w2=>e=.returned (.tuple #[.bool ua,.bool ub,.bool un])∧Ext w' w2):
  Calls G.P 83 #[.agg #[Value.int .i64 op,Value.int .i64 a,Value.int .i64 b,Value.int .u64 n,Value.int .i64 kind,Value.int .i64 val,Value.int .i64 index,Value.slice pt nt ct,Value.slice pl nl cl]] w fun e w'=>e=.returned (.bool false)∧Ext w w':=by
 refine EF ?_
 repeat'(first|refine tk ?_|(refine br fun b_=>?_)|refine AS ?_|fail)
 all_goals exact bi
set_option maxHeartbeats 16000000 in
theorem oy (F:Nat→Prop) (op a b n kind val index t0:Int) (labels:List Int) (nt:Nat) (pt:Option Addr) (pl:Option Addr) (ct cl:Nat) (w:World) (hl:af F w (.slice pl labels.length cl) labels)
  (hk:∀w',Ext w w'→Calls G.P 127 #[.int .i64 op] w' fun e w2=>e=.returned (.bool true)∧Ext w' w2) (ho:∀w',Ext w w'→Calls G.P 98 #[.int .i64 op] w' fun e w2=>e=.returned (.int .i64 1)∧Ext w' w2)
  (hu:∀w',Ext w w'→Calls G.P 126 #[.int .i64 1] w' fun e w2=>e=.returned (.tuple #[.bool false,.bool false,.bool false])∧Ext w' w2):
  Calls G.P 83 #[.agg #[Value.int .i64 op,Value.int .i64 a,Value.int .i64 b,Value.int .u64 n,Value.int .i64 kind,Value.int .i64 val,Value.int .i64 index,Value.slice pt nt ct,Value.slice pl labels.length cl]] w fun e w'=>e=.returned (.bool (bn true false false false 1 a b n kind val index nt t0 labels))∧Ext w w':=by
 obtain⟨_,_,_,hll⟩:=hl.slice
 obtain⟨lal,hlal⟩:∃q,q=labels.all aI:=⟨_,rfl⟩
 refine EF ?_
 repeat'(first|refine tk ?_|(refine br fun b_=>?_)|refine AS ?_|refine Fp ?_|(refine aa.ak (f:=129) ?_;refine aa.az rfl rfl rfl (fun w' hw'=>q9 _ _ _ w') ?_)|(refine kP ?_ ?_<;>(intro hc_;try subst hc_)))
 all_goals first|(exfalso;omega)|exact ai.aA rfl rfl fun w' hw'=>⟨by clear hw' hl hk ho hu;first|(simp_all [bn];done)|(simp_all [bn]<;>(intros;omega)),hw'.at⟩|skip
theorem AR {g g':Prop} (h:g') (hw:dP g'→g:=by(intro hk_;(first|refine Fk ?_|refine AS ?_|refine Fp ?_);exact hk_.out)):g:=hw ⟨h⟩
set_option maxHeartbeats 16000000 in
theorem oz (F:Nat→Prop) (op a b n kind val index t0:Int) (labels:List Int) (nt:Nat) (pt:Option Addr) (pl:Option Addr) (ct cl:Nat) (w:World) (hl:af F w (.slice pl labels.length cl) labels)
  (hk:∀w',Ext w w'→Calls G.P 127 #[.int .i64 op] w' fun e w2=>e=.returned (.bool true)∧Ext w' w2) (ho:∀w',Ext w w'→Calls G.P 98 #[.int .i64 op] w' fun e w2=>e=.returned (.int .i64 3)∧Ext w' w2)
  (hu:∀w',Ext w w'→Calls G.P 126 #[.int .i64 3] w' fun e w2=>e=.returned (.tuple #[.bool true,.bool false,.bool false])∧Ext w' w2):
  Calls G.P 83 #[.agg #[Value.int .i64 op,Value.int .i64 a,Value.int .i64 b,Value.int .u64 n,Value.int .i64 kind,Value.int .i64 val,Value.int .i64 index,Value.slice pt nt ct,Value.slice pl labels.length cl]] w fun e w'=>e=.returned (.bool (bn true true false false 3 a b n kind val index nt t0 labels))∧Ext w w':=by
 obtain⟨_,_,_,hll⟩:=hl.slice
 obtain⟨lal,hlal⟩:∃q,q=labels.all aI:=⟨_,rfl⟩
 refine EF ?_
 repeat'(first|refine tk ?_|(refine br fun b_=>?_)|refine AR ?_|(refine kP ?_ ?_<;>(intro hc_;try subst hc_)))
 all_goals first|(exfalso;omega)|exact ai.aA rfl rfl fun w' hw'=>⟨by clear hw' hl hk ho hu;first|(simp_all [bn];done)|(simp_all [bn]<;>(intros;omega)),hw'.at⟩|skip
 all_goals
  refine EG ?_
  rintro j ⟨hj,hall⟩
  by_cases hjl:j<labels.length
  ·obtain⟨b7,o7,rfl,-,hc⟩:=hl.at hjl
   have hcj:=hc j hjl
   have hst:=gZ (f:=aI) hjl
   rw[hall,Bool.true_and]at hst
   cases hi:aI (ix labels j)with
   |true=>
    repeat'(first|refine ay ?_|(refine aa.ak (f:=128) ?_;refine aa.az (v:=.bool true) rfl rfl rfl (fun w' hw'=>by have:=bD (ix labels j) w';rw[hi]at this;exact this) ?_)|fail)
    all_goals exact lw
   |false=>
    have hsub:=jE (j:=j+1) (l:=labels) (f:=aI) (by rw[hst,hi])
    repeat'(first|refine ay ?_|(refine aa.ak (f:=128) ?_;refine aa.az (v:=.bool false) rfl rfl rfl (fun w' hw'=>by have:=bD (ix labels j) w';rw[hi]at this;exact this) ?_)|fail)
    all_goals exact mp
  ·obtain rfl:j=labels.length:=by omega
   rw[List.take_length]at hall
   refine dr ?_
   exact mp
set_option maxHeartbeats 16000000 in
theorem nm (F:Nat→Prop) (op a b n kind val index t0:Int) (labels:List Int) (bt ot:Nat) (pl:Option Addr) (ct cl:Nat) (w:World) (hcell:w.cell? ⟨bt,ot+0,none⟩=some (.int .i64 t0)) (hl:af F w (.slice pl labels.length cl) labels)
  (hk:∀w',Ext w w'→Calls G.P 127 #[.int .i64 op] w' fun e w2=>e=.returned (.bool true)∧Ext w' w2) (ho:∀w',Ext w w'→Calls G.P 98 #[.int .i64 op] w' fun e w2=>e=.returned (.int .i64 6)∧Ext w' w2)
  (hu:∀w',Ext w w'→Calls G.P 126 #[.int .i64 6] w' fun e w2=>e=.returned (.tuple #[.bool false,.bool false,.bool false])∧Ext w' w2):
  Calls G.P 83 #[.agg #[Value.int .i64 op,Value.int .i64 a,Value.int .i64 b,Value.int .u64 n,Value.int .i64 kind,Value.int .i64 val,Value.int .i64 index,Value.slice (some ⟨bt,ot,none⟩) 1 ct,Value.slice pl labels.length cl]] w fun e w'=>e=.returned (.bool (bn true false false false 6 a b n kind val index 1 t0 labels))∧Ext w w':=by
 obtain⟨_,_,_,hll⟩:=hl.slice
 obtain⟨lal,hlal⟩:∃q,q=labels.all aI:=⟨_,rfl⟩
 refine EF ?_
 repeat'(first|refine tk ?_|(refine aa.wU ?_;refine aa.dX ?_;refine aa.yg (by first|rfl|exact tu rfl dA) (Yl.fL (i:=0) rfl rfl rfl rfl rfl rfl FX) rfl ?_)|(refine br fun b_=>?_)|refine AR ?_|(refine aa.eR (f:=130) ?_;refine aa.dV wM rfl rfl rfl (fun w' hw'=>oC _ w') ?_)|(refine kP ?_ ?_<;>(intro hc_;try subst hc_)))
 all_goals first|(exfalso;omega)|exact ai.aA rfl rfl fun w' hw'=>⟨by clear hw' hl hk ho hu;first|(simp_all [bn];done)|(simp_all [bn]<;>(intros;omega)),hw'.at⟩|skip
set_option maxHeartbeats 16000000 in
theorem np (F:Nat→Prop) (op a b n kind val index t0:Int) (labels:List Int) (nt:Nat) (pt:Option Addr) (pl:Option Addr) (ct cl:Nat) (w:World) (h1:¬((nt:Int)=1)) (hl:af F w (.slice pl labels.length cl) labels)
  (hk:∀w',Ext w w'→Calls G.P 127 #[.int .i64 op] w' fun e w2=>e=.returned (.bool true)∧Ext w' w2) (ho:∀w',Ext w w'→Calls G.P 98 #[.int .i64 op] w' fun e w2=>e=.returned (.int .i64 6)∧Ext w' w2)
  (hu:∀w',Ext w w'→Calls G.P 126 #[.int .i64 6] w' fun e w2=>e=.returned (.tuple #[.bool false,.bool false,.bool false])∧Ext w' w2):
  Calls G.P 83 #[.agg #[Value.int .i64 op,Value.int .i64 a,Value.int .i64 b,Value.int .u64 n,Value.int .i64 kind,Value.int .i64 val,Value.int .i64 index,Value.slice pt nt ct,Value.slice pl labels.length cl]] w fun e w'=>e=.returned (.bool (bn true false false false 6 a b n kind val index nt t0 labels))∧Ext w w':=by
 obtain⟨_,_,_,hll⟩:=hl.slice
 obtain⟨lal,hlal⟩:∃q,q=labels.all aI:=⟨_,rfl⟩
 refine EF ?_
 repeat'(first|refine tk ?_|(refine br fun b_=>?_)|refine AR ?_|(refine kP ?_ ?_<;>(intro hc_;try subst hc_)))
 all_goals first|(exfalso;omega)|exact ai.aA rfl rfl fun w' hw'=>⟨by clear hw' hl hk ho hu;first|(simp_all [bn];done)|(simp_all [bn]<;>(intros;omega)),hw'.at⟩|skip
end Go.Proofs.YtceedealggognaaGreatDoor
