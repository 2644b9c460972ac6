/- opcode.Plain. Printed by gen_go.py. -/
import Derived.Test.YtceedealggognaaGreatDoorJSe
namespace Go.Proofs.YtceedealggognaaGreatDoor
open Go.RowKit
set_option maxRecDepth 100000
def bh (known ua ub un:Bool) (k a b n kind val index:Int) (nt:Nat) (t0:Int) (labels:List Int):Bool:=
 if known=false∨(ua=false∧a≠0)∨(ub=false∧b≠0)∨(un=false∧n≠0)∨aL a=false∨aL b=false then false else
 if(k≠19∧4294967296≤n)∨(k≠1∧¬(kind=0∧val=0∧index=0))∨(k≠6∧0<nt)∨(k≠3∧0<labels.length)then false else
 if k=1 then jn kind val index else if k=6 then decide (nt=1) && kC t0 else if k=17 then decide (a≤63)else if k=20 then decide (a=3) || decide (a=4)else labels.all aL
attribute [local irreducible] aL kC jn
theorem BX {g g':Prop} (h:g') (hw:ek g'→g:=by(intro hk_;(first|refine GB ?_|refine Gz ?_|refine GA ?_);exact hk_.out)):g:=hw ⟨h⟩
theorem qj (op a b n kind val index:Int) (nt nl:Nat) (pt pl:Option Addr) (ct cl:Nat) (ua ub un:Bool) (k:Int) (w:World)
  (hk:∀w',Ext w w'→Calls G.P 127 #[.int .i64 op] w' fun e w2=>e=.returned (.bool false)∧Ext w' w2) (ho:∀w',Ext w w'→Calls G.P 98 #[.int .i64 op] w' fun e w2=>e=.returned (.int .i64 k)∧Ext w' w2)
  (hu:∀w',Ext w w'→Calls G.P 126 #[.int .i64 k] w' fun e w2=>e=.returned (.tuple #[.bool ua,.bool ub,.bool un])∧Ext w' w2):
  Calls G.P 83 #[.agg #[Value.int .i64 op,Value.int .i64 a,Value.int .i64 b,Value.int .u64 n,Value.int .i64 kind,Value.int .i64 val,Value.int .i64 index,Value.slice pt nt ct,Value.slice pl nl cl]] w fun e w'=>e=.returned (.bool false)∧Ext w w':=by
 refine t6 ?_
 repeat'(first|refine uk ?_|(refine bz fun b_=>?_)|refine BX ?_|fail)
 all_goals exact ap
set_option maxHeartbeats 16000000 in
theorem oZ (F:Nat→Prop) (op a b n kind val index t0:Int) (labels:List Int) (nt:Nat) (pt:Option Addr) (pl:Option Addr) (ct cl:Nat) (w:World) (hl:af F w (.slice pl labels.length cl) labels)
  (hk:∀w',Ext w w'→Calls G.P 127 #[.int .i64 op] w' fun e w2=>e=.returned (.bool true)∧Ext w' w2) (ho:∀w',Ext w w'→Calls G.P 98 #[.int .i64 op] w' fun e w2=>e=.returned (.int .i64 1)∧Ext w' w2)
  (hu:∀w',Ext w w'→Calls G.P 126 #[.int .i64 1] w' fun e w2=>e=.returned (.tuple #[.bool false,.bool false,.bool false])∧Ext w' w2):
  Calls G.P 83 #[.agg #[Value.int .i64 op,Value.int .i64 a,Value.int .i64 b,Value.int .u64 n,Value.int .i64 kind,Value.int .i64 val,Value.int .i64 index,Value.slice pt nt ct,Value.slice pl labels.length cl]] w fun e w'=>e=.returned (.bool (bh true false false false 1 a b n kind val index nt t0 labels))∧Ext w w':=by
 obtain⟨_,_,_,hll⟩:=hl.slice
 obtain⟨lal,hlal⟩:∃q,q=labels.all aL:=⟨_,rfl⟩
 refine t6 ?_
 repeat'(first|refine uk ?_|(refine bz fun b_=>?_)|refine BX ?_|refine GC ?_|(refine aa.ak (f:=129) ?_;refine aa.az rfl rfl rfl (fun w' hw'=>si _ _ _ w') ?_)|(refine lC ?_ ?_<;>(intro hc_;try subst hc_)))
 all_goals first|(exfalso;omega)|exact ai.aA rfl rfl fun w' hw'=>⟨by clear hw' hl hk ho hu;first|(simp_all [bh];done)|(simp_all [bh]<;>(intros;omega)),hw'.at⟩|skip
theorem BW {g g':Prop} (h:g') (hw:ek g'→g:=by(intro hk_;(first|refine Gx ?_|refine BX ?_|refine GC ?_);exact hk_.out)):g:=hw ⟨h⟩
set_option maxHeartbeats 16000000 in
theorem o0 (F:Nat→Prop) (op a b n kind val index t0:Int) (labels:List Int) (nt:Nat) (pt:Option Addr) (pl:Option Addr) (ct cl:Nat) (w:World) (hl:af F w (.slice pl labels.length cl) labels)
  (hk:∀w',Ext w w'→Calls G.P 127 #[.int .i64 op] w' fun e w2=>e=.returned (.bool true)∧Ext w' w2) (ho:∀w',Ext w w'→Calls G.P 98 #[.int .i64 op] w' fun e w2=>e=.returned (.int .i64 3)∧Ext w' w2)
  (hu:∀w',Ext w w'→Calls G.P 126 #[.int .i64 3] w' fun e w2=>e=.returned (.tuple #[.bool true,.bool false,.bool false])∧Ext w' w2):
  Calls G.P 83 #[.agg #[Value.int .i64 op,Value.int .i64 a,Value.int .i64 b,Value.int .u64 n,Value.int .i64 kind,Value.int .i64 val,Value.int .i64 index,Value.slice pt nt ct,Value.slice pl labels.length cl]] w fun e w'=>e=.returned (.bool (bh true true false false 3 a b n kind val index nt t0 labels))∧Ext w w':=by
 obtain⟨_,_,_,hll⟩:=hl.slice
 obtain⟨lal,hlal⟩:∃q,q=labels.all aL:=⟨_,rfl⟩
 refine t6 ?_
 repeat'(first|refine uk ?_|(refine bz fun b_=>?_)|refine BW ?_|(refine lC ?_ ?_<;>(intro hc_;try subst hc_)))
 all_goals first|(exfalso;omega)|exact ai.aA rfl rfl fun w' hw'=>⟨by clear hw' hl hk ho hu;first|(simp_all [bh];done)|(simp_all [bh]<;>(intros;omega)),hw'.at⟩|skip
 all_goals
  refine t7 ?_
  rintro j ⟨hj,hall⟩
  by_cases hjl:j<labels.length
  ·obtain⟨b7,o7,rfl,-,hc⟩:=hl.at hjl
   have hcj:=hc j hjl
   have hst:=ie (f:=aL) hjl
   rw[hall,Bool.true_and]at hst
   cases hi:aL (ix labels j)with
   |true=>
    repeat'(first|refine ax ?_|(refine aa.ak (f:=128) ?_;refine aa.az (v:=.bool true) rfl rfl rfl (fun w' hw'=>by have:=bE (ix labels j) w';rw[hi]at this;exact this) ?_)|fail)
    all_goals exact bi
   |false=>
    have hsub:=jQ (j:=j+1) (l:=labels) (f:=aL) (by rw[hst,hi])
    repeat'(first|refine ax ?_|(refine aa.ak (f:=128) ?_;refine aa.az (v:=.bool false) rfl rfl rfl (fun w' hw'=>by have:=bE (ix labels j) w';rw[hi]at this;exact this) ?_)|fail)
    all_goals exact ci
  ·obtain rfl:j=labels.length:=by omega
   rw[List.take_length]at hall
   refine dy ?_
   exact ci
set_option maxHeartbeats 16000000 in
theorem nY (F:Nat→Prop) (op a b n kind val index t0:Int) (labels:List Int) (bt ot:Nat) (pl:Option Addr) (ct cl:Nat) (w:World) (hcell:w.cell? ⟨bt,ot+0,none⟩=some (.int .i64 t0)) (hl:af F w (.slice pl labels.length cl) labels)
  (hk:∀w',Ext w w'→Calls G.P 127 #[.int .i64 op] w' fun e w2=>e=.returned (.bool true)∧Ext w' w2) (ho:∀w',Ext w w'→Calls G.P 98 #[.int .i64 op] w' fun e w2=>e=.returned (.int .i64 6)∧Ext w' w2)
  (hu:∀w',Ext w w'→Calls G.P 126 #[.int .i64 6] w' fun e w2=>e=.returned (.tuple #[.bool false,.bool false,.bool false])∧Ext w' w2):
  Calls G.P 83 #[.agg #[Value.int .i64 op,Value.int .i64 a,Value.int .i64 b,Value.int .u64 n,Value.int .i64 kind,Value.int .i64 val,Value.int .i64 index,Value.slice (some ⟨bt,ot,none⟩) 1 ct,Value.slice pl labels.length cl]] w fun e w'=>e=.returned (.bool (bh true false false false 6 a b n kind val index 1 t0 labels))∧Ext w w':=by
 obtain⟨_,_,_,hll⟩:=hl.slice
 obtain⟨lal,hlal⟩:∃q,q=labels.all aL:=⟨_,rfl⟩
 refine t6 ?_
 repeat'(first|refine uk ?_|(refine aa.wY ?_;refine aa.dK ?_;refine aa.yg (by first|rfl|exact ux rfl dG) (Yl.fX (i:=0) rfl rfl rfl rfl rfl rfl Ha) rfl ?_)|(refine bz fun b_=>?_)|refine BW ?_|(refine aa.fh (f:=130) ?_;refine aa.dV xN rfl rfl rfl (fun w' hw'=>pf _ w') ?_)|(refine lC ?_ ?_<;>(intro hc_;try subst hc_)))
 all_goals first|(exfalso;omega)|exact ai.aA rfl rfl fun w' hw'=>⟨by clear hw' hl hk ho hu;first|(simp_all [bh];done)|(simp_all [bh]<;>(intros;omega)),hw'.at⟩|skip
set_option maxHeartbeats 16000000 in
theorem nZ (F:Nat→Prop) (op a b n kind val index t0:Int) (labels:List Int) (nt:Nat) (pt:Option Addr) (pl:Option Addr) (ct cl:Nat) (w:World) (h1:¬((nt:Int)=1)) (hl:af F w (.slice pl labels.length cl) labels)
  (hk:∀w',Ext w w'→Calls G.P 127 #[.int .i64 op] w' fun e w2=>e=.returned (.bool true)∧Ext w' w2) (ho:∀w',Ext w w'→Calls G.P 98 #[.int .i64 op] w' fun e w2=>e=.returned (.int .i64 6)∧Ext w' w2)
  (hu:∀w',Ext w w'→Calls G.P 126 #[.int .i64 6] w' fun e w2=>e=.returned (.tuple #[.bool false,.bool false,.bool false])∧Ext w' w2):
  Calls G.P 83 #[.agg #[Value.int .i64 op,Value.int .i64 a,Value.int .i64 b,Value.int .u64 n,Value.int .i64 kind,Value.int .i64 val,Value.int .i64 index,Value.slice pt nt ct,Value.slice pl labels.length cl]] w fun e w'=>e=.returned (.bool (bh true false false false 6 a b n kind val index nt t0 labels))∧Ext w w':=by
 obtain⟨_,_,_,hll⟩:=hl.slice
 obtain⟨lal,hlal⟩:∃q,q=labels.all aL:=⟨_,rfl⟩
 refine t6 ?_
 repeat'(first|refine uk ?_|(refine bz fun b_=>?_)|refine BW ?_|(refine lC ?_ ?_<;>(intro hc_;try subst hc_)))
 all_goals first|(exfalso;omega)|exact ai.aA rfl rfl fun w' hw'=>⟨by clear hw' hl hk ho hu;first|(simp_all [bh];done)|(simp_all [bh]<;>(intros;omega)),hw'.at⟩|skip
end Go.Proofs.YtceedealggognaaGreatDoor
