/- opcode.Plain. Printed by gen_go.py. -/
import Derived.Test.YtdkcljdfbemnbaaGreatDoorJGp
namespace Go.Proofs.YtdkcljdfbemnbaaGreatDoor
open Go.RowKit
set_option maxHeartbeats 16000000
open Value renaming int→Pf,slice→Pg
set_option maxRecDepth 100000
def bW (known ua ub un:Bool) (k a b n kind val index:Int) (nt:Nat) (t0:Int) (labels:List Int):Bool:=
 if known=false∨(ua=false∧a≠0)∨(ub=false∧b≠0)∨(un=false∧n≠0)∨br a=false∨br b=false then false else
 if(k≠19∧4294967296≤n)∨(k≠1∧¬(kind=0∧val=0∧index=0))∨(k≠6∧0<nt)∨(k≠3∧0<labels.length)then false else
 if k=1 then jr kind val index else if k=6 then decide (nt=1) && kj t0 else if k=17 then decide (a≤63)else if k=20 then decide (a=3) || decide (a=4)else labels.all br
attribute [local irreducible] br kj jr
theorem FN {g g':Prop} (h:g') (hw:eI g'→g:=by(intro hk_;(first|refine On ?_|refine Oh ?_|refine Oi ?_);exact hk_.out)):g:=hw ⟨h⟩
theorem vO (op a b n kind val index:Int) (nt nl:Nat) (pt pl:Option Addr) (ct cl:Nat) (ua ub un:Bool) (k:Int) (w:World)
  (hk:∀w',Ext w w'→Calls G.P 124 #[.int .i64 op] w' fun e w2=>e=.returned (.bool false)∧Ext w' w2) (ho:∀w',Ext w w'→Calls G.P 95 #[.int .i64 op] w' fun e w2=>e=.returned (.int .i64 k)∧Ext w' w2)
  (hu:∀w',Ext w w'→Calls G.P 123 #[.int .i64 k] w' fun e w2=>e=.returned (.tuple #[.bool ua,.bool ub,.bool un])∧Ext w' w2):
  Calls G.P 80 #[.agg #[Pf .i64 op,Pf .i64 a,Pf .i64 b,Pf .u64 n,Pf .i64 kind,Pf .i64 val,Pf .i64 index,Pg pt nt ct,Pg pl nl cl]] w fun e w'=>e=.returned (.bool false)∧Ext w w':=by
 refine Md ?_
 repeat'(first|refine mq ?_|(refine aE fun b_=>?_)|refine FN ?_|fail)
 all_goals exact ci
variable (F:Nat→Prop) (op a b n kind val index t0:Int) (labels:List Int) (nt:Nat) (pt:Option Addr) (pl:Option Addr)
theorem tR (ct cl:Nat) (w:World) (hl:ai F w (.slice pl labels.length cl) labels)
  (hk:∀w',Ext w w'→Calls G.P 124 #[.int .i64 op] w' fun e w2=>e=.returned (.bool true)∧Ext w' w2) (ho:∀w',Ext w w'→Calls G.P 95 #[.int .i64 op] w' fun e w2=>e=.returned (.int .i64 1)∧Ext w' w2)
  (hu:∀w',Ext w w'→Calls G.P 123 #[.int .i64 1] w' fun e w2=>e=.returned (.tuple #[.bool false,.bool false,.bool false])∧Ext w' w2):
  Calls G.P 80 #[.agg #[Pf .i64 op,Pf .i64 a,Pf .i64 b,Pf .u64 n,Pf .i64 kind,Pf .i64 val,Pf .i64 index,Pg pt nt ct,Pg pl labels.length cl]] w fun e w'=>e=.returned (.bool (bW true false false false 1 a b n kind val index nt t0 labels))∧Ext w w':=by
 obtain⟨_,_,_,hll⟩:=hl.slice
 obtain⟨lal,hlal⟩:∃q,q=labels.all br:=⟨_,rfl⟩
 refine Md ?_
 repeat'(first|refine mq ?_|(refine aE fun b_=>?_)|refine FN ?_|refine Oo ?_|(refine aa.aj (f:=126) ?_;refine aa.au rfl rfl rfl (fun w' hw'=>yr _ _ _ w') ?_)|(refine gL ?_ ?_<;>(intro hc_;try subst hc_)))
 all_goals first|(exfalso;omega)|exact ah.aF rfl rfl fun w' hw'=>⟨by clear hw' hl hk ho hu;first|(simp_all [bW];done)|(simp_all [bW]<;>(intros;omega)),hw'.at⟩|skip
theorem Ih {g g':Prop} (h:g') (hw:eI g'→g:=by(intro hk_;(first|refine N8 ?_|refine FN ?_|refine Oo ?_);exact hk_.out)):g:=hw ⟨h⟩
theorem tS (ct cl:Nat) (w:World) (hl:ai F w (.slice pl labels.length cl) labels)
  (hk:∀w',Ext w w'→Calls G.P 124 #[.int .i64 op] w' fun e w2=>e=.returned (.bool true)∧Ext w' w2) (ho:∀w',Ext w w'→Calls G.P 95 #[.int .i64 op] w' fun e w2=>e=.returned (.int .i64 3)∧Ext w' w2)
  (hu:∀w',Ext w w'→Calls G.P 123 #[.int .i64 3] w' fun e w2=>e=.returned (.tuple #[.bool true,.bool false,.bool false])∧Ext w' w2):
  Calls G.P 80 #[.agg #[Pf .i64 op,Pf .i64 a,Pf .i64 b,Pf .u64 n,Pf .i64 kind,Pf .i64 val,Pf .i64 index,Pg pt nt ct,Pg pl labels.length cl]] w fun e w'=>e=.returned (.bool (bW true true false false 3 a b n kind val index nt t0 labels))∧Ext w w':=by
 obtain⟨_,_,_,hll⟩:=hl.slice
 obtain⟨lal,hlal⟩:∃q,q=labels.all br:=⟨_,rfl⟩
 refine Md ?_
 repeat'(first|refine mq ?_|(refine aE fun b_=>?_)|refine Ih ?_|(refine gL ?_ ?_<;>(intro hc_;try subst hc_)))
 all_goals first|(exfalso;omega)|exact ah.aF rfl rfl fun w' hw'=>⟨by clear hw' hl hk ho hu;first|(simp_all [bW];done)|(simp_all [bW]<;>(intros;omega)),hw'.at⟩|skip
 all_goals
  refine Me ?_
  rintro j ⟨hj,hall⟩
  by_cases hjl:j<labels.length
  ·obtain⟨b7,o7,rfl,-,hc⟩:=hl.at hjl
   have hcj:=hc j hjl
   have hst:=kp (f:=br) hjl
   rw[hall,Bool.true_and]at hst
   cases hi:br (ix labels j)with
   |true=>
    repeat'(first|refine ar ?_|(refine aa.aj (f:=125) ?_;refine aa.au (v:=.bool true) rfl rfl rfl (fun w' hw'=>by have:=cD (ix labels j) w';rw[hi]at this;exact this) ?_)|fail)
    all_goals exact dl
   |false=>
    have hsub:=lN (j:=j+1) (l:=labels) (f:=br) O6
    repeat'(first|refine ar ?_|(refine aa.aj (f:=125) ?_;refine aa.au (v:=.bool false) rfl rfl rfl (fun w' hw'=>by have:=cD (ix labels j) w';rw[hi]at this;exact this) ?_)|fail)
    all_goals exact f8
  ·obtain rfl:j=labels.length:=by omega
   rw[List.take_length]at hall
   refine cq ?_
   exact f8
theorem sJ (bt ot:Nat) (pl:Option Addr) (ct cl:Nat) (w:World) (hcell:w.cell? ⟨bt,ot+0,none⟩=some (.int .i64 t0)) (hl:ai F w (.slice pl labels.length cl) labels)
  (hk:∀w',Ext w w'→Calls G.P 124 #[.int .i64 op] w' fun e w2=>e=.returned (.bool true)∧Ext w' w2) (ho:∀w',Ext w w'→Calls G.P 95 #[.int .i64 op] w' fun e w2=>e=.returned (.int .i64 6)∧Ext w' w2)
  (hu:∀w',Ext w w'→Calls G.P 123 #[.int .i64 6] w' fun e w2=>e=.returned (.tuple #[.bool false,.bool false,.bool false])∧Ext w' w2):
  Calls G.P 80 #[.agg #[Pf .i64 op,Pf .i64 a,Pf .i64 b,Pf .u64 n,Pf .i64 kind,Pf .i64 val,Pf .i64 index,Pg (some ⟨bt,ot,none⟩) 1 ct,Pg pl labels.length cl]] w fun e w'=>e=.returned (.bool (bW true false false false 6 a b n kind val index 1 t0 labels))∧Ext w w':=by
 obtain⟨_,_,_,hll⟩:=hl.slice
 obtain⟨lal,hlal⟩:∃q,q=labels.all br:=⟨_,rfl⟩
 refine Md ?_
 repeat'(first|refine mq ?_|(refine aa.CC ?_;refine aa.eM ?_;refine aa.yg (by first|rfl|exact vD rfl eW) (Yl.gn (i:=0) rfl rfl rfl rfl rfl rfl Pb) rfl ?_)|(refine aE fun b_=>?_)|refine Ih ?_|(refine aa.cQ (f:=127) ?_;refine aa.cH pF rfl rfl rfl (fun w' hw'=>tV _ w') ?_)|(refine gL ?_ ?_<;>(intro hc_;try subst hc_)))
 all_goals first|(exfalso;omega)|exact ah.aF rfl rfl fun w' hw'=>⟨by clear hw' hl hk ho hu;first|(simp_all [bW];done)|(simp_all [bW]<;>(intros;omega)),hw'.at⟩|skip
theorem sK (ct cl:Nat) (w:World) (h1:¬((nt:Int)=1)) (hl:ai F w (.slice pl labels.length cl) labels)
  (hk:∀w',Ext w w'→Calls G.P 124 #[.int .i64 op] w' fun e w2=>e=.returned (.bool true)∧Ext w' w2) (ho:∀w',Ext w w'→Calls G.P 95 #[.int .i64 op] w' fun e w2=>e=.returned (.int .i64 6)∧Ext w' w2)
  (hu:∀w',Ext w w'→Calls G.P 123 #[.int .i64 6] w' fun e w2=>e=.returned (.tuple #[.bool false,.bool false,.bool false])∧Ext w' w2):
  Calls G.P 80 #[.agg #[Pf .i64 op,Pf .i64 a,Pf .i64 b,Pf .u64 n,Pf .i64 kind,Pf .i64 val,Pf .i64 index,Pg pt nt ct,Pg pl labels.length cl]] w fun e w'=>e=.returned (.bool (bW true false false false 6 a b n kind val index nt t0 labels))∧Ext w w':=by
 obtain⟨_,_,_,hll⟩:=hl.slice
 obtain⟨lal,hlal⟩:∃q,q=labels.all br:=⟨_,rfl⟩
 refine Md ?_
 repeat'(first|refine mq ?_|(refine aE fun b_=>?_)|refine Ih ?_|(refine gL ?_ ?_<;>(intro hc_;try subst hc_)))
 all_goals first|(exfalso;omega)|exact ah.aF rfl rfl fun w' hw'=>⟨by clear hw' hl hk ho hu;first|(simp_all [bW];done)|(simp_all [bW]<;>(intros;omega)),hw'.at⟩|skip
end Go.Proofs.YtdkcljdfbemnbaaGreatDoor
