/- opcode.Plain: more kinds of immediates. Printed by gen_go.py. -/
import Derived.Test.YtdkcljdfbemnbaaGreatDoorJGo
namespace Go.Proofs.YtdkcljdfbemnbaaGreatDoor
open Go.RowKit
set_option maxHeartbeats 16000000
open Value renaming int→Pf,slice→Pg
set_option maxRecDepth 100000
attribute [local irreducible] br kj jr
theorem CJ {g g':Prop} (h:g') (hw:eI g'→g:=by(intro hk_;(first|refine N8 ?_|refine On ?_|refine Oh ?_|refine Oi ?_|refine Oo ?_);exact hk_.out)):g:=hw ⟨h⟩
variable (F:Nat→Prop) (op a b n kind val index t0:Int) (labels:List Int) (nt:Nat) (pt:Option Addr) (pl:Option Addr)
theorem sF (ct cl:Nat) (w:World) (hl:ai F w (.slice pl labels.length cl) labels)
  (hk:∀w',Ext w w'→Calls G.P 124 #[.int .i64 op] w' fun e w2=>e=.returned (.bool true)∧Ext w' w2) (ho:∀w',Ext w w'→Calls G.P 95 #[.int .i64 op] w' fun e w2=>e=.returned (.int .i64 17)∧Ext w' w2)
  (hu:∀w',Ext w w'→Calls G.P 123 #[.int .i64 17] w' fun e w2=>e=.returned (.tuple #[.bool true,.bool true,.bool true])∧Ext w' w2):
  Calls G.P 80 #[.agg #[Pf .i64 op,Pf .i64 a,Pf .i64 b,Pf .u64 n,Pf .i64 kind,Pf .i64 val,Pf .i64 index,Pg pt nt ct,Pg pl labels.length cl]] w fun e w'=>e=.returned (.bool (bW true true true true 17 a b n kind val index nt t0 labels))∧Ext w w':=by
 obtain⟨_,_,_,hll⟩:=hl.slice
 obtain⟨lal,hlal⟩:∃q,q=labels.all br:=⟨_,rfl⟩
 refine Md ?_
 repeat'(first|refine mq ?_|(refine aE fun b_=>?_)|refine CJ ?_|(refine gL ?_ ?_<;>(intro hc_;try subst hc_)))
 all_goals first|(exfalso;omega)|exact ah.aF rfl rfl fun w' hw'=>⟨by clear hw' hl hk ho hu;first|(simp_all [bW];done)|(simp_all [bW]<;>(intros;omega)),hw'.at⟩|skip
theorem sH (ct cl:Nat) (w:World) (hl:ai F w (.slice pl labels.length cl) labels)
  (hk:∀w',Ext w w'→Calls G.P 124 #[.int .i64 op] w' fun e w2=>e=.returned (.bool true)∧Ext w' w2) (ho:∀w',Ext w w'→Calls G.P 95 #[.int .i64 op] w' fun e w2=>e=.returned (.int .i64 19)∧Ext w' w2)
  (hu:∀w',Ext w w'→Calls G.P 123 #[.int .i64 19] w' fun e w2=>e=.returned (.tuple #[.bool false,.bool false,.bool true])∧Ext w' w2):
  Calls G.P 80 #[.agg #[Pf .i64 op,Pf .i64 a,Pf .i64 b,Pf .u64 n,Pf .i64 kind,Pf .i64 val,Pf .i64 index,Pg pt nt ct,Pg pl labels.length cl]] w fun e w'=>e=.returned (.bool (bW true false false true 19 a b n kind val index nt t0 labels))∧Ext w w':=by
 obtain⟨_,_,_,hll⟩:=hl.slice
 obtain⟨lal,hlal⟩:∃q,q=labels.all br:=⟨_,rfl⟩
 refine Md ?_
 repeat'(first|refine mq ?_|(refine aE fun b_=>?_)|refine CJ ?_|(refine gL ?_ ?_<;>(intro hc_;try subst hc_)))
 all_goals first|(exfalso;omega)|exact ah.aF rfl rfl fun w' hw'=>⟨by clear hw' hl hk ho hu;first|(simp_all [bW];done)|(simp_all [bW]<;>(intros;omega)),hw'.at⟩|skip
 all_goals
  refine Me ?_
  rintro j ⟨hj,hall⟩
  by_cases hjl:j<labels.length
  ·obtain⟨b7,o7,rfl,-,hc⟩:=hl.at hjl
   have hcj:=hc j hjl
   have hst:=kp (f:=br) hjl
   rw[hall,Bool.true_and]at hst
   cases hi:br (ix labels j)with
   |true=>
    repeat'(first|refine ar ?_|(refine aa.aj (f:=125) ?_;refine aa.au (v:=.bool true) rfl rfl rfl (fun w' hw'=>by have:=cD (ix labels j) w';rw[hi]at this;exact this) ?_)|fail)
    all_goals exact dl
   |false=>
    have hsub:=lN (j:=j+1) (l:=labels) (f:=br) O6
    repeat'(first|refine ar ?_|(refine aa.aj (f:=125) ?_;refine aa.au (v:=.bool false) rfl rfl rfl (fun w' hw'=>by have:=cD (ix labels j) w';rw[hi]at this;exact this) ?_)|fail)
    all_goals exact f8
  ·obtain rfl:j=labels.length:=by omega
   rw[List.take_length]at hall
   refine cq ?_
   exact f8
theorem sI (ct cl:Nat) (w:World) (hl:ai F w (.slice pl labels.length cl) labels)
  (hk:∀w',Ext w w'→Calls G.P 124 #[.int .i64 op] w' fun e w2=>e=.returned (.bool true)∧Ext w' w2) (ho:∀w',Ext w w'→Calls G.P 95 #[.int .i64 op] w' fun e w2=>e=.returned (.int .i64 20)∧Ext w' w2)
  (hu:∀w',Ext w w'→Calls G.P 123 #[.int .i64 20] w' fun e w2=>e=.returned (.tuple #[.bool true,.bool false,.bool false])∧Ext w' w2):
  Calls G.P 80 #[.agg #[Pf .i64 op,Pf .i64 a,Pf .i64 b,Pf .u64 n,Pf .i64 kind,Pf .i64 val,Pf .i64 index,Pg pt nt ct,Pg pl labels.length cl]] w fun e w'=>e=.returned (.bool (bW true true false false 20 a b n kind val index nt t0 labels))∧Ext w w':=by
 obtain⟨_,_,_,hll⟩:=hl.slice
 obtain⟨lal,hlal⟩:∃q,q=labels.all br:=⟨_,rfl⟩
 refine Md ?_
 repeat'(first|refine mq ?_|(refine aE fun b_=>?_)|refine CJ ?_|(refine gL ?_ ?_<;>(intro hc_;try subst hc_)))
 all_goals first|(exfalso;omega)|exact ah.aF rfl rfl fun w' hw'=>⟨by clear hw' hl hk ho hu;first|(simp_all [bW];done)|(simp_all [bW]<;>(intros;omega)),hw'.at⟩|skip
theorem sG (ct cl:Nat) (w:World) (hl:ai F w (.slice pl labels.length cl) labels)
  (hk:∀w',Ext w w'→Calls G.P 124 #[.int .i64 op] w' fun e w2=>e=.returned (.bool true)∧Ext w' w2) (ho:∀w',Ext w w'→Calls G.P 95 #[.int .i64 op] w' fun e w2=>e=.returned (.int .i64 18)∧Ext w' w2)
  (hu:∀w',Ext w w'→Calls G.P 123 #[.int .i64 18] w' fun e w2=>e=.returned (.tuple #[.bool false,.bool false,.bool true])∧Ext w' w2):
  Calls G.P 80 #[.agg #[Pf .i64 op,Pf .i64 a,Pf .i64 b,Pf .u64 n,Pf .i64 kind,Pf .i64 val,Pf .i64 index,Pg pt nt ct,Pg pl labels.length cl]] w fun e w'=>e=.returned (.bool (bW true false false true 18 a b n kind val index nt t0 labels))∧Ext w w':=by
 obtain⟨_,_,_,hll⟩:=hl.slice
 obtain⟨lal,hlal⟩:∃q,q=labels.all br:=⟨_,rfl⟩
 refine Md ?_
 repeat'(first|refine mq ?_|(refine aE fun b_=>?_)|refine CJ ?_|(refine gL ?_ ?_<;>(intro hc_;try subst hc_)))
 all_goals first|(exfalso;omega)|exact ah.aF rfl rfl fun w' hw'=>⟨by clear hw' hl hk ho hu;first|(simp_all [bW];done)|(simp_all [bW]<;>(intros;omega)),hw'.at⟩|skip
 all_goals
  refine Me ?_
  rintro j ⟨hj,hall⟩
  by_cases hjl:j<labels.length
  ·obtain⟨b7,o7,rfl,-,hc⟩:=hl.at hjl
   have hcj:=hc j hjl
   have hst:=kp (f:=br) hjl
   rw[hall,Bool.true_and]at hst
   cases hi:br (ix labels j)with
   |true=>
    repeat'(first|refine ar ?_|(refine aa.aj (f:=125) ?_;refine aa.au (v:=.bool true) rfl rfl rfl (fun w' hw'=>by have:=cD (ix labels j) w';rw[hi]at this;exact this) ?_)|fail)
    all_goals exact dl
   |false=>
    have hsub:=lN (j:=j+1) (l:=labels) (f:=br) O6
    repeat'(first|refine ar ?_|(refine aa.aj (f:=125) ?_;refine aa.au (v:=.bool false) rfl rfl rfl (fun w' hw'=>by have:=cD (ix labels j) w';rw[hi]at this;exact this) ?_)|fail)
    all_goals exact f8
  ·obtain rfl:j=labels.length:=by omega
   rw[List.take_length]at hall
   refine cq ?_
   exact f8
end Go.Proofs.YtdkcljdfbemnbaaGreatDoor
