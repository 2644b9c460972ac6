import Derived.Test.YtdkcljdfbemnbaaGreatDoorJGp
namespace Go.Proofs.YtdkcljdfbemnbaaGreatDoor
section
open Go.RowKit
set_option maxHeartbeats 16000000
open Value renaming int→Pm,slice→Pn
set_option maxRecDepth 100000
def bW (known ua ub un:Bool) (k a b n kind val index:Int) (nt:Nat) (t0:Int) (labels:List Int):Bool:=
 if known=false∨(ua=false∧a≠0)∨(ub=false∧b≠0)∨(un=false∧n≠0)∨br a=false∨br b=false then false else
 if(k≠19∧4294967296≤n)∨(k≠1∧¬(kind=0∧val=0∧index=0))∨(k≠6∧0<nt)∨(k≠3∧0<labels.length)then false else
 if k=1 then jq kind val index else if k=6 then decide (nt=1) && ki t0 else if k=17 then decide (a≤63)else if k=20 then decide (a=3) || decide (a=4)else labels.all br
attribute [local irreducible] br ki jq
theorem FT {g g':Prop} (h:g') (hw:eA g'→g:=by(intro hk_;(first|refine Ow ?_|refine Oo ?_|refine Oq ?_);exact hk_.out)):g:=hw ⟨h⟩
theorem vT (op a b n kind val index:Int) (nt nl:Nat) (pt pl:Option Addr) (ct cl:Nat) (ua ub un:Bool) (k:Int) (w:World)
  (hk:∀w',Ext w w'→Calls G.P 124 #[.int .i64 op] w' fun e w2=>e=.returned (.bool false)∧Ext w' w2) (ho:∀w',Ext w w'→Calls G.P 95 #[.int .i64 op] w' fun e w2=>e=.returned (.int .i64 k)∧Ext w' w2)
  (hu:∀w',Ext w w'→Calls G.P 123 #[.int .i64 k] w' fun e w2=>e=.returned (.tuple #[.bool ua,.bool ub,.bool un])∧Ext w' w2):
  Calls G.P 80 #[.agg #[Pm .i64 op,Pm .i64 a,Pm .i64 b,Pm .u64 n,Pm .i64 kind,Pm .i64 val,Pm .i64 index,Pn pt nt ct,Pn pl nl cl]] w fun e w'=>e=.returned (.bool false)∧Ext w w':=by
 refine Mn ?_
 repeat'(first|refine mu ?_|(refine aF fun b_=>?_)|refine FT ?_|fail)
 all_goals exact gt
variable (F:Nat→Prop)
theorem tW (op a b n kind val index t0:Int) (labels:List Int) (nt:Nat) (pt:Option Addr) (pl:Option Addr) (ct cl:Nat) (w:World) (hl:ai F w (.slice pl labels.length cl) labels)
  (hk:∀w',Ext w w'→Calls G.P 124 #[.int .i64 op] w' fun e w2=>e=.returned (.bool true)∧Ext w' w2) (ho:∀w',Ext w w'→Calls G.P 95 #[.int .i64 op] w' fun e w2=>e=.returned (.int .i64 1)∧Ext w' w2)
  (hu:∀w',Ext w w'→Calls G.P 123 #[.int .i64 1] w' fun e w2=>e=.returned (.tuple #[.bool false,.bool false,.bool false])∧Ext w' w2):
  Calls G.P 80 #[.agg #[Pm .i64 op,Pm .i64 a,Pm .i64 b,Pm .u64 n,Pm .i64 kind,Pm .i64 val,Pm .i64 index,Pn pt nt ct,Pn pl labels.length cl]] w fun e w'=>e=.returned (.bool (bW true false false false 1 a b n kind val index nt t0 labels))∧Ext w w':=by
 obtain⟨_,_,_,hll⟩:=hl.slice
 obtain⟨lal,hlal⟩:∃q,q=labels.all br:=⟨_,rfl⟩
 refine Mn ?_
 repeat'(first|refine mu ?_|(refine aF fun b_=>?_)|refine FT ?_|refine Ox ?_|(refine aa.aj (f:=126) ?_;refine aa.av rfl rfl rfl (fun w' hw'=>yx _ _ _ w') ?_)|(refine gP ?_ ?_<;>(intro hc_;try subst hc_)))
 all_goals first|(exfalso;omega)|exact ah.aG rfl rfl fun w' hw'=>⟨by clear hw' hl hk ho hu;first|(simp_all [bW];done)|(simp_all [bW]<;>(intros;omega)),hw'.at⟩|skip
theorem FR {g g':Prop} (h:g') (hw:eA g'→g:=by(intro hk_;(first|refine Od ?_|refine FT ?_|refine Ox ?_);exact hk_.out)):g:=hw ⟨h⟩
theorem tX (op a b n kind val index t0:Int) (labels:List Int) (nt:Nat) (pt:Option Addr) (pl:Option Addr) (ct cl:Nat) (w:World) (hl:ai F w (.slice pl labels.length cl) labels)
  (hk:∀w',Ext w w'→Calls G.P 124 #[.int .i64 op] w' fun e w2=>e=.returned (.bool true)∧Ext w' w2) (ho:∀w',Ext w w'→Calls G.P 95 #[.int .i64 op] w' fun e w2=>e=.returned (.int .i64 3)∧Ext w' w2)
  (hu:∀w',Ext w w'→Calls G.P 123 #[.int .i64 3] w' fun e w2=>e=.returned (.tuple #[.bool true,.bool false,.bool false])∧Ext w' w2):
  Calls G.P 80 #[.agg #[Pm .i64 op,Pm .i64 a,Pm .i64 b,Pm .u64 n,Pm .i64 kind,Pm .i64 val,Pm .i64 index,Pn pt nt ct,Pn pl labels.length cl]] w fun e w'=>e=.returned (.bool (bW true true false false 3 a b n kind val index nt t0 labels))∧Ext w w':=by
 obtain⟨_,_,_,hll⟩:=hl.slice
 obtain⟨lal,hlal⟩:∃q,q=labels.all br:=⟨_,rfl⟩
 refine Mn ?_
 repeat'(first|refine mu ?_|(refine aF fun b_=>?_)|refine FR ?_|(refine gP ?_ ?_<;>(intro hc_;try subst hc_)))
 all_goals first|(exfalso;omega)|exact ah.aG rfl rfl fun w' hw'=>⟨by clear hw' hl hk ho hu;first|(simp_all [bW];done)|(simp_all [bW]<;>(intros;omega)),hw'.at⟩|skip
 all_goals
  refine Mp ?_
  rintro j ⟨hj,hall⟩
  by_cases hjl:j<labels.length
  ·obtain⟨b7,o7,rfl,-,hc⟩:=hl.at hjl
   have hcj:=hc j hjl
   have hst:=ko (f:=br) hjl
   rw[hall,Bool.true_and]at hst
   cases hi:br (ix labels j)with
   |true=>
    repeat'(first|refine ar ?_|(refine aa.aj (f:=125) ?_;refine aa.av (v:=.bool true) rfl rfl rfl (fun w' hw'=>by have:=cE (ix labels j) w';rw[hi]at this;exact this) ?_)|fail)
    all_goals exact ii
   |false=>
    have hsub:=lN (j:=j+1) (l:=labels) (f:=br) Pd
    repeat'(first|refine ar ?_|(refine aa.aj (f:=125) ?_;refine aa.av (v:=.bool false) rfl rfl rfl (fun w' hw'=>by have:=cE (ix labels j) w';rw[hi]at this;exact this) ?_)|fail)
    all_goals exact ip
  ·obtain rfl:j=labels.length:=by omega
   rw[List.take_length]at hall
   refine cq ?_
   exact ip
theorem sM (op a b n kind val index t0:Int) (labels:List Int) (bt ot:Nat) (pl:Option Addr) (ct cl:Nat) (w:World) (hcell:w.cell? ⟨bt,ot+0,none⟩=some (.int .i64 t0)) (hl:ai F w (.slice pl labels.length cl) labels)
  (hk:∀w',Ext w w'→Calls G.P 124 #[.int .i64 op] w' fun e w2=>e=.returned (.bool true)∧Ext w' w2) (ho:∀w',Ext w w'→Calls G.P 95 #[.int .i64 op] w' fun e w2=>e=.returned (.int .i64 6)∧Ext w' w2)
  (hu:∀w',Ext w w'→Calls G.P 123 #[.int .i64 6] w' fun e w2=>e=.returned (.tuple #[.bool false,.bool false,.bool false])∧Ext w' w2):
  Calls G.P 80 #[.agg #[Pm .i64 op,Pm .i64 a,Pm .i64 b,Pm .u64 n,Pm .i64 kind,Pm .i64 val,Pm .i64 index,Pn (some ⟨bt,ot,none⟩) 1 ct,Pn pl labels.length cl]] w fun e w'=>e=.returned (.bool (bW true false false false 6 a b n kind val index 1 t0 labels))∧Ext w w':=by
 obtain⟨_,_,_,hll⟩:=hl.slice
 obtain⟨lal,hlal⟩:∃q,q=labels.all br:=⟨_,rfl⟩
 refine Mn ?_
 repeat'(first|refine mu ?_|(refine aa.CF ?_;refine aa.eN ?_;refine aa.yg (by first|rfl|exact td rfl eB) (Yl.gn (i:=0) rfl rfl rfl rfl rfl rfl Ph) rfl ?_)|(refine aF fun b_=>?_)|refine FR ?_|(refine aa.cK (f:=127) ?_;refine aa.cB pk rfl rfl rfl (fun w' hw'=>ud _ w') ?_)|(refine gP ?_ ?_<;>(intro hc_;try subst hc_)))
 all_goals first|(exfalso;omega)|exact ah.aG rfl rfl fun w' hw'=>⟨by clear hw' hl hk ho hu;first|(simp_all [bW];done)|(simp_all [bW]<;>(intros;omega)),hw'.at⟩|skip
theorem sN (op a b n kind val index t0:Int) (labels:List Int) (nt:Nat) (pt:Option Addr) (pl:Option Addr) (ct cl:Nat) (w:World) (h1:¬((nt:Int)=1)) (hl:ai F w (.slice pl labels.length cl) labels)
  (hk:∀w',Ext w w'→Calls G.P 124 #[.int .i64 op] w' fun e w2=>e=.returned (.bool true)∧Ext w' w2) (ho:∀w',Ext w w'→Calls G.P 95 #[.int .i64 op] w' fun e w2=>e=.returned (.int .i64 6)∧Ext w' w2)
  (hu:∀w',Ext w w'→Calls G.P 123 #[.int .i64 6] w' fun e w2=>e=.returned (.tuple #[.bool false,.bool false,.bool false])∧Ext w' w2):
  Calls G.P 80 #[.agg #[Pm .i64 op,Pm .i64 a,Pm .i64 b,Pm .u64 n,Pm .i64 kind,Pm .i64 val,Pm .i64 index,Pn pt nt ct,Pn pl labels.length cl]] w fun e w'=>e=.returned (.bool (bW true false false false 6 a b n kind val index nt t0 labels))∧Ext w w':=by
 obtain⟨_,_,_,hll⟩:=hl.slice
 obtain⟨lal,hlal⟩:∃q,q=labels.all br:=⟨_,rfl⟩
 refine Mn ?_
 repeat'(first|refine mu ?_|(refine aF fun b_=>?_)|refine FR ?_|(refine gP ?_ ?_<;>(intro hc_;try subst hc_)))
 all_goals first|(exfalso;omega)|exact ah.aG rfl rfl fun w' hw'=>⟨by clear hw' hl hk ho hu;first|(simp_all [bW];done)|(simp_all [bW]<;>(intros;omega)),hw'.at⟩|skip
end
section
open Go.RowKit
set_option maxHeartbeats 16000000
open Value renaming int→Pm,slice→Pn
set_option maxRecDepth 100000
attribute [local irreducible] br ki jq
theorem CN {g g':Prop} (h:g') (hw:eA g'→g:=by(intro hk_;(first|refine Od ?_|refine Ow ?_|refine Oo ?_|refine Oq ?_|refine Ox ?_);exact hk_.out)):g:=hw ⟨h⟩
variable (F:Nat→Prop)
theorem sI (op a b n kind val index t0:Int) (labels:List Int) (nt:Nat) (pt:Option Addr) (pl:Option Addr) (ct cl:Nat) (w:World) (hl:ai F w (.slice pl labels.length cl) labels)
  (hk:∀w',Ext w w'→Calls G.P 124 #[.int .i64 op] w' fun e w2=>e=.returned (.bool true)∧Ext w' w2) (ho:∀w',Ext w w'→Calls G.P 95 #[.int .i64 op] w' fun e w2=>e=.returned (.int .i64 17)∧Ext w' w2)
  (hu:∀w',Ext w w'→Calls G.P 123 #[.int .i64 17] w' fun e w2=>e=.returned (.tuple #[.bool true,.bool true,.bool true])∧Ext w' w2):
  Calls G.P 80 #[.agg #[Pm .i64 op,Pm .i64 a,Pm .i64 b,Pm .u64 n,Pm .i64 kind,Pm .i64 val,Pm .i64 index,Pn pt nt ct,Pn pl labels.length cl]] w fun e w'=>e=.returned (.bool (bW true true true true 17 a b n kind val index nt t0 labels))∧Ext w w':=by
 obtain⟨_,_,_,hll⟩:=hl.slice
 obtain⟨lal,hlal⟩:∃q,q=labels.all br:=⟨_,rfl⟩
 refine Mn ?_
 repeat'(first|refine mu ?_|(refine aF fun b_=>?_)|refine CN ?_|(refine gP ?_ ?_<;>(intro hc_;try subst hc_)))
 all_goals first|(exfalso;omega)|exact ah.aG rfl rfl fun w' hw'=>⟨by clear hw' hl hk ho hu;first|(simp_all [bW];done)|(simp_all [bW]<;>(intros;omega)),hw'.at⟩|skip
theorem sK (op a b n kind val index t0:Int) (labels:List Int) (nt:Nat) (pt:Option Addr) (pl:Option Addr) (ct cl:Nat) (w:World) (hl:ai F w (.slice pl labels.length cl) labels)
  (hk:∀w',Ext w w'→Calls G.P 124 #[.int .i64 op] w' fun e w2=>e=.returned (.bool true)∧Ext w' w2) (ho:∀w',Ext w w'→Calls G.P 95 #[.int .i64 op] w' fun e w2=>e=.returned (.int .i64 19)∧Ext w' w2)
  (hu:∀w',Ext w w'→Calls G.P 123 #[.int .i64 19] w' fun e w2=>e=.returned (.tuple #[.bool false,.bool false,.bool true])∧Ext w' w2):
  Calls G.P 80 #[.agg #[Pm .i64 op,Pm .i64 a,Pm .i64 b,Pm .u64 n,Pm .i64 kind,Pm .i64 val,Pm .i64 index,Pn pt nt ct,Pn pl labels.length cl]] w fun e w'=>e=.returned (.bool (bW true false false true 19 a b n kind val index nt t0 labels))∧Ext w w':=by
 obtain⟨_,_,_,hll⟩:=hl.slice
 obtain⟨lal,hlal⟩:∃q,q=labels.all br:=⟨_,rfl⟩
 refine Mn ?_
 repeat'(first|refine mu ?_|(refine aF fun b_=>?_)|refine CN ?_|(refine gP ?_ ?_<;>(intro hc_;try subst hc_)))
 all_goals first|(exfalso;omega)|exact ah.aG rfl rfl fun w' hw'=>⟨by clear hw' hl hk ho hu;first|(simp_all [bW];done)|(simp_all [bW]<;>(intros;omega)),hw'.at⟩|skip
 all_goals
  refine Mp ?_
  rintro j ⟨hj,hall⟩
  by_cases hjl:j<labels.length
  ·obtain⟨b7,o7,rfl,-,hc⟩:=hl.at hjl
   have hcj:=hc j hjl
   have hst:=ko (f:=br) hjl
   rw[hall,Bool.true_and]at hst
   cases hi:br (ix labels j)with
   |true=>
    repeat'(first|refine ar ?_|(refine aa.aj (f:=125) ?_;refine aa.av (v:=.bool true) rfl rfl rfl (fun w' hw'=>by have:=cE (ix labels j) w';rw[hi]at this;exact this) ?_)|fail)
    all_goals exact ii
   |false=>
    have hsub:=lN (j:=j+1) (l:=labels) (f:=br) Pd
    repeat'(first|refine ar ?_|(refine aa.aj (f:=125) ?_;refine aa.av (v:=.bool false) rfl rfl rfl (fun w' hw'=>by have:=cE (ix labels j) w';rw[hi]at this;exact this) ?_)|fail)
    all_goals exact ip
  ·obtain rfl:j=labels.length:=by omega
   rw[List.take_length]at hall
   refine cq ?_
   exact ip
theorem sL (op a b n kind val index t0:Int) (labels:List Int) (nt:Nat) (pt:Option Addr) (pl:Option Addr) (ct cl:Nat) (w:World) (hl:ai F w (.slice pl labels.length cl) labels)
  (hk:∀w',Ext w w'→Calls G.P 124 #[.int .i64 op] w' fun e w2=>e=.returned (.bool true)∧Ext w' w2) (ho:∀w',Ext w w'→Calls G.P 95 #[.int .i64 op] w' fun e w2=>e=.returned (.int .i64 20)∧Ext w' w2)
  (hu:∀w',Ext w w'→Calls G.P 123 #[.int .i64 20] w' fun e w2=>e=.returned (.tuple #[.bool true,.bool false,.bool false])∧Ext w' w2):
  Calls G.P 80 #[.agg #[Pm .i64 op,Pm .i64 a,Pm .i64 b,Pm .u64 n,Pm .i64 kind,Pm .i64 val,Pm .i64 index,Pn pt nt ct,Pn pl labels.length cl]] w fun e w'=>e=.returned (.bool (bW true true false false 20 a b n kind val index nt t0 labels))∧Ext w w':=by
 obtain⟨_,_,_,hll⟩:=hl.slice
 obtain⟨lal,hlal⟩:∃q,q=labels.all br:=⟨_,rfl⟩
 refine Mn ?_
 repeat'(first|refine mu ?_|(refine aF fun b_=>?_)|refine CN ?_|(refine gP ?_ ?_<;>(intro hc_;try subst hc_)))
 all_goals first|(exfalso;omega)|exact ah.aG rfl rfl fun w' hw'=>⟨by clear hw' hl hk ho hu;first|(simp_all [bW];done)|(simp_all [bW]<;>(intros;omega)),hw'.at⟩|skip
theorem sJ (op a b n kind val index t0:Int) (labels:List Int) (nt:Nat) (pt:Option Addr) (pl:Option Addr) (ct cl:Nat) (w:World) (hl:ai F w (.slice pl labels.length cl) labels)
  (hk:∀w',Ext w w'→Calls G.P 124 #[.int .i64 op] w' fun e w2=>e=.returned (.bool true)∧Ext w' w2) (ho:∀w',Ext w w'→Calls G.P 95 #[.int .i64 op] w' fun e w2=>e=.returned (.int .i64 18)∧Ext w' w2)
  (hu:∀w',Ext w w'→Calls G.P 123 #[.int .i64 18] w' fun e w2=>e=.returned (.tuple #[.bool false,.bool false,.bool true])∧Ext w' w2):
  Calls G.P 80 #[.agg #[Pm .i64 op,Pm .i64 a,Pm .i64 b,Pm .u64 n,Pm .i64 kind,Pm .i64 val,Pm .i64 index,Pn pt nt ct,Pn pl labels.length cl]] w fun e w'=>e=.returned (.bool (bW true false false true 18 a b n kind val index nt t0 labels))∧Ext w w':=by
 obtain⟨_,_,_,hll⟩:=hl.slice
 obtain⟨lal,hlal⟩:∃q,q=labels.all br:=⟨_,rfl⟩
 refine Mn ?_
 repeat'(first|refine mu ?_|(refine aF fun b_=>?_)|refine CN ?_|(refine gP ?_ ?_<;>(intro hc_;try subst hc_)))
 all_goals first|(exfalso;omega)|exact ah.aG rfl rfl fun w' hw'=>⟨by clear hw' hl hk ho hu;first|(simp_all [bW];done)|(simp_all [bW]<;>(intros;omega)),hw'.at⟩|skip
 all_goals
  refine Mp ?_
  rintro j ⟨hj,hall⟩
  by_cases hjl:j<labels.length
  ·obtain⟨b7,o7,rfl,-,hc⟩:=hl.at hjl
   have hcj:=hc j hjl
   have hst:=ko (f:=br) hjl
   rw[hall,Bool.true_and]at hst
   cases hi:br (ix labels j)with
   |true=>
    repeat'(first|refine ar ?_|(refine aa.aj (f:=125) ?_;refine aa.av (v:=.bool true) rfl rfl rfl (fun w' hw'=>by have:=cE (ix labels j) w';rw[hi]at this;exact this) ?_)|fail)
    all_goals exact ii
   |false=>
    have hsub:=lN (j:=j+1) (l:=labels) (f:=br) Pd
    repeat'(first|refine ar ?_|(refine aa.aj (f:=125) ?_;refine aa.av (v:=.bool false) rfl rfl rfl (fun w' hw'=>by have:=cE (ix labels j) w';rw[hi]at this;exact this) ?_)|fail)
    all_goals exact ip
  ·obtain rfl:j=labels.length:=by omega
   rw[List.take_length]at hall
   refine cq ?_
   exact ip
end
section
open Go.RowKit
set_option maxHeartbeats 16000000
open List renaming take_length→PA
open Value renaming int→Pm,slice→Pn
set_option maxRecDepth 100000
attribute [local irreducible] br ki jq
theorem CO {g g':Prop} (h:g') (hw:eA g'→g:=by(intro hk_;(first|refine Od ?_|refine Ow ?_|refine Oo ?_|refine Oq ?_|refine Ox ?_);exact hk_.out)):g:=hw ⟨h⟩
variable (F:Nat→Prop)
theorem sH (op a b n kind val index t0:Int) (labels:List Int) (nt:Nat) (pt:Option Addr) (pl:Option Addr) (ct cl:Nat) (w:World) (hl:ai F w (.slice pl labels.length cl) labels)
  (hk:∀w',Ext w w'→Calls G.P 124 #[.int .i64 op] w' fun e w2=>e=.returned (.bool true)∧Ext w' w2) (ho:∀w',Ext w w'→Calls G.P 95 #[.int .i64 op] w' fun e w2=>e=.returned (.int .i64 13)∧Ext w' w2)
  (hu:∀w',Ext w w'→Calls G.P 123 #[.int .i64 13] w' fun e w2=>e=.returned (.tuple #[.bool false,.bool true,.bool false])∧Ext w' w2):
  Calls G.P 80 #[.agg #[Pm .i64 op,Pm .i64 a,Pm .i64 b,Pm .u64 n,Pm .i64 kind,Pm .i64 val,Pm .i64 index,Pn pt nt ct,Pn pl labels.length cl]] w fun e w'=>e=.returned (.bool (bW true false true false 13 a b n kind val index nt t0 labels))∧Ext w w':=by
 obtain⟨_,_,_,hll⟩:=hl.slice
 obtain⟨lal,hlal⟩:∃q,q=labels.all br:=⟨_,rfl⟩
 refine Mn ?_
 repeat'(first|refine mu ?_|(refine aF fun b_=>?_)|refine CO ?_|(refine gP ?_ ?_<;>(intro hc_;try subst hc_)))
 all_goals first|(exfalso;omega)|exact ah.aG rfl rfl fun w' hw'=>⟨by clear hw' hl hk ho hu;first|(simp_all [bW];done)|(simp_all [bW]<;>(intros;omega)),hw'.at⟩|skip
 all_goals
  refine Mp ?_
  rintro j ⟨hj,hall⟩
  by_cases hjl:j<labels.length
  ·obtain⟨b7,o7,rfl,-,hc⟩:=hl.at hjl
   have hcj:=hc j hjl
   have hst:=ko (f:=br) hjl
   rw[hall,Bool.true_and]at hst
   cases hi:br (ix labels j)with
   |true=>
    repeat'(first|refine ar ?_|(refine aa.aj (f:=125) ?_;refine aa.av (v:=.bool true) rfl rfl rfl (fun w' hw'=>by have:=cE (ix labels j) w';rw[hi]at this;exact this) ?_)|fail)
    all_goals exact ii
   |false=>
    have hsub:=lN (j:=j+1) (l:=labels) (f:=br) Pd
    repeat'(first|refine ar ?_|(refine aa.aj (f:=125) ?_;refine aa.av (v:=.bool false) rfl rfl rfl (fun w' hw'=>by have:=cE (ix labels j) w';rw[hi]at this;exact this) ?_)|fail)
    all_goals exact ip
  ·obtain rfl:j=labels.length:=by omega
   rw[PA]at hall
   refine cq ?_
   exact ip
theorem tV (op a b n kind val index t0:Int) (labels:List Int) (nt:Nat) (pt:Option Addr) (pl:Option Addr) (ct cl:Nat) (w:World) (hl:ai F w (.slice pl labels.length cl) labels)
  (hk:∀w',Ext w w'→Calls G.P 124 #[.int .i64 op] w' fun e w2=>e=.returned (.bool true)∧Ext w' w2) (ho:∀w',Ext w w'→Calls G.P 95 #[.int .i64 op] w' fun e w2=>e=.returned (.int .i64 0)∧Ext w' w2)
  (hu:∀w',Ext w w'→Calls G.P 123 #[.int .i64 0] w' fun e w2=>e=.returned (.tuple #[.bool false,.bool false,.bool false])∧Ext w' w2):
  Calls G.P 80 #[.agg #[Pm .i64 op,Pm .i64 a,Pm .i64 b,Pm .u64 n,Pm .i64 kind,Pm .i64 val,Pm .i64 index,Pn pt nt ct,Pn pl labels.length cl]] w fun e w'=>e=.returned (.bool (bW true false false false 0 a b n kind val index nt t0 labels))∧Ext w w':=by
 obtain⟨_,_,_,hll⟩:=hl.slice
 obtain⟨lal,hlal⟩:∃q,q=labels.all br:=⟨_,rfl⟩
 refine Mn ?_
 repeat'(first|refine mu ?_|(refine aF fun b_=>?_)|refine CO ?_|(refine gP ?_ ?_<;>(intro hc_;try subst hc_)))
 all_goals first|(exfalso;omega)|exact ah.aG rfl rfl fun w' hw'=>⟨by clear hw' hl hk ho hu;first|(simp_all [bW];done)|(simp_all [bW]<;>(intros;omega)),hw'.at⟩|skip
 all_goals
  refine Mp ?_
  rintro j ⟨hj,hall⟩
  by_cases hjl:j<labels.length
  ·obtain⟨b7,o7,rfl,-,hc⟩:=hl.at hjl
   have hcj:=hc j hjl
   have hst:=ko (f:=br) hjl
   rw[hall,Bool.true_and]at hst
   cases hi:br (ix labels j)with
   |true=>
    repeat'(first|refine ar ?_|(refine aa.aj (f:=125) ?_;refine aa.av (v:=.bool true) rfl rfl rfl (fun w' hw'=>by have:=cE (ix labels j) w';rw[hi]at this;exact this) ?_)|fail)
    all_goals exact ii
   |false=>
    have hsub:=lN (j:=j+1) (l:=labels) (f:=br) Pd
    repeat'(first|refine ar ?_|(refine aa.aj (f:=125) ?_;refine aa.av (v:=.bool false) rfl rfl rfl (fun w' hw'=>by have:=cE (ix labels j) w';rw[hi]at this;exact this) ?_)|fail)
    all_goals exact ip
  ·obtain rfl:j=labels.length:=by omega
   rw[PA]at hall
   refine cq ?_
   exact ip
theorem tY (op a b n kind val index t0:Int) (labels:List Int) (nt:Nat) (pt:Option Addr) (pl:Option Addr) (ct cl:Nat) (k:Int) (w:World) (h1:k≠1) (h3:k≠3) (h6:k≠6) (h17:k≠17) (h19:k≠19) (h20:k≠20) (hl:ai F w (.slice pl labels.length cl) labels)
  (hk:∀w',Ext w w'→Calls G.P 124 #[.int .i64 op] w' fun e w2=>e=.returned (.bool true)∧Ext w' w2) (ho:∀w',Ext w w'→Calls G.P 95 #[.int .i64 op] w' fun e w2=>e=.returned (.int .i64 k)∧Ext w' w2)
  (hu:∀w',Ext w w'→Calls G.P 123 #[.int .i64 k] w' fun e w2=>e=.returned (.tuple #[.bool true,.bool false,.bool false])∧Ext w' w2):
  Calls G.P 80 #[.agg #[Pm .i64 op,Pm .i64 a,Pm .i64 b,Pm .u64 n,Pm .i64 kind,Pm .i64 val,Pm .i64 index,Pn pt nt ct,Pn pl labels.length cl]] w fun e w'=>e=.returned (.bool (bW true true false false k a b n kind val index nt t0 labels))∧Ext w w':=by
 obtain⟨_,_,_,hll⟩:=hl.slice
 obtain⟨lal,hlal⟩:∃q,q=labels.all br:=⟨_,rfl⟩
 refine Mn ?_
 repeat'(first|refine mu ?_|(refine aF fun b_=>?_)|refine CO ?_|(refine gP ?_ ?_<;>(intro hc_;try subst hc_)))
 all_goals first|(exfalso;omega)|exact ah.aG rfl rfl fun w' hw'=>⟨by clear hw' hl hk ho hu;first|(simp_all [bW];done)|(simp_all [bW]<;>(intros;omega)),hw'.at⟩|skip
 all_goals
  refine Mp ?_
  rintro j ⟨hj,hall⟩
  by_cases hjl:j<labels.length
  ·obtain⟨b7,o7,rfl,-,hc⟩:=hl.at hjl
   have hcj:=hc j hjl
   have hst:=ko (f:=br) hjl
   rw[hall,Bool.true_and]at hst
   cases hi:br (ix labels j)with
   |true=>
    repeat'(first|refine ar ?_|(refine aa.aj (f:=125) ?_;refine aa.av (v:=.bool true) rfl rfl rfl (fun w' hw'=>by have:=cE (ix labels j) w';rw[hi]at this;exact this) ?_)|fail)
    all_goals exact ii
   |false=>
    have hsub:=lN (j:=j+1) (l:=labels) (f:=br) Pd
    repeat'(first|refine ar ?_|(refine aa.aj (f:=125) ?_;refine aa.av (v:=.bool false) rfl rfl rfl (fun w' hw'=>by have:=cE (ix labels j) w';rw[hi]at this;exact this) ?_)|fail)
    all_goals exact ip
  ·obtain rfl:j=labels.length:=by omega
   rw[PA]at hall
   refine cq ?_
   exact ip
theorem tZ (op a b n kind val index t0:Int) (labels:List Int) (nt:Nat) (pt:Option Addr) (pl:Option Addr) (ct cl:Nat) (k:Int) (w:World) (h1:k≠1) (h3:k≠3) (h6:k≠6) (h17:k≠17) (h19:k≠19) (h20:k≠20) (hl:ai F w (.slice pl labels.length cl) labels)
  (hk:∀w',Ext w w'→Calls G.P 124 #[.int .i64 op] w' fun e w2=>e=.returned (.bool true)∧Ext w' w2) (ho:∀w',Ext w w'→Calls G.P 95 #[.int .i64 op] w' fun e w2=>e=.returned (.int .i64 k)∧Ext w' w2)
  (hu:∀w',Ext w w'→Calls G.P 123 #[.int .i64 k] w' fun e w2=>e=.returned (.tuple #[.bool true,.bool true,.bool false])∧Ext w' w2):
  Calls G.P 80 #[.agg #[Pm .i64 op,Pm .i64 a,Pm .i64 b,Pm .u64 n,Pm .i64 kind,Pm .i64 val,Pm .i64 index,Pn pt nt ct,Pn pl labels.length cl]] w fun e w'=>e=.returned (.bool (bW true true true false k a b n kind val index nt t0 labels))∧Ext w w':=by
 obtain⟨_,_,_,hll⟩:=hl.slice
 obtain⟨lal,hlal⟩:∃q,q=labels.all br:=⟨_,rfl⟩
 refine Mn ?_
 repeat'(first|refine mu ?_|(refine aF fun b_=>?_)|refine CO ?_|(refine gP ?_ ?_<;>(intro hc_;try subst hc_)))
 all_goals first|(exfalso;omega)|exact ah.aG rfl rfl fun w' hw'=>⟨by clear hw' hl hk ho hu;first|(simp_all [bW];done)|(simp_all [bW]<;>(intros;omega)),hw'.at⟩|skip
 all_goals
  refine Mp ?_
  rintro j ⟨hj,hall⟩
  by_cases hjl:j<labels.length
  ·obtain⟨b7,o7,rfl,-,hc⟩:=hl.at hjl
   have hcj:=hc j hjl
   have hst:=ko (f:=br) hjl
   rw[hall,Bool.true_and]at hst
   cases hi:br (ix labels j)with
   |true=>
    repeat'(first|refine ar ?_|(refine aa.aj (f:=125) ?_;refine aa.av (v:=.bool true) rfl rfl rfl (fun w' hw'=>by have:=cE (ix labels j) w';rw[hi]at this;exact this) ?_)|fail)
    all_goals exact ii
   |false=>
    have hsub:=lN (j:=j+1) (l:=labels) (f:=br) Pd
    repeat'(first|refine ar ?_|(refine aa.aj (f:=125) ?_;refine aa.av (v:=.bool false) rfl rfl rfl (fun w' hw'=>by have:=cE (ix labels j) w';rw[hi]at this;exact this) ?_)|fail)
    all_goals exact ip
  ·obtain rfl:j=labels.length:=by omega
   rw[PA]at hall
   refine cq ?_
   exact ip
end
end Go.Proofs.YtdkcljdfbemnbaaGreatDoor
