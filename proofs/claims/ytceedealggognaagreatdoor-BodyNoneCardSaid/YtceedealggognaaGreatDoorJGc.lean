/- What the index spaces answer. -/
import Derived.Test.YtceedealggognaaGreatDoorJRt
import Derived.Test.YtceedealggognaaGreatDoorJAw
import Derived.Test.YtceedealggognaaGreatDoorJM4
namespace Go.Proofs.YtceedealggognaaGreatDoor
open Go.RowKit
set_option maxRecDepth 100000
def kH (s:Nat) (w:World) (v:Value) (n:Nat) (cs:List Value):Prop:=∃p c,v=.slice p n c∧cs.length=n*s∧(n=0∨∃b o,p=some ⟨b,o,none⟩∧∀j,j<cs.length→w.cell? ⟨b,o+j,none⟩=cs[j]?)
theorem kH.ext {s n:Nat} {w w':World} {v:Value} {cs:List Value} (h:kH s w v n cs) (hx:Ext w w'):kH s w' v n cs:=by
 obtain⟨p,c,rfl,hl,h⟩:=h
 refine⟨p,c,rfl,hl,?_⟩
 rcases h with h|⟨b,o,rfl,h⟩
 ·exact .inl h
 ·exact .inr ⟨b,o,rfl,fun j hj=>by rw[List.getElem?_eq_getElem hj];exact hx.cell (by rw[h j hj,List.getElem?_eq_getElem hj])⟩
theorem gD {B T s n:Nat} {w:World} {v:Value} {cs:List Value} (h:w.ownsRow B T s v n cs):kH s w v n cs:=by
 obtain⟨p,c,rfl,_,_,hg⟩:=au h
 refine⟨p,c,rfl,h.1,?_⟩
 by_cases h0:n=0
 ·exact .inl h0
 ·obtain⟨g,rfl,_,_⟩:=hg (Nat.pos_of_ne_zero h0)
  exact .inr ⟨g,0,rfl,fun j hj=>by rw[Nat.zero_add,List.getElem?_eq_getElem hj];exact dJ h (List.getElem?_eq_getElem hj)⟩
theorem kH.cells {α:Type} [Inhabited α] {s n:Nat} {w:World} {p:Option Addr} {c:Nat} {l:List α} (cf:α→List Value) (hs:∀x,(cf x).length=s) (h:kH s w (.slice p n c) l.length (l.flatMap cf)) {i:Nat} (hi:i<l.length):∃b o,p=some ⟨b,o,none⟩∧∀j,j<s→w.cell? ⟨b,o+i*s+j,none⟩=(cf (ix l i))[j]?:=by
 obtain⟨p',c',e,hl,h⟩:=h
 cases e
 rcases h with h|⟨b,o,rfl,h⟩
 ·omega
 ·refine⟨b,o,rfl,fun j hj=>?_⟩
  rw[Nat.add_assoc,h _ (by rw[hl];have:=Nat.mul_le_mul_right s (show i+1≤l.length from hi);rw[Nat.succ_mul]at this;omega),fE cf hs l i j hi hj]
theorem kH.slice {s n:Nat} {w:World} {v:Value} {cs:List Value} (h:kH s w v n cs):∃p c,v=.slice p n c:=by obtain⟨p,c,e,_⟩:=h;exact⟨p,c,e⟩
theorem lg {α:Type} [Inhabited α] {l:List α} {j:Nat} (h:j<l.length):eE l (j:Int)=some (ix l j):=by unfold eE;rw[if_pos ⟨by omega,by omega⟩];rfl
theorem jF {α:Type} [Inhabited α] {l:List α} {i:Int} (h:¬(0≤i∧i<l.length)):eE l i=none:=by unfold eE;rw[if_neg h]
def AN:dS:=⟨0,⟨0,0,false⟩⟩
def Cx:dt:=⟨0,0,false⟩
def CV:eP:=⟨0,false⟩
theorem xo (l:List dS) (v:Value) (i:Int) (w:World) (h:kH 4 w v l.length (l.flatMap kN)):Calls G.P 172 #[v,.int .i64 i] w fun e w'=>e=.returned (.tuple #[.agg (kN ((eE l i).getD AN)).toArray,.bool (eE l i).isSome])∧Ext w w':=by
 obtain⟨p,c,rfl⟩:=h.slice
 by_cases hin:0≤i∧i<l.length
 ·obtain⟨j,rfl⟩:=Int.eq_ofNat_of_zero_le hin.1
  have hj:j<l.length:=by omega
  obtain⟨b,o,rfl,hc⟩:=h.cells kN (fun _=>rfl) hj
  have e:=lg hj
  refine aj (l:=[.slice (some ⟨b,o,none⟩) l.length c,.int .i64 j]) Tryz.func172 rfl Tryz.ntmps172 rfl (Ok.start w) ?_
  refine aP.kJ (Cs b (o+j*4) (kN (ix l j))) (fun w' hw'=>by intro k hk;have:=hc k hk;rw[show(kN (ix l j))[k]?=some ((kN (ix l j))[k]'hk)from List.getElem?_eq_getElem hk]at this ⊢;exact(show Ext w w' from hw' _ ao).cell this) ?_
  dsimp only[kN]
  repeat'(first|refine ay ?_|(refine aa.alloc (t:=pR) [Value.slice none 0 0,Value.slice none 0 0] rfl rfl rfl fun b_=>?_)|(refine aa.alloc (t:=my) [Value.int .i64 0,Value.int .i64 0,Value.int .i64 0,Value.bool false] rfl rfl rfl fun b_=>?_)|(refine aa.alloc (t:=mw) [Value.int .i64 0,Value.int .i64 0,Value.bool false] rfl rfl rfl fun b_=>?_)|(refine aa.alloc (t:=mu) [Value.int .i64 0,Value.bool false] rfl rfl rfl fun b_=>?_)|(refine aY ?_ ?_<;>intro hc_))
  all_goals exact pp
 ·have e:=jF hin
  refine aj (l:=[.slice p l.length c,.int .i64 i]) Tryz.func172 rfl Tryz.ntmps172 rfl (Ok.start w) ?_
  repeat'(first|refine ay ?_|(refine aa.alloc (t:=pR) [Value.slice none 0 0,Value.slice none 0 0] rfl rfl rfl fun b_=>?_)|(refine aa.alloc (t:=my) [Value.int .i64 0,Value.int .i64 0,Value.int .i64 0,Value.bool false] rfl rfl rfl fun b_=>?_)|(refine aa.alloc (t:=mw) [Value.int .i64 0,Value.int .i64 0,Value.bool false] rfl rfl rfl fun b_=>?_)|(refine aa.alloc (t:=mu) [Value.int .i64 0,Value.bool false] rfl rfl rfl fun b_=>?_)|(refine aY ?_ ?_<;>intro hc_))
  all_goals exact qr
theorem kH.zK {w:World} {n:Nat} {p:Option Addr} {c:Nat} {l:List Int} (h:kH 1 w (.slice p n c) l.length (l.map (Value.int .i64))) {i:Nat} (hi:i<l.length):∃b o,p=some ⟨b,o,none⟩∧w.cell? ⟨b,o+i,none⟩=some (.int .i64 (ix l i)):=by
 obtain⟨p',c',e,hl,h⟩:=h
 cases e
 rcases h with h|⟨b,o,rfl,h⟩
 ·omega
 ·exact⟨b,o,rfl,by rw[h i (by simpa using hi),List.getElem?_map,gq hi];rfl⟩
theorem vv (l:List dt) (v:Value) (i:Int) (w:World) (h:kH 3 w v l.length (l.flatMap kK)):Calls G.P 175 #[v,.int .i64 i] w fun e w'=>e=.returned (.tuple #[.agg (kK ((eE l i).getD Cx)).toArray,.bool (eE l i).isSome])∧Ext w w':=by
 obtain⟨p,c,rfl⟩:=h.slice
 by_cases hin:0≤i∧i<l.length
 ·obtain⟨j,rfl⟩:=Int.eq_ofNat_of_zero_le hin.1
  have hj:j<l.length:=by omega
  obtain⟨b,o,rfl,hc⟩:=h.cells kK (fun _=>rfl) hj
  have e:=lg hj
  refine aj (l:=[.slice (some ⟨b,o,none⟩) l.length c,.int .i64 j]) Tryz.func175 rfl Tryz.ntmps175 rfl (Ok.start w) ?_
  refine aP.kJ (Cs b (o+j*3) (kK (ix l j))) (fun w' hw'=>by intro k hk;have:=hc k hk;rw[show(kK (ix l j))[k]?=some ((kK (ix l j))[k]'hk)from List.getElem?_eq_getElem hk]at this ⊢;exact(show Ext w w' from hw' _ ao).cell this) ?_
  dsimp only[kK]
  repeat'(first|refine ay ?_|(refine aa.alloc (t:=pR) [Value.slice none 0 0,Value.slice none 0 0] rfl rfl rfl fun b_=>?_)|(refine aa.alloc (t:=my) [Value.int .i64 0,Value.int .i64 0,Value.int .i64 0,Value.bool false] rfl rfl rfl fun b_=>?_)|(refine aa.alloc (t:=mw) [Value.int .i64 0,Value.int .i64 0,Value.bool false] rfl rfl rfl fun b_=>?_)|(refine aa.alloc (t:=mu) [Value.int .i64 0,Value.bool false] rfl rfl rfl fun b_=>?_)|(refine aY ?_ ?_<;>intro hc_))
  all_goals exact pp
 ·have e:=jF hin
  refine aj (l:=[.slice p l.length c,.int .i64 i]) Tryz.func175 rfl Tryz.ntmps175 rfl (Ok.start w) ?_
  repeat'(first|refine ay ?_|(refine aa.alloc (t:=pR) [Value.slice none 0 0,Value.slice none 0 0] rfl rfl rfl fun b_=>?_)|(refine aa.alloc (t:=my) [Value.int .i64 0,Value.int .i64 0,Value.int .i64 0,Value.bool false] rfl rfl rfl fun b_=>?_)|(refine aa.alloc (t:=mw) [Value.int .i64 0,Value.int .i64 0,Value.bool false] rfl rfl rfl fun b_=>?_)|(refine aa.alloc (t:=mu) [Value.int .i64 0,Value.bool false] rfl rfl rfl fun b_=>?_)|(refine aY ?_ ?_<;>intro hc_))
  all_goals exact qr
theorem vu (l:List eP) (v:Value) (i:Int) (w:World) (h:kH 2 w v l.length (l.flatMap pw)):Calls G.P 173 #[v,.int .i64 i] w fun e w'=>e=.returned (.tuple #[.agg (pw ((eE l i).getD CV)).toArray,.bool (eE l i).isSome])∧Ext w w':=by
 obtain⟨p,c,rfl⟩:=h.slice
 by_cases hin:0≤i∧i<l.length
 ·obtain⟨j,rfl⟩:=Int.eq_ofNat_of_zero_le hin.1
  have hj:j<l.length:=by omega
  obtain⟨b,o,rfl,hc⟩:=h.cells pw (fun _=>rfl) hj
  have e:=lg hj
  refine aj (l:=[.slice (some ⟨b,o,none⟩) l.length c,.int .i64 j]) Tryz.func173 rfl Tryz.ntmps173 rfl (Ok.start w) ?_
  refine aP.kJ (Cs b (o+j*2) (pw (ix l j))) (fun w' hw'=>by intro k hk;have:=hc k hk;rw[show(pw (ix l j))[k]?=some ((pw (ix l j))[k]'hk)from List.getElem?_eq_getElem hk]at this ⊢;exact(show Ext w w' from hw' _ ao).cell this) ?_
  dsimp only[pw]
  repeat'(first|refine ay ?_|(refine aa.alloc (t:=pR) [Value.slice none 0 0,Value.slice none 0 0] rfl rfl rfl fun b_=>?_)|(refine aa.alloc (t:=my) [Value.int .i64 0,Value.int .i64 0,Value.int .i64 0,Value.bool false] rfl rfl rfl fun b_=>?_)|(refine aa.alloc (t:=mw) [Value.int .i64 0,Value.int .i64 0,Value.bool false] rfl rfl rfl fun b_=>?_)|(refine aa.alloc (t:=mu) [Value.int .i64 0,Value.bool false] rfl rfl rfl fun b_=>?_)|(refine aY ?_ ?_<;>intro hc_))
  all_goals exact pp
 ·have e:=jF hin
  refine aj (l:=[.slice p l.length c,.int .i64 i]) Tryz.func173 rfl Tryz.ntmps173 rfl (Ok.start w) ?_
  repeat'(first|refine ay ?_|(refine aa.alloc (t:=pR) [Value.slice none 0 0,Value.slice none 0 0] rfl rfl rfl fun b_=>?_)|(refine aa.alloc (t:=my) [Value.int .i64 0,Value.int .i64 0,Value.int .i64 0,Value.bool false] rfl rfl rfl fun b_=>?_)|(refine aa.alloc (t:=mw) [Value.int .i64 0,Value.int .i64 0,Value.bool false] rfl rfl rfl fun b_=>?_)|(refine aa.alloc (t:=mu) [Value.int .i64 0,Value.bool false] rfl rfl rfl fun b_=>?_)|(refine aY ?_ ?_<;>intro hc_))
  all_goals exact qr
theorem xp (l:List Int) (v:Value) (i:Int) (w:World) (h:kH 1 w v l.length (l.map (Value.int .i64))):Calls G.P 170 #[v,.int .i64 i] w fun e w'=>e=.returned (.tuple #[.int .i64 ((eE l i).getD 0),.bool (eE l i).isSome])∧Ext w w':=by
 obtain⟨p,c,rfl⟩:=h.slice
 by_cases hin:0≤i∧i<l.length
 ·obtain⟨j,rfl⟩:=Int.eq_ofNat_of_zero_le hin.1
  have hj:j<l.length:=by omega
  obtain⟨b,o,rfl,hc⟩:=h.zK hj
  have e:=lg hj
  refine aj (l:=[.slice (some ⟨b,o,none⟩) l.length c,.int .i64 j]) Tryz.func170 rfl Tryz.ntmps170 rfl (Ok.start w) ?_
  repeat'(first|refine ay ?_|(refine aY ?_ ?_<;>intro hc_))
  all_goals exact ai.gb rfl rfl rfl fun w' hw'=>⟨by rw[e];rfl,hw'.at⟩
 ·have e:=jF hin
  refine aj (l:=[.slice p l.length c,.int .i64 i]) Tryz.func170 rfl Tryz.ntmps170 rfl (Ok.start w) ?_
  repeat'(first|refine ay ?_|(refine aY ?_ ?_<;>intro hc_))
  all_goals first|omega|exact ai.gb rfl rfl rfl fun w' hw'=>⟨by rw[e];rfl,hw'.at⟩
theorem Aq (l:List Int) (v:Value) (i:Int) (w:World) (h:kH 1 w v l.length (l.map (Value.int .i64))):Calls G.P 174 #[v,.int .i64 i] w fun e w'=>e=.returned (.tuple #[.int .i64 ((eE l i).getD 0),.bool (eE l i).isSome])∧Ext w w':=by
 obtain⟨p,c,rfl⟩:=h.slice
 by_cases hin:0≤i∧i<l.length
 ·obtain⟨j,rfl⟩:=Int.eq_ofNat_of_zero_le hin.1
  have hj:j<l.length:=by omega
  obtain⟨b,o,rfl,hc⟩:=h.zK hj
  have e:=lg hj
  refine aj (l:=[.slice (some ⟨b,o,none⟩) l.length c,.int .i64 j]) Tryz.func174 rfl Tryz.ntmps174 rfl (Ok.start w) ?_
  repeat'(first|refine ay ?_|(refine aY ?_ ?_<;>intro hc_))
  all_goals exact ai.gb rfl rfl rfl fun w' hw'=>⟨by rw[e];rfl,hw'.at⟩
 ·have e:=jF hin
  refine aj (l:=[.slice p l.length c,.int .i64 i]) Tryz.func174 rfl Tryz.ntmps174 rfl (Ok.start w) ?_
  repeat'(first|refine ay ?_|(refine aY ?_ ?_<;>intro hc_))
  all_goals first|omega|exact ai.gb rfl rfl rfl fun w' hw'=>⟨by rw[e];rfl,hw'.at⟩
theorem sJ {g g':Prop} (h:g') (hw:dP g'→g:=by(intro hk_;(first|refine Fh ?_);exact hk_.out)):g:=hw ⟨h⟩
theorem ef (B:Nat) (m:ae) (v:Value) (i:Int) (w:World) (h:aV B m w v):Calls G.P 140 #[v,.int .i64 i] w fun e w'=>e=.returned (.tuple #[.agg (kN ((eE (dz m) i).getD AN)).toArray,.bool (eE (dz m) i).isSome])∧Ext w w':=by
 obtain⟨bS,sp,im,dm,vs,tc,ig,dg,rfl,-,h⟩:=h
 have hb:=gD h.bs
 have c2:w.cell? ⟨sp,2,none⟩=some vs.bv:=h.x.cell rfl
 have et:(pK m).tables=dz m:=by rw[lC]
 rw[et]at hb
 refine aj (l:=[_,_]) Tryz.func140 rfl Tryz.ntmps140 rfl (Ok.start w) ?_
 repeat'(first|refine ay ?_|(refine Fa fun b_=>?_)|refine sJ ?_|(refine aa.ak (f:=172) ?_;refine aa.az rfl rfl rfl (fun w' hw'=>xo _ _ i w' (hb.ext hw'.at)) ?_)|fail)
 all_goals exact pm
theorem wB (B:Nat) (m:ae) (v:Value) (i:Int) (w:World) (h:aV B m w v):Calls G.P 145 #[v,.int .i64 i] w fun e w'=>e=.returned (.tuple #[.agg (kK ((eE (ko m) i).getD Cx)).toArray,.bool (eE (ko m) i).isSome])∧Ext w w':=by
 obtain⟨bS,sp,im,dm,vs,tc,ig,dg,rfl,-,h⟩:=h
 have hb:=gD h.ms
 have c2:w.cell? ⟨sp,3,none⟩=some vs.mv:=h.x.cell rfl
 have et:(pK m).bU=ko m:=by rw[lC]
 rw[et]at hb
 refine aj (l:=[_,_]) Tryz.func145 rfl Tryz.ntmps145 rfl (Ok.start w) ?_
 repeat'(first|refine ay ?_|(refine Fa fun b_=>?_)|refine sJ ?_|(refine aa.ak (f:=175) ?_;refine aa.az rfl rfl rfl (fun w' hw'=>vv _ _ i w' (hb.ext hw'.at)) ?_)|fail)
 all_goals exact pm
theorem gU (B:Nat) (m:ae) (v:Value) (i:Int) (w:World) (h:aV B m w v):Calls G.P 141 #[v,.int .i64 i] w fun e w'=>e=.returned (.tuple #[.agg (pw ((eE (hZ m) i).getD CV)).toArray,.bool (eE (hZ m) i).isSome])∧Ext w w':=by
 obtain⟨bS,sp,im,dm,vs,tc,ig,dg,rfl,-,h⟩:=h
 have hb:=gD h.gs
 have c2:w.cell? ⟨sp,4,none⟩=some vs.gv:=h.x.cell rfl
 have et:(pK m).globals=hZ m:=by rw[lC]
 rw[et]at hb
 refine aj (l:=[_,_]) Tryz.func141 rfl Tryz.ntmps141 rfl (Ok.start w) ?_
 repeat'(first|refine ay ?_|(refine Fa fun b_=>?_)|refine sJ ?_|(refine aa.ak (f:=173) ?_;refine aa.az rfl rfl rfl (fun w' hw'=>vu _ _ i w' (hb.ext hw'.at)) ?_)|fail)
 all_goals exact pm
theorem uo (B:Nat) (m:ae) (v:Value) (i:Int) (w:World) (h:aV B m w v):Calls G.P 143 #[v,.int .i64 i] w fun e w'=>e=.returned (.tuple #[.int .i64 ((eE (hH m) i).getD 0),.bool (eE (hH m) i).isSome])∧Ext w w':=by
 obtain⟨bS,sp,im,dm,vs,tc,ig,dg,rfl,-,h⟩:=h
 have hb:=gD h.es
 have c2:w.cell? ⟨sp,5,none⟩=some vs.ev:=h.x.cell rfl
 have et:(pK m).elems=hH m:=by rw[lC]
 rw[et]at hb
 refine aj (l:=[_,_]) Tryz.func143 rfl Tryz.ntmps143 rfl (Ok.start w) ?_
 repeat'(first|refine ay ?_|refine sJ ?_|(refine aa.ak (f:=174) ?_;refine aa.az rfl rfl rfl (fun w' hw'=>Aq _ _ i w' (hb.ext hw'.at)) ?_)|fail)
 all_goals exact ai.gb rfl rfl rfl fun w' hw'=>⟨by rfl,hw'.at⟩
theorem sW (B:Nat) (m:ae) (v:Value) (w:World) (h:aV B m w v):Calls G.P 144 #[v] w fun e w'=>e=.returned (.int .i64 m.aW.length)∧Ext w w':=by
 obtain⟨bS,sp,im,dm,vs,tc,ig,dg,rfl,-,h⟩:=h
 have c2:w.cell? ⟨sp,6,none⟩=some (.int .i64 (pK m).aW):=h.x.cell rfl
 have et:(pK m).aW=m.aW.length:=by rw[lC]
 rw[et]at c2
 refine aj (l:=[_]) Tryz.func144 rfl Tryz.ntmps144 rfl (Ok.start w) ?_
 repeat'(first|refine ay ?_|refine sJ ?_|fail)
 all_goals exact ii
theorem sX (B:Nat) (m:ae) (v:Value) (w:World) (h:aV B m w v):Calls G.P 171 #[v] w fun e w'=>e=.returned (.int .i64 (jc m).length)∧Ext w w':=by
 obtain⟨bS,sp,im,dm,vs,tc,ig,dg,rfl,-,h⟩:=h
 have hb:=gD h.fs
 have c2:w.cell? ⟨sp,1,none⟩=some vs.fv:=h.x.cell rfl
 have et:(pK m).funcs=jc m:=by rw[lC]
 rw[et]at hb
 obtain⟨p,c,e⟩:=hb.slice
 rw[e]at c2
 refine aj (l:=[_]) Tryz.func171 rfl Tryz.ntmps171 rfl (Ok.start w) ?_
 repeat'(first|refine ay ?_|refine sJ ?_|fail)
 all_goals exact ii
theorem ky (B:Nat) (m:ae) (v:Value) (i:Int) (w:World) (h:aV B m w v) (hi:gJ i):Calls G.P 139 #[v,.int .i64 i] w fun e w'=>e=.returned (.bool (uN m i))∧Ext w w':=by
 have h0:=h
 obtain⟨bS,sp,im,dm,vs,tc,ig,dg,rfl,-,h⟩:=h
 have c2:w.cell? ⟨sp,8,none⟩=some (.map (some dm)):=h.x.cell rfl
 have hd:=h.dec i
 refine aj (l:=[_,_]) Tryz.func139 rfl Tryz.ntmps139 rfl (Ok.start w) ?_
 repeat'(first|refine ay ?_|(refine aa.eR (f:=81) ?_;refine aa.dV wM rfl rfl rfl (fun w' hw'=>iR bS sp w' (h.s.aB (show Ext w w' from hw'.at) (fun h=>h))) ?_)|(refine aa.eR (f:=171) ?_;refine aa.dV wM rfl rfl rfl (fun w' hw'=>sX B m _ w' (h0.aB (show Ext w w' from hw'.at) (fun _ _ h=>h))) ?_)|(refine aa.yW ?_;refine aa.yg (by first|exact tu rfl de) (Yl.yZ (zv:=.bool false) Tryz.underlying82 Tryz.underlying3 (fun _=>rfl) rfl rfl hi h.dm ao) rfl ?_;rw[hd])|(refine aY ?_ ?_<;>intro hc_))
 all_goals exact ai.aA rfl rfl fun w' hw'=>⟨by unfold uN;by_cases a_:0≤i<;>by_cases b_:i<((jc m).length:Int)<;>first|omega|simp[a_,b_]|simp_all,hw'.at⟩
def yx (B:Nat) (f:aC) (x:Value×Value):List aU:=[.own B kI 1 x.1 f.params.length (f.params.map (Value.int .i64)),.own B kI 1 x.2 f.results.length (f.results.map (Value.int .i64))]
set_option maxHeartbeats 16000000 in
theorem kW (F:Nat→Prop) (B:Nat) (f:aC) (u0 u1:Value) (w:World) (h0:af F w u0 f.params) (h1:af F w u1 f.results) (hB:B≤w.heap.size):Calls G.P 23 #[.agg #[u0,u1]] w (aq [] w (fun x:Value×Value=>.agg #[x.1,x.2]) (fun _=>True) (yx B f)):=by
 obtain⟨p0,c0,rfl,l0⟩:=h0.slice
 obtain⟨p1,c1,rfl,l1⟩:=h1.slice
 refine aj (l:=[.agg #[.slice p0 f.params.length c0,.slice p1 f.results.length c1]]) Tryz.func23 rfl Tryz.ntmps23 rfl (Ok.start w) ?_
 refine dr ?_
 refine aa.box [.slice p0 f.params.length c0,.slice p1 f.results.length c1] rfl rfl rfl fun b1=>?_
 refine dr ?_
 refine aa.alloc [Value.slice none 0 0,Value.slice none 0 0] rfl rfl rfl fun b2=>?_
 refine dr ?_
 refine aP.ia B kI 1 ?_
 refine aP.ia B kI 1 ?_
 refine aP.cq [0,1,3,4,2,5,6] 7 [.aH b1 [.slice p0 f.params.length c0,.slice p1 f.results.length c1] pR] [Ext w] FT bN aX ?_
 refine jA ?_
 refine aM.he (HE.lL (f.params.map (Value.int .i64)) rfl rfl (fun _=>bM) (nH h0 ao) FZ rfl rfl rfl F0 F0 F0 (gB _) (by show(0+f.params.length)*8≤_;omega) FY (fun w' hw'=>Nat.le_trans hB (show Ext w w' from hw'.at).size)) rfl (fun _=>bN) (fun _=>aX) ?_
 intro v1 _
 refine aM.he (HE.lL (f.results.map (Value.int .i64)) rfl rfl (fun _=>bM) (nH h1 ao) FZ rfl rfl rfl F0 F0 F0 (gB _) (by show(0+f.results.length)*8≤_;omega) FY (fun w' hw'=>Nat.le_trans hB (show Ext w w' from hw'.at).size)) rfl (fun _=>bN) (fun _=>aX) ?_
 intro v2 _
 refine aM.pure (φ:=(∃p c,v1=.slice p (0+f.params.length) c)∧∃p c,v2=.slice p (0+f.results.length) c) (fun w' hw'=>⟨?_,?_⟩) ?_
 ·obtain⟨p,c,e,_⟩:=au (hw'.own (v:=v1));exact⟨p,c,e⟩
 ·obtain⟨p,c,e,_⟩:=au (hw'.own (v:=v2));exact⟨p,c,e⟩
 rintro⟨⟨q1,d1,rfl⟩,⟨q2,d2,rfl⟩⟩
 refine jA ?_
 refine aM.gR (gI.aL _ rfl rfl rfl rfl rfl rfl bM rfl) rfl ?_
 rintro⟨⟩ _
 simp only[Nat.zero_add,List.nil_append]
 refine dr ?_
 refine ai.fw (.inl rfl) rfl rfl rfl rfl rfl bM rfl fun w' hw'=>aq.tw (x:=(Value.slice q1 f.params.length d1,Value.slice q2 f.results.length d2)) trivial hw' ?_ ao
 dsimp only[yx]
 exact bN
theorem tD (b o n c j n0 n1 y0 y1:Nat) (x0 x1:Option Addr) (w:World) (hj:j<n) (g0:w.cell? ⟨b,o+j*2,none⟩=some (.slice x0 n0 y0)) (g1:w.cell? ⟨b,o+j*2+1,none⟩=some (.slice x1 n1 y1)):Calls G.P 80 #[.slice (some ⟨b,o,none⟩) n c,.int .i64 j] w fun e w'=>e=.returned (.tuple #[.agg #[.slice x0 n0 y0,.slice x1 n1 y1],.bool true])∧Ext w w':=by
 refine aj (l:=[_,_]) Tryz.func80 rfl Tryz.ntmps80 rfl (Ok.start w) ?_
 refine aP.kJ (Cs b (o+j*2) [Value.slice x0 n0 y0,Value.slice x1 n1 y1]) (fun w' hw'=>by
  intro k hk
  have hx:Ext w w':=hw' _ ao
  match k,hk with
  |0,_=>exact hx.cell g0
  |1,_=>exact hx.cell g1) ?_
 repeat'(first|refine ay ?_|(refine Fa fun b_=>?_)|fail)
 all_goals exact pm
theorem rZ (p:Option Addr) (n c:Nat) (i:Int) (w:World) (hin:¬(0≤i∧i<n)):Calls G.P 80 #[.slice p n c,.int .i64 i] w fun e w'=>e=.returned (.tuple #[.agg #[.slice none 0 0,.slice none 0 0],.bool false])∧Ext w w':=by
 refine aj (l:=[_,_]) Tryz.func80 rfl Tryz.ntmps80 rfl (Ok.start w) ?_
 repeat'(first|refine ay ?_|(refine Fa fun b_=>?_)|(refine aY ?_ ?_<;>intro hc_))
 all_goals first|omega|exact ai.bh (.inl rfl) rfl rfl rfl rfl rfl bM rfl rfl fun w' hw'=>⟨by rfl,hw'.at⟩
theorem zN {m:ae} {i:Int} {B:Nat} {w:World} {tc:List Value} {tv:Value} (hr:kH 2 w tv m.types.length tc) (ht:jg B tc m.types w):∃p c,tv=.slice p m.types.length c∧((¬(0≤i∧i<m.types.length)∧eE m.types i=none)∨∃(j b o:Nat) (x0 x1:Option Addr) (y0 y1:Nat),i=j∧j<m.types.length∧p=some ⟨b,o,none⟩∧eE m.types i=some (ix m.types j)∧
  w.cell? ⟨b,o+j*2,none⟩=some (.slice x0 (ix m.types j).params.length y0)∧w.cell? ⟨b,o+j*2+1,none⟩=some (.slice x1 (ix m.types j).results.length y1)∧af (fun k=>B≤k) w (.slice x0 (ix m.types j).params.length y0) (ix m.types j).params∧af (fun k=>B≤k) w (.slice x1 (ix m.types j).results.length y1) (ix m.types j).results):=by
 obtain⟨p,c,rfl,hl,hr⟩:=hr
 refine⟨p,c,rfl,?_⟩
 by_cases hin:0≤i∧i<m.types.length
 ·obtain⟨j,rfl⟩:=Int.eq_ofNat_of_zero_le hin.1
  have hj:j<m.types.length:=by omega
  obtain⟨b,o,rfl,hc⟩:=hr.resolve_left FY
  obtain⟨u0,u1,e1,e2,q0,q1⟩:=ht.2 j hj
  obtain⟨x0,y0,rfl,z0⟩:=q0.slice
  obtain⟨x1,y1,rfl,z1⟩:=q1.slice
  have hlt:j*2+1<tc.length:=(List.getElem?_eq_some_iff.1 e2).1
  exact .inr ⟨j,b,o,x0,x1,y0,y1,rfl,hj,rfl,lg hj,by rw[hc _ FY,e1],by rw[Nat.add_assoc,hc _ hlt,e2],q0,q1⟩
 ·exact .inl ⟨hin,jF hin⟩
def w8 (B:Nat) (w:World) (r:Option aC):Ending→World→Prop:=aq [] w (fun x:Value×Value=>.tuple #[.agg #[x.1,x.2],.bool r.isSome]) (fun _=>True) (yx B (r.getD gw))
set_option maxHeartbeats 16000000 in
theorem m5 (B0 B:Nat) (m:ae) (v:Value) (i:Int) (w:World) (h:aV B0 m w v) (hB:B≤w.heap.size):Calls G.P 46 #[v,.int .i64 i] w (w8 B w (eE m.types i)):=by
 obtain⟨bS,sp,im,dm,vs,tc,ig,dg,rfl,-,h⟩:=h
 have hb:=gD h.ts
 have c2:w.cell? ⟨sp,0,none⟩=some vs.tv:=h.x.cell rfl
 obtain⟨p,c,e,hh⟩:=zN (i:=i) hb h.ty
 rw[e]at c2
 unfold w8
 rcases hh with⟨hin,hat⟩|⟨j,b,o,x0,x1,y0,y1,rfl,hj,rfl,hat,g0,g1,q0,q1⟩
 ·rw[hat]
  refine aj (l:=[_,_]) Tryz.func46 rfl Tryz.ntmps46 rfl (Ok.start w) ?_
  repeat'(first|refine ay ?_|(refine Fa fun b_=>?_)|refine sJ ?_|(refine aa.ak (f:=80) ?_;refine aa.az rfl rfl rfl (fun w' hw'=>rZ p m.types.length c i w' hin) ?_)|fail)
  refine aa.he (HE.nV (M0:=[]) rfl rfl (fun w' hw'=>kW (fun _=>False) B gw _ _ w' (af.eB _ _) (af.eB _ _) (Nat.le_trans hB (show Ext w w' from hw'.at).size))) rfl ?_
  rintro⟨v1,v2⟩ _
  dsimp only[yx,List.cons_append,List.nil_append]
  refine aa.pure (φ:=(∃p c,v1=.slice p gw.params.length c)∧∃p c,v2=.slice p gw.results.length c) (fun w' hw'=>⟨?_,?_⟩) ?_
  ·obtain⟨p,c,e,_⟩:=au (hw'.own (v:=v1));exact⟨p,c,e⟩
  ·obtain⟨p,c,e,_⟩:=au (hw'.own (v:=v2));exact⟨p,c,e⟩
  rintro⟨⟨q1,d1,rfl⟩,⟨q2,d2,rfl⟩⟩
  repeat'(first|refine ay ?_|fail)
  exact ai.bh (.inl rfl) rfl rfl rfl rfl rfl bM rfl rfl fun w' hw'=>aq.tw (x:=(Value.slice q1 gw.params.length d1,Value.slice q2 gw.results.length d2)) trivial hw' (by dsimp only[yx];exact bN) ao
 ·rw[hat]
  refine aj (l:=[_,_]) Tryz.func46 rfl Tryz.ntmps46 rfl (Ok.start w) ?_
  repeat'(first|refine ay ?_|(refine Fa fun b_=>?_)|refine sJ ?_|(refine aa.ak (f:=80) ?_;refine aa.az rfl rfl rfl (fun w' hw'=>tD b o m.types.length c j _ _ y0 y1 x0 x1 w' hj ((show Ext w w' from hw'.at).cell g0) ((show Ext w w' from hw'.at).cell g1)) ?_)|fail)
  refine aa.he (HE.nV (M0:=[]) rfl rfl (fun w' hw'=>kW (fun k=>B0≤k) B (ix m.types j) _ _ w' (q0.aB (show Ext w w' from hw'.at) (fun _ _ _ h=>h)) (q1.aB (show Ext w w' from hw'.at) (fun _ _ _ h=>h)) (Nat.le_trans hB (show Ext w w' from hw'.at).size))) rfl ?_
  rintro⟨v1,v2⟩ _
  dsimp only[yx,List.cons_append,List.nil_append]
  refine aa.pure (φ:=(∃p c,v1=.slice p (ix m.types j).params.length c)∧∃p c,v2=.slice p (ix m.types j).results.length c) (fun w' hw'=>⟨?_,?_⟩) ?_
  ·obtain⟨p,c,e,_⟩:=au (hw'.own (v:=v1));exact⟨p,c,e⟩
  ·obtain⟨p,c,e,_⟩:=au (hw'.own (v:=v2));exact⟨p,c,e⟩
  rintro⟨⟨q1,d1,rfl⟩,⟨q2,d2,rfl⟩⟩
  repeat'(first|refine ay ?_|fail)
  exact ai.bh (.inl rfl) rfl rfl rfl rfl rfl bM rfl rfl fun w' hw'=>aq.tw (x:=(Value.slice q1 (ix m.types j).params.length d1,Value.slice q2 (ix m.types j).results.length d2)) trivial hw' (by dsimp only[yx];exact bN) ao
theorem lx {w:World} {R:List (World→Prop)} {b o s:Nat} {cs:List Value} (hc:∀j,j<s→w.cell? ⟨b,o+j,none⟩=cs[j]?) (hl:cs.length=s) (hR:Ext w∈R):∀w',(∀r,r∈R→r w')→Cs b o cs w':=fun w' hw' k hk=>by
 have h:=hc k FY
 rw[List.getElem?_eq_getElem hk]at h ⊢
 exact(show Ext w w' from hw' _ hR).cell h
end Go.Proofs.YtceedealggognaaGreatDoor
