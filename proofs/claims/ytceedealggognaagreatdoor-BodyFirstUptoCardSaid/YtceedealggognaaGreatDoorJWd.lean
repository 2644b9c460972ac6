/- What the index spaces answer. -/
import Derived.Test.YtceedealggognaaGreatDoorJSe
import Derived.Test.YtceedealggognaaGreatDoorJIm
import Derived.Test.YtceedealggognaaGreatDoorJAw
namespace Go.Proofs.YtceedealggognaaGreatDoor
open Go.RowKit
set_option maxRecDepth 100000
def ln (s:Nat) (w:World) (v:Value) (n:Nat) (cs:List Value):Prop:=∃p c,v=.slice p n c∧cs.length=n*s∧(n=0∨∃b o,p=some ⟨b,o,none⟩∧∀j,j<cs.length→w.cell? ⟨b,o+j,none⟩=cs[j]?)
theorem ln.ext {s n:Nat} {w w':World} {v:Value} {cs:List Value} (h:ln s w v n cs) (hx:Ext w w'):ln s w' v n cs:=by
 obtain⟨p,c,rfl,hl,h⟩:=h
 refine⟨p,c,rfl,hl,?_⟩
 rcases h with h|⟨b,o,rfl,h⟩
 ·exact .inl h
 ·exact .inr ⟨b,o,rfl,fun j hj=>by rw[List.getElem?_eq_getElem hj];exact hx.cell (by rw[h j hj,List.getElem?_eq_getElem hj])⟩
theorem gN {B T s n:Nat} {w:World} {v:Value} {cs:List Value} (h:w.ownsRow B T s v n cs):ln s w v n cs:=by
 obtain⟨p,c,rfl,_,_,hg⟩:=av h
 refine⟨p,c,rfl,h.1,?_⟩
 by_cases h0:n=0
 ·exact .inl h0
 ·obtain⟨g,rfl,_,_⟩:=hg (Nat.pos_of_ne_zero h0)
  exact .inr ⟨g,0,rfl,fun j hj=>by rw[Nat.zero_add,List.getElem?_eq_getElem hj];exact dL h (List.getElem?_eq_getElem hj)⟩
theorem ln.cells {α:Type} [Inhabited α] {s n:Nat} {w:World} {p:Option Addr} {c:Nat} {l:List α} (cf:α→List Value) (hs:∀x,(cf x).length=s) (h:ln s w (.slice p n c) l.length (l.flatMap cf)) {i:Nat} (hi:i<l.length):∃b o,p=some ⟨b,o,none⟩∧∀j,j<s→w.cell? ⟨b,o+i*s+j,none⟩=(cf (ix l i))[j]?:=by
 obtain⟨p',c',e,hl,h⟩:=h
 cases e
 rcases h with h|⟨b,o,rfl,h⟩
 ·omega
 ·refine⟨b,o,rfl,fun j hj=>?_⟩
  rw[Nat.add_assoc,h _ (by rw[hl];have:=Nat.mul_le_mul_right s (show i+1≤l.length from hi);rw[Nat.succ_mul]at this;omega),eT cf hs l i j hi hj]
theorem ln.slice {s n:Nat} {w:World} {v:Value} {cs:List Value} (h:ln s w v n cs):∃p c,v=.slice p n c:=by obtain⟨p,c,e,_⟩:=h;exact⟨p,c,e⟩
theorem lR {α:Type} [Inhabited α] {l:List α} {j:Nat} (h:j<l.length):eK l (j:Int)=some (ix l j):=by unfold eK;rw[if_pos ⟨by omega,by omega⟩];rfl
theorem jR {α:Type} [Inhabited α] {l:List α} {i:Int} (h:¬(0≤i∧i<l.length)):eK l i=none:=by unfold eK;rw[if_neg h]
def BS:eh:=⟨0,⟨0,0,false⟩⟩
def DH:dz:=⟨0,0,false⟩
def Ec:ff:=⟨0,false⟩
theorem yj (l:List eh) (v:Value) (i:Int) (w:World) (h:ln 4 w v l.length (l.flatMap lA)):Calls G.P 172 #[v,.int .i64 i] w fun e w'=>e=.returned (.tuple #[.agg (lA ((eK l i).getD BS)).toArray,.bool (eK l i).isSome])∧Ext w w':=by
 obtain⟨p,c,rfl⟩:=h.slice
 by_cases hin:0≤i∧i<l.length
 ·obtain⟨j,rfl⟩:=Int.eq_ofNat_of_zero_le hin.1
  have hj:j<l.length:=by omega
  obtain⟨b,o,rfl,hc⟩:=h.cells lA (fun _=>rfl) hj
  have e:=lR hj
  refine aj (l:=[.slice (some ⟨b,o,none⟩) l.length c,.int .i64 j]) Tryz.func172 rfl Tryz.ntmps172 rfl (Ok.start w) ?_
  refine aQ.kq (Cs b (o+j*4) (lA (ix l j))) (fun w' hw'=>by intro k hk;have:=hc k hk;rw[show(lA (ix l j))[k]?=some ((lA (ix l j))[k]'hk)from List.getElem?_eq_getElem hk]at this ⊢;exact(show Ext w w' from hw' _ ao).cell this) ?_
  dsimp only[lA]
  repeat'(first|refine ax ?_|(refine aa.alloc (t:=qC) [Value.slice none 0 0,Value.slice none 0 0] rfl rfl rfl fun b_=>?_)|(refine aa.alloc (t:=na) [Value.int .i64 0,Value.int .i64 0,Value.int .i64 0,Value.bool false] rfl rfl rfl fun b_=>?_)|(refine aa.alloc (t:=m9) [Value.int .i64 0,Value.int .i64 0,Value.bool false] rfl rfl rfl fun b_=>?_)|(refine aa.alloc (t:=m8) [Value.int .i64 0,Value.bool false] rfl rfl rfl fun b_=>?_)|(refine aO ?_ ?_<;>intro hc_))
  all_goals exact lm
 ·have e:=jR hin
  refine aj (l:=[.slice p l.length c,.int .i64 i]) Tryz.func172 rfl Tryz.ntmps172 rfl (Ok.start w) ?_
  repeat'(first|refine ax ?_|(refine aa.alloc (t:=qC) [Value.slice none 0 0,Value.slice none 0 0] rfl rfl rfl fun b_=>?_)|(refine aa.alloc (t:=na) [Value.int .i64 0,Value.int .i64 0,Value.int .i64 0,Value.bool false] rfl rfl rfl fun b_=>?_)|(refine aa.alloc (t:=m9) [Value.int .i64 0,Value.int .i64 0,Value.bool false] rfl rfl rfl fun b_=>?_)|(refine aa.alloc (t:=m8) [Value.int .i64 0,Value.bool false] rfl rfl rfl fun b_=>?_)|(refine aO ?_ ?_<;>intro hc_))
  all_goals exact lw
theorem ln.AU {w:World} {n:Nat} {p:Option Addr} {c:Nat} {l:List Int} (h:ln 1 w (.slice p n c) l.length (l.map (Value.int .i64))) {i:Nat} (hi:i<l.length):∃b o,p=some ⟨b,o,none⟩∧w.cell? ⟨b,o+i,none⟩=some (.int .i64 (ix l i)):=by
 obtain⟨p',c',e,hl,h⟩:=h
 cases e
 rcases h with h|⟨b,o,rfl,h⟩
 ·omega
 ·exact⟨b,o,rfl,by rw[h i G4,List.getElem?_map,gF hi];rfl⟩
theorem wE (l:List dz) (v:Value) (i:Int) (w:World) (h:ln 3 w v l.length (l.flatMap lx)):Calls G.P 175 #[v,.int .i64 i] w fun e w'=>e=.returned (.tuple #[.agg (lx ((eK l i).getD DH)).toArray,.bool (eK l i).isSome])∧Ext w w':=by
 obtain⟨p,c,rfl⟩:=h.slice
 by_cases hin:0≤i∧i<l.length
 ·obtain⟨j,rfl⟩:=Int.eq_ofNat_of_zero_le hin.1
  have hj:j<l.length:=by omega
  obtain⟨b,o,rfl,hc⟩:=h.cells lx (fun _=>rfl) hj
  have e:=lR hj
  refine aj (l:=[.slice (some ⟨b,o,none⟩) l.length c,.int .i64 j]) Tryz.func175 rfl Tryz.ntmps175 rfl (Ok.start w) ?_
  refine aQ.kq (Cs b (o+j*3) (lx (ix l j))) (fun w' hw'=>by intro k hk;have:=hc k hk;rw[show(lx (ix l j))[k]?=some ((lx (ix l j))[k]'hk)from List.getElem?_eq_getElem hk]at this ⊢;exact(show Ext w w' from hw' _ ao).cell this) ?_
  dsimp only[lx]
  repeat'(first|refine ax ?_|(refine aa.alloc (t:=qC) [Value.slice none 0 0,Value.slice none 0 0] rfl rfl rfl fun b_=>?_)|(refine aa.alloc (t:=na) [Value.int .i64 0,Value.int .i64 0,Value.int .i64 0,Value.bool false] rfl rfl rfl fun b_=>?_)|(refine aa.alloc (t:=m9) [Value.int .i64 0,Value.int .i64 0,Value.bool false] rfl rfl rfl fun b_=>?_)|(refine aa.alloc (t:=m8) [Value.int .i64 0,Value.bool false] rfl rfl rfl fun b_=>?_)|(refine aO ?_ ?_<;>intro hc_))
  all_goals exact lm
 ·have e:=jR hin
  refine aj (l:=[.slice p l.length c,.int .i64 i]) Tryz.func175 rfl Tryz.ntmps175 rfl (Ok.start w) ?_
  repeat'(first|refine ax ?_|(refine aa.alloc (t:=qC) [Value.slice none 0 0,Value.slice none 0 0] rfl rfl rfl fun b_=>?_)|(refine aa.alloc (t:=na) [Value.int .i64 0,Value.int .i64 0,Value.int .i64 0,Value.bool false] rfl rfl rfl fun b_=>?_)|(refine aa.alloc (t:=m9) [Value.int .i64 0,Value.int .i64 0,Value.bool false] rfl rfl rfl fun b_=>?_)|(refine aa.alloc (t:=m8) [Value.int .i64 0,Value.bool false] rfl rfl rfl fun b_=>?_)|(refine aO ?_ ?_<;>intro hc_))
  all_goals exact lw
theorem wB (l:List ff) (v:Value) (i:Int) (w:World) (h:ln 2 w v l.length (l.flatMap qh)):Calls G.P 173 #[v,.int .i64 i] w fun e w'=>e=.returned (.tuple #[.agg (qh ((eK l i).getD Ec)).toArray,.bool (eK l i).isSome])∧Ext w w':=by
 obtain⟨p,c,rfl⟩:=h.slice
 by_cases hin:0≤i∧i<l.length
 ·obtain⟨j,rfl⟩:=Int.eq_ofNat_of_zero_le hin.1
  have hj:j<l.length:=by omega
  obtain⟨b,o,rfl,hc⟩:=h.cells qh (fun _=>rfl) hj
  have e:=lR hj
  refine aj (l:=[.slice (some ⟨b,o,none⟩) l.length c,.int .i64 j]) Tryz.func173 rfl Tryz.ntmps173 rfl (Ok.start w) ?_
  refine aQ.kq (Cs b (o+j*2) (qh (ix l j))) (fun w' hw'=>by intro k hk;have:=hc k hk;rw[show(qh (ix l j))[k]?=some ((qh (ix l j))[k]'hk)from List.getElem?_eq_getElem hk]at this ⊢;exact(show Ext w w' from hw' _ ao).cell this) ?_
  dsimp only[qh]
  repeat'(first|refine ax ?_|(refine aa.alloc (t:=qC) [Value.slice none 0 0,Value.slice none 0 0] rfl rfl rfl fun b_=>?_)|(refine aa.alloc (t:=na) [Value.int .i64 0,Value.int .i64 0,Value.int .i64 0,Value.bool false] rfl rfl rfl fun b_=>?_)|(refine aa.alloc (t:=m9) [Value.int .i64 0,Value.int .i64 0,Value.bool false] rfl rfl rfl fun b_=>?_)|(refine aa.alloc (t:=m8) [Value.int .i64 0,Value.bool false] rfl rfl rfl fun b_=>?_)|(refine aO ?_ ?_<;>intro hc_))
  all_goals exact lm
 ·have e:=jR hin
  refine aj (l:=[.slice p l.length c,.int .i64 i]) Tryz.func173 rfl Tryz.ntmps173 rfl (Ok.start w) ?_
  repeat'(first|refine ax ?_|(refine aa.alloc (t:=qC) [Value.slice none 0 0,Value.slice none 0 0] rfl rfl rfl fun b_=>?_)|(refine aa.alloc (t:=na) [Value.int .i64 0,Value.int .i64 0,Value.int .i64 0,Value.bool false] rfl rfl rfl fun b_=>?_)|(refine aa.alloc (t:=m9) [Value.int .i64 0,Value.int .i64 0,Value.bool false] rfl rfl rfl fun b_=>?_)|(refine aa.alloc (t:=m8) [Value.int .i64 0,Value.bool false] rfl rfl rfl fun b_=>?_)|(refine aO ?_ ?_<;>intro hc_))
  all_goals exact lw
theorem yk (l:List Int) (v:Value) (i:Int) (w:World) (h:ln 1 w v l.length (l.map (Value.int .i64))):Calls G.P 170 #[v,.int .i64 i] w fun e w'=>e=.returned (.tuple #[.int .i64 ((eK l i).getD 0),.bool (eK l i).isSome])∧Ext w w':=by
 obtain⟨p,c,rfl⟩:=h.slice
 by_cases hin:0≤i∧i<l.length
 ·obtain⟨j,rfl⟩:=Int.eq_ofNat_of_zero_le hin.1
  have hj:j<l.length:=by omega
  obtain⟨b,o,rfl,hc⟩:=h.AU hj
  have e:=lR hj
  refine aj (l:=[.slice (some ⟨b,o,none⟩) l.length c,.int .i64 j]) Tryz.func170 rfl Tryz.ntmps170 rfl (Ok.start w) ?_
  repeat'(first|refine ax ?_|(refine aO ?_ ?_<;>intro hc_))
  all_goals exact ai.iD rfl rfl rfl fun w' hw'=>⟨by rw[e];rfl,hw'.at⟩
 ·have e:=jR hin
  refine aj (l:=[.slice p l.length c,.int .i64 i]) Tryz.func170 rfl Tryz.ntmps170 rfl (Ok.start w) ?_
  repeat'(first|refine ax ?_|(refine aO ?_ ?_<;>intro hc_))
  all_goals first|omega|exact ai.iD rfl rfl rfl fun w' hw'=>⟨by rw[e];rfl,hw'.at⟩
theorem Br (l:List Int) (v:Value) (i:Int) (w:World) (h:ln 1 w v l.length (l.map (Value.int .i64))):Calls G.P 174 #[v,.int .i64 i] w fun e w'=>e=.returned (.tuple #[.int .i64 ((eK l i).getD 0),.bool (eK l i).isSome])∧Ext w w':=by
 obtain⟨p,c,rfl⟩:=h.slice
 by_cases hin:0≤i∧i<l.length
 ·obtain⟨j,rfl⟩:=Int.eq_ofNat_of_zero_le hin.1
  have hj:j<l.length:=by omega
  obtain⟨b,o,rfl,hc⟩:=h.AU hj
  have e:=lR hj
  refine aj (l:=[.slice (some ⟨b,o,none⟩) l.length c,.int .i64 j]) Tryz.func174 rfl Tryz.ntmps174 rfl (Ok.start w) ?_
  repeat'(first|refine ax ?_|(refine aO ?_ ?_<;>intro hc_))
  all_goals exact ai.iD rfl rfl rfl fun w' hw'=>⟨by rw[e];rfl,hw'.at⟩
 ·have e:=jR hin
  refine aj (l:=[.slice p l.length c,.int .i64 i]) Tryz.func174 rfl Tryz.ntmps174 rfl (Ok.start w) ?_
  repeat'(first|refine ax ?_|(refine aO ?_ ?_<;>intro hc_))
  all_goals first|omega|exact ai.iD rfl rfl rfl fun w' hw'=>⟨by rw[e];rfl,hw'.at⟩
theorem qm {g g':Prop} (h:g') (hw:ek g'→g:=by(intro hk_;(first|(refine aa.ak (f:=81) ?_;refine aa.az rfl rfl rfl (fun w' hw'=>nK bS sp w' (h.s.aD (show Ext w w' from hw'.at) (fun h=>h))) ?_));exact hk_.out)):g:=hw ⟨h⟩
theorem ey (B:Nat) (m:ae) (v:Value) (i:Int) (w:World) (h:aR B m w v):Calls G.P 140 #[v,.int .i64 i] w fun e w'=>e=.returned (.tuple #[.agg (lA ((eK (dF m) i).getD BS)).toArray,.bool (eK (dF m) i).isSome])∧Ext w w':=by
 obtain⟨bS,sp,im,dm,vs,tc,ig,dg,rfl,-,h⟩:=h
 have hb:=gN h.bs
 have c2:w.cell? ⟨sp,2,none⟩=some vs.bv:=h.x.cell rfl
 have et:(qv m).tables=dF m:=by rw[mg]
 rw[et]at hb
 refine aj (l:=[_,_]) Tryz.func140 rfl Tryz.ntmps140 rfl (Ok.start w) ?_
 repeat'(first|refine ax ?_|(refine Gm fun b_=>?_)|refine qm ?_|(refine aa.ak (f:=172) ?_;refine aa.az rfl rfl rfl (fun w' hw'=>yj _ _ i w' (hb.ext hw'.at)) ?_)|fail)
 all_goals exact mp
theorem xE (B:Nat) (m:ae) (v:Value) (i:Int) (w:World) (h:aR B m w v):Calls G.P 145 #[v,.int .i64 i] w fun e w'=>e=.returned (.tuple #[.agg (lx ((eK (kM m) i).getD DH)).toArray,.bool (eK (kM m) i).isSome])∧Ext w w':=by
 obtain⟨bS,sp,im,dm,vs,tc,ig,dg,rfl,-,h⟩:=h
 have hb:=gN h.ms
 have c2:w.cell? ⟨sp,3,none⟩=some vs.mv:=h.x.cell rfl
 have et:(qv m).bO=kM m:=by rw[mg]
 rw[et]at hb
 refine aj (l:=[_,_]) Tryz.func145 rfl Tryz.ntmps145 rfl (Ok.start w) ?_
 repeat'(first|refine ax ?_|(refine Gm fun b_=>?_)|refine qm ?_|(refine aa.ak (f:=175) ?_;refine aa.az rfl rfl rfl (fun w' hw'=>wE _ _ i w' (hb.ext hw'.at)) ?_)|fail)
 all_goals exact mp
theorem hO (B:Nat) (m:ae) (v:Value) (i:Int) (w:World) (h:aR B m w v):Calls G.P 141 #[v,.int .i64 i] w fun e w'=>e=.returned (.tuple #[.agg (qh ((eK (iy m) i).getD Ec)).toArray,.bool (eK (iy m) i).isSome])∧Ext w w':=by
 obtain⟨bS,sp,im,dm,vs,tc,ig,dg,rfl,-,h⟩:=h
 have hb:=gN h.gs
 have c2:w.cell? ⟨sp,4,none⟩=some vs.gv:=h.x.cell rfl
 have et:(qv m).globals=iy m:=by rw[mg]
 rw[et]at hb
 refine aj (l:=[_,_]) Tryz.func141 rfl Tryz.ntmps141 rfl (Ok.start w) ?_
 repeat'(first|refine ax ?_|(refine Gm fun b_=>?_)|refine qm ?_|(refine aa.ak (f:=173) ?_;refine aa.az rfl rfl rfl (fun w' hw'=>wB _ _ i w' (hb.ext hw'.at)) ?_)|fail)
 all_goals exact mp
theorem vp (B:Nat) (m:ae) (v:Value) (i:Int) (w:World) (h:aR B m w v):Calls G.P 143 #[v,.int .i64 i] w fun e w'=>e=.returned (.tuple #[.int .i64 ((eK (iq m) i).getD 0),.bool (eK (iq m) i).isSome])∧Ext w w':=by
 obtain⟨bS,sp,im,dm,vs,tc,ig,dg,rfl,-,h⟩:=h
 have hb:=gN h.es
 have c2:w.cell? ⟨sp,5,none⟩=some vs.ev:=h.x.cell rfl
 have et:(qv m).elems=iq m:=by rw[mg]
 rw[et]at hb
 refine aj (l:=[_,_]) Tryz.func143 rfl Tryz.ntmps143 rfl (Ok.start w) ?_
 repeat'(first|refine ax ?_|refine qm ?_|(refine aa.ak (f:=174) ?_;refine aa.az rfl rfl rfl (fun w' hw'=>Br _ _ i w' (hb.ext hw'.at)) ?_)|fail)
 all_goals exact ai.iD rfl rfl rfl fun w' hw'=>⟨by rfl,hw'.at⟩
theorem tY (B:Nat) (m:ae) (v:Value) (w:World) (h:aR B m w v):Calls G.P 144 #[v] w fun e w'=>e=.returned (.int .i64 m.aS.length)∧Ext w w':=by
 obtain⟨bS,sp,im,dm,vs,tc,ig,dg,rfl,-,h⟩:=h
 have c2:w.cell? ⟨sp,6,none⟩=some (.int .i64 (qv m).aS):=h.x.cell rfl
 have et:(qv m).aS=m.aS.length:=by rw[mg]
 rw[et]at c2
 refine aj (l:=[_]) Tryz.func144 rfl Tryz.ntmps144 rfl (Ok.start w) ?_
 repeat'(first|refine ax ?_|refine qm ?_|fail)
 all_goals exact mt
theorem tZ (B:Nat) (m:ae) (v:Value) (w:World) (h:aR B m w v):Calls G.P 171 #[v] w fun e w'=>e=.returned (.int .i64 (gz m).length)∧Ext w w':=by
 obtain⟨bS,sp,im,dm,vs,tc,ig,dg,rfl,-,h⟩:=h
 have hb:=gN h.fs
 have c2:w.cell? ⟨sp,1,none⟩=some vs.fv:=h.x.cell rfl
 have et:(qv m).funcs=gz m:=by rw[mg]
 rw[et]at hb
 obtain⟨p,c,e⟩:=hb.slice
 rw[e]at c2
 refine aj (l:=[_]) Tryz.func171 rfl Tryz.ntmps171 rfl (Ok.start w) ?_
 repeat'(first|refine ax ?_|refine qm ?_|fail)
 all_goals exact mt
theorem kV (B:Nat) (m:ae) (v:Value) (i:Int) (w:World) (h:aR B m w v) (hi:gJ i):Calls G.P 139 #[v,.int .i64 i] w fun e w'=>e=.returned (.bool (tq m i))∧Ext w w':=by
 have h0:=h
 obtain⟨bS,sp,im,dm,vs,tc,ig,dg,rfl,-,h⟩:=h
 have c2:w.cell? ⟨sp,8,none⟩=some (.map (some dm)):=h.x.cell rfl
 have hd:=h.dec i
 refine aj (l:=[_,_]) Tryz.func139 rfl Tryz.ntmps139 rfl (Ok.start w) ?_
 repeat'(first|refine ax ?_|(refine aa.fh (f:=81) ?_;refine aa.dV xN rfl rfl rfl (fun w' hw'=>nK bS sp w' (h.s.aD (show Ext w w' from hw'.at) (fun h=>h))) ?_)|(refine aa.fh (f:=171) ?_;refine aa.dV xN rfl rfl rfl (fun w' hw'=>tZ B m _ w' (h0.aD (show Ext w w' from hw'.at) (fun _ _ h=>h))) ?_)|(refine aa.Ak ?_;refine aa.yg (by first|exact ux rfl dp) (Yl.Am (zv:=.bool false) Tryz.underlying82 Tryz.underlying3 (fun _=>rfl) rfl rfl hi h.dm ao) rfl ?_;rw[hd])|(refine aO ?_ ?_<;>intro hc_))
 all_goals exact ai.aA rfl rfl fun w' hw'=>⟨by unfold tq;by_cases a_:0≤i<;>by_cases b_:i<((gz m).length:Int)<;>first|omega|simp[a_,b_]|simp_all,hw'.at⟩
def zH (B:Nat) (f:aE) (x:Value×Value):List aV:=[.own B lq 1 x.1 f.params.length (f.params.map (Value.int .i64)),.own B lq 1 x.2 f.results.length (f.results.map (Value.int .i64))]
set_option maxHeartbeats 16000000 in
theorem lK (F:Nat→Prop) (B:Nat) (f:aE) (u0 u1:Value) (w:World) (h0:af F w u0 f.params) (h1:af F w u1 f.results) (hB:B≤w.heap.size):Calls G.P 23 #[.agg #[u0,u1]] w (aq [] w (fun x:Value×Value=>.agg #[x.1,x.2]) (fun _=>True) (zH B f)):=by
 obtain⟨p0,c0,rfl,l0⟩:=h0.slice
 obtain⟨p1,c1,rfl,l1⟩:=h1.slice
 refine aj (l:=[.agg #[.slice p0 f.params.length c0,.slice p1 f.results.length c1]]) Tryz.func23 rfl Tryz.ntmps23 rfl (Ok.start w) ?_
 refine dy ?_
 refine aa.box [.slice p0 f.params.length c0,.slice p1 f.results.length c1] rfl rfl rfl fun b1=>?_
 refine dy ?_
 refine aa.alloc [Value.slice none 0 0,Value.slice none 0 0] rfl rfl rfl fun b2=>?_
 refine dy ?_
 refine aQ.iC B lq 1 ?_
 refine aQ.iC B lq 1 ?_
 refine aQ.cA [0,1,3,4,2,5,6] 7 [.aJ b1 [.slice p0 f.params.length c0,.slice p1 f.results.length c1] qC] [Ext w] G7 bN aY ?_
 refine jM ?_
 refine aN.he (HE.kF (f.params.map (Value.int .i64)) rfl rfl (fun _=>bJ) (ow h0 ao) Hc rfl rfl rfl Hd Hd Hd (gL _) (by show(0+f.params.length)*8≤_;omega) Hb (fun w' hw'=>Nat.le_trans hB (show Ext w w' from hw'.at).size)) rfl (fun _=>bN) (fun _=>aY) ?_
 intro v1 _
 refine aN.he (HE.kF (f.results.map (Value.int .i64)) rfl rfl (fun _=>bJ) (ow h1 ao) Hc rfl rfl rfl Hd Hd Hd (gL _) (by show(0+f.results.length)*8≤_;omega) Hb (fun w' hw'=>Nat.le_trans hB (show Ext w w' from hw'.at).size)) rfl (fun _=>bN) (fun _=>aY) ?_
 intro v2 _
 refine aN.pure (φ:=(∃p c,v1=.slice p (0+f.params.length) c)∧∃p c,v2=.slice p (0+f.results.length) c) (fun w' hw'=>⟨?_,?_⟩) ?_
 ·obtain⟨p,c,e,_⟩:=av (hw'.own (v:=v1));exact⟨p,c,e⟩
 ·obtain⟨p,c,e,_⟩:=av (hw'.own (v:=v2));exact⟨p,c,e⟩
 rintro⟨⟨q1,d1,rfl⟩,⟨q2,d2,rfl⟩⟩
 refine jM ?_
 refine aN.hG (gj.aM _ rfl rfl rfl rfl rfl rfl bJ rfl) rfl ?_
 rintro⟨⟩ _
 simp only[Nat.zero_add,List.nil_append]
 refine dy ?_
 refine ai.fG (.inl rfl) rfl rfl rfl rfl rfl bJ rfl fun w' hw'=>aq.uy (x:=(Value.slice q1 f.params.length d1,Value.slice q2 f.results.length d2)) trivial hw' ?_ ao
 dsimp only[zH]
 exact bN
theorem uD (b o n c j n0 n1 y0 y1:Nat) (x0 x1:Option Addr) (w:World) (hj:j<n) (g0:w.cell? ⟨b,o+j*2,none⟩=some (.slice x0 n0 y0)) (g1:w.cell? ⟨b,o+j*2+1,none⟩=some (.slice x1 n1 y1)):Calls G.P 80 #[.slice (some ⟨b,o,none⟩) n c,.int .i64 j] w fun e w'=>e=.returned (.tuple #[.agg #[.slice x0 n0 y0,.slice x1 n1 y1],.bool true])∧Ext w w':=by
 refine aj (l:=[_,_]) Tryz.func80 rfl Tryz.ntmps80 rfl (Ok.start w) ?_
 refine aQ.kq (Cs b (o+j*2) [Value.slice x0 n0 y0,Value.slice x1 n1 y1]) (fun w' hw'=>by
  intro k hk
  have hx:Ext w w':=hw' _ ao
  match k,hk with
  |0,_=>exact hx.cell g0
  |1,_=>exact hx.cell g1) ?_
 repeat'(first|refine ax ?_|(refine Gm fun b_=>?_)|fail)
 all_goals exact mp
theorem tg (p:Option Addr) (n c:Nat) (i:Int) (w:World) (hin:¬(0≤i∧i<n)):Calls G.P 80 #[.slice p n c,.int .i64 i] w fun e w'=>e=.returned (.tuple #[.agg #[.slice none 0 0,.slice none 0 0],.bool false])∧Ext w w':=by
 refine aj (l:=[_,_]) Tryz.func80 rfl Tryz.ntmps80 rfl (Ok.start w) ?_
 repeat'(first|refine ax ?_|(refine Gm fun b_=>?_)|(refine aO ?_ ?_<;>intro hc_))
 all_goals first|omega|exact ai.bn (.inl rfl) rfl rfl rfl rfl rfl bJ rfl rfl fun w' hw'=>⟨by rfl,hw'.at⟩
theorem AX {m:ae} {i:Int} {B:Nat} {w:World} {tc:List Value} {tv:Value} (hr:ln 2 w tv m.types.length tc) (ht:jt B tc m.types w):∃p c,tv=.slice p m.types.length c∧((¬(0≤i∧i<m.types.length)∧eK m.types i=none)∨∃(j b o:Nat) (x0 x1:Option Addr) (y0 y1:Nat),i=j∧j<m.types.length∧p=some ⟨b,o,none⟩∧eK m.types i=some (ix m.types j)∧
  w.cell? ⟨b,o+j*2,none⟩=some (.slice x0 (ix m.types j).params.length y0)∧w.cell? ⟨b,o+j*2+1,none⟩=some (.slice x1 (ix m.types j).results.length y1)∧af (fun k=>B≤k) w (.slice x0 (ix m.types j).params.length y0) (ix m.types j).params∧af (fun k=>B≤k) w (.slice x1 (ix m.types j).results.length y1) (ix m.types j).results):=by
 obtain⟨p,c,rfl,hl,hr⟩:=hr
 refine⟨p,c,rfl,?_⟩
 by_cases hin:0≤i∧i<m.types.length
 ·obtain⟨j,rfl⟩:=Int.eq_ofNat_of_zero_le hin.1
  have hj:j<m.types.length:=by omega
  obtain⟨b,o,rfl,hc⟩:=hr.resolve_left Hb
  obtain⟨u0,u1,e1,e2,q0,q1⟩:=ht.2 j hj
  obtain⟨x0,y0,rfl,z0⟩:=q0.slice
  obtain⟨x1,y1,rfl,z1⟩:=q1.slice
  have hlt:j*2+1<tc.length:=(List.getElem?_eq_some_iff.1 e2).1
  exact .inr ⟨j,b,o,x0,x1,y0,y1,rfl,hj,rfl,lR hj,by rw[hc _ Hb,e1],by rw[Nat.add_assoc,hc _ hlt,e2],q0,q1⟩
 ·exact .inl ⟨hin,jR hin⟩
def xZ (B:Nat) (w:World) (r:Option aE):Ending→World→Prop:=aq [] w (fun x:Value×Value=>.tuple #[.agg #[x.1,x.2],.bool r.isSome]) (fun _=>True) (zH B (r.getD gG))
set_option maxHeartbeats 16000000 in
theorem nJ (B0 B:Nat) (m:ae) (v:Value) (i:Int) (w:World) (h:aR B0 m w v) (hB:B≤w.heap.size):Calls G.P 46 #[v,.int .i64 i] w (xZ B w (eK m.types i)):=by
 obtain⟨bS,sp,im,dm,vs,tc,ig,dg,rfl,-,h⟩:=h
 have hb:=gN h.ts
 have c2:w.cell? ⟨sp,0,none⟩=some vs.tv:=h.x.cell rfl
 obtain⟨p,c,e,hh⟩:=AX (i:=i) hb h.ty
 rw[e]at c2
 unfold xZ
 rcases hh with⟨hin,hat⟩|⟨j,b,o,x0,x1,y0,y1,rfl,hj,rfl,hat,g0,g1,q0,q1⟩
 ·rw[hat]
  refine aj (l:=[_,_]) Tryz.func46 rfl Tryz.ntmps46 rfl (Ok.start w) ?_
  repeat'(first|refine ax ?_|(refine Gm fun b_=>?_)|refine qm ?_|(refine aa.ak (f:=80) ?_;refine aa.az rfl rfl rfl (fun w' hw'=>tg p m.types.length c i w' hin) ?_)|fail)
  refine aa.he (HE.oI (M0:=[]) rfl rfl (fun w' hw'=>lK (fun _=>False) B gG _ _ w' (af.eJ _ _) (af.eJ _ _) (Nat.le_trans hB (show Ext w w' from hw'.at).size))) rfl ?_
  rintro⟨v1,v2⟩ _
  dsimp only[zH,List.cons_append,List.nil_append]
  refine aa.pure (φ:=(∃p c,v1=.slice p gG.params.length c)∧∃p c,v2=.slice p gG.results.length c) (fun w' hw'=>⟨?_,?_⟩) ?_
  ·obtain⟨p,c,e,_⟩:=av (hw'.own (v:=v1));exact⟨p,c,e⟩
  ·obtain⟨p,c,e,_⟩:=av (hw'.own (v:=v2));exact⟨p,c,e⟩
  rintro⟨⟨q1,d1,rfl⟩,⟨q2,d2,rfl⟩⟩
  repeat'(first|refine ax ?_|fail)
  exact ai.bn (.inl rfl) rfl rfl rfl rfl rfl bJ rfl rfl fun w' hw'=>aq.uy (x:=(Value.slice q1 gG.params.length d1,Value.slice q2 gG.results.length d2)) trivial hw' (by dsimp only[zH];exact bN) ao
 ·rw[hat]
  refine aj (l:=[_,_]) Tryz.func46 rfl Tryz.ntmps46 rfl (Ok.start w) ?_
  repeat'(first|refine ax ?_|(refine Gm fun b_=>?_)|refine qm ?_|(refine aa.ak (f:=80) ?_;refine aa.az rfl rfl rfl (fun w' hw'=>uD b o m.types.length c j _ _ y0 y1 x0 x1 w' hj ((show Ext w w' from hw'.at).cell g0) ((show Ext w w' from hw'.at).cell g1)) ?_)|fail)
  refine aa.he (HE.oI (M0:=[]) rfl rfl (fun w' hw'=>lK (fun k=>B0≤k) B (ix m.types j) _ _ w' (q0.aD (show Ext w w' from hw'.at) (fun _ _ _ h=>h)) (q1.aD (show Ext w w' from hw'.at) (fun _ _ _ h=>h)) (Nat.le_trans hB (show Ext w w' from hw'.at).size))) rfl ?_
  rintro⟨v1,v2⟩ _
  dsimp only[zH,List.cons_append,List.nil_append]
  refine aa.pure (φ:=(∃p c,v1=.slice p (ix m.types j).params.length c)∧∃p c,v2=.slice p (ix m.types j).results.length c) (fun w' hw'=>⟨?_,?_⟩) ?_
  ·obtain⟨p,c,e,_⟩:=av (hw'.own (v:=v1));exact⟨p,c,e⟩
  ·obtain⟨p,c,e,_⟩:=av (hw'.own (v:=v2));exact⟨p,c,e⟩
  rintro⟨⟨q1,d1,rfl⟩,⟨q2,d2,rfl⟩⟩
  repeat'(first|refine ax ?_|fail)
  exact ai.bn (.inl rfl) rfl rfl rfl rfl rfl bJ rfl rfl fun w' hw'=>aq.uy (x:=(Value.slice q1 (ix m.types j).params.length d1,Value.slice q2 (ix m.types j).results.length d2)) trivial hw' (by dsimp only[zH];exact bN) ao
theorem kG {M:List aV} {R:List (World→Prop)} {w0 w:World} {b T n c:Nat} {cs:List Value} {D:Nat→Prop} (xs:List Int) (h:Ok M R w) (hR:Ext w0∈R) (hD:∀k,w0.heap.size≤k→D k) (hm:aV.aJ b cs T∈M:=by repeat(first|with_reducible exact List.mem_cons_self|apply List.mem_cons_of_mem)) (hcs:cs=xs.map (Value.int .i64):=by rfl) (hn:n=xs.length:=by rfl) (hl:xs.length≤1000:=by simp):af D w (.slice (some ⟨b,0,none⟩) n c) xs:=by
 subst hcs hn
 have hb:dZ w b (xs.map (Value.int .i64)) T:=(h.m _ hm).1
 refine⟨_,c,rfl,by omega,.inr ⟨b,0,rfl,hD b ?_,fun i hi=>?_⟩⟩
 ·rcases Nat.lt_or_ge b w0.heap.size with hlt|hge
  ·exact(h.origin (S:=fun _=>False) hR b ⟨_,hm,rfl⟩ hlt).elim
  ·exact hge
 ·rw[Nat.zero_add];exact hb.cell (by rw[List.getElem?_map,gF hi];rfl)
theorem eP {p:Prop} (h:p:=by first|exact af.eJ _ _|exact kG _ hw' ao (hD:=fun _ h=>.inr h)):p:=h
theorem pK (e0:Int) (w:World):Calls G.P 106 #[.int .i64 e0] w fun e w'=>e=.returned (.tuple #[.agg #[.slice none 0 0,.slice none 0 0],.int .i64 e0])∧Ext w w':=by
 refine aj (l:=[_]) Tryz.func106 rfl Tryz.ntmps106 rfl (Ok.start w) ?_
 repeat'(first|refine ax ?_|(refine Gm fun b_=>?_)|fail)
 all_goals exact mp
theorem oy (p0 p1:Option Addr) (n0 n1 c0 c1:Nat) (w:World):Calls G.P 101 #[.slice p0 n0 c0,.slice p1 n1 c1] w fun e w'=>e=.returned (.tuple #[.agg #[.slice p0 n0 c0,.slice p1 n1 c1],.int .i64 0])∧Ext w w':=by
 refine aj (l:=[_,_]) Tryz.func101 rfl Tryz.ntmps101 rfl (Ok.start w) ?_
 repeat'(first|refine ax ?_|(refine Gm fun b_=>?_)|fail)
 all_goals exact mp
theorem kQ {g g':Prop} (h:g') (hw:ek g'→g:=by(intro hk_;(first|(refine aa.ak (f:=106) ?_;refine aa.az rfl rfl rfl (fun w' hw'=>pK _ w') ?_)|(refine aa.ak (f:=101) ?_;refine aa.az rfl rfl rfl (fun w' hw'=>oy _ _ _ _ _ _ w') ?_));exact hk_.out)):g:=hw ⟨h⟩
def fZ (locals:List Int) (x:bP):aE×Int:=if(locals.length:Int)≤x.a then(gG,11)else if x.op=32 then(⟨[],[ix locals x.a.toNat]⟩,0)else if x.op=33 then(⟨[ix locals x.a.toNat],[]⟩,0)else(⟨[ix locals x.a.toNat],[ix locals x.a.toNat]⟩,0)
def eA (m:ae) (x:bP):aE×Int:=match eK (iy m) x.a with
 |none=>(gG,11)
 |some g=>if x.op=35 then(⟨[],[g.pZ]⟩,0)else if g.xk=false then(gG,18)else(⟨[g.pZ],[]⟩,0)
def eE (m:ae) (x:bP):aE×Int:=match eK (dF m) x.a with
 |none=>(gG,11)
 |some t=>if x.op=37 then(⟨[1],[t.elem]⟩,0)else if x.op=38 then(⟨[1,t.elem],[]⟩,0)else if x.op=64528 then(⟨[],[1]⟩,0)else if x.op=64527 then(⟨[t.elem,1],[1]⟩,0)else(⟨[1,t.elem,1],[]⟩,0)
def gn (r:aE×Int) (F:Nat→Prop) (w:World):Ending→World→Prop:=fj (fa r.1) (fun y:Value×Value=>.tuple #[.agg #[y.1,y.2],.int .i64 r.2]) F w
set_option maxHeartbeats 4000000 in
theorem vj (F:Nat→Prop) (locals:List Int) (x:bP) (lp pt pl:Option Addr) (lc ct cl:Nat) (w:World) (hl:af F w (.slice lp locals.length lc) locals) (ha:0≤x.a):Calls G.P 102 #[.slice lp locals.length lc,.agg #[Value.int .i64 x.op,Value.int .i64 x.a,Value.int .i64 x.b,Value.int .u64 x.n,Value.int .i64 x.kind,Value.int .i64 x.val,Value.int .i64 x.index,Value.slice pt x.types.length ct,Value.slice pl x.labels.length cl]] w (gn (fZ locals x) (fun _=>False) w):=by
 obtain⟨op,a,b,n,kind,val,index,types,labels⟩:=x
 dsimp only at ha ⊢
 obtain⟨j,rfl⟩:=Int.eq_ofNat_of_zero_le ha
 by_cases hj:j<locals.length
 ·obtain⟨bk,o,rfl,hF,hc⟩:=hl.at hj
  have hcj:=hc j hj
  by_cases h1:op=32
  ·subst h1
   rw[show fZ locals ⟨32,(j:Nat),b,n,kind,val,index,types,labels⟩=(⟨[],[ix locals j]⟩,0)from by unfold fZ;dsimp only;rw[if_neg Hb,if_pos rfl,Int.toNat_natCast]]
   refine FK ?_
   repeat'(first|refine ax ?_|(refine Gl fun b_=>?_)|(refine gh fun b_ _=>?_)|refine kQ ?_|fail)
   all_goals exact ne
  ·by_cases h2:op=33
   ·subst h2
    rw[show fZ locals ⟨33,(j:Nat),b,n,kind,val,index,types,labels⟩=(⟨[ix locals j],[]⟩,0)from by unfold fZ;dsimp only;rw[if_neg Hb,if_neg h1,if_pos rfl,Int.toNat_natCast]]
    refine FK ?_
    repeat'(first|refine ax ?_|(refine Gl fun b_=>?_)|(refine gh fun b_ _=>?_)|refine kQ ?_|fail)
    all_goals exact ne
   ·rw[show fZ locals ⟨op,(j:Nat),b,n,kind,val,index,types,labels⟩=(⟨[ix locals j],[ix locals j]⟩,0)from by unfold fZ;dsimp only;rw[if_neg Hb,if_neg h1,if_neg h2,Int.toNat_natCast]]
    refine FK ?_
    repeat'(first|refine ax ?_|(refine Gl fun b_=>?_)|(refine gh fun b_ _=>?_)|refine kQ ?_|fail)
    all_goals exact ne
 ·rw[show fZ locals ⟨op,(j:Nat),b,n,kind,val,index,types,labels⟩=(gG,11)from if_pos G2]
  refine FK ?_
  repeat'(first|refine ax ?_|(refine Gl fun b_=>?_)|(refine gh fun b_ _=>?_)|refine kQ ?_|fail)
  all_goals exact ne
set_option maxHeartbeats 4000000 in
theorem tT (B:Nat) (m:ae) (v:Value) (x:bP) (pt pl:Option Addr) (ct cl:Nat) (w:World) (h:aR B m w v):Calls G.P 103 #[v,.agg #[Value.int .i64 x.op,Value.int .i64 x.a,Value.int .i64 x.b,Value.int .u64 x.n,Value.int .i64 x.kind,Value.int .i64 x.val,Value.int .i64 x.index,Value.slice pt x.types.length ct,Value.slice pl x.labels.length cl]] w (gn (eA m x) (fun _=>False) w):=by
 obtain⟨op,a,b,n,kind,val,index,types,labels⟩:=x
 dsimp only
 cases hg:eK (iy m) a with
 |none=>
  rw[show eA m ⟨op,a,b,n,kind,val,index,types,labels⟩=(gG,11)from by unfold eA;dsimp only;rw[hg]]
  refine FL ?_
  repeat'(first|refine ax ?_|(refine Gl fun b_=>?_)|(refine gh fun b_ _=>?_)|refine kQ ?_|(refine aa.ak (f:=141) ?_;refine aa.az (v:=.tuple #[.agg #[.int .i64 0,.bool false],.bool false]) rfl rfl rfl (fun w' hw'=>by have:=hO B m v a w' (h.aD (show Ext w w' from hw'.at) (fun _ _ h=>h));rw[hg]at this;exact this) ?_)|fail)
  all_goals exact ne
 |some g=>
  obtain⟨gv,gm⟩:=g
  by_cases h1:op=35
  ·subst h1
   rw[show eA m ⟨35,a,b,n,kind,val,index,types,labels⟩=(⟨[],[gv]⟩,0)from by unfold eA;dsimp only;rw[hg];rfl]
   refine FL ?_
   repeat'(first|refine ax ?_|(refine Gl fun b_=>?_)|(refine gh fun b_ _=>?_)|refine kQ ?_|(refine aa.ak (f:=141) ?_;refine aa.az (v:=.tuple #[.agg #[.int .i64 gv,.bool gm],.bool true]) rfl rfl rfl (fun w' hw'=>by have:=hO B m v a w' (h.aD (show Ext w w' from hw'.at) (fun _ _ h=>h));rw[hg]at this;exact this) ?_)|fail)
   all_goals exact ne
  ·cases gm with
   |false=>
    rw[show eA m ⟨op,a,b,n,kind,val,index,types,labels⟩=(gG,18)from by unfold eA;dsimp only;rw[hg];dsimp only;rw[if_neg h1,if_pos rfl]]
    refine FL ?_
    repeat'(first|refine ax ?_|(refine Gl fun b_=>?_)|(refine gh fun b_ _=>?_)|refine kQ ?_|(refine aa.ak (f:=141) ?_;refine aa.az (v:=.tuple #[.agg #[.int .i64 gv,.bool false],.bool true]) rfl rfl rfl (fun w' hw'=>by have:=hO B m v a w' (h.aD (show Ext w w' from hw'.at) (fun _ _ h=>h));rw[hg]at this;exact this) ?_)|fail)
    all_goals exact ne
   |true=>
    rw[show eA m ⟨op,a,b,n,kind,val,index,types,labels⟩=(⟨[gv],[]⟩,0)from by unfold eA;dsimp only;rw[hg];dsimp only;rw[if_neg h1,if_neg Ha]]
    refine FL ?_
    repeat'(first|refine ax ?_|(refine Gl fun b_=>?_)|(refine gh fun b_ _=>?_)|refine kQ ?_|(refine aa.ak (f:=141) ?_;refine aa.az (v:=.tuple #[.agg #[.int .i64 gv,.bool true],.bool true]) rfl rfl rfl (fun w' hw'=>by have:=hO B m v a w' (h.aD (show Ext w w' from hw'.at) (fun _ _ h=>h));rw[hg]at this;exact this) ?_)|fail)
    all_goals exact ne
theorem jT {w:World} {R:List (World→Prop)} {b o s:Nat} {cs:List Value} (hc:∀j,j<s→w.cell? ⟨b,o+j,none⟩=cs[j]?) (hl:cs.length=s) (hR:Ext w∈R):∀w',(∀r,r∈R→r w')→Cs b o cs w':=fun w' hw' k hk=>by
 have h:=hc k Hb
 rw[List.getElem?_eq_getElem hk]at h ⊢
 exact(show Ext w w' from hw' _ hR).cell h
theorem fa.shape {f:aE} {D:Nat→Prop} {w:World} {u0 u1:Value} (h:fa f D w (u0,u1)):(∃p c,u0=.slice p f.params.length c)∧∃p c,u1=.slice p f.results.length c:=by
 obtain⟨p,c,e,_⟩:=h.1.slice
 obtain⟨p2,c2,e2,_⟩:=h.2.slice
 exact⟨⟨p,c,e⟩,⟨p2,c2,e2⟩⟩
structure zF where
 D:Nat→Prop
 p:Option Addr
 c:Nat
 q:Option Addr
 d:Nat
def uw (f:aE) (x:zF):World→Prop:=fun w=>fa f x.D w (.slice x.p f.params.length x.c,.slice x.q f.results.length x.d)
section
variable {n:Nat} {E:Env} {M M':List aV} {R R':List (World→Prop)} {w:World}
theorem HE.AT {f0:aE} {tf:Value→Value→Value} {F:Nat→Prop} {w0:World} {f:Nat} {args:List Operand} {tys:Array TypeId} {vs:List Value} (hR:Ext w0∈R) (hF:∀k,F k→k<w0.heap.size) (hf:G.fb[f]?=some true) (ha:ju E args=some vs)
  (hc:∀w,Ok M R w→Calls G.P f vs.toArray w (fj (fa f0) (fun y:Value×Value=>tf y.1 y.2) F w)):
  HE n (.call ⟨.value (.func f),args.toArray,tys⟩) E M R (fun x:zF=>∀k,x.D k→F k∨w0.heap.size≤k) (fun x=>tf (.slice x.p f0.params.length x.c) (.slice x.q f0.results.length x.d)) (fun _=>M) (fun x=>uw f0 x::R):=
 ⟨fun w hw=>(bB.call hf ha (hc w hw) (fun e w' h=>by obtain⟨⟨x,e1,_⟩,_⟩:=h;exact⟨_,e1⟩)).mono fun v w' ⟨⟨⟨x1,x2⟩,e1,hv⟩,hx⟩=>by
  cases e1
  obtain⟨⟨p,c,rfl⟩,⟨q,d,rfl⟩⟩:=hv.shape
  refine⟨⟨fun k=>F k∨w.heap.size≤k,p,c,q,d⟩,?_,rfl,(hw.ext hx).add fun w2 h2=>fa.fr f0 hv h2 fun k hk1 hk hm=>?_⟩
  ·rintro k (h|h)
   ·exact .inl h
   ·exact .inr (Nat.le_trans (show Ext w0 w from hw.get hR).size h)
  ·rcases hk with hk|hk
   ·exact hw.origin (S:=fun _=>False) hR k hm (hF k hk)
   ·obtain⟨q,hq,hk'⟩:=hm
    have:=(hw.m q hq).2 k hk';omega⟩
theorem fj.nj {f0:aE} {tf:Value×Value→Value} {F:Nat→Prop} {w0 w':World} (x:zF) (h:Ok M R w') (hr:uw f0 x∈R) (hR:Ext w0∈R) (hD:∀k,x.D k→F k∨w0.heap.size≤k):fj (fa f0) tf F w0 (.returned (tf (.slice x.p f0.params.length x.c,.slice x.q f0.results.length x.d))) w':=
 ⟨⟨_,rfl,fa.mono (D:=x.D) (h.get hr) hD⟩,h.get hR⟩
theorem fj.Ed {tf:Value×Value→Value} {F:Nat→Prop} {w0 w':World} (h:Ok M R w') (hR:Ext w0∈R):fj (fa gG) tf F w0 (.returned (tf (.slice none 0 0,.slice none 0 0))) w':=⟨⟨_,rfl,fa.nil _ _⟩,h.get hR⟩
theorem BF {B:Nat} {f:aE} {x:Value×Value} {w:World} (h1:w.ownsRow B lq 1 x.1 f.params.length (f.params.map (Value.int .i64))) (h2:w.ownsRow B lq 1 x.2 f.results.length (f.results.map (Value.int .i64))) (l1:f.params.length≤17592186044416) (l2:f.results.length≤17592186044416):fa f (fun k=>B≤k) w x:=⟨jE h1 l1,jE h2 l2⟩
end
def kD (r:Option aE) (F:Nat→Prop) (w:World):Ending→World→Prop:=fj (fa (r.getD gG)) (fun x:Value×Value=>.tuple #[.agg #[x.1,x.2],.bool r.isSome]) F w
section
variable {n:Nat} {E:Env} {M:List aV} {R:List (World→Prop)} {w0:World} {f:Nat} {args:List Operand} {tys:Array TypeId} {vs:List Value} {F:Nat→Prop}
theorem HE.Ee {r:Option aE} (hR:Ext w0∈R) (hF:∀k,F k→k<w0.heap.size) (hf:G.fb[f]?=some true) (ha:ju E args=some vs) (hc:∀w,Ok M R w→Calls G.P f vs.toArray w (kD r F w)):
  HE n (.call ⟨.value (.func f),args.toArray,tys⟩) E M R (fun x:zF=>∀k,x.D k→F k∨w0.heap.size≤k) (fun x=>.tuple #[.agg #[.slice x.p (r.getD gG).params.length x.c,.slice x.q (r.getD gG).results.length x.d],.bool r.isSome]) (fun _=>M) (fun x=>uw (r.getD gG) x::R):=
 HE.AT (tf:=fun u v=>.tuple #[.agg #[u,v],.bool r.isSome]) hR hF hf ha hc
theorem HE.mf {r:Option aE} (hR:Ext w0∈R) (hf:G.fb[f]?=some true) (ha:ju E args=some vs) (hc:∀w,Ok M R w→Calls G.P f vs.toArray w (kD r (fun _=>False) w)):
  HE n (.call ⟨.value (.func f),args.toArray,tys⟩) E M R (fun x:zF=>∀k,x.D k→False∨w0.heap.size≤k) (fun x=>.tuple #[.agg #[.slice x.p (r.getD gG).params.length x.c,.slice x.q (r.getD gG).results.length x.d],.bool r.isSome]) (fun _=>M) (fun x=>uw (r.getD gG) x::R):=HE.Ee hR (fun _ h=>h.elim) hf ha hc
theorem HE.EY {r:aE×Int} (hR:Ext w0∈R) (hF:∀k,F k→k<w0.heap.size) (hf:G.fb[f]?=some true) (ha:ju E args=some vs) (hc:∀w,Ok M R w→Calls G.P f vs.toArray w (gn r F w)):
  HE n (.call ⟨.value (.func f),args.toArray,tys⟩) E M R (fun x:zF=>∀k,x.D k→F k∨w0.heap.size≤k) (fun x=>.tuple #[.agg #[.slice x.p r.1.params.length x.c,.slice x.q r.1.results.length x.d],.int .i64 r.2]) (fun _=>M) (fun x=>uw r.1 x::R):=
 HE.AT (tf:=fun u v=>.tuple #[.agg #[u,v],.int .i64 r.2]) hR hF hf ha hc
theorem HE.zp {r:aE×Int} (hR:Ext w0∈R) (hf:G.fb[f]?=some true) (ha:ju E args=some vs) (hc:∀w,Ok M R w→Calls G.P f vs.toArray w (gn r (fun _=>False) w)):
  HE n (.call ⟨.value (.func f),args.toArray,tys⟩) E M R (fun x:zF=>∀k,x.D k→False∨w0.heap.size≤k) (fun x=>.tuple #[.agg #[.slice x.p r.1.params.length x.c,.slice x.q r.1.results.length x.d],.int .i64 r.2]) (fun _=>M) (fun x=>uw r.1 x::R):=HE.EY hR (fun _ h=>h.elim) hf ha hc
end
theorem gB (B0:Nat) (m:ae) (v:Value) (i:Int) (w:World) (h:aR B0 m w v):Calls G.P 46 #[v,.int .i64 i] w (kD (eK m.types i) (fun _=>False) w):=by
 have hl:((eK m.types i).getD gG).params.length≤17592186044416∧((eK m.types i).getD gG).results.length≤17592186044416:=by
  obtain⟨bS,sp,im,dm,vs,tc,ig,dg,rfl,-,h⟩:=h
  obtain⟨p,c,e,hh⟩:=AX (i:=i) (gN h.ts) h.ty
  rcases hh with⟨-,hat⟩|⟨j,b,o,x0,x1,y0,y1,rfl,hj,rfl,hat,-,-,q0,q1⟩
  ·rw[hat];exact⟨by show 0≤_;omega,by show 0≤_;omega⟩
  ·rw[hat]
   obtain⟨_,_,_,h0⟩:=q0.slice
   obtain⟨_,_,_,h1⟩:=q1.slice
   exact⟨h0,h1⟩
 refine(nJ B0 w.heap.size m v i w h (Nat.le_refl _)).mono fun e w' ⟨x,e1,_,hok,hch,_⟩=>?_
 subst e1
 have hx:Ext w w':=hch.mono (fun k _ hk=>by obtain⟨q,hq,-⟩:=hk;simp at hq)
 refine⟨⟨x,rfl,fa.mono (BF ?_ ?_ hl.1 hl.2) fun k hk=>.inr hk⟩,hx⟩
 ·exact(hok.m (.own w.heap.size lq 1 x.1 _ _) (by simp[zH])).1
 ·exact(hok.m (.own w.heap.size lq 1 x.2 _ _) (by simp[zH])).1
theorem ke (B0:Nat) (m:ae) (v:Value) (i:Int) (w:World) (h:aR B0 m w v):Calls G.P 138 #[v,.int .i64 i] w (kD (jq m i) (fun _=>False) w):=by
 have h0:=h
 obtain⟨bS,sp,im,dm,vs,tc,ig,dg,rfl,-,h⟩:=h
 have hb:=gN h.fs
 have c2:w.cell? ⟨sp,1,none⟩=some vs.fv:=h.x.cell rfl
 have et:(qv m).funcs=gz m:=by rw[mg]
 rw[et]at hb
 cases hat:eK (gz m) i with
 |none=>
  rw[show jq m i=none from by unfold jq;rw[hat];rfl]
  refine aj (l:=[_,_]) Tryz.func138 rfl Tryz.ntmps138 rfl (Ok.start w) ?_
  repeat'(first|refine ax ?_|(refine Gm fun b_=>?_)|refine qm ?_|(refine aa.ak (f:=170) ?_;refine aa.az (v:=.tuple #[.int .i64 0,.bool false]) rfl rfl rfl (fun w' hw'=>by have:=yk _ _ i w' (hb.ext hw'.at);rw[hat]at this;exact this) ?_)|fail)
  all_goals exact ai.bn (.inl rfl) rfl rfl rfl rfl rfl bJ rfl rfl fun w' hw'=>fj.Ed (tf:=fun x:Value×Value=>.tuple #[.agg #[x.1,x.2],.bool false]) hw' ao
 |some t=>
  rw[show jq m i=eK m.types t from by unfold jq;rw[hat];rfl]
  refine aj (l:=[_,_]) Tryz.func138 rfl Tryz.ntmps138 rfl (Ok.start w) ?_
  repeat'(first|refine ax ?_|(refine Gm fun b_=>?_)|refine qm ?_|(refine aa.ak (f:=170) ?_;refine aa.az (v:=.tuple #[.int .i64 t,.bool true]) rfl rfl rfl (fun w' hw'=>by have:=yk _ _ i w' (hb.ext hw'.at);rw[hat]at this;exact this) ?_)|(refine aa.ak (f:=46) ?_;refine aa.he (HE.mf ao rfl rfl (fun w' hw'=>gB B0 m _ t w' (h0.aD (show Ext w w' from hw'.at) (fun _ _ h=>h)))) rfl ?_;rintro⟨D_,p_,c_,q_,d_⟩ hD_;dsimp only)|fail)
  all_goals exact ai.bn (.inl rfl) rfl rfl rfl rfl rfl bJ rfl rfl fun w' hw'=>fj.nj (tf:=fun x:Value×Value=>.tuple #[.agg #[x.1,x.2],.bool (eK m.types t).isSome]) ⟨D_,p_,c_,q_,d_⟩ hw' ao ao hD_
def dD (m:ae) (k v i:Int):Option aE:=if k=0 then some gG else if k=1 then(if kC v=true then some ⟨[],[v]⟩else none)else if k=2 then eK m.types i else none
theorem zk {g g':Prop} (h:g') (hw:ek g'→g:=by(intro hk_;(first|refine GF ?_|(refine aa.an ?_;refine aa.yg Hd (Yl.lu Tryz.underlying80 rfl rfl) rfl ?_));exact hk_.out)):g:=hw ⟨h⟩
set_option maxHeartbeats 4000000 in
theorem kU (B0:Nat) (m:ae) (v:Value) (k t i:Int) (w:World) (h:aR B0 m w v):Calls G.P 52 #[v,.agg #[.int .i64 k,.int .i64 t,.int .i64 i]] w (kD (dD m k t i) (fun _=>False) w):=by
 have h0:=h
 obtain⟨bS,sp,im,dm,vs,tc,ig,dg,rfl,-,h⟩:=h
 have c0:w.cell? ⟨bS,0,none⟩=some (.pointer (some ⟨sp,0,none⟩)):=h.s.cell rfl
 by_cases k0:k=0
 ·subst k0
  rw[show dD m 0 t i=some gG from rfl]
  refine FM ?_
  repeat'(first|refine ax ?_|(refine Gl fun b_=>?_)|(refine gh fun b_ _=>?_)|refine zk ?_|fail)
  all_goals exact ne
 ·by_cases k1:k=1
  ·subst k1
   cases hv:kC t with
   |true=>
    rw[show dD m 1 t i=some ⟨[],[t]⟩from by unfold dD;rw[if_neg Hb,if_pos rfl,if_pos hv]]
    refine FM ?_
    repeat'(first|refine ax ?_|(refine Gl fun b_=>?_)|(refine gh fun b_ _=>?_)|refine zk ?_|(refine aa.ak (f:=84) ?_;refine aa.az (v:=.bool true) rfl rfl rfl (fun w' hw'=>by have:=rk t w';rw[hv]at this;exact this) ?_)|fail)
    all_goals exact ne
   |false=>
    rw[show dD m 1 t i=none from by unfold dD;rw[if_neg Hb,if_pos rfl,if_neg (by rw[hv];decide)]]
    refine FM ?_
    repeat'(first|refine ax ?_|(refine Gl fun b_=>?_)|(refine gh fun b_ _=>?_)|refine zk ?_|(refine aa.ak (f:=84) ?_;refine aa.az (v:=.bool false) rfl rfl rfl (fun w' hw'=>by have:=rk t w';rw[hv]at this;exact this) ?_)|fail)
    all_goals exact ne
  ·by_cases k2:k=2
   ·subst k2
    rw[show dD m 2 t i=eK m.types i from by unfold dD;rw[if_neg Hb,if_neg Hb,if_pos rfl]]
    refine FM ?_
    repeat'(first|refine ax ?_|(refine Gl fun b_=>?_)|(refine gh fun b_ _=>?_)|refine zk ?_|(refine aa.ak (f:=46) ?_;refine aa.he (HE.mf ao rfl rfl (fun w' hw'=>gB B0 m _ i w' (h0.aD (show Ext w w' from hw'.at) (fun _ _ h=>h)))) rfl ?_;rintro⟨D_,p_,c_,q_,d_⟩ hD_;dsimp only)|fail)
    all_goals(refine ai.bn (.inl rfl) rfl rfl rfl rfl rfl bJ rfl rfl ?_;exact fun w' hw'=>fj.nj (tf:=fun x:Value×Value=>.tuple #[.agg #[x.1,x.2],.bool (eK m.types i).isSome]) ⟨D_,p_,c_,q_,d_⟩ hw' ao ao hD_)
   ·rw[show dD m k t i=none from by unfold dD;rw[if_neg k0,if_neg k1,if_neg k2]]
    refine FM ?_
    repeat'(first|refine ax ?_|(refine Gl fun b_=>?_)|(refine gh fun b_ _=>?_)|refine zk ?_|fail)
    all_goals exact ne
def cr (m:ae) (x:bP):aE×Int:=match jq m x.a with
 |none=>(gG,11)
 |some f=>if x.op=16 then(f,0)else if tq m x.a=true then(⟨[],[3]⟩,0)else(gG,22)
set_option maxHeartbeats 4000000 in
theorem qo (B:Nat) (m:ae) (v:Value) (x:bP) (pt pl:Option Addr) (ct cl:Nat) (w:World) (h:aR B m w v) (ha:gJ x.a):Calls G.P 99 #[v,.agg #[Value.int .i64 x.op,Value.int .i64 x.a,Value.int .i64 x.b,Value.int .u64 x.n,Value.int .i64 x.kind,Value.int .i64 x.val,Value.int .i64 x.index,Value.slice pt x.types.length ct,Value.slice pl x.labels.length cl]] w (gn (cr m x) (fun _=>False) w):=by
 obtain⟨op,a,b,n,kind,val,index,types,labels⟩:=x
 dsimp only at ha ⊢
 cases hf:jq m a with
 |none=>
  rw[show cr m ⟨op,a,b,n,kind,val,index,types,labels⟩=(gG,11)from by unfold cr;dsimp only;rw[hf]]
  refine FN ?_
  repeat'(first|refine ax ?_|(refine Gl fun b_=>?_)|(refine gh fun b_ _=>?_)|refine kQ ?_|(refine aa.ak (f:=138) ?_;refine aa.he (HE.mf (r:=none) ao rfl rfl (fun w' hw'=>by have:=ke B m v a w' (h.aD (show Ext w w' from hw'.at) (fun _ _ h=>h));rw[hf]at this;exact this)) rfl ?_;rintro⟨D_,p_,c_,q_,d_⟩ hD_;dsimp only)|fail)
  all_goals exact ne
 |some f=>
  by_cases h1:op=16
  ·subst h1
   rw[show cr m ⟨16,a,b,n,kind,val,index,types,labels⟩=(f,0)from by unfold cr;dsimp only;rw[hf];rfl]
   refine FN ?_
   repeat'(first|refine ax ?_|(refine Gl fun b_=>?_)|(refine gh fun b_ _=>?_)|refine kQ ?_|(refine aa.ak (f:=138) ?_;refine aa.he (HE.mf (r:=some f) ao rfl rfl (fun w' hw'=>by have:=ke B m v a w' (h.aD (show Ext w w' from hw'.at) (fun _ _ h=>h));rw[hf]at this;exact this)) rfl ?_;rintro⟨D_,p_,c_,q_,d_⟩ hD_;dsimp only)|fail)
   all_goals(refine ai.bn (.inl rfl) rfl rfl rfl rfl rfl bJ rfl rfl ?_;exact fun w' hw'=>fj.nj (f0:=(some f).getD gG) (tf:=fun x:Value×Value=>.tuple #[.agg #[x.1,x.2],.int .i64 0]) ⟨D_,p_,c_,q_,d_⟩ hw' ao ao hD_)
  ·cases hd:tq m a with
   |true=>
    rw[show cr m ⟨op,a,b,n,kind,val,index,types,labels⟩=(⟨[],[3]⟩,0)from by unfold cr;dsimp only;rw[hf];dsimp only;rw[if_neg h1,if_pos hd]]
    refine FN ?_
    repeat'(first|refine ax ?_|(refine Gl fun b_=>?_)|(refine gh fun b_ _=>?_)|refine kQ ?_|(refine aa.ak (f:=138) ?_;refine aa.he (HE.mf (r:=some f) ao rfl rfl (fun w' hw'=>by have:=ke B m v a w' (h.aD (show Ext w w' from hw'.at) (fun _ _ h=>h));rw[hf]at this;exact this)) rfl ?_;rintro⟨D_,p_,c_,q_,d_⟩ hD_;dsimp only)|(refine aa.ak (f:=139) ?_;refine aa.az (v:=.bool true) rfl rfl rfl (fun w' hw'=>by have:=kV B m v a w' (h.aD (show Ext w w' from hw'.at) (fun _ _ h=>h)) ha;rw[hd]at this;exact this) ?_)|fail)
    all_goals exact ne
   |false=>
    rw[show cr m ⟨op,a,b,n,kind,val,index,types,labels⟩=(gG,22)from by unfold cr;dsimp only;rw[hf];dsimp only;rw[if_neg h1,if_neg (by rw[hd];decide)]]
    refine FN ?_
    repeat'(first|refine ax ?_|(refine Gl fun b_=>?_)|(refine gh fun b_ _=>?_)|refine kQ ?_|(refine aa.ak (f:=138) ?_;refine aa.he (HE.mf (r:=some f) ao rfl rfl (fun w' hw'=>by have:=ke B m v a w' (h.aD (show Ext w w' from hw'.at) (fun _ _ h=>h));rw[hf]at this;exact this)) rfl ?_;rintro⟨D_,p_,c_,q_,d_⟩ hD_;dsimp only)|(refine aa.ak (f:=139) ?_;refine aa.az (v:=.bool false) rfl rfl rfl (fun w' hw'=>by have:=kV B m v a w' (h.aD (show Ext w w' from hw'.at) (fun _ _ h=>h)) ha;rw[hd]at this;exact this) ?_)|fail)
    all_goals exact ne
set_option maxHeartbeats 4000000 in
theorem tU (B:Nat) (m:ae) (v:Value) (x:bP) (pt pl:Option Addr) (ct cl:Nat) (w:World) (h:aR B m w v) (hop:x.op=37∨x.op=38∨x.op=64528∨x.op=64527∨x.op=64529):Calls G.P 104 #[v,.agg #[Value.int .i64 x.op,Value.int .i64 x.a,Value.int .i64 x.b,Value.int .u64 x.n,Value.int .i64 x.kind,Value.int .i64 x.val,Value.int .i64 x.index,Value.slice pt x.types.length ct,Value.slice pl x.labels.length cl]] w (gn (eE m x) (fun _=>False) w):=by
 obtain⟨op,a,b,n,kind,val,index,types,labels⟩:=x
 dsimp only at hop ⊢
 cases hg:eK (dF m) a with
 |none=>
  rw[show eE m ⟨op,a,b,n,kind,val,index,types,labels⟩=(gG,11)from by unfold eE;dsimp only;rw[hg]]
  refine aj (l:=[_,_]) Tryz.func104 rfl Tryz.ntmps104 rfl (Ok.start w) ?_
  repeat'(first|refine ax ?_|(refine Gl fun b_=>?_)|(refine gh fun b_ _=>?_)|refine kQ ?_|(refine aa.ak (f:=140) ?_;refine aa.az (v:=.tuple #[.agg #[.int .i64 0,.int .i64 0,.int .i64 0,.bool false],.bool false]) rfl rfl rfl (fun w' hw'=>by have:=ey B m v a w' (h.aD (show Ext w w' from hw'.at) (fun _ _ h=>h));rw[hg]at this;exact this) ?_)|fail)
  all_goals exact ne
 |some g=>
  obtain⟨te,l1,l2,l3⟩:=g
  rcases hop with rfl|rfl|rfl|rfl|rfl
  all_goals
   first|rw[show eE m ⟨37,a,b,n,kind,val,index,types,labels⟩=(⟨[1],[te]⟩,0)from by unfold eE;dsimp only;rw[hg];rfl]|rw[show eE m ⟨38,a,b,n,kind,val,index,types,labels⟩=(⟨[1,te],[]⟩,0)from by unfold eE;dsimp only;rw[hg];rfl]|rw[show eE m ⟨64528,a,b,n,kind,val,index,types,labels⟩=(⟨[],[1]⟩,0)from by unfold eE;dsimp only;rw[hg];rfl]|rw[show eE m ⟨64527,a,b,n,kind,val,index,types,labels⟩=(⟨[te,1],[1]⟩,0)from by unfold eE;dsimp only;rw[hg];rfl]|rw[show eE m ⟨64529,a,b,n,kind,val,index,types,labels⟩=(⟨[1,te,1],[]⟩,0)from by unfold eE;dsimp only;rw[hg];rfl]
   refine aj (l:=[_,_]) Tryz.func104 rfl Tryz.ntmps104 rfl (Ok.start w) ?_
   repeat'(first|refine ax ?_|(refine Gl fun b_=>?_)|(refine gh fun b_ _=>?_)|refine kQ ?_|(refine aa.ak (f:=140) ?_;refine aa.az (v:=.tuple #[.agg #[.int .i64 te,.int .i64 l1,.int .i64 l2,.bool l3],.bool true]) rfl rfl rfl (fun w' hw'=>by have:=ey B m v a w' (h.aD (show Ext w w' from hw'.at) (fun _ _ h=>h));rw[hg]at this;exact this) ?_)|fail)
   all_goals exact ne
theorem Bt {M:List aV} {R:List (World→Prop)} {b T:Nat} {cs:List Value} (hM:aV.aJ b cs T∈M):∀w,Ok M R w→∀j u,cs[j]?=some u→w.cell? ⟨b,0+j,none⟩=some u:=fun w hw j u hj=>by rw[Nat.zero_add];exact dZ.cell (hw.m (.aJ b cs T) hM).1 hj
def dk (m:ae) (x:bP):aE×Int:=match eK m.types x.a,eK (dF m) x.b with
 |some f,some t=>if t.elem≠3 then(gG,12)else(⟨f.params++[1],f.results⟩,0)
 |_,_=>(gG,11)
theorem xB (B:Nat) (m:ae) (v:Value) (x:bP) (pt pl:Option Addr) (ct cl:Nat) (w:World) (h:aR B m w v) (hp:∀w',Ext w w'→Calls G.P 83 #[.agg #[Value.int .i64 x.op,Value.int .i64 x.a,Value.int .i64 x.b,Value.int .u64 x.n,Value.int .i64 x.kind,Value.int .i64 x.val,Value.int .i64 x.index,Value.slice pt x.types.length ct,Value.slice pl x.labels.length cl]] w' fun e w2=>e=.returned (.bool (db x))∧Ext w' w2):Calls G.P 51 #[v,.agg #[Value.int .i64 x.op,Value.int .i64 x.a,Value.int .i64 x.b,Value.int .u64 x.n,Value.int .i64 x.kind,Value.int .i64 x.val,Value.int .i64 x.index,Value.slice pt x.types.length ct,Value.slice pl x.labels.length cl]] w fun e w'=>e=.returned (.int .i64 (if db x=false then 10 else 0))∧Ext w w':=by
 cases hx:db x with
 |true=>
  rw[hx]at hp
  refine aj (l:=[_,_]) Tryz.func51 rfl Tryz.ntmps51 rfl (Ok.start w) ?_
  repeat'(first|refine ax ?_|(refine Gl fun b_=>?_)|(refine aa.ak (f:=52) ?_;refine aa.he (HE.mf (r:=some gG) ao rfl rfl (fun w' hw'=>kU B m v 0 0 0 w' (h.aD (show Ext w w' from hw'.at) (fun _ _ h=>h)))) rfl ?_;rintro⟨D_,p_,c_,q_,d_⟩ hD_;dsimp only)|(refine aa.ak (f:=83) ?_;refine aa.az rfl rfl rfl (fun w' hw'=>hp w' hw'.at) ?_)|fail)
  all_goals exact ap
 |false=>
  rw[hx]at hp
  refine aj (l:=[_,_]) Tryz.func51 rfl Tryz.ntmps51 rfl (Ok.start w) ?_
  repeat'(first|refine ax ?_|(refine Gl fun b_=>?_)|(refine aa.ak (f:=52) ?_;refine aa.he (HE.mf (r:=some gG) ao rfl rfl (fun w' hw'=>kU B m v 0 0 0 w' (h.aD (show Ext w w' from hw'.at) (fun _ _ h=>h)))) rfl ?_;rintro⟨D_,p_,c_,q_,d_⟩ hD_;dsimp only)|(refine aa.ak (f:=83) ?_;refine aa.az rfl rfl rfl (fun w' hw'=>hp w' hw'.at) ?_)|fail)
  all_goals exact ap
set_option maxHeartbeats 4000000 in
theorem qp (B:Nat) (m:ae) (v:Value) (x:bP) (pt pl:Option Addr) (ct cl:Nat) (w:World) (h:aR B m w v) (hL:∀f,eK m.types x.a=some f→f.params.length≤17592186043904∧f.results.length≤17592186044416):Calls G.P 100 #[v,.agg #[Value.int .i64 x.op,Value.int .i64 x.a,Value.int .i64 x.b,Value.int .u64 x.n,Value.int .i64 x.kind,Value.int .i64 x.val,Value.int .i64 x.index,Value.slice pt x.types.length ct,Value.slice pl x.labels.length cl]] w (gn (dk m x) (fun _=>False) w):=by
 obtain⟨op,a,b,n,kind,val,index,types,labels⟩:=x
 dsimp only at hL ⊢
 cases hf:eK m.types a with
 |none=>
  rw[show dk m ⟨op,a,b,n,kind,val,index,types,labels⟩=(gG,11)from by unfold dk;dsimp only;rw[hf]]
  refine FO ?_
  repeat'(first|refine ax ?_|(refine Gl fun b_=>?_)|refine kQ ?_|(refine aa.ak (f:=46) ?_;refine aa.he (HE.mf (r:=none) ao rfl rfl (fun w' hw'=>by have:=gB B m v a w' (h.aD (show Ext w w' from hw'.at) (fun _ _ h=>h));rw[hf]at this;exact this)) rfl ?_;rintro⟨D_,p_,c_,q_,d_⟩ hD_;dsimp only)|(refine aa.ak (f:=140) ?_;refine aa.az rfl rfl rfl (fun w' hw'=>ey B m v b w' (h.aD (show Ext w w' from hw'.at) (fun _ _ h=>h))) ?_)|fail)
  all_goals exact ol
 |some f=>
  have hl:=hL f hf
  cases hg:eK (dF m) b with
  |none=>
   rw[show dk m ⟨op,a,b,n,kind,val,index,types,labels⟩=(gG,11)from by unfold dk;dsimp only;rw[hf,hg]]
   refine FO ?_
   repeat'(first|refine ax ?_|(refine Gl fun b_=>?_)|refine kQ ?_|(refine aa.ak (f:=46) ?_;refine aa.he (HE.mf (r:=some f) ao rfl rfl (fun w' hw'=>by have:=gB B m v a w' (h.aD (show Ext w w' from hw'.at) (fun _ _ h=>h));rw[hf]at this;exact this)) rfl ?_;rintro⟨D_,p_,c_,q_,d_⟩ hD_;dsimp only)|(refine aa.ak (f:=140) ?_;refine aa.az (v:=.tuple #[.agg #[.int .i64 0,.int .i64 0,.int .i64 0,.bool false],.bool false]) rfl rfl rfl (fun w' hw'=>by have:=ey B m v b w' (h.aD (show Ext w w' from hw'.at) (fun _ _ h=>h));rw[hg]at this;exact this) ?_)|fail)
   all_goals exact ol
  |some g=>
   obtain⟨te,l1,l2,l3⟩:=g
   by_cases h3:te=3
   ·subst h3
    rw[show dk m ⟨op,a,b,n,kind,val,index,types,labels⟩=(⟨f.params++[1],f.results⟩,0)from by unfold dk;dsimp only;rw[hf,hg];rfl]
    refine FO ?_
    repeat'(first|refine ax ?_|(refine Gl fun b_=>?_)|(refine aa.ak (f:=140) ?_;refine aa.az (v:=.tuple #[.agg #[.int .i64 3,.int .i64 l1,.int .i64 l2,.bool l3],.bool true]) rfl rfl rfl (fun w' hw'=>by have:=ey B m v b w' (h.aD (show Ext w w' from hw'.at) (fun _ _ h=>h));rw[hg]at this;exact this) ?_)|fail)
    refine aa.he (HE.oI (M0:=[]) rfl rfl (fun w' hw'=>by have:=nJ B w.heap.size m v a w' (h.aD (show Ext w w' from hw'.at) (fun _ _ h=>h)) (show Ext w w' from hw'.at).size;rw[hf]at this;exact this)) rfl ?_
    rintro⟨v1,v2⟩ _
    dsimp only[zH,List.cons_append,List.nil_append,Option.getD_some]
    refine aa.pure (φ:=(∃p c,v1=.slice p f.params.length c)∧∃p c,v2=.slice p f.results.length c∧f.results.length≤17592186044416) (fun w' hw'=>⟨?_,?_⟩) ?_
    ·obtain⟨p,c,e,_⟩:=av (hw'.own (v:=v1));exact⟨p,c,e⟩
    ·obtain⟨p,c,e,_⟩:=av (hw'.own (v:=v2));exact⟨p,c,e,hl.2⟩
    rintro⟨⟨q1,d1,rfl⟩,⟨q2,d2,rfl,hl2⟩⟩
    repeat'(first|refine ax ?_|(refine Gm fun b_=>?_)|(refine aa.ak (f:=140) ?_;refine aa.az (v:=.tuple #[.agg #[.int .i64 3,.int .i64 l1,.int .i64 l2,.bool l3],.bool true]) rfl rfl rfl (fun w' hw'=>by have:=ey B m v b w' (h.aD (show Ext w w' from hw'.at) (fun _ _ h=>h));rw[hg]at this;exact this) ?_)|fail)
    rename_i b6
    refine aQ.de [.aJ b6 [.slice q1 f.params.length d1,.slice q2 f.results.length d2] qC] [Ext w] bN aY ?_
    repeat'(first|refine uo ?_|(refine aI.wX ?_;refine aI.he rfl rfl (HE.ml rfl rfl rfl rfl rfl fT Hd Hd) (fun _=>bN) (fun _=>aY) ?_;rintro b7 _)|(refine aI.wW ?_;refine aI.he rfl rfl (HE.kF [.int .i64 1] rfl rfl (fun _=>bJ) (.inr ⟨_,0,rfl,Bt gi⟩) rfl rfl rfl rfl Hd Hd Hd (fun u hu=>by rw[List.mem_singleton.1 hu];rfl) (by show(f.params.length+1)*8≤_;omega) Hb (fun w' hw'=>(show Ext w w' from hw'.at).size)) (fun _=>bN) (fun _=>aY) ?_;rintro v9 _;refine aK.pure (φ:=∃p c,v9=.slice p (f.params.length+1) c) (fun w' hw'=>by obtain⟨p,c,e,_⟩:=av (hw'.own (v:=v9));exact⟨p,c,e⟩) ?_;rintro⟨p9,c9,rfl⟩)|(refine aI.eU 101 ?_;refine aI.he rfl rfl (HE.kp rfl rfl (fun w' hw'=>oy p9 q2 (f.params.length+1) f.results.length c9 d2 w')) (fun _=>bN) (fun _=>aY) ?_;rintro⟨⟩ _)|(refine aI.yF ?_;refine aI.m6 rfl (gj.aM _ rfl rfl rfl rfl rfl rfl bJ rfl) (fun _=>bN) (fun _=>aY) ?_;rintro⟨⟩ _)|refine aK.nil G6 ?_|refine aK.any G6 ?_|exact aC.fin rfl|refine aC.skip G6 ?_|refine aC.go ?_ ?_)
    all_goals
     repeat'(first|refine ax ?_|fail)
     refine ai.bn (.inl rfl) rfl rfl rfl rfl rfl bJ rfl rfl ?_
     intro w' hw'
     have g1:af (fun k=>w.heap.size≤k) w' (.slice p9 (f.params.length+1) c9) (f.params++[1]):=jE (xs:=f.params++[1]) (by have:=hw'.own (B:=w.heap.size) (T:=lq) (s:=1) (v:=.slice p9 (f.params.length+1) c9);simpa using this) (by simp;omega)
     have g2:af (fun k=>w.heap.size≤k) w' (.slice q2 f.results.length d2) f.results:=jE (hw'.own (B:=w.heap.size) (T:=lq) (s:=1) (v:=.slice q2 f.results.length d2)) hl2
     exact⟨⟨(_,_),rfl,g1.mono fun _ _ h=>.inr h,g2.mono fun _ _ h=>.inr h⟩,hw'.at⟩
   ·rw[show dk m ⟨op,a,b,n,kind,val,index,types,labels⟩=(gG,12)from by unfold dk;dsimp only;rw[hf,hg];dsimp only;rw[if_pos h3]]
    refine FO ?_
    repeat'(first|refine ax ?_|(refine Gl fun b_=>?_)|refine kQ ?_|(refine aa.ak (f:=46) ?_;refine aa.he (HE.mf (r:=some f) ao rfl rfl (fun w' hw'=>by have:=gB B m v a w' (h.aD (show Ext w w' from hw'.at) (fun _ _ h=>h));rw[hf]at this;exact this)) rfl ?_;rintro⟨D_,p_,c_,q_,d_⟩ hD_;dsimp only)|(refine aa.ak (f:=140) ?_;refine aa.az (v:=.tuple #[.agg #[.int .i64 te,.int .i64 l1,.int .i64 l2,.bool l3],.bool true]) rfl rfl rfl (fun w' hw'=>by have:=ey B m v b w' (h.aD (show Ext w w' from hw'.at) (fun _ _ h=>h));rw[hg]at this;exact this) ?_)|fail)
    all_goals exact ol
end Go.Proofs.YtceedealggognaaGreatDoor
