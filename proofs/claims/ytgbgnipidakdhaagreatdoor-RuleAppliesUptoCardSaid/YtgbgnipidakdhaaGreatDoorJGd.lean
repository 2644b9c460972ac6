/- What the index spaces answer. -/
import Derived.Test.YtgbgnipidakdhaaGreatDoorJGr
import Derived.Test.YtgbgnipidakdhaaGreatDoorJSf
import Derived.Test.YtgbgnipidakdhaaGreatDoorJAw
namespace Go.Proofs.YtgbgnipidakdhaaGreatDoor
open Go.RowKit
set_option maxRecDepth 100000
def nq (s:Nat) (w:World) (v:Value) (n:Nat) (cs:List Value):Prop:=∃p c,v=.slice p n c∧cs.length=n*s∧(n=0∨∃b o,p=some ⟨b,o,none⟩∧∀j,j<cs.length→w.cell? ⟨b,o+j,none⟩=cs[j]?)
theorem nq.ext {s n:Nat} {w w':World} {v:Value} {cs:List Value} (h:nq s w v n cs) (hx:Ext w w'):nq s w' v n cs:=by
 obtain⟨p,c,rfl,hl,h⟩:=h
 refine⟨p,c,rfl,hl,?_⟩
 rcases h with h|⟨b,o,rfl,h⟩
 ·exact .inl h
 ·exact .inr ⟨b,o,rfl,fun j hj=>by rw[List.getElem?_eq_getElem hj];exact hx.cell (by rw[h j hj,List.getElem?_eq_getElem hj])⟩
theorem jx {B T s n:Nat} {w:World} {v:Value} {cs:List Value} (h:w.ownsRow B T s v n cs):nq s w v n cs:=by
 obtain⟨p,c,rfl,_,_,hg⟩:=ax h
 refine⟨p,c,rfl,h.1,?_⟩
 by_cases h0:n=0
 ·exact .inl h0
 ·obtain⟨g,rfl,_,_⟩:=hg (Nat.pos_of_ne_zero h0)
  exact .inr ⟨g,0,rfl,fun j hj=>by rw[Nat.zero_add,List.getElem?_eq_getElem hj];exact dP h (List.getElem?_eq_getElem hj)⟩
theorem nq.cells {α:Type} [Inhabited α] {s n:Nat} {w:World} {p:Option Addr} {c:Nat} {l:List α} (cf:α→List Value) (hs:∀x,(cf x).length=s) (h:nq s w (.slice p n c) l.length (l.flatMap cf)) {i:Nat} (hi:i<l.length):∃b o,p=some ⟨b,o,none⟩∧∀j,j<s→w.cell? ⟨b,o+i*s+j,none⟩=(cf (ix l i))[j]?:=by
 obtain⟨p',c',e,hl,h⟩:=h
 cases e
 rcases h with h|⟨b,o,rfl,h⟩
 ·omega
 ·refine⟨b,o,rfl,fun j hj=>?_⟩
  rw[Nat.add_assoc,h _ (by rw[hl];have:=Nat.mul_le_mul_right s (show i+1≤l.length from hi);rw[Nat.succ_mul]at this;omega),jB cf hs l i j hi hj]
theorem nq.slice {s n:Nat} {w:World} {v:Value} {cs:List Value} (h:nq s w v n cs):∃p c,v=.slice p n c:=by obtain⟨p,c,e,_⟩:=h;exact⟨p,c,e⟩
theorem jG {α:Type} [Inhabited α] {l:List α} {j:Nat} (h:j<l.length):cx l (j:Int)=some (ix l j):=by unfold cx;rw[if_pos ⟨by omega,by omega⟩];rfl
theorem iA {α:Type} [Inhabited α] {l:List α} {i:Int} (h:¬(0≤i∧i<l.length)):cx l i=none:=by unfold cx;rw[if_neg h]
def yR:ff:=⟨0,⟨0,0,false⟩⟩
def FL:eR:=⟨0,0,false⟩
def GN:gY:=⟨0,false⟩
theorem CI (l:List ff) (v:Value) (i:Int) (w:World) (h:nq 4 w v l.length (l.flatMap lA)):Calls G.P 163 #[v,.int .i64 i] w fun e w'=>e=.returned (.tuple #[.agg (lA ((cx l i).getD yR)).toArray,.bool (cx l i).isSome])∧Ext w w':=by
 obtain⟨p,c,rfl⟩:=h.slice
 by_cases hin:0≤i∧i<l.length
 ·obtain⟨j,rfl⟩:=Int.eq_ofNat_of_zero_le hin.1
  have hj:j<l.length:=by omega
  obtain⟨b,o,rfl,hc⟩:=h.cells lA (fun _=>rfl) hj
  have e:=jG hj
  refine ae (l:=[.slice (some ⟨b,o,none⟩) l.length c,.int .i64 j]) Tryz.func163 rfl Tryz.ntmps163 rfl (Ok.start w) ?_
  refine aZ.lL (Cs b (o+j*4) (lA (ix l j))) (fun w' hw'=>by intro k hk;have:=hc k hk;rw[show(lA (ix l j))[k]?=some ((lA (ix l j))[k]'hk)from List.getElem?_eq_getElem hk]at this ⊢;exact(show Ext w w' from hw' _ ak).cell this) ?_
  dsimp only[lA]
  repeat'(first|refine ar ?_|(refine aa.alloc (t:=rf) [Value.slice none 0 0,Value.slice none 0 0] rfl rfl rfl fun b_=>?_)|(refine aa.alloc (t:=ou) [Value.int .i64 0,Value.int .i64 0,Value.int .i64 0,Value.bool false] rfl rfl rfl fun b_=>?_)|(refine aa.alloc (t:=pc) [Value.int .i64 0,Value.int .i64 0,Value.bool false] rfl rfl rfl fun b_=>?_)|(refine aa.alloc (t:=pq) [Value.int .i64 0,Value.bool false] rfl rfl rfl fun b_=>?_)|(refine a7 ?_ ?_<;>intro hc_))
  all_goals exact ww
 ·have e:=iA hin
  refine ae (l:=[.slice p l.length c,.int .i64 i]) Tryz.func163 rfl Tryz.ntmps163 rfl (Ok.start w) ?_
  repeat'(first|refine ar ?_|(refine aa.alloc (t:=rf) [Value.slice none 0 0,Value.slice none 0 0] rfl rfl rfl fun b_=>?_)|(refine aa.alloc (t:=ou) [Value.int .i64 0,Value.int .i64 0,Value.int .i64 0,Value.bool false] rfl rfl rfl fun b_=>?_)|(refine aa.alloc (t:=pc) [Value.int .i64 0,Value.int .i64 0,Value.bool false] rfl rfl rfl fun b_=>?_)|(refine aa.alloc (t:=pq) [Value.int .i64 0,Value.bool false] rfl rfl rfl fun b_=>?_)|(refine a7 ?_ ?_<;>intro hc_))
  all_goals exact AC
theorem nq.EM {w:World} {n:Nat} {p:Option Addr} {c:Nat} {l:List Int} (h:nq 1 w (.slice p n c) l.length (l.map (Value.int .i64))) {i:Nat} (hi:i<l.length):∃b o,p=some ⟨b,o,none⟩∧w.cell? ⟨b,o+i,none⟩=some (.int .i64 (ix l i)):=by
 obtain⟨p',c',e,hl,h⟩:=h
 cases e
 rcases h with h|⟨b,o,rfl,h⟩
 ·omega
 ·exact⟨b,o,rfl,by rw[h i (by simpa using hi),List.getElem?_map,gZ hi];rfl⟩
theorem Bh (l:List eR) (v:Value) (i:Int) (w:World) (h:nq 3 w v l.length (l.flatMap lD)):Calls G.P 166 #[v,.int .i64 i] w fun e w'=>e=.returned (.tuple #[.agg (lD ((cx l i).getD FL)).toArray,.bool (cx l i).isSome])∧Ext w w':=by
 obtain⟨p,c,rfl⟩:=h.slice
 by_cases hin:0≤i∧i<l.length
 ·obtain⟨j,rfl⟩:=Int.eq_ofNat_of_zero_le hin.1
  have hj:j<l.length:=by omega
  obtain⟨b,o,rfl,hc⟩:=h.cells lD (fun _=>rfl) hj
  have e:=jG hj
  refine ae (l:=[.slice (some ⟨b,o,none⟩) l.length c,.int .i64 j]) Tryz.func166 rfl Tryz.ntmps166 rfl (Ok.start w) ?_
  refine aZ.lL (Cs b (o+j*3) (lD (ix l j))) (fun w' hw'=>by intro k hk;have:=hc k hk;rw[show(lD (ix l j))[k]?=some ((lD (ix l j))[k]'hk)from List.getElem?_eq_getElem hk]at this ⊢;exact(show Ext w w' from hw' _ ak).cell this) ?_
  dsimp only[lD]
  repeat'(first|refine ar ?_|(refine aa.alloc (t:=rf) [Value.slice none 0 0,Value.slice none 0 0] rfl rfl rfl fun b_=>?_)|(refine aa.alloc (t:=ou) [Value.int .i64 0,Value.int .i64 0,Value.int .i64 0,Value.bool false] rfl rfl rfl fun b_=>?_)|(refine aa.alloc (t:=pc) [Value.int .i64 0,Value.int .i64 0,Value.bool false] rfl rfl rfl fun b_=>?_)|(refine aa.alloc (t:=pq) [Value.int .i64 0,Value.bool false] rfl rfl rfl fun b_=>?_)|(refine a7 ?_ ?_<;>intro hc_))
  all_goals exact ww
 ·have e:=iA hin
  refine ae (l:=[.slice p l.length c,.int .i64 i]) Tryz.func166 rfl Tryz.ntmps166 rfl (Ok.start w) ?_
  repeat'(first|refine ar ?_|(refine aa.alloc (t:=rf) [Value.slice none 0 0,Value.slice none 0 0] rfl rfl rfl fun b_=>?_)|(refine aa.alloc (t:=ou) [Value.int .i64 0,Value.int .i64 0,Value.int .i64 0,Value.bool false] rfl rfl rfl fun b_=>?_)|(refine aa.alloc (t:=pc) [Value.int .i64 0,Value.int .i64 0,Value.bool false] rfl rfl rfl fun b_=>?_)|(refine aa.alloc (t:=pq) [Value.int .i64 0,Value.bool false] rfl rfl rfl fun b_=>?_)|(refine a7 ?_ ?_<;>intro hc_))
  all_goals exact AC
theorem AY (l:List gY) (v:Value) (i:Int) (w:World) (h:nq 2 w v l.length (l.flatMap nW)):Calls G.P 164 #[v,.int .i64 i] w fun e w'=>e=.returned (.tuple #[.agg (nW ((cx l i).getD GN)).toArray,.bool (cx l i).isSome])∧Ext w w':=by
 obtain⟨p,c,rfl⟩:=h.slice
 by_cases hin:0≤i∧i<l.length
 ·obtain⟨j,rfl⟩:=Int.eq_ofNat_of_zero_le hin.1
  have hj:j<l.length:=by omega
  obtain⟨b,o,rfl,hc⟩:=h.cells nW (fun _=>rfl) hj
  have e:=jG hj
  refine ae (l:=[.slice (some ⟨b,o,none⟩) l.length c,.int .i64 j]) Tryz.func164 rfl Tryz.ntmps164 rfl (Ok.start w) ?_
  refine aZ.lL (Cs b (o+j*2) (nW (ix l j))) (fun w' hw'=>by intro k hk;have:=hc k hk;rw[show(nW (ix l j))[k]?=some ((nW (ix l j))[k]'hk)from List.getElem?_eq_getElem hk]at this ⊢;exact(show Ext w w' from hw' _ ak).cell this) ?_
  dsimp only[nW]
  repeat'(first|refine ar ?_|(refine aa.alloc (t:=rf) [Value.slice none 0 0,Value.slice none 0 0] rfl rfl rfl fun b_=>?_)|(refine aa.alloc (t:=ou) [Value.int .i64 0,Value.int .i64 0,Value.int .i64 0,Value.bool false] rfl rfl rfl fun b_=>?_)|(refine aa.alloc (t:=pc) [Value.int .i64 0,Value.int .i64 0,Value.bool false] rfl rfl rfl fun b_=>?_)|(refine aa.alloc (t:=pq) [Value.int .i64 0,Value.bool false] rfl rfl rfl fun b_=>?_)|(refine a7 ?_ ?_<;>intro hc_))
  all_goals exact ww
 ·have e:=iA hin
  refine ae (l:=[.slice p l.length c,.int .i64 i]) Tryz.func164 rfl Tryz.ntmps164 rfl (Ok.start w) ?_
  repeat'(first|refine ar ?_|(refine aa.alloc (t:=rf) [Value.slice none 0 0,Value.slice none 0 0] rfl rfl rfl fun b_=>?_)|(refine aa.alloc (t:=ou) [Value.int .i64 0,Value.int .i64 0,Value.int .i64 0,Value.bool false] rfl rfl rfl fun b_=>?_)|(refine aa.alloc (t:=pc) [Value.int .i64 0,Value.int .i64 0,Value.bool false] rfl rfl rfl fun b_=>?_)|(refine aa.alloc (t:=pq) [Value.int .i64 0,Value.bool false] rfl rfl rfl fun b_=>?_)|(refine a7 ?_ ?_<;>intro hc_))
  all_goals exact AC
theorem B6 (l:List Int) (v:Value) (i:Int) (w:World) (h:nq 1 w v l.length (l.map (Value.int .i64))):Calls G.P 161 #[v,.int .i64 i] w fun e w'=>e=.returned (.tuple #[.int .i64 ((cx l i).getD 0),.bool (cx l i).isSome])∧Ext w w':=by
 obtain⟨p,c,rfl⟩:=h.slice
 by_cases hin:0≤i∧i<l.length
 ·obtain⟨j,rfl⟩:=Int.eq_ofNat_of_zero_le hin.1
  have hj:j<l.length:=by omega
  obtain⟨b,o,rfl,hc⟩:=h.EM hj
  have e:=jG hj
  refine ae (l:=[.slice (some ⟨b,o,none⟩) l.length c,.int .i64 j]) Tryz.func161 rfl Tryz.ntmps161 rfl (Ok.start w) ?_
  repeat'(first|refine ar ?_|(refine a7 ?_ ?_<;>intro hc_))
  all_goals exact ah.nz rfl rfl rfl fun w' hw'=>⟨by rw[e];rfl,hw'.at⟩
 ·have e:=iA hin
  refine ae (l:=[.slice p l.length c,.int .i64 i]) Tryz.func161 rfl Tryz.ntmps161 rfl (Ok.start w) ?_
  repeat'(first|refine ar ?_|(refine a7 ?_ ?_<;>intro hc_))
  all_goals first|omega|exact ah.nz rfl rfl rfl fun w' hw'=>⟨by rw[e];rfl,hw'.at⟩
theorem EX (l:List Int) (v:Value) (i:Int) (w:World) (h:nq 1 w v l.length (l.map (Value.int .i64))):Calls G.P 165 #[v,.int .i64 i] w fun e w'=>e=.returned (.tuple #[.int .i64 ((cx l i).getD 0),.bool (cx l i).isSome])∧Ext w w':=by
 obtain⟨p,c,rfl⟩:=h.slice
 by_cases hin:0≤i∧i<l.length
 ·obtain⟨j,rfl⟩:=Int.eq_ofNat_of_zero_le hin.1
  have hj:j<l.length:=by omega
  obtain⟨b,o,rfl,hc⟩:=h.EM hj
  have e:=jG hj
  refine ae (l:=[.slice (some ⟨b,o,none⟩) l.length c,.int .i64 j]) Tryz.func165 rfl Tryz.ntmps165 rfl (Ok.start w) ?_
  repeat'(first|refine ar ?_|(refine a7 ?_ ?_<;>intro hc_))
  all_goals exact ah.nz rfl rfl rfl fun w' hw'=>⟨by rw[e];rfl,hw'.at⟩
 ·have e:=iA hin
  refine ae (l:=[.slice p l.length c,.int .i64 i]) Tryz.func165 rfl Tryz.ntmps165 rfl (Ok.start w) ?_
  repeat'(first|refine ar ?_|(refine a7 ?_ ?_<;>intro hc_))
  all_goals first|omega|exact ah.nz rfl rfl rfl fun w' hw'=>⟨by rw[e];rfl,hw'.at⟩
theorem xd {g g':Prop} (h:g') (hw:dS g'→g:=by(intro hk_;(first|refine K0 ?_);exact hk_.out)):g:=hw ⟨h⟩
theorem gj (B:Nat) (m:aj) (v:Value) (i:Int) (w:World) (h:bL B m w v):Calls G.P 132 #[v,.int .i64 i] w fun e w'=>e=.returned (.tuple #[.agg (lA ((cx (bA m) i).getD yR)).toArray,.bool (cx (bA m) i).isSome])∧Ext w w':=by
 obtain⟨bS,sp,im,dm,vs,tc,ig,dg,rfl,-,h⟩:=h
 have hb:=jx h.bs
 have c2:w.cell? ⟨sp,2,none⟩=some vs.bv:=h.x.cell rfl
 have et:(tR m).tables=bA m:=by rw[nT]
 rw[et]at hb
 refine ae (l:=[_,_]) Tryz.func132 rfl Tryz.ntmps132 rfl (Ok.start w) ?_
 repeat'(first|refine ar ?_|(refine KP fun b_=>?_)|refine xd ?_|(refine aa.ai (f:=163) ?_;refine aa.aq rfl rfl rfl (fun w' hw'=>CI _ _ i w' (hb.ext hw'.at)) ?_)|fail)
 all_goals exact ci
theorem AS (B:Nat) (m:aj) (v:Value) (i:Int) (w:World) (h:bL B m w v):Calls G.P 137 #[v,.int .i64 i] w fun e w'=>e=.returned (.tuple #[.agg (lD ((cx (dD m) i).getD FL)).toArray,.bool (cx (dD m) i).isSome])∧Ext w w':=by
 obtain⟨bS,sp,im,dm,vs,tc,ig,dg,rfl,-,h⟩:=h
 have hb:=jx h.ms
 have c2:w.cell? ⟨sp,3,none⟩=some vs.mv:=h.x.cell rfl
 have et:(tR m).da=dD m:=by rw[nT]
 rw[et]at hb
 refine ae (l:=[_,_]) Tryz.func137 rfl Tryz.ntmps137 rfl (Ok.start w) ?_
 repeat'(first|refine ar ?_|(refine KP fun b_=>?_)|refine xd ?_|(refine aa.ai (f:=166) ?_;refine aa.aq rfl rfl rfl (fun w' hw'=>Bh _ _ i w' (hb.ext hw'.at)) ?_)|fail)
 all_goals exact ci
theorem jL (B:Nat) (m:aj) (v:Value) (i:Int) (w:World) (h:bL B m w v):Calls G.P 133 #[v,.int .i64 i] w fun e w'=>e=.returned (.tuple #[.agg (nW ((cx (fA m) i).getD GN)).toArray,.bool (cx (fA m) i).isSome])∧Ext w w':=by
 obtain⟨bS,sp,im,dm,vs,tc,ig,dg,rfl,-,h⟩:=h
 have hb:=jx h.gs
 have c2:w.cell? ⟨sp,4,none⟩=some vs.gv:=h.x.cell rfl
 have et:(tR m).globals=fA m:=by rw[nT]
 rw[et]at hb
 refine ae (l:=[_,_]) Tryz.func133 rfl Tryz.ntmps133 rfl (Ok.start w) ?_
 repeat'(first|refine ar ?_|(refine KP fun b_=>?_)|refine xd ?_|(refine aa.ai (f:=164) ?_;refine aa.aq rfl rfl rfl (fun w' hw'=>AY _ _ i w' (hb.ext hw'.at)) ?_)|fail)
 all_goals exact ci
theorem zl (B:Nat) (m:aj) (v:Value) (i:Int) (w:World) (h:bL B m w v):Calls G.P 135 #[v,.int .i64 i] w fun e w'=>e=.returned (.tuple #[.int .i64 ((cx (dA m) i).getD 0),.bool (cx (dA m) i).isSome])∧Ext w w':=by
 obtain⟨bS,sp,im,dm,vs,tc,ig,dg,rfl,-,h⟩:=h
 have hb:=jx h.es
 have c2:w.cell? ⟨sp,5,none⟩=some vs.ev:=h.x.cell rfl
 have et:(tR m).elems=dA m:=by rw[nT]
 rw[et]at hb
 refine ae (l:=[_,_]) Tryz.func135 rfl Tryz.ntmps135 rfl (Ok.start w) ?_
 repeat'(first|refine ar ?_|refine xd ?_|(refine aa.ai (f:=165) ?_;refine aa.aq rfl rfl rfl (fun w' hw'=>EX _ _ i w' (hb.ext hw'.at)) ?_)|fail)
 all_goals exact ah.nz rfl rfl rfl fun w' hw'=>⟨by rfl,hw'.at⟩
theorem wV (B:Nat) (m:aj) (v:Value) (w:World) (h:bL B m w v):Calls G.P 136 #[v] w fun e w'=>e=.returned (.int .i64 m.bD.length)∧Ext w w':=by
 obtain⟨bS,sp,im,dm,vs,tc,ig,dg,rfl,-,h⟩:=h
 have c2:w.cell? ⟨sp,6,none⟩=some (.int .i64 (tR m).bD):=h.x.cell rfl
 have et:(tR m).bD=m.bD.length:=by rw[nT]
 rw[et]at c2
 refine ae (l:=[_]) Tryz.func136 rfl Tryz.ntmps136 rfl (Ok.start w) ?_
 repeat'(first|refine ar ?_|refine xd ?_|fail)
 all_goals exact dl
theorem yj (B:Nat) (m:aj) (v:Value) (w:World) (h:bL B m w v):Calls G.P 162 #[v] w fun e w'=>e=.returned (.int .i64 (fX m).length)∧Ext w w':=by
 obtain⟨bS,sp,im,dm,vs,tc,ig,dg,rfl,-,h⟩:=h
 have hb:=jx h.fs
 have c2:w.cell? ⟨sp,1,none⟩=some vs.fv:=h.x.cell rfl
 have et:(tR m).funcs=fX m:=by rw[nT]
 rw[et]at hb
 obtain⟨p,c,e⟩:=hb.slice
 rw[e]at c2
 refine ae (l:=[_]) Tryz.func162 rfl Tryz.ntmps162 rfl (Ok.start w) ?_
 repeat'(first|refine ar ?_|refine xd ?_|fail)
 all_goals exact dl
theorem mV (B:Nat) (m:aj) (v:Value) (i:Int) (w:World) (h:bL B m w v) (hi:dV i):Calls G.P 131 #[v,.int .i64 i] w fun e w'=>e=.returned (.bool (mB m i))∧Ext w w':=by
 have h0:=h
 obtain⟨bS,sp,im,dm,vs,tc,ig,dg,rfl,-,h⟩:=h
 have c2:w.cell? ⟨sp,8,none⟩=some (.map (some dm)):=h.x.cell rfl
 have hd:=h.dec i
 refine ae (l:=[_,_]) Tryz.func131 rfl Tryz.ntmps131 rfl (Ok.start w) ?_
 repeat'(first|refine ar ?_|(refine aa.cm (f:=155) ?_;refine aa.bV ny rfl rfl rfl (fun w' hw'=>kH bS sp w' (h.s.aO (show Ext w w' from hw'.at) (fun h=>h))) ?_)|(refine aa.cm (f:=162) ?_;refine aa.bV ny rfl rfl rfl (fun w' hw'=>yj B m _ w' (h0.aO (show Ext w w' from hw'.at) (fun _ _ h=>h))) ?_)|(refine aa.Eh ?_;refine aa.yg (by first|exact qA rfl eZ) (Yl.DO (zv:=.bool false) Tryz.underlying93 Tryz.underlying3 (fun _=>rfl) rfl rfl hi h.dm ak) rfl ?_;rw[hd])|(refine a7 ?_ ?_<;>intro hc_))
 all_goals exact ah.aB rfl rfl fun w' hw'=>⟨by unfold mB;by_cases a_:0≤i<;>by_cases b_:i<((fX m).length:Int)<;>first|omega|simp[a_,b_]|simp_all,hw'.at⟩
def Di (B:Nat) (f:aL) (x:Value×Value):List a8:=[.own B m7 1 x.1 f.params.length (f.params.map (Value.int .i64)),.own B m7 1 x.2 f.results.length (f.results.map (Value.int .i64))]
set_option maxHeartbeats 16000000 in
theorem nF (F:Nat→Prop) (B:Nat) (f:aL) (u0 u1:Value) (w:World) (h0:af F w u0 f.params) (h1:af F w u1 f.results) (hB:B≤w.heap.size):Calls G.P 37 #[.agg #[u0,u1]] w (aM [] w (fun x:Value×Value=>.agg #[x.1,x.2]) (fun _=>True) (Di B f)):=by
 obtain⟨p0,c0,rfl,l0⟩:=h0.slice
 obtain⟨p1,c1,rfl,l1⟩:=h1.slice
 refine ae (l:=[.agg #[.slice p0 f.params.length c0,.slice p1 f.results.length c1]]) Tryz.func37 rfl Tryz.ntmps37 rfl (Ok.start w) ?_
 refine bQ ?_
 refine aa.box [.slice p0 f.params.length c0,.slice p1 f.results.length c1] rfl rfl rfl fun b1=>?_
 refine bQ ?_
 refine aa.alloc [Value.slice none 0 0,Value.slice none 0 0] rfl rfl rfl fun b2=>?_
 refine bQ ?_
 refine aZ.ji B m7 1 ?_
 refine aZ.ji B m7 1 ?_
 refine aZ.dB [0,1,3,4,2,5,6] 7 [.aT b1 [.slice p0 f.params.length c0,.slice p1 f.results.length c1] rf] [Ext w] L9 bc aV ?_
 refine pO ?_
 refine bq.he (HE.gA (f.params.map (Value.int .i64)) rfl rfl (fun _=>aA) (iT h0 ak) Mk rfl rfl rfl Ml Ml Ml (eV _) (by show(0+f.params.length)*8≤_;omega) Mj (fun w' hw'=>Nat.le_trans hB (show Ext w w' from hw'.at).size)) rfl (fun _=>bc) (fun _=>aV) ?_
 intro v1 _
 refine bq.he (HE.gA (f.results.map (Value.int .i64)) rfl rfl (fun _=>aA) (iT h1 ak) Mk rfl rfl rfl Ml Ml Ml (eV _) (by show(0+f.results.length)*8≤_;omega) Mj (fun w' hw'=>Nat.le_trans hB (show Ext w w' from hw'.at).size)) rfl (fun _=>bc) (fun _=>aV) ?_
 intro v2 _
 refine bq.pure (φ:=(∃p c,v1=.slice p (0+f.params.length) c)∧∃p c,v2=.slice p (0+f.results.length) c) (fun w' hw'=>⟨?_,?_⟩) ?_
 ·obtain⟨p,c,e,_⟩:=ax (hw'.own (v:=v1));exact⟨p,c,e⟩
 ·obtain⟨p,c,e,_⟩:=ax (hw'.own (v:=v2));exact⟨p,c,e⟩
 rintro⟨⟨q1,d1,rfl⟩,⟨q2,d2,rfl⟩⟩
 refine pO ?_
 refine bq.iq (fQ.bn _ rfl rfl rfl rfl rfl rfl aA rfl) rfl ?_
 rintro⟨⟩ _
 simp only[Nat.zero_add,List.nil_append]
 refine bQ ?_
 refine ah.a6 (.inl rfl) rfl rfl rfl rfl rfl aA rfl fun w' hw'=>aM.BI (x:=(Value.slice q1 f.params.length d1,Value.slice q2 f.results.length d2)) trivial hw' ?_ ak
 dsimp only[Di]
 exact bc
theorem yy (b o n c j n0 n1 y0 y1:Nat) (x0 x1:Option Addr) (w:World) (hj:j<n) (g0:w.cell? ⟨b,o+j*2,none⟩=some (.slice x0 n0 y0)) (g1:w.cell? ⟨b,o+j*2+1,none⟩=some (.slice x1 n1 y1)):Calls G.P 154 #[.slice (some ⟨b,o,none⟩) n c,.int .i64 j] w fun e w'=>e=.returned (.tuple #[.agg #[.slice x0 n0 y0,.slice x1 n1 y1],.bool true])∧Ext w w':=by
 refine ae (l:=[_,_]) Tryz.func154 rfl Tryz.ntmps154 rfl (Ok.start w) ?_
 refine aZ.lL (Cs b (o+j*2) [Value.slice x0 n0 y0,Value.slice x1 n1 y1]) (fun w' hw'=>by
  intro k hk
  have hx:Ext w w':=hw' _ ak
  match k,hk with
  |0,_=>exact hx.cell g0
  |1,_=>exact hx.cell g1) ?_
 repeat'(first|refine ar ?_|(refine KP fun b_=>?_)|fail)
 all_goals exact ci
theorem yb (p:Option Addr) (n c:Nat) (i:Int) (w:World) (hin:¬(0≤i∧i<n)):Calls G.P 154 #[.slice p n c,.int .i64 i] w fun e w'=>e=.returned (.tuple #[.agg #[.slice none 0 0,.slice none 0 0],.bool false])∧Ext w w':=by
 refine ae (l:=[_,_]) Tryz.func154 rfl Tryz.ntmps154 rfl (Ok.start w) ?_
 repeat'(first|refine ar ?_|(refine KP fun b_=>?_)|(refine a7 ?_ ?_<;>intro hc_))
 all_goals exact Eq
theorem ET {m:aj} {i:Int} {B:Nat} {w:World} {tc:List Value} {tv:Value} (hr:nq 2 w tv m.types.length tc) (ht:lf B tc m.types w):∃p c,tv=.slice p m.types.length c∧((¬(0≤i∧i<m.types.length)∧cx m.types i=none)∨∃(j b o:Nat) (x0 x1:Option Addr) (y0 y1:Nat),i=j∧j<m.types.length∧p=some ⟨b,o,none⟩∧cx m.types i=some (ix m.types j)∧
  w.cell? ⟨b,o+j*2,none⟩=some (.slice x0 (ix m.types j).params.length y0)∧w.cell? ⟨b,o+j*2+1,none⟩=some (.slice x1 (ix m.types j).results.length y1)∧af (fun k=>B≤k) w (.slice x0 (ix m.types j).params.length y0) (ix m.types j).params∧af (fun k=>B≤k) w (.slice x1 (ix m.types j).results.length y1) (ix m.types j).results):=by
 obtain⟨p,c,rfl,hl,hr⟩:=hr
 refine⟨p,c,rfl,?_⟩
 by_cases hin:0≤i∧i<m.types.length
 ·obtain⟨j,rfl⟩:=Int.eq_ofNat_of_zero_le hin.1
  have hj:j<m.types.length:=by omega
  obtain⟨b,o,rfl,hc⟩:=hr.resolve_left Mj
  obtain⟨u0,u1,e1,e2,q0,q1⟩:=ht.2 j hj
  obtain⟨x0,y0,rfl,z0⟩:=q0.slice
  obtain⟨x1,y1,rfl,z1⟩:=q1.slice
  have hlt:j*2+1<tc.length:=(List.getElem?_eq_some_iff.1 e2).1
  exact .inr ⟨j,b,o,x0,x1,y0,y1,rfl,hj,rfl,jG hj,by rw[hc _ Mj,e1],by rw[Nat.add_assoc,hc _ hlt,e2],q0,q1⟩
 ·exact .inl ⟨hin,iA hin⟩
def Cg (B:Nat) (w:World) (r:Option aL):Ending→World→Prop:=aM [] w (fun x:Value×Value=>.tuple #[.agg #[x.1,x.2],.bool r.isSome]) (fun _=>True) (Di B (r.getD dy))
set_option maxHeartbeats 16000000 in
theorem pH (B0 B:Nat) (m:aj) (v:Value) (i:Int) (w:World) (h:bL B0 m w v) (hB:B≤w.heap.size):Calls G.P 106 #[v,.int .i64 i] w (Cg B w (cx m.types i)):=by
 obtain⟨bS,sp,im,dm,vs,tc,ig,dg,rfl,-,h⟩:=h
 have hb:=jx h.ts
 have c2:w.cell? ⟨sp,0,none⟩=some vs.tv:=h.x.cell rfl
 obtain⟨p,c,e,hh⟩:=ET (i:=i) hb h.ty
 rw[e]at c2
 unfold Cg
 rcases hh with⟨hin,hat⟩|⟨j,b,o,x0,x1,y0,y1,rfl,hj,rfl,hat,g0,g1,q0,q1⟩
 ·rw[hat]
  refine ae (l:=[_,_]) Tryz.func106 rfl Tryz.ntmps106 rfl (Ok.start w) ?_
  repeat'(first|refine ar ?_|(refine KP fun b_=>?_)|refine xd ?_|(refine aa.ai (f:=154) ?_;refine aa.aq rfl rfl rfl (fun w' hw'=>yb p m.types.length c i w' hin) ?_)|fail)
  refine aa.he (HE.sA (M0:=[]) rfl rfl (fun w' hw'=>nF (fun _=>False) B dy _ _ w' (af.bR _ _) (af.bR _ _) (Nat.le_trans hB (show Ext w w' from hw'.at).size))) rfl ?_
  rintro⟨v1,v2⟩ _
  dsimp only[Di,List.cons_append,List.nil_append]
  refine aa.pure (φ:=(∃p c,v1=.slice p dy.params.length c)∧∃p c,v2=.slice p dy.results.length c) (fun w' hw'=>⟨?_,?_⟩) ?_
  ·obtain⟨p,c,e,_⟩:=ax (hw'.own (v:=v1));exact⟨p,c,e⟩
  ·obtain⟨p,c,e,_⟩:=ax (hw'.own (v:=v2));exact⟨p,c,e⟩
  rintro⟨⟨q1,d1,rfl⟩,⟨q2,d2,rfl⟩⟩
  repeat'(first|refine ar ?_|fail)
  exact ah.aF (.inl rfl) rfl rfl rfl rfl rfl aA rfl rfl fun w' hw'=>aM.BI (x:=(Value.slice q1 dy.params.length d1,Value.slice q2 dy.results.length d2)) trivial hw' (by dsimp only[Di];exact bc) ak
 ·rw[hat]
  refine ae (l:=[_,_]) Tryz.func106 rfl Tryz.ntmps106 rfl (Ok.start w) ?_
  repeat'(first|refine ar ?_|(refine KP fun b_=>?_)|refine xd ?_|(refine aa.ai (f:=154) ?_;refine aa.aq rfl rfl rfl (fun w' hw'=>yy b o m.types.length c j _ _ y0 y1 x0 x1 w' hj ((show Ext w w' from hw'.at).cell g0) ((show Ext w w' from hw'.at).cell g1)) ?_)|fail)
  refine aa.he (HE.sA (M0:=[]) rfl rfl (fun w' hw'=>nF (fun k=>B0≤k) B (ix m.types j) _ _ w' (q0.aO (show Ext w w' from hw'.at) (fun _ _ _ h=>h)) (q1.aO (show Ext w w' from hw'.at) (fun _ _ _ h=>h)) (Nat.le_trans hB (show Ext w w' from hw'.at).size))) rfl ?_
  rintro⟨v1,v2⟩ _
  dsimp only[Di,List.cons_append,List.nil_append]
  refine aa.pure (φ:=(∃p c,v1=.slice p (ix m.types j).params.length c)∧∃p c,v2=.slice p (ix m.types j).results.length c) (fun w' hw'=>⟨?_,?_⟩) ?_
  ·obtain⟨p,c,e,_⟩:=ax (hw'.own (v:=v1));exact⟨p,c,e⟩
  ·obtain⟨p,c,e,_⟩:=ax (hw'.own (v:=v2));exact⟨p,c,e⟩
  rintro⟨⟨q1,d1,rfl⟩,⟨q2,d2,rfl⟩⟩
  repeat'(first|refine ar ?_|fail)
  exact ah.aF (.inl rfl) rfl rfl rfl rfl rfl aA rfl rfl fun w' hw'=>aM.BI (x:=(Value.slice q1 (ix m.types j).params.length d1,Value.slice q2 (ix m.types j).results.length d2)) trivial hw' (by dsimp only[Di];exact bc) ak
def Ii:bN:=⟨⟨#[]⟩,⟨#[]⟩,0,0,yR,FL,GN⟩
theorem re {w:World} {R:List (World→Prop)} {b o s:Nat} {cs:List Value} (hc:∀j,j<s→w.cell? ⟨b,o+j,none⟩=cs[j]?) (hl:cs.length=s) (hR:Ext w∈R):∀w',(∀r,r∈R→r w')→Cs b o cs w':=fun w' hw' k hk=>by
 have h:=hc k Mj
 rw[List.getElem?_eq_getElem hk]at h ⊢
 exact(show Ext w w' from hw' _ hR).cell h
theorem A6 {F:Nat→Prop} {w:World} {b o:Nat} {x:gn} (h:cz F w b o x):∀j,j<2→w.cell? ⟨b,o+j,none⟩=(nW x.eD)[j]?:=by
 obtain⟨cs,hV,hc⟩:=h
 obtain⟨v0,rfl,-⟩:=hV
 intro j hj
 match j,hj with
 |0,_=>exact hc 0 Mj
 |1,_=>exact hc 1 Mj
theorem Fj {F:Nat→Prop} {w:World} {b o:Nat} {x:bN} (h:dh F w b o x):∀j,j<13→w.cell? ⟨b,o+j,none⟩=(kS x)[j]?:=by
 obtain⟨cs,hV,hc⟩:=h
 obtain⟨rfl,-⟩:=hV
 exact hc
theorem iJ (F:Nat→Prop) (m:aj) (i:Int) (cs:List Value) (w:World) (hm:ay F w cs m):Calls G.P 119 #[.agg cs.toArray,.int .i64 i] w (bg (dr ((cx m.types i).getD dy)) (fun x=>.tuple #[.agg #[x.1,x.2],.bool (cx m.types i).isSome]) F w):=by
 obtain⟨v0,v1,v2,v3,v4,v5,v6,v7,v8,v9,rfl,r0,r1,r2,r3,r4,r5,r6,r7,r8,r9,g0⟩:=hm
 obtain⟨p0,c0,rfl,l0⟩:=r0.slice
 by_cases hin:0≤i∧i<m.types.length
 ·obtain⟨j,rfl⟩:=Int.eq_ofNat_of_zero_le hin.1
  have hj:j<m.types.length:=by omega
  obtain⟨b,o,rfl,hF,cs2,⟨u0,u1,rfl,q0,q1⟩,hc⟩:=r0.el hj
  obtain⟨x0,y0,rfl,z0⟩:=q0.slice
  obtain⟨x1,y1,rfl,z1⟩:=q1.slice
  rw[jG hj]
  refine ae (l:=[_,_]) Tryz.func119 rfl Tryz.ntmps119 rfl (Ok.start w) ?_
  refine aZ.lL (Cs b (o+j*2) _) (re hc rfl ak) ?_
  repeat'(first|refine ar ?_|(refine KO fun b_=>?_)|(refine aa.fj (t:=gU) ?_;refine aa.alloc (t:=gU) [Value.string ⟨#[]⟩,Value.string ⟨#[]⟩,Value.int .i64 0,Value.int .i64 0,Value.int .i64 0,Value.int .i64 0,Value.int .i64 0,Value.bool false,Value.int .i64 0,Value.int .i64 0,Value.bool false,Value.int .i64 0,Value.bool false] rfl rfl rfl fun b_=>?_)|(refine a7 ?_ ?_<;>intro hc_))
  all_goals exact ah.aF (.inl rfl) rfl rfl rfl rfl rfl aA rfl rfl fun w' hw'=>⟨⟨(_,_),rfl,dr.mono (D:=F) ⟨q0.aO (show Ext w w' from hw'.at) (fun _ _ _ h=>h),q1.aO (show Ext w w' from hw'.at) (fun _ _ _ h=>h)⟩ (fun _ h=>.inl h)⟩,hw'.at⟩
 ·rw[iA hin]
  refine ae (l:=[_,_]) Tryz.func119 rfl Tryz.ntmps119 rfl (Ok.start w) ?_
  repeat'(first|refine ar ?_|(refine KO fun b_=>?_)|(refine aa.fj (t:=gU) ?_;refine aa.alloc (t:=gU) [Value.string ⟨#[]⟩,Value.string ⟨#[]⟩,Value.int .i64 0,Value.int .i64 0,Value.int .i64 0,Value.int .i64 0,Value.int .i64 0,Value.bool false,Value.int .i64 0,Value.int .i64 0,Value.bool false,Value.int .i64 0,Value.bool false] rfl rfl rfl fun b_=>?_)|(refine a7 ?_ ?_<;>intro hc_))
  all_goals first|omega|exact ah.aF (.inl rfl) rfl rfl rfl rfl rfl aA rfl rfl fun w' hw'=>⟨⟨(_,_),rfl,dr.nil _ _⟩,hw'.at⟩
theorem Ae (m:aj) (k:Int):(m.imports.filter fun x=>decide (x.kind=k)).length=j9 m k:=by unfold j9 tN;rw[List.take_length]
theorem Ai (m:aj) (k:Int):j9 m k≤m.imports.length:=vu _ _ _
theorem Be (k:Int):∀(l:List bN) (j:Nat) (r:Int),j<l.length→jX (l.drop j) k r=if(ix l j).kind≠k then jX (l.drop (j+1)) k r else if r=0 then some (ix l j)else jX (l.drop (j+1)) k (r - 1):=fun l j r hj=>by
 rw[List.drop_eq_getElem_cons hj,jX,cD hj]
theorem CE (k:Int) (l:List bN) (r:Int):jX (l.drop l.length) k r=none:=by rw[List.drop_length];rfl
set_option maxHeartbeats 8000000 in
theorem fz (F:Nat→Prop) (m:aj) (k i:Int) (cs:List Value) (w:World) (hm:ay F w cs m) (h0:0≤i) (hi:dV i):Calls G.P 170 #[.agg cs.toArray,.int .i64 k,.int .i64 i] w fun e w'=>e=.returned (.tuple #[.agg (kS ((jX m.imports k i).getD Ii)).toArray,.bool (jX m.imports k i).isSome])∧Ext w w':=by
 obtain⟨v0,v1,v2,v3,v4,v5,v6,v7,v8,v9,rfl,r0,r1,r2,r3,r4,r5,r6,r7,r8,r9,g0⟩:=hm
 obtain⟨p1,c1,rfl,l1⟩:=r1.slice
 refine ae (l:=[_,_,_]) Tryz.func170 rfl Tryz.ntmps170 rfl (Ok.start w) ?_
 refine bQ ?_
 refine aa.box ([v0,Value.slice p1 m.imports.length c1,v2,v3,v4,v5,v6,Value.bool m.br,Value.int .i64 m.start,v7,v8,v9]:List Value) rfl rfl rfl fun b=>?_
 refine bQ ?_
 refine aa.alloc (t:=gU) [Value.string ⟨#[]⟩,Value.string ⟨#[]⟩,Value.int .i64 0,Value.int .i64 0,Value.int .i64 0,Value.int .i64 0,Value.int .i64 0,Value.bool false,Value.int .i64 0,Value.int .i64 0,Value.bool false,Value.int .i64 0,Value.bool false] rfl rfl rfl fun b2=>?_
 refine bQ ?_
 unfold dV at hi
 refine aZ.loop (σ:=Nat×Int) (fun s=>[(1,.int .i64 k),(2,.int .i64 s.2),(3,.pointer (some ⟨b,0,none⟩)),(6,.pointer (some ⟨b2,0,none⟩)),(8,.int .i64 s.1)]) (fun _=>[.aT b2 [Value.string ⟨#[]⟩,Value.string ⟨#[]⟩,Value.int .i64 0,Value.int .i64 0,Value.int .i64 0,Value.int .i64 0,Value.int .i64 0,Value.bool false,Value.int .i64 0,Value.int .i64 0,Value.bool false,Value.int .i64 0,Value.bool false] gU,.aT b ([v0,Value.slice p1 m.imports.length c1,v2,v3,v4,v5,v6,Value.bool m.br,Value.int .i64 m.start,v7,v8,v9]:List Value) kU]) (fun _=>[Ext w]) (fun s=>s.1≤m.imports.length∧0≤s.2∧s.2≤i∧jX (m.imports.drop s.1) k s.2=jX m.imports k i) (fun s=>m.imports.length - s.1) (0,i) bJ bc aV ⟨by dsimp only;omega,h0,Int.le_refl _,rfl⟩ ?_
 rintro⟨j,r⟩ ⟨hj,hr0,hri,heq⟩
 dsimp only at hj hr0 hri heq ⊢
 by_cases hlt:j<m.imports.length
 ·obtain⟨b1,o1,rfl,hF,he⟩:=r1.el hlt
  have c:=he.kind
  have hcc:=Fj he
  have hs:=Be k m.imports j r hlt
  by_cases hk:(ix m.imports j).kind=k
  ·rw[if_neg (by simp[hk])]at hs
   by_cases hr:r=0
   ·rw[if_pos hr]at hs
    rw[heq]at hs
    rw[hs]
    refine aZ.lL (Cs b1 (o1+j*13) [Value.string (ix m.imports j).module,Value.string (ix m.imports j).name,Value.int .i64 (ix m.imports j).kind,Value.int .i64 (ix m.imports j).func,Value.int .i64 (ix m.imports j).table.elem,Value.int .i64 (ix m.imports j).table.lG.min,Value.int .i64 (ix m.imports j).table.lG.max,Value.bool (ix m.imports j).table.lG.has,Value.int .i64 (ix m.imports j).mem.min,Value.int .i64 (ix m.imports j).mem.max,Value.bool (ix m.imports j).mem.has,Value.int .i64 (ix m.imports j).eG.mH,Value.bool (ix m.imports j).eG.qb]) (re hcc rfl ak) ?_
    refine bQ ?_
    exact ci
   ·rw[if_neg hr]at hs
    refine bQ ?_
    exact ah.next (j+1,r - 1) bJ bc aV ⟨by dsimp only;omega,by dsimp only;omega,by dsimp only;omega,by rw[←hs];exact heq⟩ LT
  ·rw[if_pos hk]at hs
   refine bQ ?_
   exact ah.next (j+1,r) bJ bc aV ⟨by dsimp only;omega,hr0,hri,by rw[←hs];exact heq⟩ LT
 ·obtain rfl:j=m.imports.length:=by omega
  rw[CE]at heq
  rw[←heq]
  refine bQ ?_
  exact ci
def tK (m:aj) (k i n:Int):Int:=if 0≤i - j9 m k∧i - j9 m k<n then i - j9 m k else -1
set_option maxHeartbeats 8000000 in
theorem iL (F:Nat→Prop) (m:aj) (k i n:Int) (cs:List Value) (w:World) (hm:ay F w cs m) (h0:0≤i) (hi:dV i):Calls G.P 171 #[.agg cs.toArray,.int .i64 k,.int .i64 i,.int .i64 n] w fun e w'=>e=.returned (.int .i64 (tK m k i n))∧Ext w w':=by
 have hm0:=hm
 obtain⟨v0,v1,v2,v3,v4,v5,v6,v7,v8,v9,rfl,r0,r1,r2,r3,r4,r5,r6,r7,r8,r9,g0⟩:=hm
 obtain⟨p1,c1,rfl,l1⟩:=r1.slice
 have hle:=Ai m k
 unfold dV at hi
 have hd:∃z:Nat,j9 m k=z:=⟨_,rfl⟩
 obtain⟨z,hz⟩:=hd
 unfold tK
 rw[hz]at hle ⊢
 refine ae (l:=[_,_,_,_]) Tryz.func171 rfl Tryz.ntmps171 rfl (Ok.start w) ?_
 repeat'(first|refine ar ?_|(refine aC fun b_=>?_)|(refine aa.ai (f:=192) ?_;refine aa.aq (v:=.int .i64 (z:Nat)) rfl rfl rfl (fun w' hw'=>by have:=mU F m k _ w' (hm0.aO (show Ext w w' from hw'.at) (fun _ _ _ h=>h));rw[hz]at this;exact this) ?_)|(refine a7 ?_ ?_<;>intro hc_))
 all_goals first|omega|exact ah.aB rfl rfl fun w' hw'=>⟨by rw[if_pos Mj],hw'.at⟩|exact ah.aB rfl rfl fun w' hw'=>⟨by rw[if_neg Mj],hw'.at⟩
theorem qv {α:Type} [Inhabited α] (f:bN→α) (m:aj) (k:Int) (own:List α) {i:Int} (h:0≤i):cx ((m.imports.filter fun x=>decide (x.kind=k)).map f++own) i=match jX m.imports k i with
  |some x=>some (f x)
  |none=>cx own (i - j9 m k):=by
 rw[DR f m.imports k own i,Ae]
 cases jX m.imports k i with
 |some x=>rfl
 |none=>rw[if_pos h]
set_option maxHeartbeats 8000000 in
theorem gV (F:Nat→Prop) (m:aj) (i:Int) (cs:List Value) (w:World) (hm:ay F w cs m) (h0:0≤i) (hi:dV i):Calls G.P 147 #[.agg cs.toArray,.int .i64 i] w fun e w'=>e=.returned (.tuple #[.agg (lA ((cx (bA m) i).getD yR)).toArray,.bool (cx (bA m) i).isSome])∧Ext w w':=by
 have hm0:=hm
 obtain⟨v0,v1,v2,v3,v4,v5,v6,v7,v8,v9,rfl,r0,r1,r2,r3,r4,r5,r6,r7,r8,r9,g0⟩:=hm
 obtain⟨p3,c3,rfl,l3⟩:=r3.slice
 have hat:cx (bA m) i=_:=qv (·.table) m 1 m.tables h0
 cases hn:jX m.imports 1 i with
 |some x=>
  rw[hn]at hat
  rw[hat]
  refine ae (l:=[_,_]) Tryz.func147 rfl Tryz.ntmps147 rfl (Ok.start w) ?_
  repeat'(first|refine ar ?_|(refine KO fun b_=>?_)|(refine aa.fj (t:=gU) ?_;refine aa.alloc (t:=gU) [Value.string ⟨#[]⟩,Value.string ⟨#[]⟩,Value.int .i64 0,Value.int .i64 0,Value.int .i64 0,Value.int .i64 0,Value.int .i64 0,Value.bool false,Value.int .i64 0,Value.int .i64 0,Value.bool false,Value.int .i64 0,Value.bool false] rfl rfl rfl fun b_=>?_)|(refine aa.ai (f:=170) ?_;refine aa.aq (v:=.tuple #[.agg #[Value.string x.module,Value.string x.name,Value.int .i64 x.kind,Value.int .i64 x.func,Value.int .i64 x.table.elem,Value.int .i64 x.table.lG.min,Value.int .i64 x.table.lG.max,Value.bool x.table.lG.has,Value.int .i64 x.mem.min,Value.int .i64 x.mem.max,Value.bool x.mem.has,Value.int .i64 x.eG.mH,Value.bool x.eG.qb],.bool true]) rfl rfl rfl (fun w' hw'=>by have:=fz F m 1 i _ w' (hm0.aO (show Ext w w' from hw'.at) (fun _ _ _ h=>h)) h0 hi;rw[hn]at this;exact this) ?_)|fail)
  all_goals exact ci
 |none=>
  rw[hn]at hat
  by_cases hin:0≤i - j9 m 1∧i - j9 m 1<m.tables.length
  ·have ho:tK m 1 i m.tables.length=i - j9 m 1:=if_pos hin
   obtain⟨j,hj⟩:=Int.eq_ofNat_of_zero_le hin.1
   rw[hj]at hin hat ho
   have hlt:j<m.tables.length:=by omega
   obtain⟨b,o,rfl,hF,he⟩:=r3.el hlt
   have hcc:∀k,k<4→w.cell? ⟨b,o+j*4+k,none⟩=(lA (ix m.tables j))[k]?:=wG he
   have hat2:cx (bA m) i=some (ix m.tables j):=by rw[hat];dsimp only;exact jG hlt
   rw[hat2]
   refine ae (l:=[_,_]) Tryz.func147 rfl Tryz.ntmps147 rfl (Ok.start w) ?_
   refine aZ.lL (Cs b (o+j*4) (lA (ix m.tables j))) (re hcc rfl ak) ?_
   dsimp only[lA]
   repeat'(first|refine ar ?_|(refine KO fun b_=>?_)|(refine aa.fj (t:=gU) ?_;refine aa.alloc (t:=gU) [Value.string ⟨#[]⟩,Value.string ⟨#[]⟩,Value.int .i64 0,Value.int .i64 0,Value.int .i64 0,Value.int .i64 0,Value.int .i64 0,Value.bool false,Value.int .i64 0,Value.int .i64 0,Value.bool false,Value.int .i64 0,Value.bool false] rfl rfl rfl fun b_=>?_)|(refine aa.ai (f:=170) ?_;refine aa.aq (v:=.tuple #[.agg #[Value.string ⟨#[]⟩,Value.string ⟨#[]⟩,Value.int .i64 0,Value.int .i64 0,Value.int .i64 0,Value.int .i64 0,Value.int .i64 0,Value.bool false,Value.int .i64 0,Value.int .i64 0,Value.bool false,Value.int .i64 0,Value.bool false],.bool false]) rfl rfl rfl (fun w' hw'=>by have:=fz F m 1 i _ w' (hm0.aO (show Ext w w' from hw'.at) (fun _ _ _ h=>h)) h0 hi;rw[hn]at this;exact this) ?_)|(refine aa.ai (f:=171) ?_;refine aa.aq (v:=.int .i64 (j:Nat)) rfl rfl rfl (fun w' hw'=>by have:=iL F m 1 i m.tables.length _ w' (hm0.aO (show Ext w w' from hw'.at) (fun _ _ _ h=>h)) h0 hi;rw[ho]at this;exact this) ?_)|fail)
   all_goals exact ci
  ·have ho:tK m 1 i m.tables.length=-1:=if_neg hin
   have hat2:cx (bA m) i=none:=by rw[hat];dsimp only;exact iA (by simpa using hin)
   rw[hat2]
   refine ae (l:=[_,_]) Tryz.func147 rfl Tryz.ntmps147 rfl (Ok.start w) ?_
   repeat'(first|refine ar ?_|(refine KO fun b_=>?_)|(refine aa.fj (t:=gU) ?_;refine aa.alloc (t:=gU) [Value.string ⟨#[]⟩,Value.string ⟨#[]⟩,Value.int .i64 0,Value.int .i64 0,Value.int .i64 0,Value.int .i64 0,Value.int .i64 0,Value.bool false,Value.int .i64 0,Value.int .i64 0,Value.bool false,Value.int .i64 0,Value.bool false] rfl rfl rfl fun b_=>?_)|(refine aa.ai (f:=170) ?_;refine aa.aq (v:=.tuple #[.agg #[Value.string ⟨#[]⟩,Value.string ⟨#[]⟩,Value.int .i64 0,Value.int .i64 0,Value.int .i64 0,Value.int .i64 0,Value.int .i64 0,Value.bool false,Value.int .i64 0,Value.int .i64 0,Value.bool false,Value.int .i64 0,Value.bool false],.bool false]) rfl rfl rfl (fun w' hw'=>by have:=fz F m 1 i _ w' (hm0.aO (show Ext w w' from hw'.at) (fun _ _ _ h=>h)) h0 hi;rw[hn]at this;exact this) ?_)|(refine aa.ai (f:=171) ?_;refine aa.aq (v:=.int .i64 (-1)) rfl rfl rfl (fun w' hw'=>by have:=iL F m 1 i m.tables.length _ w' (hm0.aO (show Ext w w' from hw'.at) (fun _ _ _ h=>h)) h0 hi;rw[ho]at this;exact this) ?_)|fail)
   all_goals exact Eq
set_option maxHeartbeats 8000000 in
theorem Br (F:Nat→Prop) (m:aj) (i:Int) (cs:List Value) (w:World) (hm:ay F w cs m) (h0:0≤i) (hi:dV i):Calls G.P 174 #[.agg cs.toArray,.int .i64 i] w fun e w'=>e=.returned (.tuple #[.agg (lD ((cx (dD m) i).getD FL)).toArray,.bool (cx (dD m) i).isSome])∧Ext w w':=by
 have hm0:=hm
 obtain⟨v0,v1,v2,v3,v4,v5,v6,v7,v8,v9,rfl,r0,r1,r2,r3,r4,r5,r6,r7,r8,r9,g0⟩:=hm
 obtain⟨p4,c4,rfl,l4⟩:=r4.slice
 have hat:cx (dD m) i=_:=qv (·.mem) m 2 m.da h0
 cases hn:jX m.imports 2 i with
 |some x=>
  rw[hn]at hat
  rw[hat]
  refine ae (l:=[_,_]) Tryz.func174 rfl Tryz.ntmps174 rfl (Ok.start w) ?_
  repeat'(first|refine ar ?_|(refine KO fun b_=>?_)|(refine aa.fj (t:=gU) ?_;refine aa.alloc (t:=gU) [Value.string ⟨#[]⟩,Value.string ⟨#[]⟩,Value.int .i64 0,Value.int .i64 0,Value.int .i64 0,Value.int .i64 0,Value.int .i64 0,Value.bool false,Value.int .i64 0,Value.int .i64 0,Value.bool false,Value.int .i64 0,Value.bool false] rfl rfl rfl fun b_=>?_)|(refine aa.ai (f:=170) ?_;refine aa.aq (v:=.tuple #[.agg #[Value.string x.module,Value.string x.name,Value.int .i64 x.kind,Value.int .i64 x.func,Value.int .i64 x.table.elem,Value.int .i64 x.table.lG.min,Value.int .i64 x.table.lG.max,Value.bool x.table.lG.has,Value.int .i64 x.mem.min,Value.int .i64 x.mem.max,Value.bool x.mem.has,Value.int .i64 x.eG.mH,Value.bool x.eG.qb],.bool true]) rfl rfl rfl (fun w' hw'=>by have:=fz F m 2 i _ w' (hm0.aO (show Ext w w' from hw'.at) (fun _ _ _ h=>h)) h0 hi;rw[hn]at this;exact this) ?_)|fail)
  all_goals exact ci
 |none=>
  rw[hn]at hat
  by_cases hin:0≤i - j9 m 2∧i - j9 m 2<m.da.length
  ·have ho:tK m 2 i m.da.length=i - j9 m 2:=if_pos hin
   obtain⟨j,hj⟩:=Int.eq_ofNat_of_zero_le hin.1
   rw[hj]at hin hat ho
   have hlt:j<m.da.length:=by omega
   obtain⟨b,o,rfl,hF,he⟩:=r4.el hlt
   have hcc:∀k,k<3→w.cell? ⟨b,o+j*3+k,none⟩=(lD (ix m.da j))[k]?:=uT he
   have hat2:cx (dD m) i=some (ix m.da j):=by rw[hat];dsimp only;exact jG hlt
   rw[hat2]
   refine ae (l:=[_,_]) Tryz.func174 rfl Tryz.ntmps174 rfl (Ok.start w) ?_
   refine aZ.lL (Cs b (o+j*3) (lD (ix m.da j))) (re hcc rfl ak) ?_
   dsimp only[lD]
   repeat'(first|refine ar ?_|(refine KO fun b_=>?_)|(refine aa.fj (t:=gU) ?_;refine aa.alloc (t:=gU) [Value.string ⟨#[]⟩,Value.string ⟨#[]⟩,Value.int .i64 0,Value.int .i64 0,Value.int .i64 0,Value.int .i64 0,Value.int .i64 0,Value.bool false,Value.int .i64 0,Value.int .i64 0,Value.bool false,Value.int .i64 0,Value.bool false] rfl rfl rfl fun b_=>?_)|(refine aa.ai (f:=170) ?_;refine aa.aq (v:=.tuple #[.agg #[Value.string ⟨#[]⟩,Value.string ⟨#[]⟩,Value.int .i64 0,Value.int .i64 0,Value.int .i64 0,Value.int .i64 0,Value.int .i64 0,Value.bool false,Value.int .i64 0,Value.int .i64 0,Value.bool false,Value.int .i64 0,Value.bool false],.bool false]) rfl rfl rfl (fun w' hw'=>by have:=fz F m 2 i _ w' (hm0.aO (show Ext w w' from hw'.at) (fun _ _ _ h=>h)) h0 hi;rw[hn]at this;exact this) ?_)|(refine aa.ai (f:=171) ?_;refine aa.aq (v:=.int .i64 (j:Nat)) rfl rfl rfl (fun w' hw'=>by have:=iL F m 2 i m.da.length _ w' (hm0.aO (show Ext w w' from hw'.at) (fun _ _ _ h=>h)) h0 hi;rw[ho]at this;exact this) ?_)|fail)
   all_goals exact ci
  ·have ho:tK m 2 i m.da.length=-1:=if_neg hin
   have hat2:cx (dD m) i=none:=by rw[hat];dsimp only;exact iA (by simpa using hin)
   rw[hat2]
   refine ae (l:=[_,_]) Tryz.func174 rfl Tryz.ntmps174 rfl (Ok.start w) ?_
   repeat'(first|refine ar ?_|(refine KO fun b_=>?_)|(refine aa.fj (t:=gU) ?_;refine aa.alloc (t:=gU) [Value.string ⟨#[]⟩,Value.string ⟨#[]⟩,Value.int .i64 0,Value.int .i64 0,Value.int .i64 0,Value.int .i64 0,Value.int .i64 0,Value.bool false,Value.int .i64 0,Value.int .i64 0,Value.bool false,Value.int .i64 0,Value.bool false] rfl rfl rfl fun b_=>?_)|(refine aa.ai (f:=170) ?_;refine aa.aq (v:=.tuple #[.agg #[Value.string ⟨#[]⟩,Value.string ⟨#[]⟩,Value.int .i64 0,Value.int .i64 0,Value.int .i64 0,Value.int .i64 0,Value.int .i64 0,Value.bool false,Value.int .i64 0,Value.int .i64 0,Value.bool false,Value.int .i64 0,Value.bool false],.bool false]) rfl rfl rfl (fun w' hw'=>by have:=fz F m 2 i _ w' (hm0.aO (show Ext w w' from hw'.at) (fun _ _ _ h=>h)) h0 hi;rw[hn]at this;exact this) ?_)|(refine aa.ai (f:=171) ?_;refine aa.aq (v:=.int .i64 (-1)) rfl rfl rfl (fun w' hw'=>by have:=iL F m 2 i m.da.length _ w' (hm0.aO (show Ext w w' from hw'.at) (fun _ _ _ h=>h)) h0 hi;rw[ho]at this;exact this) ?_)|fail)
   all_goals exact Eq
set_option maxHeartbeats 8000000 in
theorem jO (F:Nat→Prop) (m:aj) (i:Int) (cs:List Value) (w:World) (hm:ay F w cs m) (h0:0≤i) (hi:dV i):Calls G.P 148 #[.agg cs.toArray,.int .i64 i] w fun e w'=>e=.returned (.tuple #[.agg (nW ((cx (fA m) i).getD GN)).toArray,.bool (cx (fA m) i).isSome])∧Ext w w':=by
 have hm0:=hm
 obtain⟨v0,v1,v2,v3,v4,v5,v6,v7,v8,v9,rfl,r0,r1,r2,r3,r4,r5,r6,r7,r8,r9,g0⟩:=hm
 obtain⟨p5,c5,rfl,l5⟩:=r5.slice
 have hat:cx (fA m) i=_:=qv (fun x:bN=>x.eG) m 3 (m.globals.map fun x:gn=>x.eD) h0
 cases hn:jX m.imports 3 i with
 |some x=>
  rw[hn]at hat
  rw[hat]
  refine ae (l:=[_,_]) Tryz.func148 rfl Tryz.ntmps148 rfl (Ok.start w) ?_
  repeat'(first|refine ar ?_|(refine KO fun b_=>?_)|(refine aa.fj (t:=gU) ?_;refine aa.alloc (t:=gU) [Value.string ⟨#[]⟩,Value.string ⟨#[]⟩,Value.int .i64 0,Value.int .i64 0,Value.int .i64 0,Value.int .i64 0,Value.int .i64 0,Value.bool false,Value.int .i64 0,Value.int .i64 0,Value.bool false,Value.int .i64 0,Value.bool false] rfl rfl rfl fun b_=>?_)|(refine aa.ai (f:=170) ?_;refine aa.aq (v:=.tuple #[.agg #[Value.string x.module,Value.string x.name,Value.int .i64 x.kind,Value.int .i64 x.func,Value.int .i64 x.table.elem,Value.int .i64 x.table.lG.min,Value.int .i64 x.table.lG.max,Value.bool x.table.lG.has,Value.int .i64 x.mem.min,Value.int .i64 x.mem.max,Value.bool x.mem.has,Value.int .i64 x.eG.mH,Value.bool x.eG.qb],.bool true]) rfl rfl rfl (fun w' hw'=>by have:=fz F m 3 i _ w' (hm0.aO (show Ext w w' from hw'.at) (fun _ _ _ h=>h)) h0 hi;rw[hn]at this;exact this) ?_)|fail)
  all_goals exact ci
 |none=>
  rw[hn]at hat
  by_cases hin:0≤i - j9 m 3∧i - j9 m 3<m.globals.length
  ·have ho:tK m 3 i m.globals.length=i - j9 m 3:=if_pos hin
   obtain⟨j,hj⟩:=Int.eq_ofNat_of_zero_le hin.1
   rw[hj]at hin hat ho
   have hlt:j<m.globals.length:=by omega
   obtain⟨b,o,rfl,hF,he⟩:=r5.el hlt
   have hcc:∀k,k<2→w.cell? ⟨b,o+j*3+k,none⟩=(nW (ix m.globals j).eD)[k]?:=A6 he
   have hat2:cx (fA m) i=some (ix m.globals j).eD:=by rw[hat];dsimp only;rw[jG (by simpa using hlt),pz hlt]
   rw[hat2]
   refine ae (l:=[_,_]) Tryz.func148 rfl Tryz.ntmps148 rfl (Ok.start w) ?_
   refine aZ.lL (Cs b (o+j*3) (nW (ix m.globals j).eD)) (re hcc rfl ak) ?_
   dsimp only[nW]
   repeat'(first|refine ar ?_|(refine KO fun b_=>?_)|(refine aa.fj (t:=gU) ?_;refine aa.alloc (t:=gU) [Value.string ⟨#[]⟩,Value.string ⟨#[]⟩,Value.int .i64 0,Value.int .i64 0,Value.int .i64 0,Value.int .i64 0,Value.int .i64 0,Value.bool false,Value.int .i64 0,Value.int .i64 0,Value.bool false,Value.int .i64 0,Value.bool false] rfl rfl rfl fun b_=>?_)|(refine aa.ai (f:=170) ?_;refine aa.aq (v:=.tuple #[.agg #[Value.string ⟨#[]⟩,Value.string ⟨#[]⟩,Value.int .i64 0,Value.int .i64 0,Value.int .i64 0,Value.int .i64 0,Value.int .i64 0,Value.bool false,Value.int .i64 0,Value.int .i64 0,Value.bool false,Value.int .i64 0,Value.bool false],.bool false]) rfl rfl rfl (fun w' hw'=>by have:=fz F m 3 i _ w' (hm0.aO (show Ext w w' from hw'.at) (fun _ _ _ h=>h)) h0 hi;rw[hn]at this;exact this) ?_)|(refine aa.ai (f:=171) ?_;refine aa.aq (v:=.int .i64 (j:Nat)) rfl rfl rfl (fun w' hw'=>by have:=iL F m 3 i m.globals.length _ w' (hm0.aO (show Ext w w' from hw'.at) (fun _ _ _ h=>h)) h0 hi;rw[ho]at this;exact this) ?_)|fail)
   all_goals exact ci
  ·have ho:tK m 3 i m.globals.length=-1:=if_neg hin
   have hat2:cx (fA m) i=none:=by rw[hat];dsimp only;exact iA (by simpa using hin)
   rw[hat2]
   refine ae (l:=[_,_]) Tryz.func148 rfl Tryz.ntmps148 rfl (Ok.start w) ?_
   repeat'(first|refine ar ?_|(refine KO fun b_=>?_)|(refine aa.fj (t:=gU) ?_;refine aa.alloc (t:=gU) [Value.string ⟨#[]⟩,Value.string ⟨#[]⟩,Value.int .i64 0,Value.int .i64 0,Value.int .i64 0,Value.int .i64 0,Value.int .i64 0,Value.bool false,Value.int .i64 0,Value.int .i64 0,Value.bool false,Value.int .i64 0,Value.bool false] rfl rfl rfl fun b_=>?_)|(refine aa.ai (f:=170) ?_;refine aa.aq (v:=.tuple #[.agg #[Value.string ⟨#[]⟩,Value.string ⟨#[]⟩,Value.int .i64 0,Value.int .i64 0,Value.int .i64 0,Value.int .i64 0,Value.int .i64 0,Value.bool false,Value.int .i64 0,Value.int .i64 0,Value.bool false,Value.int .i64 0,Value.bool false],.bool false]) rfl rfl rfl (fun w' hw'=>by have:=fz F m 3 i _ w' (hm0.aO (show Ext w w' from hw'.at) (fun _ _ _ h=>h)) h0 hi;rw[hn]at this;exact this) ?_)|(refine aa.ai (f:=171) ?_;refine aa.aq (v:=.int .i64 (-1)) rfl rfl rfl (fun w' hw'=>by have:=iL F m 3 i m.globals.length _ w' (hm0.aO (show Ext w w' from hw'.at) (fun _ _ _ h=>h)) h0 hi;rw[ho]at this;exact this) ?_)|fail)
   all_goals exact Eq
end Go.Proofs.YtgbgnipidakdhaaGreatDoor
