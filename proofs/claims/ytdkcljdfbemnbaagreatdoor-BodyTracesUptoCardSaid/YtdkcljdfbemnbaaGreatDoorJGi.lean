import Derived.Test.YtdkcljdfbemnbaaGreatDoorJSk
namespace Go.Proofs.YtdkcljdfbemnbaaGreatDoor
open Go.RowKit _root_.Go.Proofs.Tryz
set_option maxHeartbeats 16000000
open Int renaming eq_ofNat_of_zero_le→PJ
open List renaming cons_append→Pq,getElem?_eq_getElem→Pw,length_map→PV,nil_append→Pp,take_length→PA
open Value renaming bool→Po,int→Pm,slice→Pn,string→Pr
set_option maxRecDepth 100000
def o9 (s:Nat) (w:World) (v:Value) (n:Nat) (cs:List Value):Prop:=∃p c,v=.slice p n c∧cs.length=n*s∧(n=0∨∃b o,p=some ⟨b,o,none⟩∧∀j,j<cs.length→w.cell? ⟨b,o+j,none⟩=cs[j]?)
variable (k:Int) {α:Type} {s n:Nat} (l:List Int) (v:Value) (i:Int) (w:World) (F:Nat→Prop) (B:Nat)
theorem o9.ext {w w':World} {v:Value} {cs:List Value} (h:o9 s w v n cs) (hx:Ext w w'):o9 s w' v n cs:=by
 obtain⟨p,c,rfl,hl,h⟩:=h
 refine⟨p,c,rfl,hl,?_⟩
 rcases h with h|⟨b,o,rfl,h⟩
 ·exact .inl h
 ·exact .inr ⟨b,o,rfl,fun j hj=>by rw[Pw hj];exact hx.cell (by rw[h j hj,Pw hj])⟩
theorem kt {B T s n:Nat} {w:World} {v:Value} {cs:List Value} (h:w.ownsRow B T s v n cs):o9 s w v n cs:=by
 obtain⟨p,c,rfl,_,_,hg⟩:=aw h
 refine⟨p,c,rfl,h.1,?_⟩
 by_cases h0:n=0
 ·exact .inl h0
 ·obtain⟨g,rfl,_,_⟩:=hg (Nat.pos_of_ne_zero h0)
  exact .inr ⟨g,0,rfl,fun j hj=>by rw[Nat.zero_add,Pw hj];exact dP h (Pw hj)⟩
theorem o9.cells [Inhabited α] {s n:Nat} {w:World} {p:Option Addr} {c:Nat} {l:List α} (cf:α→List Value) (hs:∀x,(cf x).length=s) (h:o9 s w (.slice p n c) l.length (l.flatMap cf)) {i:Nat} (hi:i<l.length):∃b o,p=some ⟨b,o,none⟩∧∀j,j<s→w.cell? ⟨b,o+i*s+j,none⟩=(cf (ix l i))[j]?:=by
 obtain⟨p',c',e,hl,h⟩:=h
 cases e
 rcases h with h|⟨b,o,rfl,h⟩
 ·omega
 ·refine⟨b,o,rfl,fun j hj=>?_⟩
  rw[Nat.add_assoc,h _ (by rw[hl];have:=Nat.mul_le_mul_right s (show i+1≤l.length from hi);rw[Nat.succ_mul]at this;omega),jz cf hs l i j hi hj]
theorem o9.slice {w:World} {v:Value} {cs:List Value} (h:o9 s w v n cs):∃p c,v=.slice p n c:=by obtain⟨p,c,e,_⟩:=h;exact⟨p,c,e⟩
theorem jV [Inhabited α] {l:List α} {j:Nat} (_h:j<l.length):cJ l (j:Int)=some (ix l j):=by unfold cJ;rw[if_pos ⟨by omega,by omega⟩];rfl
theorem iN [Inhabited α] {l:List α} {i:Int} (h:¬(0≤i∧i<l.length)):cJ l i=none:=by unfold cJ;rw[if_neg h]
def By:fJ:=⟨0,⟨0,0,false⟩⟩
def IF:fu:=⟨0,0,false⟩
def JH:iM:=⟨0,false⟩
theorem EP (l:List fJ) (v:Value) (i:Int) (w:World) (h:o9 4 w v l.length (l.flatMap mY)):Calls G.P 169 #[v,.int .i64 i] w fun e w'=>e=.returned (.tuple #[.agg (mY ((cJ l i).getD By)).toArray,.bool (cJ l i).isSome])∧Ext w w':=by
 obtain⟨p,c,rfl⟩:=h.slice
 by_cases hin:0≤i∧i<l.length
 ·obtain⟨j,rfl⟩:=PJ hin.1
  have hj:j<l.length:=by omega
  obtain⟨b,o,rfl,hc⟩:=h.cells mY (fun _=>rfl) hj
  have e:=jV hj
  refine ae (l:=[.slice (some ⟨b,o,none⟩) l.length c,.int .i64 j]) func169 rfl ntmps169 rfl (Ok.start w) ?_
  refine bh.lj (Cs b (o+j*4) (mY (ix l j))) (fun w' hw'=>by intro k hk;have:=hc k hk;rw[show(mY (ix l j))[k]?=some ((mY (ix l j))[k]'hk)from Pw hk]at this ⊢;exact(show Ext w w' from hw' _ ak).cell this) ?_
  dsimp only[mY]
  repeat'(first|refine ar ?_|(refine aa.alloc (t:=sy) [Pn none 0 0,Pn none 0 0] rfl rfl rfl fun b_=>?_)|(refine aa.alloc (t:=qx) [Pm .i64 0,Pm .i64 0,Pm .i64 0,Po false] rfl rfl rfl fun b_=>?_)|(refine aa.alloc (t:=rk) [Pm .i64 0,Pm .i64 0,Po false] rfl rfl rfl fun b_=>?_)|(refine aa.alloc (t:=rj) [Pm .i64 0,Po false] rfl rfl rfl fun b_=>?_)|(refine bC ?_ ?_<;>intro hc_))
  all_goals exact jp
 ·have e:=iN hin
  refine ae (l:=[.slice p l.length c,.int .i64 i]) func169 rfl ntmps169 rfl (Ok.start w) ?_
  repeat'(first|refine ar ?_|(refine aa.alloc (t:=sy) [Pn none 0 0,Pn none 0 0] rfl rfl rfl fun b_=>?_)|(refine aa.alloc (t:=qx) [Pm .i64 0,Pm .i64 0,Pm .i64 0,Po false] rfl rfl rfl fun b_=>?_)|(refine aa.alloc (t:=rk) [Pm .i64 0,Pm .i64 0,Po false] rfl rfl rfl fun b_=>?_)|(refine aa.alloc (t:=rj) [Pm .i64 0,Po false] rfl rfl rfl fun b_=>?_)|(refine bC ?_ ?_<;>intro hc_))
  all_goals exact kw
theorem o9.Hx {w:World} {n:Nat} {p:Option Addr} {c:Nat} {l:List Int} (h:o9 1 w (.slice p n c) l.length (l.map (Pm .i64))) {i:Nat} (hi:i<l.length):∃b o,p=some ⟨b,o,none⟩∧w.cell? ⟨b,o+i,none⟩=some (.int .i64 (ix l i)):=by
 obtain⟨p',c',e,hl,h⟩:=h
 cases e
 rcases h with h|⟨b,o,rfl,h⟩
 ·omega
 ·exact⟨b,o,rfl,by rw[h i (by simpa using hi),List.getElem?_map,iz hi];rfl⟩
theorem Dg (l:List fu) (v:Value) (i:Int) (w:World) (h:o9 3 w v l.length (l.flatMap mK)):Calls G.P 172 #[v,.int .i64 i] w fun e w'=>e=.returned (.tuple #[.agg (mK ((cJ l i).getD IF)).toArray,.bool (cJ l i).isSome])∧Ext w w':=by
 obtain⟨p,c,rfl⟩:=h.slice
 by_cases hin:0≤i∧i<l.length
 ·obtain⟨j,rfl⟩:=PJ hin.1
  have hj:j<l.length:=by omega
  obtain⟨b,o,rfl,hc⟩:=h.cells mK (fun _=>rfl) hj
  have e:=jV hj
  refine ae (l:=[.slice (some ⟨b,o,none⟩) l.length c,.int .i64 j]) func172 rfl ntmps172 rfl (Ok.start w) ?_
  refine bh.lj (Cs b (o+j*3) (mK (ix l j))) (fun w' hw'=>by intro k hk;have:=hc k hk;rw[show(mK (ix l j))[k]?=some ((mK (ix l j))[k]'hk)from Pw hk]at this ⊢;exact(show Ext w w' from hw' _ ak).cell this) ?_
  dsimp only[mK]
  repeat'(first|refine ar ?_|(refine aa.alloc (t:=sy) [Pn none 0 0,Pn none 0 0] rfl rfl rfl fun b_=>?_)|(refine aa.alloc (t:=qx) [Pm .i64 0,Pm .i64 0,Pm .i64 0,Po false] rfl rfl rfl fun b_=>?_)|(refine aa.alloc (t:=rk) [Pm .i64 0,Pm .i64 0,Po false] rfl rfl rfl fun b_=>?_)|(refine aa.alloc (t:=rj) [Pm .i64 0,Po false] rfl rfl rfl fun b_=>?_)|(refine bC ?_ ?_<;>intro hc_))
  all_goals exact jp
 ·have e:=iN hin
  refine ae (l:=[.slice p l.length c,.int .i64 i]) func172 rfl ntmps172 rfl (Ok.start w) ?_
  repeat'(first|refine ar ?_|(refine aa.alloc (t:=sy) [Pn none 0 0,Pn none 0 0] rfl rfl rfl fun b_=>?_)|(refine aa.alloc (t:=qx) [Pm .i64 0,Pm .i64 0,Pm .i64 0,Po false] rfl rfl rfl fun b_=>?_)|(refine aa.alloc (t:=rk) [Pm .i64 0,Pm .i64 0,Po false] rfl rfl rfl fun b_=>?_)|(refine aa.alloc (t:=rj) [Pm .i64 0,Po false] rfl rfl rfl fun b_=>?_)|(refine bC ?_ ?_<;>intro hc_))
  all_goals exact kw
theorem Df (l:List iM) (v:Value) (i:Int) (w:World) (h:o9 2 w v l.length (l.flatMap pY)):Calls G.P 170 #[v,.int .i64 i] w fun e w'=>e=.returned (.tuple #[.agg (pY ((cJ l i).getD JH)).toArray,.bool (cJ l i).isSome])∧Ext w w':=by
 obtain⟨p,c,rfl⟩:=h.slice
 by_cases hin:0≤i∧i<l.length
 ·obtain⟨j,rfl⟩:=PJ hin.1
  have hj:j<l.length:=by omega
  obtain⟨b,o,rfl,hc⟩:=h.cells pY (fun _=>rfl) hj
  have e:=jV hj
  refine ae (l:=[.slice (some ⟨b,o,none⟩) l.length c,.int .i64 j]) func170 rfl ntmps170 rfl (Ok.start w) ?_
  refine bh.lj (Cs b (o+j*2) (pY (ix l j))) (fun w' hw'=>by intro k hk;have:=hc k hk;rw[show(pY (ix l j))[k]?=some ((pY (ix l j))[k]'hk)from Pw hk]at this ⊢;exact(show Ext w w' from hw' _ ak).cell this) ?_
  dsimp only[pY]
  repeat'(first|refine ar ?_|(refine aa.alloc (t:=sy) [Pn none 0 0,Pn none 0 0] rfl rfl rfl fun b_=>?_)|(refine aa.alloc (t:=qx) [Pm .i64 0,Pm .i64 0,Pm .i64 0,Po false] rfl rfl rfl fun b_=>?_)|(refine aa.alloc (t:=rk) [Pm .i64 0,Pm .i64 0,Po false] rfl rfl rfl fun b_=>?_)|(refine aa.alloc (t:=rj) [Pm .i64 0,Po false] rfl rfl rfl fun b_=>?_)|(refine bC ?_ ?_<;>intro hc_))
  all_goals exact jp
 ·have e:=iN hin
  refine ae (l:=[.slice p l.length c,.int .i64 i]) func170 rfl ntmps170 rfl (Ok.start w) ?_
  repeat'(first|refine ar ?_|(refine aa.alloc (t:=sy) [Pn none 0 0,Pn none 0 0] rfl rfl rfl fun b_=>?_)|(refine aa.alloc (t:=qx) [Pm .i64 0,Pm .i64 0,Pm .i64 0,Po false] rfl rfl rfl fun b_=>?_)|(refine aa.alloc (t:=rk) [Pm .i64 0,Pm .i64 0,Po false] rfl rfl rfl fun b_=>?_)|(refine aa.alloc (t:=rj) [Pm .i64 0,Po false] rfl rfl rfl fun b_=>?_)|(refine bC ?_ ?_<;>intro hc_))
  all_goals exact kw
theorem ER (h:o9 1 w v l.length (l.map (Pm .i64))):Calls G.P 167 #[v,.int .i64 i] w fun e w'=>e=.returned (.tuple #[.int .i64 ((cJ l i).getD 0),.bool (cJ l i).isSome])∧Ext w w':=by
 obtain⟨p,c,rfl⟩:=h.slice
 by_cases hin:0≤i∧i<l.length
 ·obtain⟨j,rfl⟩:=PJ hin.1
  have hj:j<l.length:=by omega
  obtain⟨b,o,rfl,hc⟩:=h.Hx hj
  have e:=jV hj
  refine ae (l:=[.slice (some ⟨b,o,none⟩) l.length c,.int .i64 j]) func167 rfl ntmps167 rfl (Ok.start w) ?_
  repeat'(first|refine ar ?_|(refine bC ?_ ?_<;>intro hc_))
  all_goals exact ah.ie rfl rfl rfl fun w' hw'=>⟨by rw[e];rfl,hw'.at⟩
 ·have e:=iN hin
  refine ae (l:=[.slice p l.length c,.int .i64 i]) func167 rfl ntmps167 rfl (Ok.start w) ?_
  repeat'(first|refine ar ?_|(refine bC ?_ ?_<;>intro hc_))
  all_goals first|omega|exact ah.ie rfl rfl rfl fun w' hw'=>⟨by rw[e];rfl,hw'.at⟩
theorem HZ (h:o9 1 w v l.length (l.map (Pm .i64))):Calls G.P 171 #[v,.int .i64 i] w fun e w'=>e=.returned (.tuple #[.int .i64 ((cJ l i).getD 0),.bool (cJ l i).isSome])∧Ext w w':=by
 obtain⟨p,c,rfl⟩:=h.slice
 by_cases hin:0≤i∧i<l.length
 ·obtain⟨j,rfl⟩:=PJ hin.1
  have hj:j<l.length:=by omega
  obtain⟨b,o,rfl,hc⟩:=h.Hx hj
  have e:=jV hj
  refine ae (l:=[.slice (some ⟨b,o,none⟩) l.length c,.int .i64 j]) func171 rfl ntmps171 rfl (Ok.start w) ?_
  repeat'(first|refine ar ?_|(refine bC ?_ ?_<;>intro hc_))
  all_goals exact ah.ie rfl rfl rfl fun w' hw'=>⟨by rw[e];rfl,hw'.at⟩
 ·have e:=iN hin
  refine ae (l:=[.slice p l.length c,.int .i64 i]) func171 rfl ntmps171 rfl (Ok.start w) ?_
  repeat'(first|refine ar ?_|(refine bC ?_ ?_<;>intro hc_))
  all_goals first|omega|exact ah.ie rfl rfl rfl fun w' hw'=>⟨by rw[e];rfl,hw'.at⟩
theorem Ab {g g':Prop} (h:g') (hw:eA g'→g:=by(intro hk_;(first|refine Oa ?_);exact hk_.out)):g:=hw ⟨h⟩
theorem gV (m:af) (v:Value) (i:Int) (w:World) (h:bK B m w v):Calls G.P 137 #[v,.int .i64 i] w fun e w'=>e=.returned (.tuple #[.agg (mY ((cJ (bM m) i).getD By)).toArray,.bool (cJ (bM m) i).isSome])∧Ext w w':=by
 obtain⟨bS,sp,im,dm,vs,tc,ig,dg,rfl,-,h⟩:=h
 have hb:=kt h.bs
 have c2:w.cell? ⟨sp,2,none⟩=some vs.bv:=h.x.cell rfl
 have et:(wU m).tables=bM m:=by rw[qg]
 rw[et]at hb
 refine ae (l:=[_,_]) func137 rfl ntmps137 rfl (Ok.start w) ?_
 repeat'(first|refine ar ?_|(refine NW fun b_=>?_)|refine Ab ?_|(refine aa.aj (f:=169) ?_;refine aa.av rfl rfl rfl (fun w' hw'=>EP _ _ i w' (hb.ext hw'.at)) ?_)|fail)
 all_goals exact li
theorem El (m:af) (v:Value) (i:Int) (w:World) (h:bK B m w v):Calls G.P 142 #[v,.int .i64 i] w fun e w'=>e=.returned (.tuple #[.agg (mK ((cJ (ec m) i).getD IF)).toArray,.bool (cJ (ec m) i).isSome])∧Ext w w':=by
 obtain⟨bS,sp,im,dm,vs,tc,ig,dg,rfl,-,h⟩:=h
 have hb:=kt h.ms
 have c2:w.cell? ⟨sp,3,none⟩=some vs.mv:=h.x.cell rfl
 have et:(wU m).bQ=ec m:=by rw[qg]
 rw[et]at hb
 refine ae (l:=[_,_]) func142 rfl ntmps142 rfl (Ok.start w) ?_
 repeat'(first|refine ar ?_|(refine NW fun b_=>?_)|refine Ab ?_|(refine aa.aj (f:=172) ?_;refine aa.av rfl rfl rfl (fun w' hw'=>Dg _ _ i w' (hb.ext hw'.at)) ?_)|fail)
 all_goals exact li
theorem kG (m:af) (v:Value) (i:Int) (w:World) (h:bK B m w v):Calls G.P 138 #[v,.int .i64 i] w fun e w'=>e=.returned (.tuple #[.agg (pY ((cJ (gg m) i).getD JH)).toArray,.bool (cJ (gg m) i).isSome])∧Ext w w':=by
 obtain⟨bS,sp,im,dm,vs,tc,ig,dg,rfl,-,h⟩:=h
 have hb:=kt h.gs
 have c2:w.cell? ⟨sp,4,none⟩=some vs.gv:=h.x.cell rfl
 have et:(wU m).globals=gg m:=by rw[qg]
 rw[et]at hb
 refine ae (l:=[_,_]) func138 rfl ntmps138 rfl (Ok.start w) ?_
 repeat'(first|refine ar ?_|(refine NW fun b_=>?_)|refine Ab ?_|(refine aa.aj (f:=170) ?_;refine aa.av rfl rfl rfl (fun w' hw'=>Df _ _ i w' (hb.ext hw'.at)) ?_)|fail)
 all_goals exact li
theorem B7 (m:af) (v:Value) (i:Int) (w:World) (h:bK B m w v):Calls G.P 140 #[v,.int .i64 i] w fun e w'=>e=.returned (.tuple #[.int .i64 ((cJ (dO m) i).getD 0),.bool (cJ (dO m) i).isSome])∧Ext w w':=by
 obtain⟨bS,sp,im,dm,vs,tc,ig,dg,rfl,-,h⟩:=h
 have hb:=kt h.es
 have c2:w.cell? ⟨sp,5,none⟩=some vs.ev:=h.x.cell rfl
 have et:(wU m).elems=dO m:=by rw[qg]
 rw[et]at hb
 refine ae (l:=[_,_]) func140 rfl ntmps140 rfl (Ok.start w) ?_
 repeat'(first|refine ar ?_|refine Ab ?_|(refine aa.aj (f:=171) ?_;refine aa.av rfl rfl rfl (fun w' hw'=>HZ _ _ i w' (hb.ext hw'.at)) ?_)|fail)
 all_goals exact ah.ie rfl rfl rfl fun w' hw'=>⟨by rfl,hw'.at⟩
theorem AM (m:af) (v:Value) (w:World) (h:bK B m w v):Calls G.P 141 #[v] w fun e w'=>e=.returned (.int .i64 m.bg.length)∧Ext w w':=by
 obtain⟨bS,sp,im,dm,vs,tc,ig,dg,rfl,-,h⟩:=h
 have c2:w.cell? ⟨sp,6,none⟩=some (.int .i64 (wU m).bg):=h.x.cell rfl
 have et:(wU m).bg=m.bg.length:=by rw[qg]
 rw[et]at c2
 refine ae (l:=[_]) func141 rfl ntmps141 rfl (Ok.start w) ?_
 repeat'(first|refine ar ?_|refine Ab ?_|fail)
 all_goals exact ge
theorem AN (m:af) (v:Value) (w:World) (h:bK B m w v):Calls G.P 168 #[v] w fun e w'=>e=.returned (.int .i64 (gL m).length)∧Ext w w':=by
 obtain⟨bS,sp,im,dm,vs,tc,ig,dg,rfl,-,h⟩:=h
 have hb:=kt h.fs
 have c2:w.cell? ⟨sp,1,none⟩=some vs.fv:=h.x.cell rfl
 have et:(wU m).funcs=gL m:=by rw[qg]
 rw[et]at hb
 obtain⟨p,c,e⟩:=hb.slice
 rw[e]at c2
 refine ae (l:=[_]) func168 rfl ntmps168 rfl (Ok.start w) ?_
 repeat'(first|refine ar ?_|refine Ab ?_|fail)
 all_goals exact ge
theorem oM (m:af) (v:Value) (i:Int) (w:World) (h:bK B m w v) (hi:eP i):Calls G.P 136 #[v,.int .i64 i] w fun e w'=>e=.returned (.bool (nL m i))∧Ext w w':=by
 have h0:=h
 obtain⟨bS,sp,im,dm,vs,tc,ig,dg,rfl,-,h⟩:=h
 have c2:w.cell? ⟨sp,8,none⟩=some (.map (some dm)):=h.x.cell rfl
 have hd:=h.dec i
 refine ae (l:=[_,_]) func136 rfl ntmps136 rfl (Ok.start w) ?_
 repeat'(first|refine ar ?_|(refine aa.cK (f:=78) ?_;refine aa.cB pk rfl rfl rfl (fun w' hw'=>mg bS sp w' (h.s.aN (show Ext w w' from hw'.at) (fun h=>h))) ?_)|(refine aa.cK (f:=168) ?_;refine aa.cB pk rfl rfl rfl (fun w' hw'=>AN B m _ w' (h0.aN (show Ext w w' from hw'.at) (fun _ _ h=>h))) ?_)|(refine aa.GR ?_;refine aa.yg (by first|exact td rfl eJ) (Yl.GV (zv:=.bool false) underlying78 underlying3 (fun _=>rfl) rfl rfl hi h.dm ak) rfl ?_;rw[hd])|(refine bC ?_ ?_<;>intro hc_))
 all_goals exact ah.aG rfl rfl fun w' hw'=>⟨by unfold nL;by_cases a_:0≤i<;>by_cases b_:i<((gL m).length:Int)<;>first|omega|simp[a_,b_]|simp_all,hw'.at⟩
def Gk (B:Nat) (f:aO) (x:Value×Value):List bu:=[.own B n8 1 x.1 f.params.length (f.params.map (Pm .i64)),.own B n8 1 x.2 f.results.length (f.results.map (Pm .i64))]
theorem pH (f:aO) (u0 u1:Value) (w:World) (h0:ai F w u0 f.params) (h1:ai F w u1 f.results) (hB:B≤w.heap.size):Calls G.P 20 #[.agg #[u0,u1]] w (aC [] w (fun x:Value×Value=>.agg #[x.1,x.2]) (fun _=>True) (Gk B f)):=by
 obtain⟨p0,c0,rfl,l0⟩:=h0.slice
 obtain⟨p1,c1,rfl,l1⟩:=h1.slice
 refine ae (l:=[.agg #[.slice p0 f.params.length c0,.slice p1 f.results.length c1]]) func20 rfl ntmps20 rfl (Ok.start w) ?_
 refine cq ?_
 refine aa.box [.slice p0 f.params.length c0,.slice p1 f.results.length c1] rfl rfl rfl fun b1=>?_
 refine cq ?_
 refine aa.alloc [Pn none 0 0,Pn none 0 0] rfl rfl rfl fun b2=>?_
 refine cq ?_
 refine bh.iP B n8 1 ?_
 refine bh.iP B n8 1 ?_
 refine bh.dQ [0,1,3,4,2,5,6] 7 [.aW b1 [.slice p0 f.params.length c0,.slice p1 f.results.length c1] sy] [Ext w] Pb bz aU ?_
 refine m7 ?_
 refine bF.he (HE.gR (f.params.map (Pm .i64)) rfl rfl (fun _=>aH) (jJ h0 ak) Pj rfl rfl rfl Pk Pk Pk (fj _) OW Pi (fun w' hw'=>Nat.le_trans hB (show Ext w w' from hw'.at).size)) rfl (fun _=>bz) (fun _=>aU) ?_
 intro v1 _
 refine bF.he (HE.gR (f.results.map (Pm .i64)) rfl rfl (fun _=>aH) (jJ h1 ak) Pj rfl rfl rfl Pk Pk Pk (fj _) (by show(0+f.results.length)*8≤_;omega) Pi (fun w' hw'=>Nat.le_trans hB (show Ext w w' from hw'.at).size)) rfl (fun _=>bz) (fun _=>aU) ?_
 intro v2 _
 refine bF.pure (φ:=(∃p c,v1=.slice p (0+f.params.length) c)∧∃p c,v2=.slice p (0+f.results.length) c) (fun w' hw'=>⟨?_,?_⟩) ?_
 ·obtain⟨p,c,e,_⟩:=aw (hw'.own (v:=v1));exact⟨p,c,e⟩
 ·obtain⟨p,c,e,_⟩:=aw (hw'.own (v:=v2));exact⟨p,c,e⟩
 rintro⟨⟨q1,d1,rfl⟩,⟨q2,d2,rfl⟩⟩
 refine m7 ?_
 refine bF.iO (gj.bn _ rfl rfl rfl rfl rfl rfl aH rfl) rfl ?_
 rintro⟨⟩ _
 simp only[Nat.zero_add,Pp]
 refine cq ?_
 refine ah.bB (.inl rfl) rfl rfl rfl rfl rfl aH rfl fun w' hw'=>aC.sF (x:=(Pn q1 f.params.length d1,Pn q2 f.results.length d2)) trivial hw' ?_ ak
 dsimp only[Gk]
 exact bz
theorem A9 (b o n c j n0 n1 y0 y1:Nat) (x0 x1:Option Addr) (w:World) (_hj:j<n) (g0:w.cell? ⟨b,o+j*2,none⟩=some (.slice x0 n0 y0)) (g1:w.cell? ⟨b,o+j*2+1,none⟩=some (.slice x1 n1 y1)):Calls G.P 77 #[.slice (some ⟨b,o,none⟩) n c,.int .i64 j] w fun e w'=>e=.returned (.tuple #[.agg #[.slice x0 n0 y0,.slice x1 n1 y1],.bool true])∧Ext w w':=by
 refine ae (l:=[_,_]) func77 rfl ntmps77 rfl (Ok.start w) ?_
 refine bh.lj (Cs b (o+j*2) [Pn x0 n0 y0,Pn x1 n1 y1]) (fun w' hw'=>by
  intro k hk
  have hx:Ext w w':=hw' _ ak
  match k,hk with
  |0,_=>exact hx.cell g0
  |1,_=>exact hx.cell g1) ?_
 repeat'(first|refine ar ?_|(refine NW fun b_=>?_)|fail)
 all_goals exact li
theorem zy (p:Option Addr) (n c:Nat) (i:Int) (w:World) (_hin:¬(0≤i∧i<n)):Calls G.P 77 #[.slice p n c,.int .i64 i] w fun e w'=>e=.returned (.tuple #[.agg #[.slice none 0 0,.slice none 0 0],.bool false])∧Ext w w':=by
 refine ae (l:=[_,_]) func77 rfl ntmps77 rfl (Ok.start w) ?_
 repeat'(first|refine ar ?_|(refine NW fun b_=>?_)|(refine bC ?_ ?_<;>intro hc_))
 all_goals exact lm
theorem Hz {m:af} {i:Int} {B:Nat} {w:World} {tc:List Value} {tv:Value} (hr:o9 2 w tv m.types.length tc) (ht:mE B tc m.types w):∃p c,tv=.slice p m.types.length c∧((¬(0≤i∧i<m.types.length)∧cJ m.types i=none)∨∃(j b o:Nat) (x0 x1:Option Addr) (y0 y1:Nat),i=j∧j<m.types.length∧p=some ⟨b,o,none⟩∧cJ m.types i=some (ix m.types j)∧
  w.cell? ⟨b,o+j*2,none⟩=some (.slice x0 (ix m.types j).params.length y0)∧w.cell? ⟨b,o+j*2+1,none⟩=some (.slice x1 (ix m.types j).results.length y1)∧ai (fun k=>B≤k) w (.slice x0 (ix m.types j).params.length y0) (ix m.types j).params∧ai (fun k=>B≤k) w (.slice x1 (ix m.types j).results.length y1) (ix m.types j).results):=by
 obtain⟨p,c,rfl,hl,hr⟩:=hr
 refine⟨p,c,rfl,?_⟩
 by_cases hin:0≤i∧i<m.types.length
 ·obtain⟨j,rfl⟩:=PJ hin.1
  have hj:j<m.types.length:=by omega
  obtain⟨b,o,rfl,hc⟩:=hr.resolve_left Pi
  obtain⟨u0,u1,e1,e2,q0,q1⟩:=ht.2 j hj
  obtain⟨x0,y0,rfl,z0⟩:=q0.slice
  obtain⟨x1,y1,rfl,z1⟩:=q1.slice
  have hlt:j*2+1<tc.length:=(List.getElem?_eq_some_iff.1 e2).1
  exact .inr ⟨j,b,o,x0,x1,y0,y1,rfl,hj,rfl,jV hj,by rw[hc _ Pi,e1],by rw[Nat.add_assoc,hc _ hlt,e2],q0,q1⟩
 ·exact .inl ⟨hin,iN hin⟩
def EF (B:Nat) (w:World) (r:Option aO):Ending→World→Prop:=aC [] w (fun x:Value×Value=>.tuple #[.agg #[x.1,x.2],.bool r.isSome]) (fun _=>True) (Gk B (r.getD dF))
theorem sr (B0 B:Nat) (m:af) (v:Value) (i:Int) (w:World) (h:bK B0 m w v) (hB:B≤w.heap.size):Calls G.P 43 #[v,.int .i64 i] w (EF B w (cJ m.types i)):=by
 obtain⟨bS,sp,im,dm,vs,tc,ig,dg,rfl,-,h⟩:=h
 have hb:=kt h.ts
 have c2:w.cell? ⟨sp,0,none⟩=some vs.tv:=h.x.cell rfl
 obtain⟨p,c,e,hh⟩:=Hz (i:=i) hb h.ty
 rw[e]at c2
 unfold EF
 rcases hh with⟨hin,hat⟩|⟨j,b,o,x0,x1,y0,y1,rfl,hj,rfl,hat,g0,g1,q0,q1⟩
 ·rw[hat]
  refine ae (l:=[_,_]) func43 rfl ntmps43 rfl (Ok.start w) ?_
  repeat'(first|refine ar ?_|(refine NW fun b_=>?_)|refine Ab ?_|(refine aa.aj (f:=77) ?_;refine aa.av rfl rfl rfl (fun w' hw'=>zy p m.types.length c i w' hin) ?_)|fail)
  refine aa.he (HE.tB (M0:=[]) rfl rfl (fun w' hw'=>pH (fun _=>False) B dF _ _ w' (ai.cH _ _) (ai.cH _ _) (Nat.le_trans hB (show Ext w w' from hw'.at).size))) rfl ?_
  rintro⟨v1,v2⟩ _
  dsimp only[Gk,Pq,Pp]
  refine aa.pure (φ:=(∃p c,v1=.slice p dF.params.length c)∧∃p c,v2=.slice p dF.results.length c) (fun w' hw'=>⟨?_,?_⟩) ?_
  ·obtain⟨p,c,e,_⟩:=aw (hw'.own (v:=v1));exact⟨p,c,e⟩
  ·obtain⟨p,c,e,_⟩:=aw (hw'.own (v:=v2));exact⟨p,c,e⟩
  rintro⟨⟨q1,d1,rfl⟩,⟨q2,d2,rfl⟩⟩
  repeat'(first|refine ar ?_|fail)
  exact ah.aM (.inl rfl) rfl rfl rfl rfl rfl aH rfl rfl fun w' hw'=>aC.sF (x:=(Pn q1 dF.params.length d1,Pn q2 dF.results.length d2)) trivial hw' (by dsimp only[Gk];exact bz) ak
 ·rw[hat]
  refine ae (l:=[_,_]) func43 rfl ntmps43 rfl (Ok.start w) ?_
  repeat'(first|refine ar ?_|(refine NW fun b_=>?_)|refine Ab ?_|(refine aa.aj (f:=77) ?_;refine aa.av rfl rfl rfl (fun w' hw'=>A9 b o m.types.length c j _ _ y0 y1 x0 x1 w' hj ((show Ext w w' from hw'.at).cell g0) ((show Ext w w' from hw'.at).cell g1)) ?_)|fail)
  refine aa.he (HE.tB (M0:=[]) rfl rfl (fun w' hw'=>pH (fun k=>B0≤k) B (ix m.types j) _ _ w' (q0.aN (show Ext w w' from hw'.at) (fun _ _ _ h=>h)) (q1.aN (show Ext w w' from hw'.at) (fun _ _ _ h=>h)) (Nat.le_trans hB (show Ext w w' from hw'.at).size))) rfl ?_
  rintro⟨v1,v2⟩ _
  dsimp only[Gk,Pq,Pp]
  refine aa.pure (φ:=(∃p c,v1=.slice p (ix m.types j).params.length c)∧∃p c,v2=.slice p (ix m.types j).results.length c) (fun w' hw'=>⟨?_,?_⟩) ?_
  ·obtain⟨p,c,e,_⟩:=aw (hw'.own (v:=v1));exact⟨p,c,e⟩
  ·obtain⟨p,c,e,_⟩:=aw (hw'.own (v:=v2));exact⟨p,c,e⟩
  rintro⟨⟨q1,d1,rfl⟩,⟨q2,d2,rfl⟩⟩
  repeat'(first|refine ar ?_|fail)
  exact ah.aM (.inl rfl) rfl rfl rfl rfl rfl aH rfl rfl fun w' hw'=>aC.sF (x:=(Pn q1 (ix m.types j).params.length d1,Pn q2 (ix m.types j).results.length d2)) trivial hw' (by dsimp only[Gk];exact bz) ak
def Ll:bY:=⟨⟨#[]⟩,⟨#[]⟩,0,0,By,IF,JH⟩
theorem jr {w:World} {R:List (World→Prop)} {b o s:Nat} {cs:List Value} (hc:∀j,j<s→w.cell? ⟨b,o+j,none⟩=cs[j]?) (_hl:cs.length=s) (hR:Ext w∈R):∀w',(∀r,r∈R→r w')→Cs b o cs w':=fun w' hw' k hk=>by
 have h:=hc k Pi
 rw[Pw hk]at h ⊢
 exact(show Ext w w' from hw' _ hR).cell h
theorem Du {F:Nat→Prop} {w:World} {b o:Nat} {x:gW} (h:cV F w b o x):∀j,j<2→w.cell? ⟨b,o+j,none⟩=(pY x.dI)[j]?:=by
 obtain⟨cs,hV,hc⟩:=h
 obtain⟨v0,rfl,-⟩:=hV
 intro j hj
 match j,hj with
 |0,_=>exact hc 0 Pi
 |1,_=>exact hc 1 Pi
theorem Ig {F:Nat→Prop} {w:World} {b o:Nat} {x:bY} (h:dz F w b o x):∀j,j<13→w.cell? ⟨b,o+j,none⟩=(mJ x)[j]?:=by
 obtain⟨cs,hV,hc⟩:=h
 obtain⟨rfl,-⟩:=hV
 exact hc
theorem iJ (m:af) (i:Int) (cs:List Value) (w:World) (hm:au F w cs m):Calls G.P 44 #[.agg cs.toArray,.int .i64 i] w (bD (dH ((cJ m.types i).getD dF)) (fun x=>.tuple #[.agg #[x.1,x.2],.bool (cJ m.types i).isSome]) F w):=by
 obtain⟨v0,v1,v2,v3,v4,v5,v6,v7,v8,v9,rfl,r0,r1,r2,r3,r4,r5,r6,r7,r8,r9,g0⟩:=hm
 obtain⟨p0,c0,rfl,l0⟩:=r0.slice
 by_cases hin:0≤i∧i<m.types.length
 ·obtain⟨j,rfl⟩:=PJ hin.1
  have hj:j<m.types.length:=by omega
  obtain⟨b,o,rfl,hF,cs2,⟨u0,u1,rfl,q0,q1⟩,hc⟩:=r0.el hj
  obtain⟨x0,y0,rfl,z0⟩:=q0.slice
  obtain⟨x1,y1,rfl,z1⟩:=q1.slice
  rw[jV hj]
  refine ae (l:=[_,_]) func44 rfl ntmps44 rfl (Ok.start w) ?_
  refine bh.lj (Cs b (o+j*2) _) (jr hc rfl ak) ?_
  repeat'(first|refine ar ?_|(refine NV fun b_=>?_)|(refine aa.eh (t:=iF) ?_;refine aa.alloc (t:=iF) [Pr ⟨#[]⟩,Pr ⟨#[]⟩,Pm .i64 0,Pm .i64 0,Pm .i64 0,Pm .i64 0,Pm .i64 0,Po false,Pm .i64 0,Pm .i64 0,Po false,Pm .i64 0,Po false] rfl rfl rfl fun b_=>?_)|(refine bC ?_ ?_<;>intro hc_))
  all_goals exact ah.aM (.inl rfl) rfl rfl rfl rfl rfl aH rfl rfl fun w' hw'=>⟨⟨(_,_),rfl,dH.mono (D:=F) ⟨q0.aN (show Ext w w' from hw'.at) (fun _ _ _ h=>h),q1.aN (show Ext w w' from hw'.at) (fun _ _ _ h=>h)⟩ (fun _ h=>.inl h)⟩,hw'.at⟩
 ·rw[iN hin]
  refine ae (l:=[_,_]) func44 rfl ntmps44 rfl (Ok.start w) ?_
  repeat'(first|refine ar ?_|(refine NV fun b_=>?_)|(refine aa.eh (t:=iF) ?_;refine aa.alloc (t:=iF) [Pr ⟨#[]⟩,Pr ⟨#[]⟩,Pm .i64 0,Pm .i64 0,Pm .i64 0,Pm .i64 0,Pm .i64 0,Po false,Pm .i64 0,Pm .i64 0,Po false,Pm .i64 0,Po false] rfl rfl rfl fun b_=>?_)|(refine bC ?_ ?_<;>intro hc_))
  all_goals first|omega|exact ah.aM (.inl rfl) rfl rfl rfl rfl rfl aH rfl rfl fun w' hw'=>⟨⟨(_,_),rfl,dH.nil _ _⟩,hw'.at⟩
theorem CD (m:af) (k:Int):(m.imports.filter fun x=>decide (x.kind=k)).length=kT m k:=by unfold kT vR;rw[List.take_length]
theorem CE (m:af) (k:Int):kT m k≤m.imports.length:=yd _ _ _
theorem DT:∀(l:List bY) (j:Nat) (r:Int),j<l.length→kV (l.drop j) k r=if(ix l j).kind≠k then kV (l.drop (j+1)) k r else if r=0 then some (ix l j)else kV (l.drop (j+1)) k (r - 1):=fun l j r hj=>by
 rw[List.drop_eq_getElem_cons hj,kV,cz hj]
theorem FB (l:List bY) (r:Int):kV (l.drop l.length) k r=none:=by rw[List.drop_length];rfl
theorem fV (m:af) (k i:Int) (cs:List Value) (w:World) (hm:au F w cs m) (h0:0≤i) (hi:eP i):Calls G.P 194 #[.agg cs.toArray,.int .i64 k,.int .i64 i] w fun e w'=>e=.returned (.tuple #[.agg (mJ ((kV m.imports k i).getD Ll)).toArray,.bool (kV m.imports k i).isSome])∧Ext w w':=by
 obtain⟨v0,v1,v2,v3,v4,v5,v6,v7,v8,v9,rfl,r0,r1,r2,r3,r4,r5,r6,r7,r8,r9,g0⟩:=hm
 obtain⟨p1,c1,rfl,l1⟩:=r1.slice
 refine ae (l:=[_,_,_]) func194 rfl ntmps194 rfl (Ok.start w) ?_
 refine cq ?_
 refine aa.box ([v0,Pn p1 m.imports.length c1,v2,v3,v4,v5,v6,Po m.aI,Pm .i64 m.start,v7,v8,v9]:List Value) rfl rfl rfl fun b=>?_
 refine cq ?_
 refine aa.alloc (t:=iF) [Pr ⟨#[]⟩,Pr ⟨#[]⟩,Pm .i64 0,Pm .i64 0,Pm .i64 0,Pm .i64 0,Pm .i64 0,Po false,Pm .i64 0,Pm .i64 0,Po false,Pm .i64 0,Po false] rfl rfl rfl fun b2=>?_
 refine cq ?_
 unfold eP at hi
 refine bh.loop (σ:=Nat×Int) (fun s=>[(1,.int .i64 k),(2,.int .i64 s.2),(3,.pointer (some ⟨b,0,none⟩)),(6,.pointer (some ⟨b2,0,none⟩)),(8,.int .i64 s.1)]) (fun _=>[.aW b2 [Pr ⟨#[]⟩,Pr ⟨#[]⟩,Pm .i64 0,Pm .i64 0,Pm .i64 0,Pm .i64 0,Pm .i64 0,Po false,Pm .i64 0,Pm .i64 0,Po false,Pm .i64 0,Po false] iF,.aW b ([v0,Pn p1 m.imports.length c1,v2,v3,v4,v5,v6,Po m.aI,Pm .i64 m.start,v7,v8,v9]:List Value) jI]) (fun _=>[Ext w]) (fun s=>s.1≤m.imports.length∧0≤s.2∧s.2≤i∧kV (m.imports.drop s.1) k s.2=kV m.imports k i) (fun s=>m.imports.length - s.1) (0,i) bH bz aU ⟨by dsimp only;omega,h0,Int.le_refl _,rfl⟩ ?_
 rintro⟨j,r⟩ ⟨hj,hr0,hri,heq⟩
 dsimp only at hj hr0 hri heq ⊢
 by_cases hlt:j<m.imports.length
 ·obtain⟨b1,o1,rfl,hF,he⟩:=r1.el hlt
  have c:=he.kind
  have hcc:=Ig he
  have hs:=DT k m.imports j r hlt
  by_cases hk:(ix m.imports j).kind=k
  ·rw[if_neg (by simp[hk])]at hs
   by_cases hr:r=0
   ·rw[if_pos hr]at hs
    rw[heq]at hs
    rw[hs]
    refine bh.lj (Cs b1 (o1+j*13) [Pr (ix m.imports j).module,Pr (ix m.imports j).name,Pm .i64 (ix m.imports j).kind,Pm .i64 (ix m.imports j).func,Pm .i64 (ix m.imports j).table.elem,Pm .i64 (ix m.imports j).table.m9.min,Pm .i64 (ix m.imports j).table.m9.max,Po (ix m.imports j).table.m9.has,Pm .i64 (ix m.imports j).mem.min,Pm .i64 (ix m.imports j).mem.max,Po (ix m.imports j).mem.has,Pm .i64 (ix m.imports j).ff.nY,Po (ix m.imports j).ff.sD]) (jr hcc rfl ak) ?_
    refine cq ?_
    exact li
   ·rw[if_neg hr]at hs
    refine cq ?_
    exact ah.next (j+1,r - 1) bH bz aU ⟨by dsimp only;omega,by dsimp only;omega,by dsimp only;omega,by rw[←hs];exact heq⟩ O6
  ·rw[if_pos hk]at hs
   refine cq ?_
   exact ah.next (j+1,r) bH bz aU ⟨by dsimp only;omega,hr0,hri,by rw[←hs];exact heq⟩ O6
 ·obtain rfl:j=m.imports.length:=by omega
  rw[FB]at heq
  rw[←heq]
  refine cq ?_
  exact li
def vW (m:af) (k i n:Int):Int:=if 0≤i - kT m k∧i - kT m k<n then i - kT m k else -1
theorem jB (m:af) (k i n:Int) (cs:List Value) (w:World) (hm:au F w cs m) (_h0:0≤i) (hi:eP i):Calls G.P 195 #[.agg cs.toArray,.int .i64 k,.int .i64 i,.int .i64 n] w fun e w'=>e=.returned (.int .i64 (vW m k i n))∧Ext w w':=by
 have hm0:=hm
 obtain⟨v0,v1,v2,v3,v4,v5,v6,v7,v8,v9,rfl,r0,r1,r2,r3,r4,r5,r6,r7,r8,r9,g0⟩:=hm
 obtain⟨p1,c1,rfl,l1⟩:=r1.slice
 have hle:=CE m k
 unfold eP at hi
 have hd:∃z:Nat,kT m k=z:=⟨_,rfl⟩
 obtain⟨z,hz⟩:=hd
 unfold vW
 rw[hz]at hle ⊢
 refine ae (l:=[_,_,_,_]) func195 rfl ntmps195 rfl (Ok.start w) ?_
 repeat'(first|refine ar ?_|(refine aF fun b_=>?_)|(refine aa.aj (f:=208) ?_;refine aa.av (v:=.int .i64 (z:Nat)) rfl rfl rfl (fun w' hw'=>by have:=oD F m k _ w' (hm0.aN (show Ext w w' from hw'.at) (fun _ _ _ h=>h));rw[hz]at this;exact this) ?_)|(refine bC ?_ ?_<;>intro hc_))
 all_goals first|omega|exact ah.aG rfl rfl fun w' hw'=>⟨by rw[if_pos Pi],hw'.at⟩|exact ah.aG rfl rfl fun w' hw'=>⟨by rw[if_neg Pi],hw'.at⟩
theorem s8 [Inhabited α] (f:bY→α) (m:af) (k:Int) (own:List α) {i:Int} (h:0≤i):cJ ((m.imports.filter fun x=>decide (x.kind=k)).map f++own) i=match kV m.imports k i with
  |some x=>some (f x)
  |none=>cJ own (i - kT m k):=by
 rw[Gv f m.imports k own i,CD]
 cases kV m.imports k i with
 |some x=>rfl
 |none=>rw[if_pos h]
theorem qc (m:af) (i:Int) (cs:List Value) (w:World) (hm:au F w cs m):Calls G.P 160 #[.agg cs.toArray,.int .i64 i] w fun e w'=>e=.returned (.tuple #[.int .i64 ((cJ (dO m) i).getD 0),.bool (cJ (dO m) i).isSome])∧Ext w w':=by
 obtain⟨v0,v1,v2,v3,v4,v5,v6,v7,v8,v9,rfl,r0,r1,r2,r3,r4,r5,r6,r7,r8,r9,g0⟩:=hm
 obtain⟨p7,c7,rfl,l7⟩:=r7.slice
 by_cases hin:0≤i∧i<m.elems.length
 ·obtain⟨j,rfl⟩:=PJ hin.1
  have hj:j<m.elems.length:=by omega
  obtain⟨b,o,rfl,hF,he⟩:=r7.el hj
  have hc:=he.dI
  have e:cJ (dO m) (j:Nat)=some (ix m.elems j).dI:=by unfold dO;rw[jV (by simpa using hj),ru hj]
  rw[e]
  refine ae (l:=[_,_]) func160 rfl ntmps160 rfl (Ok.start w) ?_
  repeat'(first|refine ar ?_|(refine aF fun b_=>?_)|(refine bC ?_ ?_<;>intro hc_))
  all_goals exact ah.ie rfl rfl rfl fun w' hw'=>⟨by rfl,hw'.at⟩
 ·have e:cJ (dO m) i=none:=iN (by unfold dO;simpa using hin)
  rw[e]
  refine ae (l:=[_,_]) func160 rfl ntmps160 rfl (Ok.start w) ?_
  repeat'(first|refine ar ?_|(refine aF fun b_=>?_)|(refine bC ?_ ?_<;>intro hc_))
  all_goals first|omega|exact ah.ie rfl rfl rfl fun w' hw'=>⟨by rfl,hw'.at⟩
theorem sn (m:af) (cs:List Value) (w:World) (hm:au F w cs m):Calls G.P 162 #[.agg cs.toArray] w fun e w'=>e=.returned (.int .i64 m.bg.length)∧Ext w w':=by
 obtain⟨v0,v1,v2,v3,v4,v5,v6,v7,v8,v9,rfl,r0,r1,r2,r3,r4,r5,r6,r7,r8,r9,g0⟩:=hm
 obtain⟨p8,c8,rfl,l8⟩:=r8.slice
 refine ae (l:=[_]) func162 rfl ntmps162 rfl (Ok.start w) ?_
 repeat'(first|refine ar ?_|(refine aF fun b_=>?_)|fail)
 all_goals exact ge
theorem Bl (m:af):(gL m).length=kT m 0+m.funcs.length:=by unfold gL ry;rw[List.length_append,List.length_map,List.length_map,CD]
theorem Aj (m:af) (cs:List Value) (w:World) (hm:au F w cs m):Calls G.P 196 #[.agg cs.toArray] w fun e w'=>e=.returned (.int .i64 (gL m).length)∧Ext w w':=by
 have hm0:=hm
 obtain⟨v0,v1,v2,v3,v4,v5,v6,v7,v8,v9,rfl,r0,r1,r2,r3,r4,r5,r6,r7,r8,r9,g0⟩:=hm
 obtain⟨p1,c1,rfl,l1⟩:=r1.slice
 obtain⟨p2,c2,rfl,l2⟩:=r2.slice
 have hle:=CE m 0
 have hfl:=Bl m
 obtain⟨z,hz⟩:∃z,kT m 0=z:=⟨_,rfl⟩
 obtain⟨y,hy⟩:∃y,(gL m).length=y:=⟨_,rfl⟩
 rw[hz]at hle hfl
 rw[hy]at hfl ⊢
 subst hfl
 refine ae (l:=[_]) func196 rfl ntmps196 rfl (Ok.start w) ?_
 refine cq ?_
 refine aa.box _ rfl rfl rfl fun b=>?_
 refine cq ?_
 refine Mq ?_
 refine cq ?_
 refine aq.oc (v:=.int .i64 (z:Nat)) rfl rfl rfl (fun w' hw'=>by have:=oD F m 0 _ w' (hm0.aN (show Ext w w' from hw'.at) (fun _ _ _ h=>h));rw[hz]at this;exact this) ?_
 refine cq ?_
 exact ah.aG rfl rfl fun w' hw'=>⟨by rw[Int.natCast_add],hw'.at⟩
theorem Bx {l:List cv} {k:Int} {j:Nat} (hj:j<l.length):named (l.take (j+1)) k=(named (l.take j) k || (decide ((ix l j).op=210) && decide ((ix l j).a=k))):=by
 rw[bN hj,xx];unfold named;simp
theorem DM {l:List cv} {k:Int} {j:Nat} (h:named (l.take j) k=true):named l k=true:=by
 unfold named at*
 rw[List.any_eq_true]at h ⊢
 obtain⟨x,hx,h⟩:=h
 exact⟨x,List.mem_of_mem_take hx,h⟩
theorem mc (xs:List cv) (v:Value) (i:Int) (w:World) (h:fF F w v xs):Calls G.P 197 #[v,.int .i64 i] w fun e w'=>e=.returned (.bool (named xs i))∧Ext w w':=by
 obtain⟨p,c,rfl,hl⟩:=h.slice
 refine ae (l:=[_,_]) func197 rfl ntmps197 rfl (Ok.start w) ?_
 refine cq ?_
 refine bh.loop (σ:=Nat) (fun j=>[(0,.slice p xs.length c),(1,.int .i64 i),(5,.int .i64 j)]) (fun _=>[]) (fun _=>[Ext w]) (fun j=>j≤xs.length∧named (xs.take j) i=false) (fun j=>xs.length - j) 0 bH bz aU ⟨by omega,by simp[named]⟩ ?_
 rintro j ⟨hj,hnot⟩
 by_cases hjl:j<xs.length
 ·obtain⟨b7,o7,rfl,-,hall⟩:=h.at hjl
  have hop:=(hall j hjl).op
  have ha:=(hall j hjl).a
  have hst:=Bx (k:=i) hjl
  rw[hnot,Bool.false_or]at hst
  by_cases h1:(ix xs j).op=210
  ·by_cases h2:(ix xs j).a=i
   ·repeat'(first|refine ar ?_|fail)
    all_goals refine ah.aG rfl rfl fun w' hw'=>⟨?_,hw'.at⟩
    all_goals rw[DM (j:=j+1) (by rw[hst];simp[h1,h2])]
   ·repeat'(first|refine ar ?_|fail)
    all_goals exact ah.next (j+1) bH bz aU ⟨by omega,by rw[hst];simp[h1,h2]⟩ Pi
  ·repeat'(first|refine ar ?_|fail)
   all_goals exact ah.next (j+1) bH bz aU ⟨by omega,by rw[hst];simp[h1]⟩ Pi
 ·obtain rfl:j=xs.length:=by omega
  rw[PA]at hnot
  refine cq ?_
  exact ah.aG rfl rfl fun w' hw'=>⟨by rw[hnot],hw'.at⟩
end Go.Proofs.YtdkcljdfbemnbaaGreatDoor
