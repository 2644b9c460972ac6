/- What the index spaces answer. -/
import Derived.Test.YtdkcljdfbemnbaaGreatDoorJTz
import Derived.Test.YtdkcljdfbemnbaaGreatDoorJRt
import Derived.Test.YtdkcljdfbemnbaaGreatDoorJAw
namespace Go.Proofs.YtdkcljdfbemnbaaGreatDoor
open Go.RowKit _root_.Go.Proofs.Tryz
set_option maxHeartbeats 4000000
open Int renaming eq_ofNat_of_zero_le→PD,toNat_natCast→PU
open List renaming getElem?_eq_getElem→Pq
open Value renaming bool→Ph,int→Pf,slice→Pg
set_option maxRecDepth 100000
def oS (s:Nat) (w:World) (v:Value) (n:Nat) (cs:List Value):Prop:=∃p c,v=.slice p n c∧cs.length=n*s∧(n=0∨∃b o,p=some ⟨b,o,none⟩∧∀j,j<cs.length→w.cell? ⟨b,o+j,none⟩=cs[j]?)
variable {α:Type} {s n:Nat} (l:List Int) (B:Nat) (m:af) (v:Value) (i:Int) (w:World)
theorem oS.ext {w w':World} {v:Value} {cs:List Value} (h:oS s w v n cs) (hx:Ext w w'):oS s w' v n cs:=by
 obtain⟨p,c,rfl,hl,h⟩:=h
 refine⟨p,c,rfl,hl,?_⟩
 rcases h with h|⟨b,o,rfl,h⟩
 ·exact .inl h
 ·exact .inr ⟨b,o,rfl,fun j hj=>by rw[Pq hj];exact hx.cell (by rw[h j hj,Pq hj])⟩
theorem kt {B T s n:Nat} {w:World} {v:Value} {cs:List Value} (h:w.ownsRow B T s v n cs):oS s w v n cs:=by
 obtain⟨p,c,rfl,_,_,hg⟩:=aw h
 refine⟨p,c,rfl,h.1,?_⟩
 by_cases h0:n=0
 ·exact .inl h0
 ·obtain⟨g,rfl,_,_⟩:=hg (Nat.pos_of_ne_zero h0)
  exact .inr ⟨g,0,rfl,fun j hj=>by rw[Nat.zero_add,Pq hj];exact dO h (Pq hj)⟩
theorem oS.cells [Inhabited α] {s n:Nat} {w:World} {p:Option Addr} {c:Nat} {l:List α} (cf:α→List Value) (hs:∀x,(cf x).length=s) (h:oS s w (.slice p n c) l.length (l.flatMap cf)) {i:Nat} (hi:i<l.length):∃b o,p=some ⟨b,o,none⟩∧∀j,j<s→w.cell? ⟨b,o+i*s+j,none⟩=(cf (ix l i))[j]?:=by
 obtain⟨p',c',e,hl,h⟩:=h
 cases e
 rcases h with h|⟨b,o,rfl,h⟩
 ·omega
 ·refine⟨b,o,rfl,fun j hj=>?_⟩
  rw[Nat.add_assoc,h _ (by rw[hl];have:=Nat.mul_le_mul_right s (show i+1≤l.length from hi);rw[Nat.succ_mul]at this;omega),jA cf hs l i j hi hj]
theorem oS.slice {w:World} {v:Value} {cs:List Value} (h:oS s w v n cs):∃p c,v=.slice p n c:=by obtain⟨p,c,e,_⟩:=h;exact⟨p,c,e⟩
theorem jX [Inhabited α] {l:List α} {j:Nat} (h:j<l.length):cJ l (j:Int)=some (ix l j):=by unfold cJ;rw[if_pos ⟨by omega,by omega⟩];rfl
theorem iL [Inhabited α] {l:List α} {i:Int} (h:¬(0≤i∧i<l.length)):cJ l i=none:=by unfold cJ;rw[if_neg h]
def Bt:fH:=⟨0,⟨0,0,false⟩⟩
def Iv:ft:=⟨0,0,false⟩
def JB:iK:=⟨0,false⟩
theorem EM (l:List fH) (v:Value) (i:Int) (w:World) (h:oS 4 w v l.length (l.flatMap mV)):Calls G.P 169 #[v,.int .i64 i] w fun e w'=>e=.returned (.tuple #[.agg (mV ((cJ l i).getD Bt)).toArray,.bool (cJ l i).isSome])∧Ext w w':=by
 obtain⟨p,c,rfl⟩:=h.slice
 by_cases hin:0≤i∧i<l.length
 ·obtain⟨j,rfl⟩:=PD hin.1
  have hj:j<l.length:=by omega
  obtain⟨b,o,rfl,hc⟩:=h.cells mV (fun _=>rfl) hj
  have e:=jX hj
  refine ae (l:=[.slice (some ⟨b,o,none⟩) l.length c,.int .i64 j]) func169 rfl ntmps169 rfl (Ok.start w) ?_
  refine bh.lj (Cs b (o+j*4) (mV (ix l j))) (fun w' hw'=>by intro k hk;have:=hc k hk;rw[show(mV (ix l j))[k]?=some ((mV (ix l j))[k]'hk)from Pq hk]at this ⊢;exact(show Ext w w' from hw' _ ak).cell this) ?_
  dsimp only[mV]
  repeat'(first|refine ar ?_|(refine aa.alloc (t:=sw) [Pg none 0 0,Pg none 0 0] rfl rfl rfl fun b_=>?_)|(refine aa.alloc (t:=qp) [Pf .i64 0,Pf .i64 0,Pf .i64 0,Ph false] rfl rfl rfl fun b_=>?_)|(refine aa.alloc (t:=rh) [Pf .i64 0,Pf .i64 0,Ph false] rfl rfl rfl fun b_=>?_)|(refine aa.alloc (t:=rf) [Pf .i64 0,Ph false] rfl rfl rfl fun b_=>?_)|(refine bC ?_ ?_<;>intro hc_))
  all_goals exact FS
 ·have e:=iL hin
  refine ae (l:=[.slice p l.length c,.int .i64 i]) func169 rfl ntmps169 rfl (Ok.start w) ?_
  repeat'(first|refine ar ?_|(refine aa.alloc (t:=sw) [Pg none 0 0,Pg none 0 0] rfl rfl rfl fun b_=>?_)|(refine aa.alloc (t:=qp) [Pf .i64 0,Pf .i64 0,Pf .i64 0,Ph false] rfl rfl rfl fun b_=>?_)|(refine aa.alloc (t:=rh) [Pf .i64 0,Pf .i64 0,Ph false] rfl rfl rfl fun b_=>?_)|(refine aa.alloc (t:=rf) [Pf .i64 0,Ph false] rfl rfl rfl fun b_=>?_)|(refine bC ?_ ?_<;>intro hc_))
  all_goals exact GE
theorem oS.Ho {w:World} {n:Nat} {p:Option Addr} {c:Nat} {l:List Int} (h:oS 1 w (.slice p n c) l.length (l.map (Pf .i64))) {i:Nat} (hi:i<l.length):∃b o,p=some ⟨b,o,none⟩∧w.cell? ⟨b,o+i,none⟩=some (.int .i64 (ix l i)):=by
 obtain⟨p',c',e,hl,h⟩:=h
 cases e
 rcases h with h|⟨b,o,rfl,h⟩
 ·omega
 ·exact⟨b,o,rfl,by rw[h i (by simpa using hi),List.getElem?_map,iy hi];rfl⟩
theorem Db (l:List ft) (v:Value) (i:Int) (w:World) (h:oS 3 w v l.length (l.flatMap mH)):Calls G.P 172 #[v,.int .i64 i] w fun e w'=>e=.returned (.tuple #[.agg (mH ((cJ l i).getD Iv)).toArray,.bool (cJ l i).isSome])∧Ext w w':=by
 obtain⟨p,c,rfl⟩:=h.slice
 by_cases hin:0≤i∧i<l.length
 ·obtain⟨j,rfl⟩:=PD hin.1
  have hj:j<l.length:=by omega
  obtain⟨b,o,rfl,hc⟩:=h.cells mH (fun _=>rfl) hj
  have e:=jX hj
  refine ae (l:=[.slice (some ⟨b,o,none⟩) l.length c,.int .i64 j]) func172 rfl ntmps172 rfl (Ok.start w) ?_
  refine bh.lj (Cs b (o+j*3) (mH (ix l j))) (fun w' hw'=>by intro k hk;have:=hc k hk;rw[show(mH (ix l j))[k]?=some ((mH (ix l j))[k]'hk)from Pq hk]at this ⊢;exact(show Ext w w' from hw' _ ak).cell this) ?_
  dsimp only[mH]
  repeat'(first|refine ar ?_|(refine aa.alloc (t:=sw) [Pg none 0 0,Pg none 0 0] rfl rfl rfl fun b_=>?_)|(refine aa.alloc (t:=qp) [Pf .i64 0,Pf .i64 0,Pf .i64 0,Ph false] rfl rfl rfl fun b_=>?_)|(refine aa.alloc (t:=rh) [Pf .i64 0,Pf .i64 0,Ph false] rfl rfl rfl fun b_=>?_)|(refine aa.alloc (t:=rf) [Pf .i64 0,Ph false] rfl rfl rfl fun b_=>?_)|(refine bC ?_ ?_<;>intro hc_))
  all_goals exact FS
 ·have e:=iL hin
  refine ae (l:=[.slice p l.length c,.int .i64 i]) func172 rfl ntmps172 rfl (Ok.start w) ?_
  repeat'(first|refine ar ?_|(refine aa.alloc (t:=sw) [Pg none 0 0,Pg none 0 0] rfl rfl rfl fun b_=>?_)|(refine aa.alloc (t:=qp) [Pf .i64 0,Pf .i64 0,Pf .i64 0,Ph false] rfl rfl rfl fun b_=>?_)|(refine aa.alloc (t:=rh) [Pf .i64 0,Pf .i64 0,Ph false] rfl rfl rfl fun b_=>?_)|(refine aa.alloc (t:=rf) [Pf .i64 0,Ph false] rfl rfl rfl fun b_=>?_)|(refine bC ?_ ?_<;>intro hc_))
  all_goals exact GE
theorem C9 (l:List iK) (v:Value) (i:Int) (w:World) (h:oS 2 w v l.length (l.flatMap pS)):Calls G.P 170 #[v,.int .i64 i] w fun e w'=>e=.returned (.tuple #[.agg (pS ((cJ l i).getD JB)).toArray,.bool (cJ l i).isSome])∧Ext w w':=by
 obtain⟨p,c,rfl⟩:=h.slice
 by_cases hin:0≤i∧i<l.length
 ·obtain⟨j,rfl⟩:=PD hin.1
  have hj:j<l.length:=by omega
  obtain⟨b,o,rfl,hc⟩:=h.cells pS (fun _=>rfl) hj
  have e:=jX hj
  refine ae (l:=[.slice (some ⟨b,o,none⟩) l.length c,.int .i64 j]) func170 rfl ntmps170 rfl (Ok.start w) ?_
  refine bh.lj (Cs b (o+j*2) (pS (ix l j))) (fun w' hw'=>by intro k hk;have:=hc k hk;rw[show(pS (ix l j))[k]?=some ((pS (ix l j))[k]'hk)from Pq hk]at this ⊢;exact(show Ext w w' from hw' _ ak).cell this) ?_
  dsimp only[pS]
  repeat'(first|refine ar ?_|(refine aa.alloc (t:=sw) [Pg none 0 0,Pg none 0 0] rfl rfl rfl fun b_=>?_)|(refine aa.alloc (t:=qp) [Pf .i64 0,Pf .i64 0,Pf .i64 0,Ph false] rfl rfl rfl fun b_=>?_)|(refine aa.alloc (t:=rh) [Pf .i64 0,Pf .i64 0,Ph false] rfl rfl rfl fun b_=>?_)|(refine aa.alloc (t:=rf) [Pf .i64 0,Ph false] rfl rfl rfl fun b_=>?_)|(refine bC ?_ ?_<;>intro hc_))
  all_goals exact FS
 ·have e:=iL hin
  refine ae (l:=[.slice p l.length c,.int .i64 i]) func170 rfl ntmps170 rfl (Ok.start w) ?_
  repeat'(first|refine ar ?_|(refine aa.alloc (t:=sw) [Pg none 0 0,Pg none 0 0] rfl rfl rfl fun b_=>?_)|(refine aa.alloc (t:=qp) [Pf .i64 0,Pf .i64 0,Pf .i64 0,Ph false] rfl rfl rfl fun b_=>?_)|(refine aa.alloc (t:=rh) [Pf .i64 0,Pf .i64 0,Ph false] rfl rfl rfl fun b_=>?_)|(refine aa.alloc (t:=rf) [Pf .i64 0,Ph false] rfl rfl rfl fun b_=>?_)|(refine bC ?_ ?_<;>intro hc_))
  all_goals exact GE
theorem EN (h:oS 1 w v l.length (l.map (Pf .i64))):Calls G.P 167 #[v,.int .i64 i] w fun e w'=>e=.returned (.tuple #[.int .i64 ((cJ l i).getD 0),.bool (cJ l i).isSome])∧Ext w w':=by
 obtain⟨p,c,rfl⟩:=h.slice
 by_cases hin:0≤i∧i<l.length
 ·obtain⟨j,rfl⟩:=PD hin.1
  have hj:j<l.length:=by omega
  obtain⟨b,o,rfl,hc⟩:=h.Ho hj
  have e:=jX hj
  refine ae (l:=[.slice (some ⟨b,o,none⟩) l.length c,.int .i64 j]) func167 rfl ntmps167 rfl (Ok.start w) ?_
  repeat'(first|refine ar ?_|(refine bC ?_ ?_<;>intro hc_))
  all_goals exact ah.iq rfl rfl rfl fun w' hw'=>⟨by rw[e];rfl,hw'.at⟩
 ·have e:=iL hin
  refine ae (l:=[.slice p l.length c,.int .i64 i]) func167 rfl ntmps167 rfl (Ok.start w) ?_
  repeat'(first|refine ar ?_|(refine bC ?_ ?_<;>intro hc_))
  all_goals first|omega|exact ah.iq rfl rfl rfl fun w' hw'=>⟨by rw[e];rfl,hw'.at⟩
theorem HO (h:oS 1 w v l.length (l.map (Pf .i64))):Calls G.P 171 #[v,.int .i64 i] w fun e w'=>e=.returned (.tuple #[.int .i64 ((cJ l i).getD 0),.bool (cJ l i).isSome])∧Ext w w':=by
 obtain⟨p,c,rfl⟩:=h.slice
 by_cases hin:0≤i∧i<l.length
 ·obtain⟨j,rfl⟩:=PD hin.1
  have hj:j<l.length:=by omega
  obtain⟨b,o,rfl,hc⟩:=h.Ho hj
  have e:=jX hj
  refine ae (l:=[.slice (some ⟨b,o,none⟩) l.length c,.int .i64 j]) func171 rfl ntmps171 rfl (Ok.start w) ?_
  repeat'(first|refine ar ?_|(refine bC ?_ ?_<;>intro hc_))
  all_goals exact ah.iq rfl rfl rfl fun w' hw'=>⟨by rw[e];rfl,hw'.at⟩
 ·have e:=iL hin
  refine ae (l:=[.slice p l.length c,.int .i64 i]) func171 rfl ntmps171 rfl (Ok.start w) ?_
  repeat'(first|refine ar ?_|(refine bC ?_ ?_<;>intro hc_))
  all_goals first|omega|exact ah.iq rfl rfl rfl fun w' hw'=>⟨by rw[e];rfl,hw'.at⟩
theorem xy {g g':Prop} (h:g') (hw:eI g'→g:=by(intro hk_;(first|refine N4 ?_);exact hk_.out)):g:=hw ⟨h⟩
theorem gR (h:bN B m w v):Calls G.P 137 #[v,.int .i64 i] w fun e w'=>e=.returned (.tuple #[.agg (mV ((cJ (bL m) i).getD Bt)).toArray,.bool (cJ (bL m) i).isSome])∧Ext w w':=by
 obtain⟨bS,sp,im,dm,vs,tc,ig,dg,rfl,-,h⟩:=h
 have hb:=kt h.bs
 have c2:w.cell? ⟨sp,2,none⟩=some vs.bv:=h.x.cell rfl
 have et:(wN m).tables=bL m:=by rw[pZ]
 rw[et]at hb
 refine ae (l:=[_,_]) func137 rfl ntmps137 rfl (Ok.start w) ?_
 repeat'(first|refine ar ?_|(refine NR fun b_=>?_)|refine xy ?_|(refine aa.aj (f:=169) ?_;refine aa.au rfl rfl rfl (fun w' hw'=>EM _ _ i w' (hb.ext hw'.at)) ?_)|fail)
 all_goals exact mp
theorem Eg (h:bN B m w v):Calls G.P 142 #[v,.int .i64 i] w fun e w'=>e=.returned (.tuple #[.agg (mH ((cJ (dZ m) i).getD Iv)).toArray,.bool (cJ (dZ m) i).isSome])∧Ext w w':=by
 obtain⟨bS,sp,im,dm,vs,tc,ig,dg,rfl,-,h⟩:=h
 have hb:=kt h.ms
 have c2:w.cell? ⟨sp,3,none⟩=some vs.mv:=h.x.cell rfl
 have et:(wN m).bR=dZ m:=by rw[pZ]
 rw[et]at hb
 refine ae (l:=[_,_]) func142 rfl ntmps142 rfl (Ok.start w) ?_
 repeat'(first|refine ar ?_|(refine NR fun b_=>?_)|refine xy ?_|(refine aa.aj (f:=172) ?_;refine aa.au rfl rfl rfl (fun w' hw'=>Db _ _ i w' (hb.ext hw'.at)) ?_)|fail)
 all_goals exact mp
theorem kF (h:bN B m w v):Calls G.P 138 #[v,.int .i64 i] w fun e w'=>e=.returned (.tuple #[.agg (pS ((cJ (fZ m) i).getD JB)).toArray,.bool (cJ (fZ m) i).isSome])∧Ext w w':=by
 obtain⟨bS,sp,im,dm,vs,tc,ig,dg,rfl,-,h⟩:=h
 have hb:=kt h.gs
 have c2:w.cell? ⟨sp,4,none⟩=some vs.gv:=h.x.cell rfl
 have et:(wN m).globals=fZ m:=by rw[pZ]
 rw[et]at hb
 refine ae (l:=[_,_]) func138 rfl ntmps138 rfl (Ok.start w) ?_
 repeat'(first|refine ar ?_|(refine NR fun b_=>?_)|refine xy ?_|(refine aa.aj (f:=170) ?_;refine aa.au rfl rfl rfl (fun w' hw'=>C9 _ _ i w' (hb.ext hw'.at)) ?_)|fail)
 all_goals exact mp
theorem BY (h:bN B m w v):Calls G.P 140 #[v,.int .i64 i] w fun e w'=>e=.returned (.tuple #[.int .i64 ((cJ (dN m) i).getD 0),.bool (cJ (dN m) i).isSome])∧Ext w w':=by
 obtain⟨bS,sp,im,dm,vs,tc,ig,dg,rfl,-,h⟩:=h
 have hb:=kt h.es
 have c2:w.cell? ⟨sp,5,none⟩=some vs.ev:=h.x.cell rfl
 have et:(wN m).elems=dN m:=by rw[pZ]
 rw[et]at hb
 refine ae (l:=[_,_]) func140 rfl ntmps140 rfl (Ok.start w) ?_
 repeat'(first|refine ar ?_|refine xy ?_|(refine aa.aj (f:=171) ?_;refine aa.au rfl rfl rfl (fun w' hw'=>HO _ _ i w' (hb.ext hw'.at)) ?_)|fail)
 all_goals exact ah.iq rfl rfl rfl fun w' hw'=>⟨by rfl,hw'.at⟩
theorem AI (h:bN B m w v):Calls G.P 141 #[v] w fun e w'=>e=.returned (.int .i64 m.bg.length)∧Ext w w':=by
 obtain⟨bS,sp,im,dm,vs,tc,ig,dg,rfl,-,h⟩:=h
 have c2:w.cell? ⟨sp,6,none⟩=some (.int .i64 (wN m).bg):=h.x.cell rfl
 have et:(wN m).bg=m.bg.length:=by rw[pZ]
 rw[et]at c2
 refine ae (l:=[_]) func141 rfl ntmps141 rfl (Ok.start w) ?_
 repeat'(first|refine ar ?_|refine xy ?_|fail)
 all_goals exact rd
theorem AJ (h:bN B m w v):Calls G.P 168 #[v] w fun e w'=>e=.returned (.int .i64 (gI m).length)∧Ext w w':=by
 obtain⟨bS,sp,im,dm,vs,tc,ig,dg,rfl,-,h⟩:=h
 have hb:=kt h.fs
 have c2:w.cell? ⟨sp,1,none⟩=some vs.fv:=h.x.cell rfl
 have et:(wN m).funcs=gI m:=by rw[pZ]
 rw[et]at hb
 obtain⟨p,c,e⟩:=hb.slice
 rw[e]at c2
 refine ae (l:=[_]) func168 rfl ntmps168 rfl (Ok.start w) ?_
 repeat'(first|refine ar ?_|refine xy ?_|fail)
 all_goals exact rd
theorem oD (h:bN B m w v) (hi:eO i):Calls G.P 136 #[v,.int .i64 i] w fun e w'=>e=.returned (.bool (nF m i))∧Ext w w':=by
 have h0:=h
 obtain⟨bS,sp,im,dm,vs,tc,ig,dg,rfl,-,h⟩:=h
 have c2:w.cell? ⟨sp,8,none⟩=some (.map (some dm)):=h.x.cell rfl
 have hd:=h.dec i
 refine ae (l:=[_,_]) func136 rfl ntmps136 rfl (Ok.start w) ?_
 repeat'(first|refine ar ?_|(refine aa.cQ (f:=78) ?_;refine aa.cH pF rfl rfl rfl (fun w' hw'=>jD bS sp w' (h.s.aP (show Ext w w' from hw'.at) (fun h=>h))) ?_)|(refine aa.cQ (f:=168) ?_;refine aa.cH pF rfl rfl rfl (fun w' hw'=>AJ B m _ w' (h0.aP (show Ext w w' from hw'.at) (fun _ _ h=>h))) ?_)|(refine aa.GM ?_;refine aa.yg (by first|exact vD rfl eG) (Yl.GP (zv:=.bool false) underlying78 underlying3 (fun _=>rfl) rfl rfl hi h.dm ak) rfl ?_;rw[hd])|(refine bC ?_ ?_<;>intro hc_))
 all_goals exact ah.aF rfl rfl fun w' hw'=>⟨by unfold nF;by_cases a_:0≤i<;>by_cases b_:i<((gI m).length:Int)<;>first|omega|simp[a_,b_]|simp_all,hw'.at⟩
theorem kN {M:List bu} {R:List (World→Prop)} {w0 w:World} {b T n c:Nat} {cs:List Value} {D:Nat→Prop} (xs:List Int) (h:Ok M R w) (hR:Ext w0∈R) (hD:∀k,w0.heap.size≤k→D k) (hm:bu.aV b cs T∈M:=by repeat(first|with_reducible exact List.mem_cons_self|apply List.mem_cons_of_mem)) (hcs:cs=xs.map (Value.int .i64):=by rfl) (hn:n=xs.length:=by rfl) (hl:xs.length≤1000:=by simp):ai D w (.slice (some ⟨b,0,none⟩) n c) xs:=by
 subst hcs hn
 have hb:gO w b (xs.map (Pf .i64)) T:=(h.m _ hm).1
 refine⟨_,c,rfl,by omega,.inr ⟨b,0,rfl,hD b ?_,fun i hi=>?_⟩⟩
 ·rcases Nat.lt_or_ge b w0.heap.size with hlt|hge
  ·exact(h.origin (S:=fun _=>False) hR b ⟨_,hm,rfl⟩ hlt).elim
  ·exact hge
 ·rw[Nat.zero_add];exact hb.cell OQ
theorem dj {p:Prop} (h:p:=by first|exact ai.cI _ _|exact kN _ hw' ak (hD:=fun _ h=>.inr h)):p:=h
theorem vh (e0:Int) (w:World):Calls G.P 103 #[.int .i64 e0] w fun e w'=>e=.returned (.tuple #[.agg #[.slice none 0 0,.slice none 0 0],.int .i64 e0])∧Ext w w':=by
 refine ae (l:=[_]) func103 rfl ntmps103 rfl (Ok.start w) ?_
 repeat'(first|refine ar ?_|(refine NR fun b_=>?_)|fail)
 all_goals exact mp
theorem s8 (p0 p1:Option Addr) (n0 n1 c0 c1:Nat) (w:World):Calls G.P 98 #[.slice p0 n0 c0,.slice p1 n1 c1] w fun e w'=>e=.returned (.tuple #[.agg #[.slice p0 n0 c0,.slice p1 n1 c1],.int .i64 0])∧Ext w w':=by
 refine ae (l:=[_,_]) func98 rfl ntmps98 rfl (Ok.start w) ?_
 repeat'(first|refine ar ?_|(refine NR fun b_=>?_)|fail)
 all_goals exact mp
theorem oe {g g':Prop} (h:g') (hw:eI g'→g:=by(intro hk_;(first|(refine aa.aj (f:=103) ?_;refine aa.au rfl rfl rfl (fun w' hw'=>vh _ w') ?_)|(refine aa.aj (f:=98) ?_;refine aa.au rfl rfl rfl (fun w' hw'=>s8 _ _ _ _ _ _ w') ?_));exact hk_.out)):g:=hw ⟨h⟩
def eP (locals:List Int) (x:cv):aO×Int:=if(locals.length:Int)≤x.a then(dF,11)else if x.op=32 then(⟨[],[ix locals x.a.toNat]⟩,0)else if x.op=33 then(⟨[ix locals x.a.toNat],[]⟩,0)else(⟨[ix locals x.a.toNat],[ix locals x.a.toNat]⟩,0)
def dt (m:af) (x:cv):aO×Int:=match cJ (fZ m) x.a with
 |none=>(dF,11)
 |some g=>if x.op=35 then(⟨[],[g.nQ]⟩,0)else if g.sB=false then(dF,18)else(⟨[g.nQ],[]⟩,0)
def dr (m:af) (x:cv):aO×Int:=match cJ (bL m) x.a with
 |none=>(dF,11)
 |some t=>if x.op=37 then(⟨[1],[t.elem]⟩,0)else if x.op=38 then(⟨[1,t.elem],[]⟩,0)else if x.op=64528 then(⟨[],[1]⟩,0)else if x.op=64527 then(⟨[t.elem,1],[1]⟩,0)else(⟨[1,t.elem,1],[]⟩,0)
def jx (r:aO×Int) (F:Nat→Prop) (w:World):Ending→World→Prop:=bD (dH r.1) (fun y:Value×Value=>.tuple #[.agg #[y.1,y.2],.int .i64 r.2]) F w
theorem BT (F:Nat→Prop) (locals:List Int) (x:cv) (lp pt pl:Option Addr) (lc ct cl:Nat) (w:World) (hl:ai F w (.slice lp locals.length lc) locals) (ha:0≤x.a):Calls G.P 99 #[.slice lp locals.length lc,.agg #[Pf .i64 x.op,Pf .i64 x.a,Pf .i64 x.b,Pf .u64 x.n,Pf .i64 x.kind,Pf .i64 x.val,Pf .i64 x.index,Pg pt x.types.length ct,Pg pl x.labels.length cl]] w (jx (eP locals x) (fun _=>False) w):=by
 obtain⟨op,a,b,n,kind,val,index,types,labels⟩:=x
 dsimp only at ha ⊢
 obtain⟨j,rfl⟩:=PD ha
 by_cases hj:j<locals.length
 ·obtain⟨bk,o,rfl,hF,hc⟩:=hl.at hj
  have hcj:=hc j hj
  by_cases h1:op=32
  ·subst h1
   rw[show eP locals ⟨32,(j:Nat),b,n,kind,val,index,types,labels⟩=(⟨[],[ix locals j]⟩,0)from by unfold eP;dsimp only;rw[if_neg Pc,if_pos rfl,PU]]
   refine Nk ?_
   repeat'(first|refine ar ?_|(refine NP fun b_=>?_)|(refine fB fun b_ _=>?_)|refine oe ?_|fail)
   all_goals exact gt
  ·by_cases h2:op=33
   ·subst h2
    rw[show eP locals ⟨33,(j:Nat),b,n,kind,val,index,types,labels⟩=(⟨[ix locals j],[]⟩,0)from by unfold eP;dsimp only;rw[if_neg Pc,if_neg h1,if_pos rfl,PU]]
    refine Nk ?_
    repeat'(first|refine ar ?_|(refine NP fun b_=>?_)|(refine fB fun b_ _=>?_)|refine oe ?_|fail)
    all_goals exact gt
   ·rw[show eP locals ⟨op,(j:Nat),b,n,kind,val,index,types,labels⟩=(⟨[ix locals j],[ix locals j]⟩,0)from by unfold eP;dsimp only;rw[if_neg Pc,if_neg h1,if_neg h2,PU]]
    refine Nk ?_
    repeat'(first|refine ar ?_|(refine NP fun b_=>?_)|(refine fB fun b_ _=>?_)|refine oe ?_|fail)
    all_goals exact gt
 ·rw[show eP locals ⟨op,(j:Nat),b,n,kind,val,index,types,labels⟩=(dF,11)from if_pos O0]
  refine Nk ?_
  repeat'(first|refine ar ?_|(refine NP fun b_=>?_)|(refine fB fun b_ _=>?_)|refine oe ?_|fail)
  all_goals exact gt
theorem AB (x:cv) (pt pl:Option Addr) (ct cl:Nat) (w:World) (h:bN B m w v):Calls G.P 100 #[v,.agg #[Pf .i64 x.op,Pf .i64 x.a,Pf .i64 x.b,Pf .u64 x.n,Pf .i64 x.kind,Pf .i64 x.val,Pf .i64 x.index,Pg pt x.types.length ct,Pg pl x.labels.length cl]] w (jx (dt m x) (fun _=>False) w):=by
 obtain⟨op,a,b,n,kind,val,index,types,labels⟩:=x
 dsimp only
 cases hg:cJ (fZ m) a with
 |none=>
  rw[show dt m ⟨op,a,b,n,kind,val,index,types,labels⟩=(dF,11)from by unfold dt;dsimp only;rw[hg]]
  refine Nl ?_
  repeat'(first|refine ar ?_|(refine NP fun b_=>?_)|(refine fB fun b_ _=>?_)|refine oe ?_|(refine aa.aj (f:=138) ?_;refine aa.au (v:=.tuple #[.agg #[.int .i64 0,.bool false],.bool false]) rfl rfl rfl (fun w' hw'=>by have:=kF B m v a w' (h.aP (show Ext w w' from hw'.at) (fun _ _ h=>h));rw[hg]at this;exact this) ?_)|fail)
  all_goals exact gt
 |some g=>
  obtain⟨gv,gm⟩:=g
  by_cases h1:op=35
  ·subst h1
   rw[show dt m ⟨35,a,b,n,kind,val,index,types,labels⟩=(⟨[],[gv]⟩,0)from by unfold dt;dsimp only;rw[hg];rfl]
   refine Nl ?_
   repeat'(first|refine ar ?_|(refine NP fun b_=>?_)|(refine fB fun b_ _=>?_)|refine oe ?_|(refine aa.aj (f:=138) ?_;refine aa.au (v:=.tuple #[.agg #[.int .i64 gv,.bool gm],.bool true]) rfl rfl rfl (fun w' hw'=>by have:=kF B m v a w' (h.aP (show Ext w w' from hw'.at) (fun _ _ h=>h));rw[hg]at this;exact this) ?_)|fail)
   all_goals exact gt
  ·cases gm with
   |false=>
    rw[show dt m ⟨op,a,b,n,kind,val,index,types,labels⟩=(dF,18)from by unfold dt;dsimp only;rw[hg];dsimp only;rw[if_neg h1,if_pos rfl]]
    refine Nl ?_
    repeat'(first|refine ar ?_|(refine NP fun b_=>?_)|(refine fB fun b_ _=>?_)|refine oe ?_|(refine aa.aj (f:=138) ?_;refine aa.au (v:=.tuple #[.agg #[.int .i64 gv,.bool false],.bool true]) rfl rfl rfl (fun w' hw'=>by have:=kF B m v a w' (h.aP (show Ext w w' from hw'.at) (fun _ _ h=>h));rw[hg]at this;exact this) ?_)|fail)
    all_goals exact gt
   |true=>
    rw[show dt m ⟨op,a,b,n,kind,val,index,types,labels⟩=(⟨[gv],[]⟩,0)from by unfold dt;dsimp only;rw[hg];dsimp only;rw[if_neg h1,if_neg Pb]]
    refine Nl ?_
    repeat'(first|refine ar ?_|(refine NP fun b_=>?_)|(refine fB fun b_ _=>?_)|refine oe ?_|(refine aa.aj (f:=138) ?_;refine aa.au (v:=.tuple #[.agg #[.int .i64 gv,.bool true],.bool true]) rfl rfl rfl (fun w' hw'=>by have:=kF B m v a w' (h.aP (show Ext w w' from hw'.at) (fun _ _ h=>h));rw[hg]at this;exact this) ?_)|fail)
    all_goals exact gt
end Go.Proofs.YtdkcljdfbemnbaaGreatDoor
