import Derived.Test.YtdkcljdfbemnbaaGreatDoorJWn
namespace Go.Proofs.YtdkcljdfbemnbaaGreatDoor
open Go.RowKit _root_.Go.Proofs.Tryz
set_option maxHeartbeats 8000000
open Int renaming eq_ofNat_of_zero_le→PJ
open Value renaming bool→Po,int→Pm,string→Pr
set_option maxRecDepth 100000
variable (F:Nat→Prop)
theorem nq (m:af) (i:Int) (cs:List Value) (w:World) (hm:au F w cs m) (hF:∀k,F k→k<w.heap.size) (h0:0≤i) (hi:eP i):Calls G.P 176 #[.agg cs.toArray,.int .i64 i] w (iV (gK m i) F w):=by
 have hm0:=hm
 obtain⟨v0,v1,v2,v3,v4,v5,v6,v7,v8,v9,rfl,r0,r1,r2,r3,r4,r5,r6,r7,r8,r9,g0⟩:=hm
 obtain⟨p2,c2,rfl,l2⟩:=r2.slice
 have hat:cJ (gL m) i=_:=s8 (fun x:bY=>x.func) m 0 (m.funcs.map fun x:qq=>x.dI) h0
 cases hn:kV m.imports 0 i with
 |some x=>
  rw[hn]at hat
  have ef:gK m i=cJ m.types x.func:=by unfold gK;rw[hat];rfl
  rw[ef]
  refine ae (l:=[_,_]) func176 rfl ntmps176 rfl (Ok.start w) ?_
  repeat'(first|refine ar ?_|(refine N0 fun b_=>?_)|(refine aa.eh (t:=iF) ?_;refine aa.alloc (t:=iF) [Pr ⟨#[]⟩,Pr ⟨#[]⟩,Pm .i64 0,Pm .i64 0,Pm .i64 0,Pm .i64 0,Pm .i64 0,Po false,Pm .i64 0,Pm .i64 0,Po false,Pm .i64 0,Po false] rfl rfl rfl fun b_=>?_)|(refine aa.aj (f:=194) ?_;refine aa.av (v:=.tuple #[.agg #[Pr x.module,Pr x.name,Pm .i64 x.kind,Pm .i64 x.func,Pm .i64 x.table.elem,Pm .i64 x.table.m9.min,Pm .i64 x.table.m9.max,Po x.table.m9.has,Pm .i64 x.mem.min,Pm .i64 x.mem.max,Po x.mem.has,Pm .i64 x.ff.nY,Po x.ff.sD],.bool true]) rfl rfl rfl (fun w' hw'=>by have:=fV F m 0 i _ w' (hm0.aN (show Ext w w' from hw'.at) (fun _ _ _ h=>h)) h0 hi;rw[hn]at this;exact this) ?_)|fail)
  refine aa.he (HE.ze (r:=cJ m.types (x.func)) (F:=F) ak hF rfl rfl (fun w' hw'=>iJ F m (x.func) _ w' (hm0.aN (show Ext w w' from hw'.at) (fun _ _ _ h=>h)))) rfl ?_
  rintro⟨D_,p_,c_,q_,d_⟩ hD_
  dsimp only
  repeat'(first|refine ar ?_|fail)
  all_goals(refine ah.aM (.inl rfl) rfl rfl rfl rfl rfl aH rfl rfl ?_;exact fun w' hw'=>bD.jl (f0:=(cJ m.types (x.func)).getD dF) (tf:=fun y:Value×Value=>.tuple #[.agg #[y.1,y.2],.bool (cJ m.types (x.func)).isSome]) ⟨D_,p_,c_,q_,d_⟩ hw' ak ak hD_)
 |none=>
  rw[hn]at hat
  by_cases hin:0≤i - kT m 0∧i - kT m 0<m.funcs.length
  ·have ho:vW m 0 i m.funcs.length=i - kT m 0:=if_pos hin
   obtain⟨j,hj⟩:=PJ hin.1
   rw[hj]at hin hat ho
   have hlt:j<m.funcs.length:=by omega
   obtain⟨b,o,rfl,hFb,he⟩:=r2.el hlt
   have hty:=he.dI
   have ef:gK m i=cJ m.types (ix m.funcs j).dI:=by unfold gK;rw[hat];dsimp only;rw[jV (by simpa using hlt),ru hlt];rfl
   rw[ef]
   refine ae (l:=[_,_]) func176 rfl ntmps176 rfl (Ok.start w) ?_
   repeat'(first|refine ar ?_|(refine N0 fun b_=>?_)|(refine aa.eh (t:=iF) ?_;refine aa.alloc (t:=iF) [Pr ⟨#[]⟩,Pr ⟨#[]⟩,Pm .i64 0,Pm .i64 0,Pm .i64 0,Pm .i64 0,Pm .i64 0,Po false,Pm .i64 0,Pm .i64 0,Po false,Pm .i64 0,Po false] rfl rfl rfl fun b_=>?_)|(refine aa.aj (f:=194) ?_;refine aa.av (v:=.tuple #[.agg #[Pr ⟨#[]⟩,Pr ⟨#[]⟩,Pm .i64 0,Pm .i64 0,Pm .i64 0,Pm .i64 0,Pm .i64 0,Po false,Pm .i64 0,Pm .i64 0,Po false,Pm .i64 0,Po false],.bool false]) rfl rfl rfl (fun w' hw'=>by have:=fV F m 0 i _ w' (hm0.aN (show Ext w w' from hw'.at) (fun _ _ _ h=>h)) h0 hi;rw[hn]at this;exact this) ?_)|(refine aa.aj (f:=195) ?_;refine aa.av (v:=.int .i64 (j:Nat)) rfl rfl rfl (fun w' hw'=>by have:=jB F m 0 i m.funcs.length _ w' (hm0.aN (show Ext w w' from hw'.at) (fun _ _ _ h=>h)) h0 hi;rw[ho]at this;exact this) ?_)|fail)
   rename_i bm bf
   refine bh.cI [.aW bm [v0,v1,Value.slice (some ⟨b,o,none⟩) m.funcs.length c2,v3,v4,v5,v6,Po m.aI,Pm .i64 m.start,v7,v8,v9] jI] [Ext w] bz aU ?_
   repeat'(first|refine pN ?_|(refine ax.dA 44 ?_;refine ax.he rfl rfl (HE.ze (r:=cJ m.types ((ix m.funcs j).dI)) (F:=F) ak hF rfl rfl (fun w' hw'=>iJ F m ((ix m.funcs j).dI) _ w' (hm0.aN (show Ext w w' from hw'.at) (fun _ _ _ h=>h)))) (fun _=>bz) (fun _=>aU) ?_;rintro⟨D_,p_,c_,q_,d_⟩ hD_;dsimp only)|(refine ax.nj ?_;refine ax.jO rfl (gj.bn _ rfl rfl rfl rfl rfl rfl aH rfl) (fun _=>bz) (fun _=>aU) ?_;rintro⟨⟩ _)|refine aP.nil O9 ?_|refine aP.any O9 ?_|exact aB.fin rfl|refine aB.skip O9 ?_|refine aB.go ?_ ?_)
   all_goals repeat'(first|refine ar ?_|fail)
   all_goals(refine ah.aM (.inl rfl) rfl rfl rfl rfl rfl aH rfl rfl ?_;exact fun w' hw'=>bD.jl (f0:=(cJ m.types ((ix m.funcs j).dI)).getD dF) (tf:=fun y:Value×Value=>.tuple #[.agg #[y.1,y.2],.bool (cJ m.types ((ix m.funcs j).dI)).isSome]) ⟨D_,p_,c_,q_,d_⟩ hw' ak ak hD_)
  ·have ho:vW m 0 i m.funcs.length=-1:=if_neg hin
   have ef:gK m i=none:=by unfold gK;rw[hat];dsimp only;rw[iN (by simpa using hin)];rfl
   rw[ef]
   refine ae (l:=[_,_]) func176 rfl ntmps176 rfl (Ok.start w) ?_
   repeat'(first|refine ar ?_|(refine N0 fun b_=>?_)|(refine aa.eh (t:=iF) ?_;refine aa.alloc (t:=iF) [Pr ⟨#[]⟩,Pr ⟨#[]⟩,Pm .i64 0,Pm .i64 0,Pm .i64 0,Pm .i64 0,Pm .i64 0,Po false,Pm .i64 0,Pm .i64 0,Po false,Pm .i64 0,Po false] rfl rfl rfl fun b_=>?_)|(refine aa.aj (f:=194) ?_;refine aa.av (v:=.tuple #[.agg #[Pr ⟨#[]⟩,Pr ⟨#[]⟩,Pm .i64 0,Pm .i64 0,Pm .i64 0,Pm .i64 0,Pm .i64 0,Po false,Pm .i64 0,Pm .i64 0,Po false,Pm .i64 0,Po false],.bool false]) rfl rfl rfl (fun w' hw'=>by have:=fV F m 0 i _ w' (hm0.aN (show Ext w w' from hw'.at) (fun _ _ _ h=>h)) h0 hi;rw[hn]at this;exact this) ?_)|(refine aa.aj (f:=195) ?_;refine aa.av (v:=.int .i64 (-1)) rfl rfl rfl (fun w' hw'=>by have:=jB F m 0 i m.funcs.length _ w' (hm0.aN (show Ext w w' from hw'.at) (fun _ _ _ h=>h)) h0 hi;rw[ho]at this;exact this) ?_)|fail)
   all_goals exact qr
theorem iI (m:af) (i:Int) (cs:List Value) (w:World) (hm:au F w cs m) (h0:0≤i) (hi:eP i):Calls G.P 178 #[.agg cs.toArray,.int .i64 i] w fun e w'=>e=.returned (.tuple #[.agg (mY ((cJ (bM m) i).getD By)).toArray,.bool (cJ (bM m) i).isSome])∧Ext w w':=by
 have hm0:=hm
 obtain⟨v0,v1,v2,v3,v4,v5,v6,v7,v8,v9,rfl,r0,r1,r2,r3,r4,r5,r6,r7,r8,r9,g0⟩:=hm
 obtain⟨p3,c3,rfl,l3⟩:=r3.slice
 have hat:cJ (bM m) i=_:=s8 (·.table) m 1 m.tables h0
 cases hn:kV m.imports 1 i with
 |some x=>
  rw[hn]at hat
  rw[hat]
  refine ae (l:=[_,_]) func178 rfl ntmps178 rfl (Ok.start w) ?_
  repeat'(first|refine ar ?_|(refine NV fun b_=>?_)|(refine aa.eh (t:=iF) ?_;refine aa.alloc (t:=iF) [Pr ⟨#[]⟩,Pr ⟨#[]⟩,Pm .i64 0,Pm .i64 0,Pm .i64 0,Pm .i64 0,Pm .i64 0,Po false,Pm .i64 0,Pm .i64 0,Po false,Pm .i64 0,Po false] rfl rfl rfl fun b_=>?_)|(refine aa.aj (f:=194) ?_;refine aa.av (v:=.tuple #[.agg #[Pr x.module,Pr x.name,Pm .i64 x.kind,Pm .i64 x.func,Pm .i64 x.table.elem,Pm .i64 x.table.m9.min,Pm .i64 x.table.m9.max,Po x.table.m9.has,Pm .i64 x.mem.min,Pm .i64 x.mem.max,Po x.mem.has,Pm .i64 x.ff.nY,Po x.ff.sD],.bool true]) rfl rfl rfl (fun w' hw'=>by have:=fV F m 1 i _ w' (hm0.aN (show Ext w w' from hw'.at) (fun _ _ _ h=>h)) h0 hi;rw[hn]at this;exact this) ?_)|fail)
  all_goals exact li
 |none=>
  rw[hn]at hat
  by_cases hin:0≤i - kT m 1∧i - kT m 1<m.tables.length
  ·have ho:vW m 1 i m.tables.length=i - kT m 1:=if_pos hin
   obtain⟨j,hj⟩:=PJ hin.1
   rw[hj]at hin hat ho
   have hlt:j<m.tables.length:=by omega
   obtain⟨b,o,rfl,hF,he⟩:=r3.el hlt
   have hcc:∀k,k<4→w.cell? ⟨b,o+j*4+k,none⟩=(mY (ix m.tables j))[k]?:=AR he
   have hat2:cJ (bM m) i=some (ix m.tables j):=by rw[hat];dsimp only;exact jV hlt
   rw[hat2]
   refine ae (l:=[_,_]) func178 rfl ntmps178 rfl (Ok.start w) ?_
   refine bh.lj (Cs b (o+j*4) (mY (ix m.tables j))) (jr hcc rfl ak) ?_
   dsimp only[mY]
   repeat'(first|refine ar ?_|(refine NV fun b_=>?_)|(refine aa.eh (t:=iF) ?_;refine aa.alloc (t:=iF) [Pr ⟨#[]⟩,Pr ⟨#[]⟩,Pm .i64 0,Pm .i64 0,Pm .i64 0,Pm .i64 0,Pm .i64 0,Po false,Pm .i64 0,Pm .i64 0,Po false,Pm .i64 0,Po false] rfl rfl rfl fun b_=>?_)|(refine aa.aj (f:=194) ?_;refine aa.av (v:=.tuple #[.agg #[Pr ⟨#[]⟩,Pr ⟨#[]⟩,Pm .i64 0,Pm .i64 0,Pm .i64 0,Pm .i64 0,Pm .i64 0,Po false,Pm .i64 0,Pm .i64 0,Po false,Pm .i64 0,Po false],.bool false]) rfl rfl rfl (fun w' hw'=>by have:=fV F m 1 i _ w' (hm0.aN (show Ext w w' from hw'.at) (fun _ _ _ h=>h)) h0 hi;rw[hn]at this;exact this) ?_)|(refine aa.aj (f:=195) ?_;refine aa.av (v:=.int .i64 (j:Nat)) rfl rfl rfl (fun w' hw'=>by have:=jB F m 1 i m.tables.length _ w' (hm0.aN (show Ext w w' from hw'.at) (fun _ _ _ h=>h)) h0 hi;rw[ho]at this;exact this) ?_)|fail)
   all_goals exact li
  ·have ho:vW m 1 i m.tables.length=-1:=if_neg hin
   have hat2:cJ (bM m) i=none:=by rw[hat];dsimp only;exact iN (by simpa using hin)
   rw[hat2]
   refine ae (l:=[_,_]) func178 rfl ntmps178 rfl (Ok.start w) ?_
   repeat'(first|refine ar ?_|(refine NV fun b_=>?_)|(refine aa.eh (t:=iF) ?_;refine aa.alloc (t:=iF) [Pr ⟨#[]⟩,Pr ⟨#[]⟩,Pm .i64 0,Pm .i64 0,Pm .i64 0,Pm .i64 0,Pm .i64 0,Po false,Pm .i64 0,Pm .i64 0,Po false,Pm .i64 0,Po false] rfl rfl rfl fun b_=>?_)|(refine aa.aj (f:=194) ?_;refine aa.av (v:=.tuple #[.agg #[Pr ⟨#[]⟩,Pr ⟨#[]⟩,Pm .i64 0,Pm .i64 0,Pm .i64 0,Pm .i64 0,Pm .i64 0,Po false,Pm .i64 0,Pm .i64 0,Po false,Pm .i64 0,Po false],.bool false]) rfl rfl rfl (fun w' hw'=>by have:=fV F m 1 i _ w' (hm0.aN (show Ext w w' from hw'.at) (fun _ _ _ h=>h)) h0 hi;rw[hn]at this;exact this) ?_)|(refine aa.aj (f:=195) ?_;refine aa.av (v:=.int .i64 (-1)) rfl rfl rfl (fun w' hw'=>by have:=jB F m 1 i m.tables.length _ w' (hm0.aN (show Ext w w' from hw'.at) (fun _ _ _ h=>h)) h0 hi;rw[ho]at this;exact this) ?_)|fail)
   all_goals exact lm
theorem Eb (m:af) (i:Int) (cs:List Value) (w:World) (hm:au F w cs m) (h0:0≤i) (hi:eP i):Calls G.P 198 #[.agg cs.toArray,.int .i64 i] w fun e w'=>e=.returned (.tuple #[.agg (mK ((cJ (ec m) i).getD IF)).toArray,.bool (cJ (ec m) i).isSome])∧Ext w w':=by
 have hm0:=hm
 obtain⟨v0,v1,v2,v3,v4,v5,v6,v7,v8,v9,rfl,r0,r1,r2,r3,r4,r5,r6,r7,r8,r9,g0⟩:=hm
 obtain⟨p4,c4,rfl,l4⟩:=r4.slice
 have hat:cJ (ec m) i=_:=s8 (·.mem) m 2 m.bQ h0
 cases hn:kV m.imports 2 i with
 |some x=>
  rw[hn]at hat
  rw[hat]
  refine ae (l:=[_,_]) func198 rfl ntmps198 rfl (Ok.start w) ?_
  repeat'(first|refine ar ?_|(refine NV fun b_=>?_)|(refine aa.eh (t:=iF) ?_;refine aa.alloc (t:=iF) [Pr ⟨#[]⟩,Pr ⟨#[]⟩,Pm .i64 0,Pm .i64 0,Pm .i64 0,Pm .i64 0,Pm .i64 0,Po false,Pm .i64 0,Pm .i64 0,Po false,Pm .i64 0,Po false] rfl rfl rfl fun b_=>?_)|(refine aa.aj (f:=194) ?_;refine aa.av (v:=.tuple #[.agg #[Pr x.module,Pr x.name,Pm .i64 x.kind,Pm .i64 x.func,Pm .i64 x.table.elem,Pm .i64 x.table.m9.min,Pm .i64 x.table.m9.max,Po x.table.m9.has,Pm .i64 x.mem.min,Pm .i64 x.mem.max,Po x.mem.has,Pm .i64 x.ff.nY,Po x.ff.sD],.bool true]) rfl rfl rfl (fun w' hw'=>by have:=fV F m 2 i _ w' (hm0.aN (show Ext w w' from hw'.at) (fun _ _ _ h=>h)) h0 hi;rw[hn]at this;exact this) ?_)|fail)
  all_goals exact li
 |none=>
  rw[hn]at hat
  by_cases hin:0≤i - kT m 2∧i - kT m 2<m.bQ.length
  ·have ho:vW m 2 i m.bQ.length=i - kT m 2:=if_pos hin
   obtain⟨j,hj⟩:=PJ hin.1
   rw[hj]at hin hat ho
   have hlt:j<m.bQ.length:=by omega
   obtain⟨b,o,rfl,hF,he⟩:=r4.el hlt
   have hcc:∀k,k<3→w.cell? ⟨b,o+j*3+k,none⟩=(mK (ix m.bQ j))[k]?:=xv he
   have hat2:cJ (ec m) i=some (ix m.bQ j):=by rw[hat];dsimp only;exact jV hlt
   rw[hat2]
   refine ae (l:=[_,_]) func198 rfl ntmps198 rfl (Ok.start w) ?_
   refine bh.lj (Cs b (o+j*3) (mK (ix m.bQ j))) (jr hcc rfl ak) ?_
   dsimp only[mK]
   repeat'(first|refine ar ?_|(refine NV fun b_=>?_)|(refine aa.eh (t:=iF) ?_;refine aa.alloc (t:=iF) [Pr ⟨#[]⟩,Pr ⟨#[]⟩,Pm .i64 0,Pm .i64 0,Pm .i64 0,Pm .i64 0,Pm .i64 0,Po false,Pm .i64 0,Pm .i64 0,Po false,Pm .i64 0,Po false] rfl rfl rfl fun b_=>?_)|(refine aa.aj (f:=194) ?_;refine aa.av (v:=.tuple #[.agg #[Pr ⟨#[]⟩,Pr ⟨#[]⟩,Pm .i64 0,Pm .i64 0,Pm .i64 0,Pm .i64 0,Pm .i64 0,Po false,Pm .i64 0,Pm .i64 0,Po false,Pm .i64 0,Po false],.bool false]) rfl rfl rfl (fun w' hw'=>by have:=fV F m 2 i _ w' (hm0.aN (show Ext w w' from hw'.at) (fun _ _ _ h=>h)) h0 hi;rw[hn]at this;exact this) ?_)|(refine aa.aj (f:=195) ?_;refine aa.av (v:=.int .i64 (j:Nat)) rfl rfl rfl (fun w' hw'=>by have:=jB F m 2 i m.bQ.length _ w' (hm0.aN (show Ext w w' from hw'.at) (fun _ _ _ h=>h)) h0 hi;rw[ho]at this;exact this) ?_)|fail)
   all_goals exact li
  ·have ho:vW m 2 i m.bQ.length=-1:=if_neg hin
   have hat2:cJ (ec m) i=none:=by rw[hat];dsimp only;exact iN (by simpa using hin)
   rw[hat2]
   refine ae (l:=[_,_]) func198 rfl ntmps198 rfl (Ok.start w) ?_
   repeat'(first|refine ar ?_|(refine NV fun b_=>?_)|(refine aa.eh (t:=iF) ?_;refine aa.alloc (t:=iF) [Pr ⟨#[]⟩,Pr ⟨#[]⟩,Pm .i64 0,Pm .i64 0,Pm .i64 0,Pm .i64 0,Pm .i64 0,Po false,Pm .i64 0,Pm .i64 0,Po false,Pm .i64 0,Po false] rfl rfl rfl fun b_=>?_)|(refine aa.aj (f:=194) ?_;refine aa.av (v:=.tuple #[.agg #[Pr ⟨#[]⟩,Pr ⟨#[]⟩,Pm .i64 0,Pm .i64 0,Pm .i64 0,Pm .i64 0,Pm .i64 0,Po false,Pm .i64 0,Pm .i64 0,Po false,Pm .i64 0,Po false],.bool false]) rfl rfl rfl (fun w' hw'=>by have:=fV F m 2 i _ w' (hm0.aN (show Ext w w' from hw'.at) (fun _ _ _ h=>h)) h0 hi;rw[hn]at this;exact this) ?_)|(refine aa.aj (f:=195) ?_;refine aa.av (v:=.int .i64 (-1)) rfl rfl rfl (fun w' hw'=>by have:=jB F m 2 i m.bQ.length _ w' (hm0.aN (show Ext w w' from hw'.at) (fun _ _ _ h=>h)) h0 hi;rw[ho]at this;exact this) ?_)|fail)
   all_goals exact lm
theorem kE (m:af) (i:Int) (cs:List Value) (w:World) (hm:au F w cs m) (h0:0≤i) (hi:eP i):Calls G.P 179 #[.agg cs.toArray,.int .i64 i] w fun e w'=>e=.returned (.tuple #[.agg (pY ((cJ (gg m) i).getD JH)).toArray,.bool (cJ (gg m) i).isSome])∧Ext w w':=by
 have hm0:=hm
 obtain⟨v0,v1,v2,v3,v4,v5,v6,v7,v8,v9,rfl,r0,r1,r2,r3,r4,r5,r6,r7,r8,r9,g0⟩:=hm
 obtain⟨p5,c5,rfl,l5⟩:=r5.slice
 have hat:cJ (gg m) i=_:=s8 (fun x:bY=>x.ff) m 3 (m.globals.map fun x:gW=>x.dI) h0
 cases hn:kV m.imports 3 i with
 |some x=>
  rw[hn]at hat
  rw[hat]
  refine ae (l:=[_,_]) func179 rfl ntmps179 rfl (Ok.start w) ?_
  repeat'(first|refine ar ?_|(refine NV fun b_=>?_)|(refine aa.eh (t:=iF) ?_;refine aa.alloc (t:=iF) [Pr ⟨#[]⟩,Pr ⟨#[]⟩,Pm .i64 0,Pm .i64 0,Pm .i64 0,Pm .i64 0,Pm .i64 0,Po false,Pm .i64 0,Pm .i64 0,Po false,Pm .i64 0,Po false] rfl rfl rfl fun b_=>?_)|(refine aa.aj (f:=194) ?_;refine aa.av (v:=.tuple #[.agg #[Pr x.module,Pr x.name,Pm .i64 x.kind,Pm .i64 x.func,Pm .i64 x.table.elem,Pm .i64 x.table.m9.min,Pm .i64 x.table.m9.max,Po x.table.m9.has,Pm .i64 x.mem.min,Pm .i64 x.mem.max,Po x.mem.has,Pm .i64 x.ff.nY,Po x.ff.sD],.bool true]) rfl rfl rfl (fun w' hw'=>by have:=fV F m 3 i _ w' (hm0.aN (show Ext w w' from hw'.at) (fun _ _ _ h=>h)) h0 hi;rw[hn]at this;exact this) ?_)|fail)
  all_goals exact li
 |none=>
  rw[hn]at hat
  by_cases hin:0≤i - kT m 3∧i - kT m 3<m.globals.length
  ·have ho:vW m 3 i m.globals.length=i - kT m 3:=if_pos hin
   obtain⟨j,hj⟩:=PJ hin.1
   rw[hj]at hin hat ho
   have hlt:j<m.globals.length:=by omega
   obtain⟨b,o,rfl,hF,he⟩:=r5.el hlt
   have hcc:∀k,k<2→w.cell? ⟨b,o+j*3+k,none⟩=(pY (ix m.globals j).dI)[k]?:=Du he
   have hat2:cJ (gg m) i=some (ix m.globals j).dI:=by rw[hat];dsimp only;rw[jV (by simpa using hlt),ru hlt]
   rw[hat2]
   refine ae (l:=[_,_]) func179 rfl ntmps179 rfl (Ok.start w) ?_
   refine bh.lj (Cs b (o+j*3) (pY (ix m.globals j).dI)) (jr hcc rfl ak) ?_
   dsimp only[pY]
   repeat'(first|refine ar ?_|(refine NV fun b_=>?_)|(refine aa.eh (t:=iF) ?_;refine aa.alloc (t:=iF) [Pr ⟨#[]⟩,Pr ⟨#[]⟩,Pm .i64 0,Pm .i64 0,Pm .i64 0,Pm .i64 0,Pm .i64 0,Po false,Pm .i64 0,Pm .i64 0,Po false,Pm .i64 0,Po false] rfl rfl rfl fun b_=>?_)|(refine aa.aj (f:=194) ?_;refine aa.av (v:=.tuple #[.agg #[Pr ⟨#[]⟩,Pr ⟨#[]⟩,Pm .i64 0,Pm .i64 0,Pm .i64 0,Pm .i64 0,Pm .i64 0,Po false,Pm .i64 0,Pm .i64 0,Po false,Pm .i64 0,Po false],.bool false]) rfl rfl rfl (fun w' hw'=>by have:=fV F m 3 i _ w' (hm0.aN (show Ext w w' from hw'.at) (fun _ _ _ h=>h)) h0 hi;rw[hn]at this;exact this) ?_)|(refine aa.aj (f:=195) ?_;refine aa.av (v:=.int .i64 (j:Nat)) rfl rfl rfl (fun w' hw'=>by have:=jB F m 3 i m.globals.length _ w' (hm0.aN (show Ext w w' from hw'.at) (fun _ _ _ h=>h)) h0 hi;rw[ho]at this;exact this) ?_)|fail)
   all_goals exact li
  ·have ho:vW m 3 i m.globals.length=-1:=if_neg hin
   have hat2:cJ (gg m) i=none:=by rw[hat];dsimp only;exact iN (by simpa using hin)
   rw[hat2]
   refine ae (l:=[_,_]) func179 rfl ntmps179 rfl (Ok.start w) ?_
   repeat'(first|refine ar ?_|(refine NV fun b_=>?_)|(refine aa.eh (t:=iF) ?_;refine aa.alloc (t:=iF) [Pr ⟨#[]⟩,Pr ⟨#[]⟩,Pm .i64 0,Pm .i64 0,Pm .i64 0,Pm .i64 0,Pm .i64 0,Po false,Pm .i64 0,Pm .i64 0,Po false,Pm .i64 0,Po false] rfl rfl rfl fun b_=>?_)|(refine aa.aj (f:=194) ?_;refine aa.av (v:=.tuple #[.agg #[Pr ⟨#[]⟩,Pr ⟨#[]⟩,Pm .i64 0,Pm .i64 0,Pm .i64 0,Pm .i64 0,Pm .i64 0,Po false,Pm .i64 0,Pm .i64 0,Po false,Pm .i64 0,Po false],.bool false]) rfl rfl rfl (fun w' hw'=>by have:=fV F m 3 i _ w' (hm0.aN (show Ext w w' from hw'.at) (fun _ _ _ h=>h)) h0 hi;rw[hn]at this;exact this) ?_)|(refine aa.aj (f:=195) ?_;refine aa.av (v:=.int .i64 (-1)) rfl rfl rfl (fun w' hw'=>by have:=jB F m 3 i m.globals.length _ w' (hm0.aN (show Ext w w' from hw'.at) (fun _ _ _ h=>h)) h0 hi;rw[ho]at this;exact this) ?_)|fail)
   all_goals exact lm
end Go.Proofs.YtdkcljdfbemnbaaGreatDoor
