/- Layer 23: rule.Apply and ref23.Apply, each by one contract. -/
import Derived.Test.YtceedealggognaaGreatDoorJOk
import Derived.Test.YtceedealggognaaGreatDoorJUh
import Derived.Test.YtceedealggognaaGreatDoorJUt
import Derived.Test.YtceedealggognaaGreatDoorJWd
import Derived.Test.YtceedealggognaaGreatDoorJSe
import Derived.Test.YtceedealggognaaGreatDoorJEl
import Derived.Test.YtceedealggognaaGreatDoorJVe
import Derived.Test.YtceedealggognaaGreatDoorJWj
import Derived.Test.YtceedealggognaaGreatDoorJIm
import Derived.Test.YtceedealggognaaGreatDoorJNb
import Derived.Test.YtceedealggognaaGreatDoorJAr
import Derived.Test.YtceedealggognaaGreatDoorJIo
namespace Go.Proofs.YtceedealggognaaGreatDoor
open Go.RowKit
set_option maxRecDepth 100000
structure C9 (c:dq) (m:ae) (locals:List Int) (x:bP):Prop where
 fs:c.fs.length≤1000
 ts:c.aG.ts.length≤1000000000000
 res:c.results.length≤100000000000
 iA:∀n,(bU c n).1.length≤100000000000
 par:c.top.par.length≤100000000000
 rs:c.top.res.length≤100000000000
 ll:x.labels.length≤10000000
 aJ:∀f,dD m x.kind x.val x.index=some f→(c.aG.ts.length+f.params.length)*8≤140737488355328
 E6:(c.aG.ts.length+(dY m locals x).1.results.length)*8≤140737488355328
theorem vi (B:Nat) (F:Nat→Prop) (cp:Nat) (c:dq) (v:fU) (m:ae) (locals:List Int) (sv:Value) (x:bP) (lp pt pl:Option Addr) (lc ct cl:Nat) (w:World) (hw:Ok (aw cp c v) (mj B F m sv locals (.slice lp locals.length lc) x (.slice pt x.types.length ct) (.slice pl x.labels.length cl)) w) (hg:v.Good c) (hwf:c.Wf) (hb:c.broken=0) (hT:xR m) (hB:C9 c m locals x):
  Calls G.P 35 #[.pointer (some ⟨cp,0,none⟩),sv,.slice lp locals.length lc,.agg #[Value.int .i64 x.op,Value.int .i64 x.a,Value.int .i64 x.b,Value.int .u64 x.n,Value.int .i64 x.kind,Value.int .i64 x.val,Value.int .i64 x.index,Value.slice pt x.types.length ct,Value.slice pl x.labels.length cl]] w (ar (aw cp c v) cp (dj c m locals x) w):=by
 have h1:=hB.fs
 have h2:=hB.ts
 have h3:=hB.par
 have h4:=hB.rs
 unfold dj
 cases hp:db x with
 |false=>rw[if_pos rfl];exact qn B F cp c v m locals sv x lp pt pl lc ct cl w hw hp
 |true=>
  rw[if_neg Ha]
  by_cases q1:opens x.op
  ·rw[if_pos q1];exact oa B F cp c v m locals sv x lp pt pl lc ct cl w hw hg hwf hb hp q1 h1 hB.aJ
  rw[if_neg q1]
  by_cases q2:x.op=5
  ·rw[if_pos q2];exact n8 B F cp c v m locals sv x lp pt pl lc ct cl w hw hg hwf hb hp q2 h1 Hb
  rw[if_neg q2]
  by_cases q3:x.op=11
  ·rw[if_pos q3];exact pD B F cp c v m locals sv x lp pt pl lc ct cl w hw hg hwf hb hp q3 h1 Hb
  rw[if_neg q3]
  by_cases q4:x.op=0
  ·rw[if_pos q4];exact pE B F cp c v m locals sv x lp pt pl lc ct cl w hw hg hwf hb hp q4
  rw[if_neg q4]
  by_cases q5:jumps x.op
  ·rw[if_pos q5];exact n9 B F cp c v m locals sv x lp pt pl lc ct cl w hw hg hwf hb hp q5 hB.res hB.iA hB.ll h2
  rw[if_neg q5]
  by_cases q6:kP x.op
  ·rw[if_pos q6];exact oc B F cp c v m locals sv x lp pt pl lc ct cl w hw hg hwf hb hp q6 Hb
  rw[if_neg q6]
  exact nr B F cp c v m locals sv x lp pt pl lc ct cl w hw hg hwf hp (yh q1 q2 q3 q4 q5 q6) hT (AY _ hB.E6)
def zG (K:Nat) (m:ae):Prop:=∀f∈m.types,f.params.length≤K∧f.results.length≤K
theorem zG.b {K:Nat} {m:ae} (h:zG K m) (hK:K≤17592186043904):xR m:=fun f hf=>⟨Nat.le_trans (h f hf).1 hK,Nat.le_trans (h f hf).2 hK⟩
theorem kH {K:Nat} {m:ae} (h1:1≤K) (hT:zG K m) {k v i:Int} {f:aE} (h:dD m k v i=some f):f.params.length≤K∧f.results.length≤K:=by
 unfold dD at h
 split at h
 ·cases h;exact⟨Nat.zero_le _,Nat.zero_le _⟩
 ·split at h
  ·split at h
   ·cases h;exact⟨Nat.zero_le _,h1⟩
   ·cases h
  ·split at h
   ·exact hT _ (kZ h)
   ·cases h
theorem mh {K:Nat} {m:ae} {locals:List Int} {x:bP} {f:aE} {e:Int} (h1:100≤K) (hT:zG K m) (h:dY m locals x=(f,e)):f.results.length≤K:=by
 have hfun:∀g,jq m x.a=some g→g∈m.types:=fun g hg=>by
  unfold jq at hg
  cases ha:eK (gz m) x.a with
  |none=>rw[ha]at hg;cases hg
  |some t=>rw[ha]at hg;exact kZ hg
 have hs:=AH x.op
 unfold dY cr dk fZ eA eE at h
 dsimp only at h
 repeat' split at h
 all_goals cases h
 all_goals first
  |(dsimp only[gG,List.length_cons,List.length_nil];omega)
  |(have:=hT _ (hfun _ G8);omega)
  |(have:=hT _ (kZ G8);dsimp only;omega)
  |omega
theorem xp {K:Nat} (results:List Int) (h:results.length≤K):gI K 0 (iB results):=by
 refine⟨As _,rfl,by unfold cZ.Fit;exact Nat.zero_le _,fun f hf=>?_,Nat.le_refl 0⟩
 have:f=⟨0,[],results,false,true⟩:=by simpa[iB]using hf
 subst this
 exact⟨Nat.zero_le _,h⟩
def kB (m:ae) (i:Int):Option aE:=match eK m.funcs i with|none=>none|some c=>eK m.types c.cP
def kL (m:ae) (i:Int) (f:aE):List Int:=f.params++(ix m.funcs i.toNat).locals
section
variable (m:ae) (locals:List Int) (xs:List bP)
def qS:Nat→Nat→dq→Int×Int
 |0,_,_=>(0,0)
 |n+1,k,c=>if(dj c m locals (ix xs k)).2≠0 then(k,(dj c m locals (ix xs k)).2)else if cB (dj c m locals (ix xs k)).1.aG then(k,6)else qS n (k+1) (dj c m locals (ix xs k)).1
def xU:Nat→Nat→dq→List (Bool×List Int)
 |0,_,_=>[]
 |n+1,k,c=>(c.live,c.aG.ts)::xU n (k+1) (dj c m locals (ix xs k)).1
end
structure m7 (K:Nat) (results:List Int) (k:Nat) (c:dq):Prop where
 wf:c.Wf
 bk:c.broken=0
 fit:c.aG.Fit
 fr:vD K c.fs
 ov:c.aG.mK≤256
 fs:c.fs.length≤k+1
 rs:c.results=results
theorem m7.new {K:Nat} (results:List Int) (h:results.length≤K):m7 K results 0 (iB results):=by
 have h1:=xp results h
 exact⟨h1.wf,h1.bk,h1.fit,h1.fr,Nat.zero_le _,Nat.le_refl 1,rfl⟩
theorem m7.w8 {K k:Nat} {results:List Int} {c:dq} (h:m7 K results k c):gI K 256 c:=⟨h.wf,h.bk,h.fit,h.fr,Nat.le_trans h.fit h.ov⟩
theorem m7.bounds {K k:Nat} {results:List Int} {c:dq} (h:m7 K results k c) {m:ae} {locals:List Int} {x:bP} (hT:zG K m) (hK:100≤K) (hK2:K≤1048576) (hr:results.length≤K) (hk:k≤900) (hll:x.labels.length≤1048576):C9 c m locals x:=by
 have hts:c.aG.ts.length≤256:=Nat.le_trans h.fit h.ov
 have hfs:=h.fs
 refine⟨by omega,by omega,by rw[h.rs];omega,fun n=>Nat.le_trans (h.fr.label n) Hb,Nat.le_trans h.fr.top.1 Hb,Nat.le_trans h.fr.top.2 Hb,by omega,fun f hf=>?_,?_⟩
 ·have:=(kH Hb hT hf).1;omega
 ·obtain⟨r,hr⟩:∃r,dY m locals x=r:=⟨_,rfl⟩
  obtain⟨f,e⟩:=r
  have:=mh hK hT hr
  rw[hr];dsimp only;omega
theorem m7.next {K k:Nat} {results:List Int} {c:dq} (h:m7 K results k c) {m:ae} {locals:List Int} {x:bP} (hT:zG K m) (hK:100≤K) (e:(dj c m locals x).2=0) (ho:cB (dj c m locals x).1.aG=false):m7 K results (k+1) (dj c m locals x).1:=by
 obtain⟨h1,h2,h3,-⟩:=mD h.w8 (m:=m) (locals:=locals) (x:=x) Hb (fun f hf=>kH Hb hT hf) (by
  obtain⟨r,hr⟩:∃r,dY m locals x=r:=⟨_,rfl⟩
  obtain⟨f,e⟩:=r
  rw[hr];exact mh hK hT hr) e
 have hfs:=h.fs
 have hov:¬256<(dj c m locals x).1.aG.mK:=of_decide_eq_false ho
 exact⟨h1.wf,h1.bk,h1.fit,h1.fr,by omega,by omega,by rw[←h.rs];exact h2⟩
theorem vq (sp:Nat) (s:cZ) (x:Value×Value) (w:World) (hw:Ok (ay sp s x) [] w) (hp:0<s.ps.length):Calls G.P 36 #[.pointer (some ⟨sp,0,none⟩)] w fun e w'=>e=.returned (.bool (cB s))∧Ext w w':=by
 obtain⟨v1,v2⟩:=x;obtain⟨⟨p1,c1,e1,hcap,hg1⟩,⟨p2,c2,e2,hg2⟩,hn1,hn2⟩:=sG sp s (v1,v2) hw (List.Sublist.refl _);dsimp only at e1 e2;subst e1;subst e2;obtain⟨g2,rfl⟩:=hg2 hp
 have k1:w.cell? ⟨sp,1,none⟩=some (.slice (some ⟨g2,0,none⟩) s.ps.length c2):=hw.c1 (T:=fS) (cs:=[.slice p1 s.ts.length c1,.slice (some ⟨g2,0,none⟩) s.ps.length c2,.bool (cB s)]) Up.head rfl
 have k2:w.cell? ⟨sp,2,none⟩=some (.bool (cB s)):=hw.c1 (T:=fS) (cs:=[.slice p1 s.ts.length c1,.slice (some ⟨g2,0,none⟩) s.ps.length c2,.bool (cB s)]) Up.head rfl
 refine aj (l:=[_]) Tryz.func36 rfl Tryz.ntmps36 rfl (Ok.start w) ?_
 repeat'(first|refine ax ?_|refine Gp ?_|fail)
 all_goals first|omega|exact ai.aA rfl rfl fun w' hw'=>⟨rfl,hw'.at⟩
theorem Up.Dz {q q':aV} {M M':List aV} (h:Up q q' M M'):q'∈M':=by induction h with|head=>simp|tail _ ih=>simp[ih]
theorem yE {D:Nat→Prop} {w:World} {p:Option Addr} {c:Nat} {ys:List Int} {M:List aV} {R:List (World→Prop)} (hw:Ok M R w) (hI:∀w,Ok M R w→af D w (.slice p ys.length c) ys):ys.length=0∨∃bk o,p=some ⟨bk,o,none⟩∧∀w',Ok M R w'→∀j u,(aU ys)[j]?=some u→w'.cell? ⟨bk,o+j,none⟩=some u:=by
 rcases oQ (hI w hw)with h|⟨bk,o,rfl,-⟩
 ·exact .inl h
 ·refine .inr ⟨bk,o,rfl,fun w' hw' j u hj=>?_⟩
  rcases oQ (hI w' hw')with h|⟨bk',o',e,h⟩
  ·rw[List.eq_nil_of_length_eq_zero h]at hj;simp[aU]at hj
  ·cases e;exact h j u hj
section
variable {n:Nat} {E:Env} {M:List aV} {R:List (World→Prop)} {v:Value} {x y:Operand} {t:TypeId}
theorem HE.AR {Mf:Value→List aV} {ti te:TI} {B T m c:Nat} {D:Nat→Prop} {po:Option Addr} {xs:List Value} (ys:List Int) (hx:ev E x=some v) (hy:ev E y=some (.slice po ys.length c)) (hM:∀v',Up (.own B T 1 v m xs) (.own B T 1 v' (m+ys.length) (xs++aU ys)) M (Mf v'))
  (hI:∀w,Ok M R w→af D w (.slice po ys.length c) ys)
  (ht:G.ty t=some ti) (he:ti.elem=some T) (hte:G.ty T=some te) (hs:te.size=1) (hzs:Nat.beq te.zero.cells.size te.size=true) (hsz:Nat.blt 0 te.size=true) (hby:(m+ys.length)*te.bytes≤140737488355328) (hml:m+ys.length≤9223372036854775807) (hB:∀w,Ok M R w→B≤w.heap.size):
  HE n (.call ⟨.builtin .append,#[x,y],#[t,t]⟩) E M R (fun v':Value=>∃p c,v'=.slice p (m+ys.length) c) (fun v'=>v') Mf (fun _=>R):=
 ⟨fun w hw=>((HE.kF (aU ys) hx hy hM (yE hw hI) (by simp[aU]) ht he hte hs hzs hsz (xM ys) hby hml hB).h w hw).mono fun v' w' ⟨x,_,e,h⟩=>by
  subst e
  refine⟨v',?_,rfl,h⟩
  obtain⟨p,c,e,_⟩:=av (show w'.ownsRow B T 1 v' _ _ from(h.m _ (hM v').Dz).1)
  exact⟨p,c,e⟩⟩
end
structure qe (m:ae):Prop where
 ty:zG 1048576 m
 loc:∀j,j<m.funcs.length→(ix m.funcs j).locals.length≤400
 len:∀j,j<m.funcs.length→(ix m.funcs j).body.length≤400
 iA:∀j,j<m.funcs.length→∀k,k<(ix m.funcs j).body.length→(ix (ix m.funcs j).body k).labels.length≤1048576
def sa (m:ae) (i:Int):Option (List Int):=(kB m i).map (kL m i)
theorem oB {m:ae} {j:Nat} (h:j<m.funcs.length):kB m (j:Int)=eK m.types (ix m.funcs j).cP:=by unfold kB;rw[lR h]
theorem uh {m:ae} {i:Int} (h:¬(0≤i∧i<m.funcs.length)):kB m i=none:=by unfold kB;rw[jR h]
theorem pW {m:ae} {i:Int} {f:aE} (h:kB m i=some f):f∈m.types∧∃j:Nat,i=j∧j<m.funcs.length:=by
 by_cases hin:0≤i∧i<m.funcs.length
 ·obtain⟨j,rfl⟩:=Int.eq_ofNat_of_zero_le hin.1
  have hj:j<m.funcs.length:=by omega
  rw[oB hj]at h
  exact⟨kZ h,j,rfl,hj⟩
 ·rw[uh hin]at h;cases h
set_option maxHeartbeats 4000000 in
theorem oH (F:Nat→Prop) (B:Nat) (m:ae) (cs:List Value) (sv:Value) (i:Int) (w:World) (hm:aH F w cs m) (hs:aR B m w sv):Calls G.P 31 #[.agg cs.toArray,sv,.int .i64 i] w (kD (kB m i) (fun _=>False) w):=by
 have hs0:=hs
 obtain⟨bS,sp,im,dm,vs,tc,ig,dg,rfl,-,hs⟩:=hs
 obtain⟨v0,v1,v2,v3,v4,v5,v6,v7,v8,v9,rfl,r0,r1,r2,r3,r4,r5,r6,r7,r8,r9,g0⟩:=hm;obtain⟨p0,c0,rfl,l0⟩:=r0.slice;obtain⟨p1,c1,rfl,l1⟩:=r1.slice;obtain⟨p2,c2,rfl,l2⟩:=r2.slice;obtain⟨p3,c3,rfl,l3⟩:=r3.slice;obtain⟨p4,c4,rfl,l4⟩:=r4.slice;obtain⟨p5,c5,rfl,l5⟩:=r5.slice;obtain⟨p6,c6,rfl,l6⟩:=r6.slice;obtain⟨p7,c7,rfl,l7⟩:=r7.slice;obtain⟨p8,c8,rfl,l8⟩:=r8.slice;obtain⟨p9,c9,rfl,l9⟩:=r9.slice
 by_cases hin:0≤i∧i<m.funcs.length
 ·obtain⟨j,rfl⟩:=Int.eq_ofNat_of_zero_le hin.1
  have hj:j<m.funcs.length:=by omega
  obtain⟨b,o,rfl,hF9,cs5,⟨u0,u1,rfl,q0,q1,q2⟩,hc⟩:=r2.el hj;obtain⟨x0,y0,rfl,z0⟩:=q0.slice;obtain⟨x1,y1,rfl,z1⟩:=q1.slice
  rw[oB hj]
  have hty:=fun w' hw'=>gB B m (.pointer (some ⟨bS,0,none⟩)) (ix m.funcs j).cP w' hw'
  generalize eK m.types (ix m.funcs j).cP=r at hty ⊢
  refine aj (l:=[_,_,_]) Tryz.func31 rfl Tryz.ntmps31 rfl (Ok.start w) ?_
  refine aQ.kq (Cs b (o+j*3) _) (jT hc rfl ao) ?_
  repeat'(first|refine ax ?_|(refine bz fun b_=>?_)|(refine aX fun b_=>?_)|(refine q8 fun b_=>?_)|refine GF ?_|(refine aa.an ?_;refine aa.yg Hd (Yl.lu Tryz.underlying39 rfl rfl) rfl ?_)|(refine aa.ak (f:=46) ?_;refine aa.he (HE.mf ao rfl rfl (fun w' hw'=>hty w' (hs0.aD (show Ext w w' from hw'.at) (fun _ _ h=>h)))) rfl ?_;rintro⟨D_,p_,c_,q_,d_⟩ hD_;dsimp only)|(refine aO ?_ ?_<;>intro hc_))
  all_goals first|omega|exact ai.bn (.inl rfl) rfl rfl rfl rfl rfl bJ rfl rfl fun w' hw'=>fj.nj (f0:=r.getD gG) (tf:=fun x:Value×Value=>.tuple #[.agg #[x.1,x.2],.bool r.isSome]) ⟨D_,p_,c_,q_,d_⟩ hw' ao ao hD_
 ·rw[uh hin]
  refine aj (l:=[_,_,_]) Tryz.func31 rfl Tryz.ntmps31 rfl (Ok.start w) ?_
  repeat'(first|refine ax ?_|(refine bz fun b_=>?_)|(refine aX fun b_=>?_)|(refine q8 fun b_=>?_)|refine GF ?_|(refine aa.an ?_;refine aa.yg Hd (Yl.lu Tryz.underlying39 rfl rfl) rfl ?_)|(refine aO ?_ ?_<;>intro hc_))
  all_goals first|omega|exact ai.bn (.inl rfl) rfl rfl rfl rfl rfl bJ rfl rfl fun w' hw'=>fj.Ed (tf:=fun x:Value×Value=>.tuple #[.agg #[x.1,x.2],.bool false]) hw' ao
def mu (r:Option (List Int)) (w:World):Ending→World→Prop:=fV w (fun u:Value=>.tuple #[u,.bool r.isSome]) (fun u=>[.own 0 fl 1 u (r.getD []).length (aU (r.getD []))])
set_option maxHeartbeats 4000000 in
theorem nz (F:Nat→Prop) (B:Nat) (m:ae) (cs:List Value) (sv:Value) (i:Int) (w:World) (hm:aH F w cs m) (hs:aR B m w sv) (hB:qe m):Calls G.P 14 #[.agg cs.toArray,sv,.int .i64 i] w (mu (sa m i) w):=by
 have hm0:=hm
 obtain⟨v0,v1,v2,v3,v4,v5,v6,v7,v8,v9,rfl,r0,r1,r2,r3,r4,r5,r6,r7,r8,r9,g0⟩:=hm;obtain⟨p0,c0,rfl,l0⟩:=r0.slice;obtain⟨p1,c1,rfl,l1⟩:=r1.slice;obtain⟨p2,c2,rfl,l2⟩:=r2.slice;obtain⟨p3,c3,rfl,l3⟩:=r3.slice;obtain⟨p4,c4,rfl,l4⟩:=r4.slice;obtain⟨p5,c5,rfl,l5⟩:=r5.slice;obtain⟨p6,c6,rfl,l6⟩:=r6.slice;obtain⟨p7,c7,rfl,l7⟩:=r7.slice;obtain⟨p8,c8,rfl,l8⟩:=r8.slice;obtain⟨p9,c9,rfl,l9⟩:=r9.slice
 cases ht:kB m i with
 |none=>
  rw[show sa m i=none from by unfold sa;rw[ht];rfl]
  unfold mu fV
  dsimp only[Option.getD,Option.isSome]
  refine aj (l:=[_,_,_]) Tryz.func14 rfl Tryz.ntmps14 rfl (Ok.start w) ?_
  repeat'(first|refine ax ?_|(refine bz fun b_=>?_)|(refine aX fun b_=>?_)|(refine q8 fun b_=>?_)|(refine aa.ak (f:=31) ?_;refine aa.he (HE.mf (r:=none) ao rfl rfl (fun w' hw'=>by have:=oH F B m ([Value.slice p0 m.types.length c0,Value.slice p1 m.imports.length c1,Value.slice p2 m.funcs.length c2,Value.slice p3 m.tables.length c3,Value.slice p4 m.bO.length c4,Value.slice p5 m.globals.length c5,Value.slice p6 m.aB.length c6,Value.bool m.aF,Value.int .i64 m.start,Value.slice p7 m.elems.length c7,Value.slice p8 m.aS.length c8,Value.slice p9 m.br.length c9]:List Value) sv i w' (hm0.aD (show Ext w w' from hw'.at) (fun _ _ _ h=>h)) (hs.aD (show Ext w w' from hw'.at) (fun _ _ h=>h));rw[ht]at this;exact this)) rfl ?_;rintro⟨D_,p_,c_,q_,d_⟩ hD_;dsimp only)|fail)
  all_goals exact ai.iD rfl rfl rfl fun w' hw'=>aq.uy (x:=Value.slice none 0 0) trivial (hw'.iC 0 fl 1) (oA rfl rfl rfl (List.nil_sublist _)) ao
 |some f=>
  rw[show sa m i=some (kL m i f)from by unfold sa;rw[ht];rfl]
  unfold mu fV
  dsimp only[Option.getD,Option.isSome]
  obtain⟨hf,j,rfl,hj⟩:=pW ht
  have hfl:=(hB.ty f hf).1
  have hll:=hB.loc j hj
  obtain⟨b,o,rfl,hF9,cs5,⟨u0,u1,rfl,q0,q1,q2⟩,hc⟩:=r2.el hj;obtain⟨x0,y0,rfl,z0⟩:=q0.slice;obtain⟨x1,y1,rfl,z1⟩:=q1.slice
  refine aj (l:=[_,_,_]) Tryz.func14 rfl Tryz.ntmps14 rfl (Ok.start w) ?_
  refine aQ.kq (Cs b (o+j*3) _) (jT hc rfl ao) ?_
  repeat'(first|refine ax ?_|(refine bz fun b_=>?_)|(refine aX fun b_=>?_)|(refine q8 fun b_=>?_)|(refine aa.ak (f:=31) ?_;refine aa.he (HE.mf (r:=some f) ao rfl rfl (fun w' hw'=>by have:=oH F B m ([Value.slice p0 m.types.length c0,Value.slice p1 m.imports.length c1,Value.slice (some ⟨b,o,none⟩) m.funcs.length c2,Value.slice p3 m.tables.length c3,Value.slice p4 m.bO.length c4,Value.slice p5 m.globals.length c5,Value.slice p6 m.aB.length c6,Value.bool m.aF,Value.int .i64 m.start,Value.slice p7 m.elems.length c7,Value.slice p8 m.aS.length c8,Value.slice p9 m.br.length c9]:List Value) sv j w' (hm0.aD (show Ext w w' from hw'.at) (fun _ _ _ h=>h)) (hs.aD (show Ext w w' from hw'.at) (fun _ _ h=>h));rw[ht]at this;exact this)) rfl ?_;rintro⟨D_,p_,c_,q_,d_⟩ hD_;dsimp only)|fail)
  refine aa.iC 0 fl 1 ?_
  refine aa.he (HE.AR f.params rfl rfl (fun _=>bJ) (fun w' hw'=>(hw'.get (p:=uw ((some f).getD gG) ⟨D_,p_,c_,q_,d_⟩) ao).1) rfl rfl rfl Hd Hd Hd (by show(0+f.params.length)*8≤_;omega) Hb (fun _ _=>Nat.zero_le _)) rfl ?_
  simp only[Nat.zero_add,List.nil_append]
  rintro _ ⟨p5,c5,rfl⟩
  repeat'(first|refine ax ?_|fail)
  refine aa.he (HE.AR (ix m.funcs j).locals rfl rfl (fun _=>bJ) (fun w' hw'=>q0.aD (show Ext w w' from hw'.at) (fun _ _ _ h=>h)) rfl rfl rfl Hd Hd Hd (by show(f.params.length+(ix m.funcs j).locals.length)*8≤_;omega) Hb (fun _ _=>Nat.zero_le _)) rfl ?_
  rintro _ ⟨p6,c6,rfl⟩
  repeat'(first|refine ax ?_|fail)
  exact ai.iD rfl rfl rfl fun w' hw'=>aq.uy (x:=Value.slice p6 (f.params.length+(ix m.funcs j).locals.length) c6) trivial hw' (oA rfl (by simp[kL]) (by simp[kL,aU]) (List.nil_sublist _)) ao
theorem Ok.EZ {M:List aV} {S:Nat→Prop} {w w':World} (h:Ok M [] w) (hc:bA S w w') (hd:∀k,k<w.heap.size→Mb M k→¬S k):Ok M [] w':=
 ⟨fun q hq=>⟨q.st (h.m q hq).1 hc (fun k hk hF=>hd k hk ⟨q,hq,hF⟩),fun k hk=>Nat.lt_of_lt_of_le ((h.m q hq).2 k hk) hc.size⟩,h.d,fun p hp=>by cases hp⟩
def aV.pack (L:List aV):aV:=⟨Mb L,fun w=>Ok L [] w,fun h hc hd=>h.EZ hc hd⟩
section
variable {L M M':List aV} {R R':List (World→Prop)} {w:World}
theorem Ok.pack (h:Ok (L++M) R w):Ok (aV.pack L::M) R w:=by
 have hd:=List.pairwise_append.1 h.d
 refine h.step (bA.refl _ w) (fun q hq=>?_) (List.pairwise_cons.2 ⟨fun x hx k hk=>?_,hd.2.1⟩) (fun k hk _=>?_)
 ·rcases List.mem_cons.1 hq with rfl|hq
  ·exact⟨h.sub (List.sublist_append_left _ _) (fun p hp=>by cases hp),fun k ⟨q,hq,hk⟩=>(h.m q (List.mem_append.2 (.inl hq))).2 k hk⟩
  ·exact h.m q (List.mem_append.2 (.inr hq))
 ·obtain⟨q,hq,hk⟩:=hk
  exact hd.2.2 q hq x hx k hk
 ·obtain⟨q,hq,hk⟩:=hk
  rcases List.mem_cons.1 hq with rfl|hq
  ·obtain⟨q,hq,hk⟩:=hk
   exact⟨q,List.mem_append.2 (.inl hq),hk⟩
  ·exact⟨q,List.mem_append.2 (.inr hq),hk⟩
theorem Ok.unpack (h:Ok (aV.pack L::M) R w):Ok (L++M) R w:=by
 have hp:Ok L [] w:=(h.m (aV.pack L) Hc).1
 have hd:=List.pairwise_cons.1 h.d
 refine h.step (bA.refl _ w) (fun q hq=>?_) (List.pairwise_append.2 ⟨hp.d,hd.2,fun a ha b hb k h1 h2=>hd.1 b hb k ⟨a,ha,h1⟩ h2⟩) (fun k hk _=>?_)
 ·rcases List.mem_append.1 hq with hq|hq
  ·exact hp.m q hq
  ·exact h.m q (by simp[hq])
 ·obtain⟨q,hq,hk⟩:=hk
  rcases List.mem_append.1 hq with hq|hq
  ·exact⟨aV.pack L,by simp,q,hq,hk⟩
  ·exact⟨q,by simp[hq],hk⟩
variable {ops:Array Oper} {Q:Exit→Act→World→Prop} {n:Nat} {l:List Oper} {E:Env}
theorem aa.map (hp:∀w,Ok M R w→Ok M' R' w) (h:aa ops Q n l E M' R'):aa ops Q n l E M R:=⟨fun w hw=>h.h w (hp w hw)⟩
theorem aQ.map {c:Code} (hp:∀w,Ok M R w→Ok M' R' w) (h:aQ Q n c E M' R'):aQ Q n c E M R:=⟨fun w hw=>h.h w (hp w hw)⟩
end
def m5 (m:ae) (i:Int):Int×Int:=match kB m i with
 |none=>(0,11)
 |some f=>if(du (ix m.funcs i.toNat).body).2≠0 then du (ix m.funcs i.toNat).body else qS m (kL m i f) (ix m.funcs i.toNat).body (ix m.funcs i.toNat).body.length 0 (iB f.results)
def zR (m:ae) (i:Int):List (Bool×List Int):=match kB m i with
 |none=>[]
 |some f=>xU m (kL m i f) (ix m.funcs i.toNat).body (ix m.funcs i.toNat).body.length 0 (iB f.results)
theorem yf {M:List aV} {R:List (World→Prop)} {w0 w:World} {B:Nat} {m:ae} {sv lv tv bv:Value} {locals:List Int} {x:bP} (h:Ok M R w) (hR:Ext w0∈R) (h0:dQ w0) (hs:aR B m w0 sv) (hl:(fun w=>af (fun _=>True) w lv locals)∈R) (ht:af (fun _=>True) w0 tv x.types) (hb:af (fun _=>True) w0 bv x.labels):Ok M (mj B (fun _=>True) m sv locals lv x tv bv) w:=by
 refine⟨h.m,h.d,fun p hp w2 h2=>?_⟩
 have hx:Ext w0 w2:=h.r _ hR w2 h2
 simp only[mj,List.mem_cons,List.not_mem_nil,or_false]at hp
 rcases hp with rfl|rfl|rfl|rfl|rfl
 ·exact h0.ext hx
 ·exact hs.aD hx (fun _ _ h=>h)
 ·exact h.r _ hl w2 h2
 ·exact ht.aD hx (fun _ _ _ h=>h)
 ·exact hb.aD hx (fun _ _ _ h=>h)
def xY {σ:Type} (A:σ→aV) (L:σ→List (Bool×List Int)) (g:Nat) (cap:List Value):Prop:=
 ∀(s:σ) (cp:Nat) (c:dq) (v:fU) (w:World),Ok (aw cp c v++[A s]) [] w→v.Good c→c.Wf→c.broken=0→c.aG.ts.length≤256→(L s).length≤400→Calls G.P g (([.pointer (some ⟨cp,0,none⟩)]:List Value)++cap).toArray w (aq (aw cp c v++[A s]) w (fun _:σ=>.tuple #[]) (fun s'=>L s'=L s++[(c.live,c.aG.ts)]) (fun s'=>aw cp c v++[A s']))
theorem yC {m:ae} {locals:List Int} {xs:List bP} {k:Nat} {c cC:dq} {e:Int} (hk:k<xs.length) (h:dj c m locals (ix xs k)=(cC,e)):qS m locals xs (xs.length - k) k c=if e≠0 then((k:Int),e)else if cB cC.aG then((k:Int),6)else qS m locals xs (xs.length - (k+1)) (k+1) cC:=by
 obtain⟨n,hn⟩:∃n,xs.length - k=n+1:=⟨xs.length - k - 1,by omega⟩
 rw[hn,qS,h,show xs.length - (k+1)=n by omega]
theorem zu {m:ae} {locals:List Int} {xs:List bP} {k:Nat} {c cC:dq} {e:Int} (hk:k<xs.length) (h:dj c m locals (ix xs k)=(cC,e)):xU m locals xs (xs.length - k) k c=(c.live,c.aG.ts)::xU m locals xs (xs.length - (k+1)) (k+1) cC:=by
 obtain⟨n,hn⟩:∃n,xs.length - k=n+1:=⟨xs.length - k - 1,by omega⟩
 rw[hn,xU,h,show xs.length - (k+1)=n by omega]
theorem m7.AN {K k:Nat} {results:List Int} {c cC:dq} {e:Int} (h:m7 K results k c) {m:ae} {locals:List Int} {x:bP} (hT:zG K m) (hK:100≤K) (hr:dj c m locals x=(cC,e)) (he:e=0):cC.Wf:=by
 have:=(mD h.w8 (m:=m) (locals:=locals) (x:=x) Hb (fun f hf=>kH Hb hT hf) (by
  obtain⟨r,hr⟩:∃r,dY m locals x=r:=⟨_,rfl⟩
  obtain⟨f,e⟩:=r
  rw[hr];exact mh hK hT hr) (by rw[hr];exact he)).1.wf
 rw[hr]at this;exact this
theorem lj {m:ae} {locals:List Int} {xs:List bP}:∀(n k:Nat) (c:dq),(xU m locals xs n k c).length=n
 |0,_,_=>rfl
 |n+1,k,c=>by rw[xU,List.length_cons,lj n]
set_option maxHeartbeats 16000000 in
theorem qF {σ:Type} (A:σ→aV) (L:σ→List (Bool×List Int)) (B:Nat) (m:ae) (cs:List Value) (sv:Value) (i:Int) (g:Nat) (cap:List Value) (s0:σ) (w0 w:World) (hm:aH (fun _=>True) w0 cs m) (hs:aR B m w0 sv) (h0:dQ w0) (hB:qe m) (hg:G.fb[g]?=some true) (hE:xY A L g cap) (hs00:L s0=[]) (hw:Ok [A s0] [Ext w0] w):
  Calls G.P 21 #[.agg cs.toArray,sv,.int .i64 i,.func (.func g) #[] cap.toArray] w (aq [A s0] w (fun _:σ=>.tuple #[.int .i64 (m5 m i).1,.int .i64 (m5 m i).2]) (fun s=>(m5 m i).2=0→L s=L s0++zR m i) (fun s=>[A s])):=by
 have hm0:=hm
 have hs0:=hs
 have hloc:∀r,kB m i=r→sa m i=r.map (kL m i):=fun r h=>by unfold sa;rw[h]
 obtain⟨bS,sp,im,dm,vs,tc,ig,dg,rfl,-,hs⟩:=hs
 obtain⟨v0,v1,v2,v3,v4,v5,v6,v7,v8,v9,rfl,r0,r1,r2,r3,r4,r5,r6,r7,r8,r9,g0⟩:=hm;obtain⟨p0,c0,rfl,l0⟩:=r0.slice;obtain⟨p1,c1,rfl,l1⟩:=r1.slice;obtain⟨p2,c2,rfl,l2⟩:=r2.slice;obtain⟨p3,c3,rfl,l3⟩:=r3.slice;obtain⟨p4,c4,rfl,l4⟩:=r4.slice;obtain⟨p5,c5,rfl,l5⟩:=r5.slice;obtain⟨p6,c6,rfl,l6⟩:=r6.slice;obtain⟨p7,c7,rfl,l7⟩:=r7.slice;obtain⟨p8,c8,rfl,l8⟩:=r8.slice;obtain⟨p9,c9,rfl,l9⟩:=r9.slice
 cases ht:kB m i with
 |none=>
  have eC:m5 m i=(0,11):=by unfold m5;rw[ht]
  rw[eC]
  refine aj (l:=[_,_,_,_]) Tryz.func21 rfl Tryz.ntmps21 rfl (Ok.bW hw) ?_
  repeat'(first|refine ax ?_|(refine bz fun b_=>?_)|refine GF ?_|fail)
  refine aa.he (HE.aW (M0:=[]) lD.nil rfl rfl (fun w' hw'=>by have:=nz (fun _=>True) B m ([Value.slice p0 m.types.length c0,Value.slice p1 m.imports.length c1,Value.slice p2 m.funcs.length c2,Value.slice p3 m.tables.length c3,Value.slice p4 m.bO.length c4,Value.slice p5 m.globals.length c5,Value.slice p6 m.aB.length c6,Value.bool m.aF,Value.int .i64 m.start,Value.slice p7 m.elems.length c7,Value.slice p8 m.aS.length c8,Value.slice p9 m.br.length c9]:List Value) _ i w' (hm0.aD (show Ext w0 w' from hw'.at) (fun _ _ _ h=>h)) (hs0.aD (show Ext w0 w' from hw'.at) (fun _ _ h=>h)) hB;unfold sa mu fV at this;rw[ht]at this;exact this)) rfl ?_
  rintro u _
  dsimp only[List.cons_append,List.nil_append,Option.map,Option.getD,Option.isSome]
  repeat'(first|refine ax ?_|fail)
  exact ai.iD rfl rfl rfl fun w' hw'=>aq.Cj (x:=s0) (fun h=>absurd h Ha) hw' bN ao
 |some f=>
  obtain⟨hf,j,rfl,hj⟩:=pW ht
  have hfl:=hB.ty f hf
  have hll:=hB.loc j hj
  have hlen:=hB.len j hj
  have hlab:=hB.iA j hj
  have eC:m5 m j=if(du (ix m.funcs j).body).2≠0 then du (ix m.funcs j).body else qS m (kL m j f) (ix m.funcs j).body (ix m.funcs j).body.length 0 (iB f.results):=by unfold m5;rw[ht];rfl
  have eS:zR m j=xU m (kL m j f) (ix m.funcs j).body (ix m.funcs j).body.length 0 (iB f.results):=by unfold zR;rw[ht];rfl
  have hlocl:(kL m j f).length≤1048976:=by
   have:(kL m j f).length=f.params.length+(ix m.funcs j).locals.length:=by simp[kL]
   omega
  rw[eS]
  obtain⟨b,o,rfl,hF9,cs5,⟨u0,u1,rfl,q0,q1,q2⟩,hc⟩:=r2.el hj;obtain⟨x0,y0,rfl,z0⟩:=q0.slice;obtain⟨x1,y1,rfl,z1⟩:=q1.slice
  obtain⟨xs,hxs⟩:∃xs,(ix m.funcs j).body=xs:=⟨_,rfl⟩
  rw[hxs]at eC q1 hlen hlab hc ⊢
  refine aj (l:=[_,_,_,_]) Tryz.func21 rfl Tryz.ntmps21 rfl (Ok.bW hw) ?_
  refine aQ.kq (Cs b (o+j*3) _) (jT hc rfl ao) ?_
  repeat'(first|refine ax ?_|(refine bz fun b_=>?_)|refine GF ?_|fail)
  refine aa.he (HE.aW (M0:=[]) lD.nil rfl rfl (fun w' hw'=>by have:=nz (fun _=>True) B m ([Value.slice p0 m.types.length c0,Value.slice p1 m.imports.length c1,Value.slice (some ⟨b,o,none⟩) m.funcs.length c2,Value.slice p3 m.tables.length c3,Value.slice p4 m.bO.length c4,Value.slice p5 m.globals.length c5,Value.slice p6 m.aB.length c6,Value.bool m.aF,Value.int .i64 m.start,Value.slice p7 m.elems.length c7,Value.slice p8 m.aS.length c8,Value.slice p9 m.br.length c9]:List Value) _ j w' (hm0.aD (show Ext w0 w' from hw'.at) (fun _ _ _ h=>h)) (hs0.aD (show Ext w0 w' from hw'.at) (fun _ _ h=>h)) hB;unfold sa mu fV at this;rw[ht]at this;exact this)) rfl ?_
  rintro u _
  dsimp only[List.cons_append,List.nil_append,Option.map,Option.getD,Option.isSome]
  generalize kL m j f=locals at*
  refine aa.pure (φ:=∃p c,u=.slice p locals.length c) (fun w' hw'=>?_) ?_
  ·obtain⟨p,c,e,_⟩:=av (hw'.own (v:=u));exact⟨p,c,e⟩
  rintro⟨lp,lc,rfl⟩
  refine aa.freeze (p:=fun w=>af (fun _=>True) w (.slice lp locals.length lc) locals) Rm.head (fun w' h _=>(dI (h:w'.ownsRow 0 fl 1 _ _ _) Hb).mono (fun _ _ _=>trivial)) ?_
  by_cases hck:(du xs).2=0
  case neg=>
   rw[if_pos hck]at eC
   rw[eC]
   repeat'(first|refine ax ?_|refine Gq ?_|fail)
   all_goals exact ai.iD rfl rfl rfl fun w' hw'=>aq.Cj (x:=s0) (fun h=>absurd h hck) hw' bN ao
  rw[if_neg (by rw[hck];decide)]at eC
  rw[eC]
  repeat'(first|refine ax ?_|refine Gq ?_|(refine aa.ak (f:=31) ?_;refine aa.he (HE.Ee (w0:=w0) (F:=fun _=>False) (r:=some f) ao (fun _ h=>h.elim) rfl rfl (fun w' hw'=>by have:=oH (fun _=>True) B m ([Value.slice p0 m.types.length c0,Value.slice p1 m.imports.length c1,Value.slice (some ⟨b,o,none⟩) m.funcs.length c2,Value.slice p3 m.tables.length c3,Value.slice p4 m.bO.length c4,Value.slice p5 m.globals.length c5,Value.slice p6 m.aB.length c6,Value.bool m.aF,Value.int .i64 m.start,Value.slice p7 m.elems.length c7,Value.slice p8 m.aS.length c8,Value.slice p9 m.br.length c9]:List Value) _ j w' (hm0.aD (show Ext w0 w' from hw'.at) (fun _ _ _ h=>h)) (hs0.aD (show Ext w0 w' from hw'.at) (fun _ _ h=>h));rw[ht]at this;exact this)) rfl ?_;rintro⟨D_,p_,c_,q_,d_⟩ hD_;dsimp only)|(refine aX fun b_=>?_)|(refine q8 fun b_=>?_)|fail)
  refine aa.he (HE.aW (M0:=[]) lD.nil rfl rfl (fun w' hw'=>yw D_ f.results (.slice q_ f.results.length d_) w' (hw'.get (p:=uw ((some f).getD gG) ⟨D_,p_,c_,q_,d_⟩) ao).2)) rfl ?_
  rintro⟨cp,sp,tv,pv,bv,rv,fv,DC,LC⟩ hg0
  dsimp only[aw,ay,List.cons_append,List.nil_append]at hg0 ⊢
  repeat'(first|refine ax ?_|fail)
  refine aQ.A5 (σ:=Nat×dq×fU×σ) (fun q=>[(1,.pointer (some ⟨bS,0,none⟩)),(3,.func (.func g) #[] cap.toArray),(10,.slice lp locals.length lc),(12,.slice x1 xs.length y1),(17,.pointer (some ⟨cp,0,none⟩)),(57,.int .i64 xs.length),(58,.int .i64 q.1)]) (fun q=>aw cp q.2.1 q.2.2.1++[A q.2.2.2]) (fun _=>[fun w=>af (fun _=>True) w (.slice lp locals.length lc) locals,bA (Mb [A s0]) w,Ext w0]) (fun q=>q.1≤xs.length∧q.2.2.1.Good q.2.1∧m7 1048576 f.results q.1 q.2.1∧qS m locals xs (xs.length - q.1) q.1 q.2.1=qS m locals xs xs.length 0 (iB f.results)∧L q.2.2.2++xU m locals xs (xs.length - q.1) q.1 q.2.1=L s0++xU m locals xs xs.length 0 (iB f.results)) (fun q=>xs.length - q.1) (0,iB f.results,⟨sp,tv,pv,bv,rv,fv,DC,LC⟩,s0) bR ?_ aY ⟨Nat.zero_le _,hg0,m7.new f.results hfl.2,by rw[Nat.sub_zero],by rw[Nat.sub_zero]⟩ ?_
  ·dsimp only[aw,ay,List.cons_append,List.nil_append];exact cT
  rintro⟨k,c,⟨sp,tv,pv,bv,rv,fv,DC,LC⟩,s⟩ ⟨hk,hg1,hb,hgo,hL⟩
  dsimp only at hk hg1 hb hgo hL ⊢
  dsimp only[aw,ay,List.cons_append,List.nil_append]
  by_cases hlt:k<xs.length
  case neg=>
   obtain rfl:k=xs.length:=by omega
   rw[Nat.sub_self]at hgo hL
   rw[←hgo,show qS m locals xs 0 xs.length c=(0,0)from rfl]
   repeat'(first|refine ax ?_|fail)
   all_goals first|omega|exact ai.iD rfl rfl rfl fun w' hw'=>aq.Cj (x:=s) (fun _=>by rw[←hL];simp[xU]) hw' bN ao
  have hLl:(L s).length≤400:=by
   have:=congrArg List.length hL
   rw[hs00,List.nil_append,List.length_append,lj,lj]at this
   omega
  obtain⟨ib,io,rfl,-,hins⟩:=q1.at hlt
  obtain⟨pt,ct,pl,cl,hti,hli,hc9⟩:=(hins k hlt).cells
  have hll:=hlab k hlt
  obtain⟨rC,hrC⟩:∃r,dj c m locals (ix xs k)=r:=⟨_,rfl⟩
  obtain⟨cC,e⟩:=rC
  have hgs:=yC hlt hrC
  have hss:=zu hlt hrC
  rw[hss]at hL
  rw[hgo]at hgs
  have hB2:C9 c m locals (ix xs k):=hb.bounds hB.ty Ha Ha hfl.2 Hb hll
  have hnx:=fun(e0:e=0) (ho:cB cC.aG=false)=>hb.next (m:=m) (locals:=locals) (x:=ix xs k) hB.ty Ha (by rw[hrC];exact e0) (by rw[hrC];exact ho)
  rw[hrC]at hnx
  have hwf2:=hb.AN hB.ty Ha hrC
  have hbk:=hb.w8
  unfold wV at hc9
  generalize ix xs k=x at*
  have hac:=fun w' hw'=>vi B (fun _=>True) cp c ⟨sp,tv,pv,bv,rv,fv,DC,LC⟩ m locals (.pointer (some ⟨bS,0,none⟩)) x lp pt pl lc ct cl w' hw' hg1 hbk.wf hbk.bk (hB.ty.b Ha) hB2
  rw[hrC]at hac
  repeat'(first|refine ax ?_|fail)
  refine aa.he (HE.rL (B:=0) (M0:=aw cp c ⟨sp,tv,pv,bv,rv,fv,DC,LC⟩++[A s]) (Mr:=[]) (R':=[]) rfl hg rfl (by dsimp only[aw,ay,List.cons_append,List.nil_append];exact List.Perm.refl _) (fun p hp=>absurd hp Hc) (fun w' hw' _=>hE s cp c ⟨sp,tv,pv,bv,rv,fv,DC,LC⟩ w' hw' hg1 hbk.wf hbk.bk hbk.ts hLl) (fun _ _=>Nat.zero_le _)) rfl ?_
  rintro s' hs'
  dsimp only[aw,ay,List.cons_append,List.nil_append]at hs' ⊢
  repeat'(first|refine ax ?_|(refine aa.y_ (Yl.fY rfl rfl rfl ao Hd Hd hc9) rfl ?_)|fail)
  by_cases he:e=0
  case neg=>
   refine aa.he (HE.aW (M0:=aw cp c ⟨sp,tv,pv,bv,rv,fv,DC,LC⟩) cE rfl rfl (fun w' hw'=>(hac w' (yf (hw'.bV cT (fun _ h=>h)) ao h0 hs0 ao hti hli)).mono fun _ _ h=>h.bad (q:=e) rfl he)) rfl ?_
   rintro _ _
   dsimp only[List.nil_append]
   rw[hgs,if_pos he]
   repeat'(first|refine ax ?_|fail)
   exact ai.iD rfl rfl rfl fun w' hw'=>aq.Cj (x:=s') (fun h=>absurd h he) hw' bN ao
  subst he
  refine aa.he (HE.aW (M0:=aw cp c ⟨sp,tv,pv,bv,rv,fv,DC,LC⟩) cE rfl rfl (fun w' hw'=>(hac w' (yf (hw'.bV cT (fun _ h=>h)) ao h0 hs0 ao hti hli)).mono fun _ _ h=>h.wS rfl)) rfl ?_
  rintro⟨sp7,tv7,pv7,bv7,rv7,fv7,DC7,LC7⟩ hg7
  dsimp only[aw,ay,List.cons_append,List.nil_append]at hg7 ⊢
  rw[if_neg Ha]at hgs
  have hps:=(hwf2 rfl).aG.some
  obtain⟨ob,hob⟩:∃b,cB cC.aG=b:=⟨_,rfl⟩
  have hov:=fun w' hw'=>vq sp7 cC.aG (tv7,pv7) w' hw' hps
  rw[hob]at hgs hov
  repeat'(first|refine ax ?_|(refine aa.ak (f:=29) ?_;refine aa.az rfl rfl rfl (fun w' hw'=>cW cp ⟨sp7,0,none⟩ w' (hw'.c1 bJ Hd)) ?_)|fail)
  refine aa.az (v:=.bool ob) rfl rfl rfl (fun w' hw'=>hov w' (hw'.bV (M':=ay sp7 cC.aG (tv7,pv7)) (by dsimp only[ay];rw[hob];exact cT) (fun p hp=>absurd hp Hc))) ?_
  cases ob with
  |true=>
   rw[if_pos rfl]at hgs
   rw[hgs]
   repeat'(first|refine ax ?_|fail)
   exact ai.iD rfl rfl rfl fun w' hw'=>aq.Cj (x:=s') (fun h=>absurd h (show¬((6:Int)=0)by decide)) hw' bN ao
  |false=>
   rw[if_neg Ha]at hgs
   repeat'(first|refine ax ?_|fail)
   exact ai.A7 (k+1,cC,⟨sp7,tv7,pv7,bv7,rv7,fv7,DC7,LC7⟩,s') bR GP aY ⟨by show k+1≤xs.length;omega,hg7,hnx rfl hob,hgs.symm,by dsimp only;rw[hs',List.append_assoc];exact hL⟩ (by show xs.length - (k+1)<xs.length - k;omega)
theorem uH:xY (fun _:List (Bool×List Int)=>aV.pack []) id 22 []:=by
 intro s cp c v w hw hg hwf hb hts _
 show Calls G.P 22 #[.pointer (some ⟨cp,0,none⟩)] w _
 refine aj (l:=[_]) Tryz.func22 rfl Tryz.ntmps22 rfl (Ok.bW hw) ?_
 repeat'(first|refine ax ?_|fail)
 all_goals refine ai.kJ rfl fun w' hw'=>?_
 exact aq.of (M0:=aw cp c v++[aV.pack []]) (w:=w) (tf:=fun _:List (Bool×List Int)=>Value.tuple #[]) (φ:=fun s'=>id s'=id s++[(c.live,c.aG.ts)]) (M1:=fun _=>aw cp c v++[aV.pack []]) (x:=s++[(c.live,c.aG.ts)]) rfl hw' rfl (List.Mem.head _)
def cK (D:Nat→Prop) (w:World) (x:List Value×List (Bool×List Int)):Prop:=x.1.length=x.2.length*2∧∀j,j<x.2.length→∃p c,x.1[j*2]?=some (.bool (ix x.2 j).1)∧x.1[j*2+1]?=some (.slice p (ix x.2 j).2.length c)∧af D w (.slice p (ix x.2 j).2.length c) (ix x.2 j).2
theorem cK.fr:Bi cK:=fun h hc hd=>⟨h.1,fun j hj=>by obtain⟨p,c,a,b,d⟩:=h.2 j hj;exact⟨p,c,a,b,d.aD hc hd⟩⟩
theorem cK.nil (D:Nat→Prop) (w:World):cK D w ([],[]):=⟨rfl,fun _j hj=>absurd hj (Nat.not_lt_zero _)⟩
theorem cK.mono {D H:Nat→Prop} {w:World} {x:List Value×List (Bool×List Int)} (h:cK D w x) (hd:∀k,D k→H k):cK H w x:=⟨h.1,fun j hj=>by obtain⟨p,c,a,b,d⟩:=h.2 j hj;exact⟨p,c,a,b,d.mono fun k _ hk=>hd k hk⟩⟩
theorem cK.snoc {D H:Nat→Prop} {w:World} {tc:List Value} {l:List (Bool×List Int)} (h:cK D w (tc,l)) {b:Bool} {xs:List Int} {p:Option Addr} {c:Nat} (hi:af H w (.slice p xs.length c) xs):cK (fun k=>D k∨H k) w (tc++[Value.bool b,Value.slice p xs.length c],l++[(b,xs)]):=by
 obtain⟨h1,h2⟩:=h
 dsimp only at h1 h2
 refine⟨by simp[h1];omega,fun i hi'=>?_⟩
 dsimp only at hi' ⊢
 by_cases hlt:i<l.length
 ·obtain⟨p',c',e1,e2,e3⟩:=h2 i hlt
  rw[jy hlt]
  exact⟨p',c',by rw[List.getElem?_append_left Hb];exact e1,by rw[List.getElem?_append_left Hb];exact e2,e3.mono fun _ _ hk=>.inl hk⟩
 ·have e:i=l.length:=by simp at hi';omega
  subst e
  rw[iz (Nat.le_refl _),Nat.sub_self]
  exact⟨p,c,by rw[List.getElem?_append_right Hb];simp[h1,ix],by rw[List.getElem?_append_right Hb];simp[h1,ix,show l.length*2+1 - l.length*2=1 by omega],hi.mono fun _ _ hk=>.inr hk⟩
def jh (T:Nat) (lv:Value) (tc:List Value) (D:Nat→Prop) (l:List (Bool×List Int)):List aV:=[.own 0 T 2 lv l.length tc,.iM cK cK.fr D (tc,l)]
structure DX where
 lv:Value
 tc:List Value
 D:Nat→Prop
 l:List (Bool×List Int)
abbrev my:Nat:=70
abbrev zO:Nat:=43
def Cl (bx:Nat) (s:DX):aV:=.pack (.aJ bx [s.lv] zO::jh my s.lv s.tc s.D s.l)
theorem Ok.steps {M M1 M2:List aV} {R:List (World→Prop)} {w:World} {B T m c:Nat} {cs tc:List Value} {D:Nat→Prop} {l:List (Bool×List Int)} {p:Option Addr} (b:Bool) (xs:List Int) (h:Ok M R w)
  (r1:Rm (.own B T 1 (.slice p xs.length c) m cs) M M1) (r2:Rm (.iM cK cK.fr D (tc,l)) M1 M2) (hm:m=xs.length) (hcs:cs=aU xs) (hl:xs.length≤17592186044416):Ok (.iM cK cK.fr (fun k=>D k∨(Value.slice p xs.length c).ownBlock=some k) (tc++[Value.bool b,Value.slice p xs.length c],l++[(b,xs)])::M2) R w:=by
 subst hm;subst hcs
 exact((h.front r1).front (Rm.tail r2)).merge (q:=.iM cK cK.fr (fun k=>D k∨(Value.slice p xs.length c).ownBlock=some k) (tc++[Value.bool b,Value.slice p xs.length c],l++[(b,xs)])) (fun _ hk=>hk) (fun h1 h2=>cK.snoc (b:=b) (p:=p) (c:=c) h1 (dI h2 hl))
set_option maxHeartbeats 16000000 in
theorem vx (bx:Nat):xY (Cl bx) (fun s=>s.l) 27 [.pointer (some ⟨bx,0,none⟩)]:=by
 rintro⟨lv,tc,D,l⟩ cp c ⟨sp,tv,pv,bv,rv,fv,DC,LC⟩ w hw hg hwf hb hts hll
 dsimp only at hll
 show Calls G.P 27 #[.pointer (some ⟨cp,0,none⟩),.pointer (some ⟨bx,0,none⟩)] w _
 refine aj (l:=[_,_]) Tryz.func27 rfl Tryz.ntmps27 rfl (Ok.bW hw) ?_
 dsimp only[aw,ay,List.cons_append,List.nil_append]
 refine aQ.front (q:=Cl bx ⟨lv,tc,D,l⟩) hU ?_
 refine aQ.map (fun w' h=>h.unpack) ?_
 dsimp only[jh,List.cons_append,List.nil_append]
 repeat'(first|refine ax ?_|(refine aO ?_ ?_<;>intro hc_))
 refine aQ.ox 9 [.aJ bx [lv] zO] [] bN aY ?_
 repeat'(first|refine C8 ?_|(refine cI.eU 28 ?_;refine cI.he rfl rfl (HE.kp (v:=.bool c.live) rfl rfl (fun w' hw'=>wL cp c ⟨sp,tv,pv,bv,rv,fv,DC,LC⟩ w' ((hw'.bV (M':=aw cp c ⟨sp,tv,pv,bv,rv,fv,DC,LC⟩) cT (fun _ h=>h)).vN (List.Sublist.refl _)) hb)) (fun _=>bN) (fun _=>aY) ?_;rintro⟨⟩ _)|(refine cI.eU 29 ?_;refine cI.he rfl rfl (HE.kp rfl rfl (fun w' hw'=>cW cp ⟨sp,0,none⟩ w' (hw'.c1 bJ Hd))) (fun _=>bN) (fun _=>aY) ?_;rintro⟨⟩ _)|(refine cI.eU 30 ?_;refine cI.he rfl rfl (HE.aW (M0:=[]) lD.nil rfl rfl (fun w' hw'=>xF sp c.aG (tv,pv) w' (hw'.bV cT (fun p hp=>absurd hp Hc)) hwf.aG.some Hb)) (fun _=>by dsimp only[List.cons_append,List.nil_append];exact bN) (fun _=>aY) ?_;rintro u _;dsimp only[List.cons_append,List.nil_append];refine dh.pure (φ:=∃p c',u=.slice p c.aG.ts.length c') (fun w' hw'=>?_) ?_;(·obtain⟨p,c',e,_⟩:=av (hw'.own (v:=u));exact⟨p,c',e⟩);rintro⟨pu,cu,rfl⟩)|(refine cI.wX ?_;refine cI.he rfl rfl (HE.ml rfl rfl rfl rfl rfl fT Hd Hd) (fun _=>bN) (fun _=>aY) ?_;rintro b3 _)|(refine cI.wW ?_;refine cI.he rfl rfl (HE.app rfl rfl (fun _=>bJ) bJ rfl rfl rfl Hd Hd Hd Hd Hd Hd Hb (fun _ _=>Nat.zero_le _)) (fun _=>bN) (fun _=>aY) ?_;rintro v2 _;refine dh.pure (φ:=v2.oneCell'=true) (fun w' hw'=>gb (hw'.own (v:=v2))) fun hone=>?_)|(refine cI.hG rfl (gj.er rfl rfl rfl rfl hone bJ mi) ?_;rintro⟨⟩ _)|refine dh.any G6 ?_|exact dU.fin rfl|refine dU.skip G6 ?_|refine dU.go ?_ ?_)
 all_goals refine ai.kJ rfl fun w' hw'=>?_
 have h1:=Ok.steps c.live c.aG.ts hw' hU hU rfl rfl Hb
 have h2:=h1.bV (M':=(.aJ bx [v2] zO::jh my v2 (tc++[.bool c.live,.slice pu c.aG.ts.length cu]) (fun k=>D k∨(Value.slice pu c.aG.ts.length cu).ownBlock=some k) (l++[(c.live,c.aG.ts)]))++aw cp c ⟨sp,tv,pv,bv,rv,fv,DC,LC⟩) (by dsimp only[jh,aw,ay,List.cons_append,List.nil_append];rw[show(l++[(c.live,c.aG.ts)]).length=l.length+1 from by simp];exact cT) (fun _ h=>h)
 have h3:=h2.pack
 exact aq.mM (x:=(⟨v2,tc++[.bool c.live,.slice pu c.aG.ts.length cu],fun k=>D k∨(Value.slice pu c.aG.ts.length cu).ownBlock=some k,l++[(c.live,c.aG.ts)]⟩:DX)) rfl rfl h3 (by dsimp only[aw,ay,Cl,List.cons_append,List.nil_append];exact cT) ao
theorem Ok.zw {M:List aV} {R:List (World→Prop)} {w:World} (T:Nat) (h:Ok M R w):Ok (jh T (.slice none 0 0) [] (fun _=>False) []++M) R w:=
 (h.push (q:=.iM cK cK.fr (fun _=>False) ([],[])) (bA.refl _ w) (cK.nil _ _) (fun _ hk=>hk.elim)).iC 0 T 2
theorem AL {M:List aV} {R:List (World→Prop)} {w:World} {bx:Nat} (h:Ok (.aJ bx [.slice none 0 0] zO::M) R w):Ok (Cl bx ⟨.slice none 0 0,[],fun _=>False,[]⟩::M) R w:=by
 refine Ok.pack (L:=.aJ bx [.slice none 0 0] zO::jh my (.slice none 0 0) [] (fun _=>False) []) ?_
 have h1:=h.zw my
 exact h1.front (q:=.aJ bx [.slice none 0 0] zO) (Rm.tail (Rm.tail Rm.head))
def gR (m:ae) (i:Int):Option (List (Bool×List Int)):=if(m5 m i).2=0 then some (zR m i)else none
def yc (T:Nat) (r:Option (List (Bool×List Int))) (w:World):Ending→World→Prop:=fV w (fun z:Value×List Value×(Nat→Prop)=>.tuple #[z.1,.bool r.isSome]) (fun z=>jh T z.1 z.2.1 z.2.2 (r.getD []))
theorem jS (m:ae) (cs:List Value) (B:Nat) (sv:Value) (i:Int) (w:World) (hm:aH (fun _=>True) w cs m) (hs:aR B m w sv) (h0:dQ w) (hB:qe m):Calls G.P 9 #[.agg cs.toArray,sv,.int .i64 i] w fun e w'=>e=.returned (.tuple #[.int .i64 (m5 m i).1,.int .i64 (m5 m i).2])∧Ext w w':=by
 have hm0:=hm
 obtain⟨v0,v1,v2,v3,v4,v5,v6,v7,v8,v9,rfl,r0,r1,r2,r3,r4,r5,r6,r7,r8,r9,g0⟩:=hm;obtain⟨p0,c0,rfl,l0⟩:=r0.slice;obtain⟨p1,c1,rfl,l1⟩:=r1.slice;obtain⟨p2,c2,rfl,l2⟩:=r2.slice;obtain⟨p3,c3,rfl,l3⟩:=r3.slice;obtain⟨p4,c4,rfl,l4⟩:=r4.slice;obtain⟨p5,c5,rfl,l5⟩:=r5.slice;obtain⟨p6,c6,rfl,l6⟩:=r6.slice;obtain⟨p7,c7,rfl,l7⟩:=r7.slice;obtain⟨p8,c8,rfl,l8⟩:=r8.slice;obtain⟨p9,c9,rfl,l9⟩:=r9.slice
 refine aj (l:=[_,_,_]) Tryz.func9 rfl Tryz.ntmps9 rfl (Ok.start w) ?_
 repeat'(first|refine ax ?_|(refine bz fun b_=>?_)|fail)
 refine aa.map (M':=[aV.pack []]) (R':=[Ext w]) (fun w' hw'=>Ok.pack (L:=[]) (hw'.bV cT aY)) ?_
 refine aa.he (HE.aW (M0:=[aV.pack []]) cE rfl rfl (fun w' hw'=>qF (fun _:List (Bool×List Int)=>aV.pack []) id B m ([Value.slice p0 m.types.length c0,Value.slice p1 m.imports.length c1,Value.slice p2 m.funcs.length c2,Value.slice p3 m.tables.length c3,Value.slice p4 m.bO.length c4,Value.slice p5 m.globals.length c5,Value.slice p6 m.aB.length c6,Value.bool m.aF,Value.int .i64 m.start,Value.slice p7 m.elems.length c7,Value.slice p8 m.aS.length c8,Value.slice p9 m.br.length c9]:List Value) sv i _ [] [] w w' hm0 hs h0 hB rfl uH rfl hw')) rfl ?_
 rintro s _
 repeat'(first|refine ax ?_|fail)
 exact ai.iD rfl rfl rfl fun w' hw'=>⟨rfl,hw'.at⟩
theorem lW (m:ae) (cs:List Value) (B:Nat) (sv:Value) (i:Int) (w:World) (hm:aH (fun _=>True) w cs m) (hs:aR B m w sv) (h0:dQ w) (hB:qe m):Calls G.P 12 #[.agg cs.toArray,sv,.int .i64 i] w (yc my (gR m i) w):=by
 have hm0:=hm
 obtain⟨v0,v1,v2,v3,v4,v5,v6,v7,v8,v9,rfl,r0,r1,r2,r3,r4,r5,r6,r7,r8,r9,g0⟩:=hm;obtain⟨p0,c0,rfl,l0⟩:=r0.slice;obtain⟨p1,c1,rfl,l1⟩:=r1.slice;obtain⟨p2,c2,rfl,l2⟩:=r2.slice;obtain⟨p3,c3,rfl,l3⟩:=r3.slice;obtain⟨p4,c4,rfl,l4⟩:=r4.slice;obtain⟨p5,c5,rfl,l5⟩:=r5.slice;obtain⟨p6,c6,rfl,l6⟩:=r6.slice;obtain⟨p7,c7,rfl,l7⟩:=r7.slice;obtain⟨p8,c8,rfl,l8⟩:=r8.slice;obtain⟨p9,c9,rfl,l9⟩:=r9.slice
 unfold yc fV gR
 refine aj (l:=[_,_,_]) Tryz.func12 rfl Tryz.ntmps12 rfl (Ok.start w) ?_
 repeat'(first|refine ax ?_|(refine bz fun b_=>?_)|(refine aa.hH (t:=zO) ?_;refine aa.alloc (t:=zO) [Value.slice none 0 0] rfl rfl rfl fun b_=>?_)|fail)
 refine aa.map (fun w' hw'=>AL (hw'.bV (M':=[.aJ b_ [.slice none 0 0] zO]) (R':=[Ext w]) cT aY)) ?_
 refine aa.he (HE.aW (M0:=[Cl b_ ⟨.slice none 0 0,[],fun _=>False,[]⟩]) cE rfl rfl (fun w' hw'=>by have:=qF (Cl b_) (fun s=>s.l) B m ([Value.slice p0 m.types.length c0,Value.slice p1 m.imports.length c1,Value.slice p2 m.funcs.length c2,Value.slice p3 m.tables.length c3,Value.slice p4 m.bO.length c4,Value.slice p5 m.globals.length c5,Value.slice p6 m.aB.length c6,Value.bool m.aF,Value.int .i64 m.start,Value.slice p7 m.elems.length c7,Value.slice p8 m.aS.length c8,Value.slice p9 m.br.length c9]:List Value) sv i _ [.pointer (some ⟨b_,0,none⟩)] ⟨.slice none 0 0,[],fun _=>False,[]⟩ w w' hm0 hs h0 hB rfl (vx b_) rfl hw';exact this)) rfl ?_
 rintro⟨lv,tc,D,l⟩ hl
 dsimp only[List.cons_append,List.nil_append]at hl ⊢
 by_cases he:(m5 m i).2=0
 ·have hl':=hl he
  subst hl'
  rw[if_pos he]
  refine aa.map (fun w' h=>h.unpack) ?_
  dsimp only[jh,List.cons_append,List.nil_append]
  repeat'(first|refine ax ?_|fail)
  all_goals exact ai.iD rfl rfl rfl fun w' hw'=>aq.uy (x:=(lv,tc,D)) trivial hw' (by dsimp only[jh,Option.getD];exact bN) ao
 ·rw[if_neg he]
  repeat'(first|refine ax ?_|fail)
  all_goals exact ai.iD rfl rfl rfl fun w' hw'=>aq.uy (x:=(Value.slice none 0 0,[],fun _=>False)) trivial (hw'.zw my) (List.sublist_append_left _ _) ao
end Go.Proofs.YtceedealggognaaGreatDoor
