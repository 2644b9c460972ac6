/- Layer 23: rule.Apply and ref23.Apply, each by one contract. -/
import Derived.Test.YtceedealggognaaGreatDoorJUu
import Derived.Test.YtceedealggognaaGreatDoorJUt
import Derived.Test.YtceedealggognaaGreatDoorJWe
import Derived.Test.YtceedealggognaaGreatDoorJP1
import Derived.Test.YtceedealggognaaGreatDoorJRy
import Derived.Test.YtceedealggognaaGreatDoorJLv
import Derived.Test.YtceedealggognaaGreatDoorJLm
import Derived.Test.YtceedealggognaaGreatDoorJWj
import Derived.Test.YtceedealggognaaGreatDoorJGc
import Derived.Test.YtceedealggognaaGreatDoorJRt
import Derived.Test.YtceedealggognaaGreatDoorJUq
import Derived.Test.YtceedealggognaaGreatDoorJOk
import Derived.Test.YtceedealggognaaGreatDoorJAr
import Derived.Test.YtceedealggognaaGreatDoorJIn
namespace Go.Proofs.YtceedealggognaaGreatDoor
open Go.RowKit
set_option maxRecDepth 100000
structure BY (c:dq) (m:ae) (locals:List Int) (x:bZ):Prop where
 fs:c.fs.length≤1000
 ts:c.aF.ts.length≤1000000000000
 res:c.results.length≤100000000000
 jd:∀n,(bR c n).1.length≤100000000000
 par:c.top.par.length≤100000000000
 rs:c.top.res.length≤100000000000
 ll:x.labels.length≤10000000
 aH:∀f,dy m x.kind x.val x.index=some f→(c.aF.ts.length+f.params.length)*8≤140737488355328
 DQ:(c.aF.ts.length+(eD m locals x).1.results.length)*8≤140737488355328
theorem uf (B:Nat) (F:Nat→Prop) (cp:Nat) (c:dq) (v:fJ) (m:ae) (locals:List Int) (sv:Value) (x:bZ) (lp pt pl:Option Addr) (lc ct cl:Nat) (w:World) (hw:Ok (aw cp c v) (lF B F m sv locals (.slice lp locals.length lc) x (.slice pt x.types.length ct) (.slice pl x.labels.length cl)) w) (hg:v.Good c) (hwf:c.Wf) (hb:c.broken=0) (hT:wS m) (hB:BY c m locals x):
  Calls G.P 35 #[.pointer (some ⟨cp,0,none⟩),sv,.slice lp locals.length lc,.agg #[Value.int .i64 x.op,Value.int .i64 x.a,Value.int .i64 x.b,Value.int .u64 x.n,Value.int .i64 x.kind,Value.int .i64 x.val,Value.int .i64 x.index,Value.slice pt x.types.length ct,Value.slice pl x.labels.length cl]] w (ar (aw cp c v) cp (dL c m locals x) w):=by
 have h1:=hB.fs
 have h2:=hB.ts
 have h3:=hB.par
 have h4:=hB.rs
 unfold dL
 cases hp:cW x with
 |false=>rw[if_pos rfl];exact pD B F cp c v m locals sv x lp pt pl lc ct cl w hw hp
 |true=>
  rw[if_neg FX]
  by_cases q1:opens x.op
  ·rw[if_pos q1];exact nu B F cp c v m locals sv x lp pt pl lc ct cl w hw hg hwf hb hp q1 h1 hB.aH
  rw[if_neg q1]
  by_cases q2:x.op=5
  ·rw[if_pos q2];exact nr B F cp c v m locals sv x lp pt pl lc ct cl w hw hg hwf hb hp q2 h1 FY
  rw[if_neg q2]
  by_cases q3:x.op=11
  ·rw[if_pos q3];exact oK B F cp c v m locals sv x lp pt pl lc ct cl w hw hg hwf hb hp q3 h1 FY
  rw[if_neg q3]
  by_cases q4:x.op=0
  ·rw[if_pos q4];exact oL B F cp c v m locals sv x lp pt pl lc ct cl w hw hg hwf hb hp q4
  rw[if_neg q4]
  by_cases q5:jumps x.op
  ·rw[if_pos q5];exact ns B F cp c v m locals sv x lp pt pl lc ct cl w hw hg hwf hb hp q5 hB.res hB.jd hB.ll h2
  rw[if_neg q5]
  by_cases q6:kr x.op
  ·rw[if_pos q6];exact nw B F cp c v m locals sv x lp pt pl lc ct cl w hw hg hwf hb hp q6 FY
  rw[if_neg q6]
  exact mM B F cp c v m locals sv x lp pt pl lc ct cl w hw hg hwf hp (xm q1 q2 q3 q4 q5 q6) hT (zO _ hB.DQ)
def zG (K:Nat) (m:ae):Prop:=∀f∈m.types,f.params.length≤K∧f.results.length≤K
theorem zG.b {K:Nat} {m:ae} (h:zG K m) (hK:K≤17592186043904):wS m:=fun f hf=>⟨Nat.le_trans (h f hf).1 hK,Nat.le_trans (h f hf).2 hK⟩
theorem kk {K:Nat} {m:ae} (h1:1≤K) (hT:zG K m) {k v i:Int} {f:aC} (h:dy m k v i=some f):f.params.length≤K∧f.results.length≤K:=by
 unfold dy at h
 split at h
 ·cases h;exact⟨Nat.zero_le _,Nat.zero_le _⟩
 ·split at h
  ·split at h
   ·cases h;exact⟨Nat.zero_le _,h1⟩
   ·cases h
  ·split at h
   ·exact hT _ (kC h)
   ·cases h
theorem lD {K:Nat} {m:ae} {locals:List Int} {x:bZ} {f:aC} {e:Int} (h1:100≤K) (hT:zG K m) (h:eD m locals x=(f,e)):f.results.length≤K:=by
 have hfun:∀g,jJ m x.a=some g→g∈m.types:=fun g hg=>by
  unfold jJ at hg
  cases ha:eE (jc m) x.a with
  |none=>rw[ha]at hg;cases hg
  |some t=>rw[ha]at hg;exact kC hg
 have hs:=zu x.op
 unfold eD db dc fM ek ep at h
 dsimp only at h
 repeat' split at h
 all_goals cases h
 all_goals first
  |(dsimp only[gw,List.length_cons,List.length_nil];omega)
  |(have:=hT _ (hfun _ FU);omega)
  |(have:=hT _ (kC FU);dsimp only;omega)
  |omega
theorem wc {K:Nat} (results:List Int) (h:results.length≤K):gy K 0 (iJ results):=by
 refine⟨zf _,rfl,by unfold cU.Fit;exact Nat.zero_le _,fun f hf=>?_,Nat.le_refl 0⟩
 have:f=⟨0,[],results,false,true⟩:=by simpa[iJ]using hf
 subst this
 exact⟨Nat.zero_le _,h⟩
def nz (m:ae) (i:Int):Option aC:=match eE m.funcs i with|none=>none|some c=>eE m.types c.eZ
def mG (m:ae) (i:Int) (f:aC):List Int:=f.params++(ix m.funcs i.toNat).locals
section
variable (m:ae) (locals:List Int) (xs:List bZ)
def yT:Nat→Nat→dq→Int×Int
 |0,_,_=>(0,0)
 |n+1,k,c=>if(dL c m locals (ix xs k)).2≠0 then(k,(dL c m locals (ix xs k)).2)else if cE (dL c m locals (ix xs k)).1.aF then(k,6)else yT n (k+1) (dL c m locals (ix xs k)).1
def yk:Nat→Nat→dq→List (Bool×List Int)
 |0,_,_=>[]
 |n+1,k,c=>(c.live,c.aF.ts)::yk n (k+1) (dL c m locals (ix xs k)).1
end
structure mr (K:Nat) (results:List Int) (k:Nat) (c:dq):Prop where
 wf:c.Wf
 bk:c.broken=0
 fit:c.aF.Fit
 fr:uC K c.fs
 ov:c.aF.lS≤256
 fs:c.fs.length≤k+1
 rs:c.results=results
theorem mr.new {K:Nat} (results:List Int) (h:results.length≤K):mr K results 0 (iJ results):=by
 have h1:=wc results h
 exact⟨h1.wf,h1.bk,h1.fit,h1.fr,Nat.zero_le _,Nat.le_refl 1,rfl⟩
theorem mr.vN {K k:Nat} {results:List Int} {c:dq} (h:mr K results k c):gy K 256 c:=⟨h.wf,h.bk,h.fit,h.fr,Nat.le_trans h.fit h.ov⟩
theorem mr.bounds {K k:Nat} {results:List Int} {c:dq} (h:mr K results k c) {m:ae} {locals:List Int} {x:bZ} (hT:zG K m) (hK:100≤K) (hK2:K≤1048576) (hr:results.length≤K) (hk:k≤900) (hll:x.labels.length≤1048576):BY c m locals x:=by
 have hts:c.aF.ts.length≤256:=Nat.le_trans h.fit h.ov
 have hfs:=h.fs
 refine⟨by omega,by omega,by rw[h.rs];omega,fun n=>Nat.le_trans (h.fr.label n) FY,Nat.le_trans h.fr.top.1 FY,Nat.le_trans h.fr.top.2 FY,by omega,fun f hf=>?_,?_⟩
 ·have:=(kk FY hT hf).1;omega
 ·obtain⟨r,hr⟩:∃r,eD m locals x=r:=⟨_,rfl⟩
  obtain⟨f,e⟩:=r
  have:=lD hK hT hr
  rw[hr];dsimp only;omega
theorem mr.next {K k:Nat} {results:List Int} {c:dq} (h:mr K results k c) {m:ae} {locals:List Int} {x:bZ} (hT:zG K m) (hK:100≤K) (e:(dL c m locals x).2=0) (ho:cE (dL c m locals x).1.aF=false):mr K results (k+1) (dL c m locals x).1:=by
 obtain⟨h1,h2,h3,-⟩:=lM h.vN (m:=m) (locals:=locals) (x:=x) FY (fun f hf=>kk FY hT hf) (by
  obtain⟨r,hr⟩:∃r,eD m locals x=r:=⟨_,rfl⟩
  obtain⟨f,e⟩:=r
  rw[hr];exact lD hK hT hr) e
 have hfs:=h.fs
 have hov:¬256<(dL c m locals x).1.aF.lS:=of_decide_eq_false ho
 exact⟨h1.wf,h1.bk,h1.fit,h1.fr,by omega,by omega,by rw[←h.rs];exact h2⟩
theorem uq (sp:Nat) (s:cU) (x:Value×Value) (w:World) (hw:Ok (ax sp s x) [] w) (hp:0<s.ps.length):Calls G.P 36 #[.pointer (some ⟨sp,0,none⟩)] w fun e w'=>e=.returned (.bool (cE s))∧Ext w w':=by
 obtain⟨v1,v2⟩:=x;obtain⟨⟨p1,c1,e1,hcap,hg1⟩,⟨p2,c2,e2,hg2⟩,hn1,hn2⟩:=rE sp s (v1,v2) hw (List.Sublist.refl _);dsimp only at e1 e2;subst e1;subst e2;obtain⟨g2,rfl⟩:=hg2 hp
 have k1:w.cell? ⟨sp,1,none⟩=some (.slice (some ⟨g2,0,none⟩) s.ps.length c2):=hw.c1 (T:=fH) (cs:=[.slice p1 s.ts.length c1,.slice (some ⟨g2,0,none⟩) s.ps.length c2,.bool (cE s)]) Up.head rfl
 have k2:w.cell? ⟨sp,2,none⟩=some (.bool (cE s)):=hw.c1 (T:=fH) (cs:=[.slice p1 s.ts.length c1,.slice (some ⟨g2,0,none⟩) s.ps.length c2,.bool (cE s)]) Up.head rfl
 refine aj (l:=[_]) Tryz.func36 rfl Tryz.ntmps36 rfl (Ok.start w) ?_
 repeat'(first|refine ay ?_|refine Fc ?_|fail)
 all_goals first|omega|exact ai.aA rfl rfl fun w' hw'=>⟨rfl,hw'.at⟩
theorem Up.Cq {q q':aU} {M M':List aU} (h:Up q q' M M'):q'∈M':=by induction h with|head=>simp|tail _ ih=>simp[ih]
theorem xD {D:Nat→Prop} {w:World} {p:Option Addr} {c:Nat} {ys:List Int} {M:List aU} {R:List (World→Prop)} (hw:Ok M R w) (hI:∀w,Ok M R w→af D w (.slice p ys.length c) ys):ys.length=0∨∃bk o,p=some ⟨bk,o,none⟩∧∀w',Ok M R w'→∀j u,(aR ys)[j]?=some u→w'.cell? ⟨bk,o+j,none⟩=some u:=by
 rcases oa (hI w hw)with h|⟨bk,o,rfl,-⟩
 ·exact .inl h
 ·refine .inr ⟨bk,o,rfl,fun w' hw' j u hj=>?_⟩
  rcases oa (hI w' hw')with h|⟨bk',o',e,h⟩
  ·rw[List.eq_nil_of_length_eq_zero h]at hj;simp[aR]at hj
  ·cases e;exact h j u hj
section
variable {n:Nat} {E:Env} {M:List aU} {R:List (World→Prop)} {v:Value} {x y:Operand} {t:TypeId}
theorem HE.zH {Mf:Value→List aU} {ti te:TI} {B T m c:Nat} {D:Nat→Prop} {po:Option Addr} {xs:List Value} (ys:List Int) (hx:ev E x=some v) (hy:ev E y=some (.slice po ys.length c)) (hM:∀v',Up (.own B T 1 v m xs) (.own B T 1 v' (m+ys.length) (xs++aR ys)) M (Mf v'))
  (hI:∀w,Ok M R w→af D w (.slice po ys.length c) ys)
  (ht:G.ty t=some ti) (he:ti.elem=some T) (hte:G.ty T=some te) (hs:te.size=1) (hzs:Nat.beq te.zero.cells.size te.size=true) (hsz:Nat.blt 0 te.size=true) (hby:(m+ys.length)*te.bytes≤140737488355328) (hml:m+ys.length≤9223372036854775807) (hB:∀w,Ok M R w→B≤w.heap.size):
  HE n (.call ⟨.builtin .append,#[x,y],#[t,t]⟩) E M R (fun v':Value=>∃p c,v'=.slice p (m+ys.length) c) (fun v'=>v') Mf (fun _=>R):=
 ⟨fun w hw=>((HE.lL (aR ys) hx hy hM (xD hw hI) (by simp[aR]) ht he hte hs hzs hsz (wL ys) hby hml hB).h w hw).mono fun v' w' ⟨x,_,e,h⟩=>by
  subst e
  refine⟨v',?_,rfl,h⟩
  obtain⟨p,c,e,_⟩:=au (show w'.ownsRow B T 1 v' _ _ from(h.m _ (hM v').Cq).1)
  exact⟨p,c,e⟩⟩
end
structure rJ (m:ae):Prop where
 ty:zG 1048576 m
 loc:∀j,j<m.funcs.length→(ix m.funcs j).locals.length≤400
 len:∀j,j<m.funcs.length→(ix m.funcs j).body.length≤400
 jd:∀j,j<m.funcs.length→∀k,k<(ix m.funcs j).body.length→(ix (ix m.funcs j).body k).labels.length≤1048576
def qY (m:ae) (i:Int):Option (List Int):=(nz m i).map (mG m i)
theorem vg {m:ae} {j:Nat} (h:j<m.funcs.length):nz m (j:Int)=eE m.types (ix m.funcs j).eZ:=by unfold nz;rw[lg h]
theorem tg {m:ae} {i:Int} (h:¬(0≤i∧i<m.funcs.length)):nz m i=none:=by unfold nz;rw[jF h]
theorem td {m:ae} {i:Int} {f:aC} (h:nz m i=some f):f∈m.types∧∃j:Nat,i=j∧j<m.funcs.length:=by
 by_cases hin:0≤i∧i<m.funcs.length
 ·obtain⟨j,rfl⟩:=Int.eq_ofNat_of_zero_le hin.1
  have hj:j<m.funcs.length:=by omega
  rw[vg hj]at h
  exact⟨kC h,j,rfl,hj⟩
 ·rw[tg hin]at h;cases h
set_option maxHeartbeats 4000000 in
theorem nU (F:Nat→Prop) (B:Nat) (m:ae) (cs:List Value) (sv:Value) (i:Int) (w:World) (hm:aD F w cs m) (hs:aV B m w sv):Calls G.P 31 #[.agg cs.toArray,sv,.int .i64 i] w (kh (nz m i) (fun _=>False) w):=by
 have hs0:=hs
 obtain⟨bS,sp,im,dm,vs,tc,ig,dg,rfl,-,hs⟩:=hs
 obtain⟨v0,v1,v2,v3,v4,v5,v6,v7,v8,v9,rfl,r0,r1,r2,r3,r4,r5,r6,r7,r8,r9,g0⟩:=hm;obtain⟨p0,c0,rfl,l0⟩:=r0.slice;obtain⟨p1,c1,rfl,l1⟩:=r1.slice;obtain⟨p2,c2,rfl,l2⟩:=r2.slice;obtain⟨p3,c3,rfl,l3⟩:=r3.slice;obtain⟨p4,c4,rfl,l4⟩:=r4.slice;obtain⟨p5,c5,rfl,l5⟩:=r5.slice;obtain⟨p6,c6,rfl,l6⟩:=r6.slice;obtain⟨p7,c7,rfl,l7⟩:=r7.slice;obtain⟨p8,c8,rfl,l8⟩:=r8.slice;obtain⟨p9,c9,rfl,l9⟩:=r9.slice
 by_cases hin:0≤i∧i<m.funcs.length
 ·obtain⟨j,rfl⟩:=Int.eq_ofNat_of_zero_le hin.1
  have hj:j<m.funcs.length:=by omega
  obtain⟨b,o,rfl,hF9,cs5,⟨u0,u1,rfl,q0,q1,q2⟩,hc⟩:=r2.el hj;obtain⟨x0,y0,rfl,z0⟩:=q0.slice;obtain⟨x1,y1,rfl,z1⟩:=q1.slice
  rw[vg hj]
  have hty:=fun w' hw'=>gg B m (.pointer (some ⟨bS,0,none⟩)) (ix m.funcs j).eZ w' hw'
  generalize eE m.types (ix m.funcs j).eZ=r at hty ⊢
  refine aj (l:=[_,_,_]) Tryz.func31 rfl Tryz.ntmps31 rfl (Ok.start w) ?_
  refine aP.kJ (Cs b (o+j*3) _) (lx hc rfl ao) ?_
  repeat'(first|refine ay ?_|(refine br fun b_=>?_)|(refine aT fun b_=>?_)|(refine sI fun b_=>?_)|refine Fs ?_|(refine aa.an ?_;refine aa.yg F0 (Yl.lz Tryz.underlying39 rfl rfl) rfl ?_)|(refine aa.ak (f:=46) ?_;refine aa.he (HE.lB ao rfl rfl (fun w' hw'=>hty w' (hs0.aB (show Ext w w' from hw'.at) (fun _ _ h=>h)))) rfl ?_;rintro⟨D_,p_,c_,q_,d_⟩ hD_;dsimp only)|(refine aY ?_ ?_<;>intro hc_))
  all_goals first|omega|exact ai.bh (.inl rfl) rfl rfl rfl rfl rfl bM rfl rfl fun w' hw'=>eU.mZ (f0:=r.getD gw) (tf:=fun x:Value×Value=>.tuple #[.agg #[x.1,x.2],.bool r.isSome]) ⟨D_,p_,c_,q_,d_⟩ hw' ao ao hD_
 ·rw[tg hin]
  refine aj (l:=[_,_,_]) Tryz.func31 rfl Tryz.ntmps31 rfl (Ok.start w) ?_
  repeat'(first|refine ay ?_|(refine br fun b_=>?_)|(refine aT fun b_=>?_)|(refine sI fun b_=>?_)|refine Fs ?_|(refine aa.an ?_;refine aa.yg F0 (Yl.lz Tryz.underlying39 rfl rfl) rfl ?_)|(refine aY ?_ ?_<;>intro hc_))
  all_goals first|omega|exact ai.bh (.inl rfl) rfl rfl rfl rfl rfl bM rfl rfl fun w' hw'=>eU.CW (tf:=fun x:Value×Value=>.tuple #[.agg #[x.1,x.2],.bool false]) hw' ao
def lJ (r:Option (List Int)) (w:World):Ending→World→Prop:=fK w (fun u:Value=>.tuple #[u,.bool r.isSome]) (fun u=>[.own 0 eV 1 u (r.getD []).length (aR (r.getD []))])
set_option maxHeartbeats 4000000 in
theorem mR (F:Nat→Prop) (B:Nat) (m:ae) (cs:List Value) (sv:Value) (i:Int) (w:World) (hm:aD F w cs m) (hs:aV B m w sv) (hB:rJ m):Calls G.P 14 #[.agg cs.toArray,sv,.int .i64 i] w (lJ (qY m i) w):=by
 have hm0:=hm
 obtain⟨v0,v1,v2,v3,v4,v5,v6,v7,v8,v9,rfl,r0,r1,r2,r3,r4,r5,r6,r7,r8,r9,g0⟩:=hm;obtain⟨p0,c0,rfl,l0⟩:=r0.slice;obtain⟨p1,c1,rfl,l1⟩:=r1.slice;obtain⟨p2,c2,rfl,l2⟩:=r2.slice;obtain⟨p3,c3,rfl,l3⟩:=r3.slice;obtain⟨p4,c4,rfl,l4⟩:=r4.slice;obtain⟨p5,c5,rfl,l5⟩:=r5.slice;obtain⟨p6,c6,rfl,l6⟩:=r6.slice;obtain⟨p7,c7,rfl,l7⟩:=r7.slice;obtain⟨p8,c8,rfl,l8⟩:=r8.slice;obtain⟨p9,c9,rfl,l9⟩:=r9.slice
 cases ht:nz m i with
 |none=>
  rw[show qY m i=none from by unfold qY;rw[ht];rfl]
  unfold lJ fK
  dsimp only[Option.getD,Option.isSome]
  refine aj (l:=[_,_,_]) Tryz.func14 rfl Tryz.ntmps14 rfl (Ok.start w) ?_
  repeat'(first|refine ay ?_|(refine br fun b_=>?_)|(refine aT fun b_=>?_)|(refine sI fun b_=>?_)|(refine aa.ak (f:=31) ?_;refine aa.he (HE.lB (r:=none) ao rfl rfl (fun w' hw'=>by have:=nU F B m ([Value.slice p0 m.types.length c0,Value.slice p1 m.imports.length c1,Value.slice p2 m.funcs.length c2,Value.slice p3 m.tables.length c3,Value.slice p4 m.bU.length c4,Value.slice p5 m.globals.length c5,Value.slice p6 m.aG.length c6,Value.bool m.aJ,Value.int .i64 m.start,Value.slice p7 m.elems.length c7,Value.slice p8 m.aW.length c8,Value.slice p9 m.bI.length c9]:List Value) sv i w' (hm0.aB (show Ext w w' from hw'.at) (fun _ _ _ h=>h)) (hs.aB (show Ext w w' from hw'.at) (fun _ _ h=>h));rw[ht]at this;exact this)) rfl ?_;rintro⟨D_,p_,c_,q_,d_⟩ hD_;dsimp only)|fail)
  all_goals exact ai.gb rfl rfl rfl fun w' hw'=>aq.tw (x:=Value.slice none 0 0) trivial (hw'.ia 0 eV 1) (nL rfl rfl rfl (List.nil_sublist _)) ao
 |some f=>
  rw[show qY m i=some (mG m i f)from by unfold qY;rw[ht];rfl]
  unfold lJ fK
  dsimp only[Option.getD,Option.isSome]
  obtain⟨hf,j,rfl,hj⟩:=td ht
  have hfl:=(hB.ty f hf).1
  have hll:=hB.loc j hj
  obtain⟨b,o,rfl,hF9,cs5,⟨u0,u1,rfl,q0,q1,q2⟩,hc⟩:=r2.el hj;obtain⟨x0,y0,rfl,z0⟩:=q0.slice;obtain⟨x1,y1,rfl,z1⟩:=q1.slice
  refine aj (l:=[_,_,_]) Tryz.func14 rfl Tryz.ntmps14 rfl (Ok.start w) ?_
  refine aP.kJ (Cs b (o+j*3) _) (lx hc rfl ao) ?_
  repeat'(first|refine ay ?_|(refine br fun b_=>?_)|(refine aT fun b_=>?_)|(refine sI fun b_=>?_)|(refine aa.ak (f:=31) ?_;refine aa.he (HE.lB (r:=some f) ao rfl rfl (fun w' hw'=>by have:=nU F B m ([Value.slice p0 m.types.length c0,Value.slice p1 m.imports.length c1,Value.slice (some ⟨b,o,none⟩) m.funcs.length c2,Value.slice p3 m.tables.length c3,Value.slice p4 m.bU.length c4,Value.slice p5 m.globals.length c5,Value.slice p6 m.aG.length c6,Value.bool m.aJ,Value.int .i64 m.start,Value.slice p7 m.elems.length c7,Value.slice p8 m.aW.length c8,Value.slice p9 m.bI.length c9]:List Value) sv j w' (hm0.aB (show Ext w w' from hw'.at) (fun _ _ _ h=>h)) (hs.aB (show Ext w w' from hw'.at) (fun _ _ h=>h));rw[ht]at this;exact this)) rfl ?_;rintro⟨D_,p_,c_,q_,d_⟩ hD_;dsimp only)|fail)
  refine aa.ia 0 eV 1 ?_
  refine aa.he (HE.zH f.params rfl rfl (fun _=>bM) (fun w' hw'=>(hw'.get (p:=tt ((some f).getD gw) ⟨D_,p_,c_,q_,d_⟩) ao).1) rfl rfl rfl F0 F0 F0 (by show(0+f.params.length)*8≤_;omega) FY (fun _ _=>Nat.zero_le _)) rfl ?_
  simp only[Nat.zero_add,List.nil_append]
  rintro _ ⟨p5,c5,rfl⟩
  repeat'(first|refine ay ?_|fail)
  refine aa.he (HE.zH (ix m.funcs j).locals rfl rfl (fun _=>bM) (fun w' hw'=>q0.aB (show Ext w w' from hw'.at) (fun _ _ _ h=>h)) rfl rfl rfl F0 F0 F0 (by show(f.params.length+(ix m.funcs j).locals.length)*8≤_;omega) FY (fun _ _=>Nat.zero_le _)) rfl ?_
  rintro _ ⟨p6,c6,rfl⟩
  repeat'(first|refine ay ?_|fail)
  exact ai.gb rfl rfl rfl fun w' hw'=>aq.tw (x:=Value.slice p6 (f.params.length+(ix m.funcs j).locals.length) c6) trivial hw' (nL rfl (by simp[mG]) (by simp[mG,aR]) (List.nil_sublist _)) ao
theorem Ok.DO {M:List aU} {S:Nat→Prop} {w w':World} (h:Ok M [] w) (hc:bz S w w') (hd:∀k,k<w.heap.size→Mb M k→¬S k):Ok M [] w':=
 ⟨fun q hq=>⟨q.st (h.m q hq).1 hc (fun k hk hF=>hd k hk ⟨q,hq,hF⟩),fun k hk=>Nat.lt_of_lt_of_le ((h.m q hq).2 k hk) hc.size⟩,h.d,fun p hp=>by cases hp⟩
def aU.pack (L:List aU):aU:=⟨Mb L,fun w=>Ok L [] w,fun h hc hd=>h.DO hc hd⟩
section
variable {L M M':List aU} {R R':List (World→Prop)} {w:World}
theorem Ok.pack (h:Ok (L++M) R w):Ok (aU.pack L::M) R w:=by
 have hd:=List.pairwise_append.1 h.d
 refine h.step (bz.refl _ w) (fun q hq=>?_) (List.pairwise_cons.2 ⟨fun x hx k hk=>?_,hd.2.1⟩) (fun k hk _=>?_)
 ·rcases List.mem_cons.1 hq with rfl|hq
  ·exact⟨h.sub (List.sublist_append_left _ _) (fun p hp=>by cases hp),fun k ⟨q,hq,hk⟩=>(h.m q (List.mem_append.2 (.inl hq))).2 k hk⟩
  ·exact h.m q (List.mem_append.2 (.inr hq))
 ·obtain⟨q,hq,hk⟩:=hk
  exact hd.2.2 q hq x hx k hk
 ·obtain⟨q,hq,hk⟩:=hk
  rcases List.mem_cons.1 hq with rfl|hq
  ·obtain⟨q,hq,hk⟩:=hk
   exact⟨q,List.mem_append.2 (.inl hq),hk⟩
  ·exact⟨q,List.mem_append.2 (.inr hq),hk⟩
theorem Ok.unpack (h:Ok (aU.pack L::M) R w):Ok (L++M) R w:=by
 have hp:Ok L [] w:=(h.m (aU.pack L) FZ).1
 have hd:=List.pairwise_cons.1 h.d
 refine h.step (bz.refl _ w) (fun q hq=>?_) (List.pairwise_append.2 ⟨hp.d,hd.2,fun a ha b hb k h1 h2=>hd.1 b hb k ⟨a,ha,h1⟩ h2⟩) (fun k hk _=>?_)
 ·rcases List.mem_append.1 hq with hq|hq
  ·exact hp.m q hq
  ·exact h.m q (by simp[hq])
 ·obtain⟨q,hq,hk⟩:=hk
  rcases List.mem_append.1 hq with hq|hq
  ·exact⟨aU.pack L,by simp,q,hq,hk⟩
  ·exact⟨q,by simp[hq],hk⟩
variable {ops:Array Oper} {Q:Exit→Act→World→Prop} {n:Nat} {l:List Oper} {E:Env}
theorem aa.map (hp:∀w,Ok M R w→Ok M' R' w) (h:aa ops Q n l E M' R'):aa ops Q n l E M R:=⟨fun w hw=>h.h w (hp w hw)⟩
theorem aP.map {c:Code} (hp:∀w,Ok M R w→Ok M' R' w) (h:aP Q n c E M' R'):aP Q n c E M R:=⟨fun w hw=>h.h w (hp w hw)⟩
end
def vw (m:ae) (i:Int):Int×Int:=match nz m i with
 |none=>(0,11)
 |some f=>if(eK (ix m.funcs i.toNat).body).2≠0 then eK (ix m.funcs i.toNat).body else yT m (mG m i f) (ix m.funcs i.toNat).body (ix m.funcs i.toNat).body.length 0 (iJ f.results)
def BQ (m:ae) (i:Int):List (Bool×List Int):=match nz m i with
 |none=>[]
 |some f=>yk m (mG m i f) (ix m.funcs i.toNat).body (ix m.funcs i.toNat).body.length 0 (iJ f.results)
theorem xk {M:List aU} {R:List (World→Prop)} {w0 w:World} {B:Nat} {m:ae} {sv lv tv bv:Value} {locals:List Int} {x:bZ} (h:Ok M R w) (hR:Ext w0∈R) (h0:dG w0) (hs:aV B m w0 sv) (hl:(fun w=>af (fun _=>True) w lv locals)∈R) (ht:af (fun _=>True) w0 tv x.types) (hb:af (fun _=>True) w0 bv x.labels):Ok M (lF B (fun _=>True) m sv locals lv x tv bv) w:=by
 refine⟨h.m,h.d,fun p hp w2 h2=>?_⟩
 have hx:Ext w0 w2:=h.r _ hR w2 h2
 simp only[lF,List.mem_cons,List.not_mem_nil,or_false]at hp
 rcases hp with rfl|rfl|rfl|rfl|rfl
 ·exact h0.ext hx
 ·exact hs.aB hx (fun _ _ h=>h)
 ·exact h.r _ hl w2 h2
 ·exact ht.aB hx (fun _ _ _ h=>h)
 ·exact hb.aB hx (fun _ _ _ h=>h)
def wZ {σ:Type} (A:σ→aU) (L:σ→List (Bool×List Int)) (g:Nat) (cap:List Value):Prop:=
 ∀(s:σ) (cp:Nat) (c:dq) (v:fJ) (w:World),Ok (aw cp c v++[A s]) [] w→v.Good c→c.Wf→c.broken=0→c.aF.ts.length≤256→(L s).length≤400→Calls G.P g (([.pointer (some ⟨cp,0,none⟩)]:List Value)++cap).toArray w (aq (aw cp c v++[A s]) w (fun _:σ=>.tuple #[]) (fun s'=>L s'=L s++[(c.live,c.aF.ts)]) (fun s'=>aw cp c v++[A s']))
theorem xB {m:ae} {locals:List Int} {xs:List bZ} {k:Nat} {c cC:dq} {e:Int} (hk:k<xs.length) (h:dL c m locals (ix xs k)=(cC,e)):yT m locals xs (xs.length - k) k c=if e≠0 then((k:Int),e)else if cE cC.aF then((k:Int),6)else yT m locals xs (xs.length - (k+1)) (k+1) cC:=by
 obtain⟨n,hn⟩:∃n,xs.length - k=n+1:=⟨xs.length - k - 1,by omega⟩
 rw[hn,yT,h,show xs.length - (k+1)=n by omega]
theorem ym {m:ae} {locals:List Int} {xs:List bZ} {k:Nat} {c cC:dq} {e:Int} (hk:k<xs.length) (h:dL c m locals (ix xs k)=(cC,e)):yk m locals xs (xs.length - k) k c=(c.live,c.aF.ts)::yk m locals xs (xs.length - (k+1)) (k+1) cC:=by
 obtain⟨n,hn⟩:∃n,xs.length - k=n+1:=⟨xs.length - k - 1,by omega⟩
 rw[hn,yk,h,show xs.length - (k+1)=n by omega]
theorem mr.zB {K k:Nat} {results:List Int} {c cC:dq} {e:Int} (h:mr K results k c) {m:ae} {locals:List Int} {x:bZ} (hT:zG K m) (hK:100≤K) (hr:dL c m locals x=(cC,e)) (he:e=0):cC.Wf:=by
 have:=(lM h.vN (m:=m) (locals:=locals) (x:=x) FY (fun f hf=>kk FY hT hf) (by
  obtain⟨r,hr⟩:∃r,eD m locals x=r:=⟨_,rfl⟩
  obtain⟨f,e⟩:=r
  rw[hr];exact lD hK hT hr) (by rw[hr];exact he)).1.wf
 rw[hr]at this;exact this
theorem rD {m:ae} {locals:List Int} {xs:List bZ}:∀(n k:Nat) (c:dq),(yk m locals xs n k c).length=n
 |0,_,_=>rfl
 |n+1,k,c=>by rw[yk,List.length_cons,rD n]
set_option maxHeartbeats 16000000 in
theorem pU {σ:Type} (A:σ→aU) (L:σ→List (Bool×List Int)) (B:Nat) (m:ae) (cs:List Value) (sv:Value) (i:Int) (g:Nat) (cap:List Value) (s0:σ) (w0 w:World) (hm:aD (fun _=>True) w0 cs m) (hs:aV B m w0 sv) (h0:dG w0) (hB:rJ m) (hg:G.fb[g]?=some true) (hE:wZ A L g cap) (hs00:L s0=[]) (hw:Ok [A s0] [Ext w0] w):
  Calls G.P 21 #[.agg cs.toArray,sv,.int .i64 i,.func (.func g) #[] cap.toArray] w (aq [A s0] w (fun _:σ=>.tuple #[.int .i64 (vw m i).1,.int .i64 (vw m i).2]) (fun s=>(vw m i).2=0→L s=L s0++BQ m i) (fun s=>[A s])):=by
 have hm0:=hm
 have hs0:=hs
 have hloc:∀r,nz m i=r→qY m i=r.map (mG m i):=fun r h=>by unfold qY;rw[h]
 obtain⟨bS,sp,im,dm,vs,tc,ig,dg,rfl,-,hs⟩:=hs
 obtain⟨v0,v1,v2,v3,v4,v5,v6,v7,v8,v9,rfl,r0,r1,r2,r3,r4,r5,r6,r7,r8,r9,g0⟩:=hm;obtain⟨p0,c0,rfl,l0⟩:=r0.slice;obtain⟨p1,c1,rfl,l1⟩:=r1.slice;obtain⟨p2,c2,rfl,l2⟩:=r2.slice;obtain⟨p3,c3,rfl,l3⟩:=r3.slice;obtain⟨p4,c4,rfl,l4⟩:=r4.slice;obtain⟨p5,c5,rfl,l5⟩:=r5.slice;obtain⟨p6,c6,rfl,l6⟩:=r6.slice;obtain⟨p7,c7,rfl,l7⟩:=r7.slice;obtain⟨p8,c8,rfl,l8⟩:=r8.slice;obtain⟨p9,c9,rfl,l9⟩:=r9.slice
 cases ht:nz m i with
 |none=>
  have eC:vw m i=(0,11):=by unfold vw;rw[ht]
  rw[eC]
  refine aj (l:=[_,_,_,_]) Tryz.func21 rfl Tryz.ntmps21 rfl (Ok.bV hw) ?_
  repeat'(first|refine ay ?_|(refine br fun b_=>?_)|refine Fs ?_|fail)
  refine aa.he (HE.aS (M0:=[]) k9.nil rfl rfl (fun w' hw'=>by have:=mR (fun _=>True) B m ([Value.slice p0 m.types.length c0,Value.slice p1 m.imports.length c1,Value.slice p2 m.funcs.length c2,Value.slice p3 m.tables.length c3,Value.slice p4 m.bU.length c4,Value.slice p5 m.globals.length c5,Value.slice p6 m.aG.length c6,Value.bool m.aJ,Value.int .i64 m.start,Value.slice p7 m.elems.length c7,Value.slice p8 m.aW.length c8,Value.slice p9 m.bI.length c9]:List Value) _ i w' (hm0.aB (show Ext w0 w' from hw'.at) (fun _ _ _ h=>h)) (hs0.aB (show Ext w0 w' from hw'.at) (fun _ _ h=>h)) hB;unfold qY lJ fK at this;rw[ht]at this;exact this)) rfl ?_
  rintro u _
  dsimp only[List.cons_append,List.nil_append,Option.map,Option.getD,Option.isSome]
  repeat'(first|refine ay ?_|fail)
  exact ai.gb rfl rfl rfl fun w' hw'=>aq.A2 (x:=s0) (fun h=>absurd h FX) hw' bN ao
 |some f=>
  obtain⟨hf,j,rfl,hj⟩:=td ht
  have hfl:=hB.ty f hf
  have hll:=hB.loc j hj
  have hlen:=hB.len j hj
  have hlab:=hB.jd j hj
  have eC:vw m j=if(eK (ix m.funcs j).body).2≠0 then eK (ix m.funcs j).body else yT m (mG m j f) (ix m.funcs j).body (ix m.funcs j).body.length 0 (iJ f.results):=by unfold vw;rw[ht];rfl
  have eS:BQ m j=yk m (mG m j f) (ix m.funcs j).body (ix m.funcs j).body.length 0 (iJ f.results):=by unfold BQ;rw[ht];rfl
  have hlocl:(mG m j f).length≤1048976:=by
   have:(mG m j f).length=f.params.length+(ix m.funcs j).locals.length:=by simp[mG]
   omega
  rw[eS]
  obtain⟨b,o,rfl,hF9,cs5,⟨u0,u1,rfl,q0,q1,q2⟩,hc⟩:=r2.el hj;obtain⟨x0,y0,rfl,z0⟩:=q0.slice;obtain⟨x1,y1,rfl,z1⟩:=q1.slice
  obtain⟨xs,hxs⟩:∃xs,(ix m.funcs j).body=xs:=⟨_,rfl⟩
  rw[hxs]at eC q1 hlen hlab hc ⊢
  refine aj (l:=[_,_,_,_]) Tryz.func21 rfl Tryz.ntmps21 rfl (Ok.bV hw) ?_
  refine aP.kJ (Cs b (o+j*3) _) (lx hc rfl ao) ?_
  repeat'(first|refine ay ?_|(refine br fun b_=>?_)|refine Fs ?_|fail)
  refine aa.he (HE.aS (M0:=[]) k9.nil rfl rfl (fun w' hw'=>by have:=mR (fun _=>True) B m ([Value.slice p0 m.types.length c0,Value.slice p1 m.imports.length c1,Value.slice (some ⟨b,o,none⟩) m.funcs.length c2,Value.slice p3 m.tables.length c3,Value.slice p4 m.bU.length c4,Value.slice p5 m.globals.length c5,Value.slice p6 m.aG.length c6,Value.bool m.aJ,Value.int .i64 m.start,Value.slice p7 m.elems.length c7,Value.slice p8 m.aW.length c8,Value.slice p9 m.bI.length c9]:List Value) _ j w' (hm0.aB (show Ext w0 w' from hw'.at) (fun _ _ _ h=>h)) (hs0.aB (show Ext w0 w' from hw'.at) (fun _ _ h=>h)) hB;unfold qY lJ fK at this;rw[ht]at this;exact this)) rfl ?_
  rintro u _
  dsimp only[List.cons_append,List.nil_append,Option.map,Option.getD,Option.isSome]
  generalize mG m j f=locals at*
  refine aa.pure (φ:=∃p c,u=.slice p locals.length c) (fun w' hw'=>?_) ?_
  ·obtain⟨p,c,e,_⟩:=au (hw'.own (v:=u));exact⟨p,c,e⟩
  rintro⟨lp,lc,rfl⟩
  refine aa.freeze (p:=fun w=>af (fun _=>True) w (.slice lp locals.length lc) locals) Rm.head (fun w' h _=>(dC (h:w'.ownsRow 0 eV 1 _ _ _) FY).mono (fun _ _ _=>trivial)) ?_
  by_cases hck:(eK xs).2=0
  case neg=>
   rw[if_pos hck]at eC
   rw[eC]
   repeat'(first|refine ay ?_|refine Fd ?_|fail)
   all_goals exact ai.gb rfl rfl rfl fun w' hw'=>aq.A2 (x:=s0) (fun h=>absurd h hck) hw' bN ao
  rw[if_neg (by rw[hck];decide)]at eC
  rw[eC]
  repeat'(first|refine ay ?_|refine Fd ?_|(refine aa.ak (f:=31) ?_;refine aa.he (HE.CY (w0:=w0) (F:=fun _=>False) (r:=some f) ao (fun _ h=>h.elim) rfl rfl (fun w' hw'=>by have:=nU (fun _=>True) B m ([Value.slice p0 m.types.length c0,Value.slice p1 m.imports.length c1,Value.slice (some ⟨b,o,none⟩) m.funcs.length c2,Value.slice p3 m.tables.length c3,Value.slice p4 m.bU.length c4,Value.slice p5 m.globals.length c5,Value.slice p6 m.aG.length c6,Value.bool m.aJ,Value.int .i64 m.start,Value.slice p7 m.elems.length c7,Value.slice p8 m.aW.length c8,Value.slice p9 m.bI.length c9]:List Value) _ j w' (hm0.aB (show Ext w0 w' from hw'.at) (fun _ _ _ h=>h)) (hs0.aB (show Ext w0 w' from hw'.at) (fun _ _ h=>h));rw[ht]at this;exact this)) rfl ?_;rintro⟨D_,p_,c_,q_,d_⟩ hD_;dsimp only)|(refine aT fun b_=>?_)|(refine sI fun b_=>?_)|fail)
  refine aa.he (HE.aS (M0:=[]) k9.nil rfl rfl (fun w' hw'=>xv D_ f.results (.slice q_ f.results.length d_) w' (hw'.get (p:=tt ((some f).getD gw) ⟨D_,p_,c_,q_,d_⟩) ao).2)) rfl ?_
  rintro⟨cp,sp,tv,pv,bv,rv,fv,DC,LC⟩ hg0
  dsimp only[aw,ax,List.cons_append,List.nil_append]at hg0 ⊢
  repeat'(first|refine ay ?_|fail)
  refine aP.zV (σ:=Nat×dq×fJ×σ) (fun q=>[(1,.pointer (some ⟨bS,0,none⟩)),(3,.func (.func g) #[] cap.toArray),(10,.slice lp locals.length lc),(12,.slice x1 xs.length y1),(17,.pointer (some ⟨cp,0,none⟩)),(57,.int .i64 xs.length),(58,.int .i64 q.1)]) (fun q=>aw cp q.2.1 q.2.2.1++[A q.2.2.2]) (fun _=>[fun w=>af (fun _=>True) w (.slice lp locals.length lc) locals,bz (Mb [A s0]) w,Ext w0]) (fun q=>q.1≤xs.length∧q.2.2.1.Good q.2.1∧mr 1048576 f.results q.1 q.2.1∧yT m locals xs (xs.length - q.1) q.1 q.2.1=yT m locals xs xs.length 0 (iJ f.results)∧L q.2.2.2++yk m locals xs (xs.length - q.1) q.1 q.2.1=L s0++yk m locals xs xs.length 0 (iJ f.results)) (fun q=>xs.length - q.1) (0,iJ f.results,⟨sp,tv,pv,bv,rv,fv,DC,LC⟩,s0) bP ?_ aX ⟨Nat.zero_le _,hg0,mr.new f.results hfl.2,by rw[Nat.sub_zero],by rw[Nat.sub_zero]⟩ ?_
  ·dsimp only[aw,ax,List.cons_append,List.nil_append];exact cM
  rintro⟨k,c,⟨sp,tv,pv,bv,rv,fv,DC,LC⟩,s⟩ ⟨hk,hg1,hb,hgo,hL⟩
  dsimp only at hk hg1 hb hgo hL ⊢
  dsimp only[aw,ax,List.cons_append,List.nil_append]
  by_cases hlt:k<xs.length
  case neg=>
   obtain rfl:k=xs.length:=by omega
   rw[Nat.sub_self]at hgo hL
   rw[←hgo,show yT m locals xs 0 xs.length c=(0,0)from rfl]
   repeat'(first|refine ay ?_|fail)
   all_goals first|omega|exact ai.gb rfl rfl rfl fun w' hw'=>aq.A2 (x:=s) (fun _=>by rw[←hL];simp[yk]) hw' bN ao
  have hLl:(L s).length≤400:=by
   have:=congrArg List.length hL
   rw[hs00,List.nil_append,List.length_append,rD,rD]at this
   omega
  obtain⟨ib,io,rfl,-,hins⟩:=q1.at hlt
  obtain⟨pt,ct,pl,cl,hti,hli,hc9⟩:=(hins k hlt).cells
  have hll:=hlab k hlt
  obtain⟨rC,hrC⟩:∃r,dL c m locals (ix xs k)=r:=⟨_,rfl⟩
  obtain⟨cC,e⟩:=rC
  have hgs:=xB hlt hrC
  have hss:=ym hlt hrC
  rw[hss]at hL
  rw[hgo]at hgs
  have hB2:BY c m locals (ix xs k):=hb.bounds hB.ty FX FX hfl.2 FY hll
  have hnx:=fun(e0:e=0) (ho:cE cC.aF=false)=>hb.next (m:=m) (locals:=locals) (x:=ix xs k) hB.ty FX (by rw[hrC];exact e0) (by rw[hrC];exact ho)
  rw[hrC]at hnx
  have hwf2:=hb.zB hB.ty FX hrC
  have hbk:=hb.vN
  unfold AG at hc9
  generalize ix xs k=x at*
  have hac:=fun w' hw'=>uf B (fun _=>True) cp c ⟨sp,tv,pv,bv,rv,fv,DC,LC⟩ m locals (.pointer (some ⟨bS,0,none⟩)) x lp pt pl lc ct cl w' hw' hg1 hbk.wf hbk.bk (hB.ty.b FX) hB2
  rw[hrC]at hac
  repeat'(first|refine ay ?_|fail)
  refine aa.he (HE.qJ (B:=0) (M0:=aw cp c ⟨sp,tv,pv,bv,rv,fv,DC,LC⟩++[A s]) (Mr:=[]) (R':=[]) rfl hg rfl (by dsimp only[aw,ax,List.cons_append,List.nil_append];exact List.Perm.refl _) (fun p hp=>absurd hp FZ) (fun w' hw' _=>hE s cp c ⟨sp,tv,pv,bv,rv,fv,DC,LC⟩ w' hw' hg1 hbk.wf hbk.bk hbk.ts hLl) (fun _ _=>Nat.zero_le _)) rfl ?_
  rintro s' hs'
  dsimp only[aw,ax,List.cons_append,List.nil_append]at hs' ⊢
  repeat'(first|refine ay ?_|(refine aa.y_ (Yl.gC rfl rfl rfl ao F0 F0 hc9) rfl ?_)|fail)
  by_cases he:e=0
  case neg=>
   refine aa.he (HE.aS (M0:=aw cp c ⟨sp,tv,pv,bv,rv,fv,DC,LC⟩) cv rfl rfl (fun w' hw'=>(hac w' (xk (hw'.bT cM (fun _ h=>h)) ao h0 hs0 ao hti hli)).mono fun _ _ h=>h.bad (q:=e) rfl he)) rfl ?_
   rintro _ _
   dsimp only[List.nil_append]
   rw[hgs,if_pos he]
   repeat'(first|refine ay ?_|fail)
   exact ai.gb rfl rfl rfl fun w' hw'=>aq.A2 (x:=s') (fun h=>absurd h he) hw' bN ao
  subst he
  refine aa.he (HE.aS (M0:=aw cp c ⟨sp,tv,pv,bv,rv,fv,DC,LC⟩) cv rfl rfl (fun w' hw'=>(hac w' (xk (hw'.bT cM (fun _ h=>h)) ao h0 hs0 ao hti hli)).mono fun _ _ h=>h.vH rfl)) rfl ?_
  rintro⟨sp7,tv7,pv7,bv7,rv7,fv7,DC7,LC7⟩ hg7
  dsimp only[aw,ax,List.cons_append,List.nil_append]at hg7 ⊢
  rw[if_neg FX]at hgs
  have hps:=(hwf2 rfl).aF.some
  obtain⟨ob,hob⟩:∃b,cE cC.aF=b:=⟨_,rfl⟩
  have hov:=fun w' hw'=>uq sp7 cC.aF (tv7,pv7) w' hw' hps
  rw[hob]at hgs hov
  repeat'(first|refine ay ?_|(refine aa.ak (f:=29) ?_;refine aa.az rfl rfl rfl (fun w' hw'=>da cp ⟨sp7,0,none⟩ w' (hw'.c1 bM F0)) ?_)|fail)
  refine aa.az (v:=.bool ob) rfl rfl rfl (fun w' hw'=>hov w' (hw'.bT (M':=ax sp7 cC.aF (tv7,pv7)) (by dsimp only[ax];rw[hob];exact cM) (fun p hp=>absurd hp FZ))) ?_
  cases ob with
  |true=>
   rw[if_pos rfl]at hgs
   rw[hgs]
   repeat'(first|refine ay ?_|fail)
   exact ai.gb rfl rfl rfl fun w' hw'=>aq.A2 (x:=s') (fun h=>absurd h (show¬((6:Int)=0)by decide)) hw' bN ao
  |false=>
   rw[if_neg FX]at hgs
   repeat'(first|refine ay ?_|fail)
   exact ai.zX (k+1,cC,⟨sp7,tv7,pv7,bv7,rv7,fv7,DC7,LC7⟩,s') bP FC aX ⟨by show k+1≤xs.length;omega,hg7,hnx rfl hob,hgs.symm,by dsimp only;rw[hs',List.append_assoc];exact hL⟩ (by show xs.length - (k+1)<xs.length - k;omega)
theorem tF:wZ (fun _:List (Bool×List Int)=>aU.pack []) id 22 []:=by
 intro s cp c v w hw hg hwf hb hts _
 show Calls G.P 22 #[.pointer (some ⟨cp,0,none⟩)] w _
 refine aj (l:=[_]) Tryz.func22 rfl Tryz.ntmps22 rfl (Ok.bV hw) ?_
 repeat'(first|refine ay ?_|fail)
 all_goals refine ai.km rfl fun w' hw'=>?_
 exact aq.of (M0:=aw cp c v++[aU.pack []]) (w:=w) (tf:=fun _:List (Bool×List Int)=>Value.tuple #[]) (φ:=fun s'=>id s'=id s++[(c.live,c.aF.ts)]) (M1:=fun _=>aw cp c v++[aU.pack []]) (x:=s++[(c.live,c.aF.ts)]) rfl hw' rfl (List.Mem.head _)
def cG (D:Nat→Prop) (w:World) (x:List Value×List (Bool×List Int)):Prop:=x.1.length=x.2.length*2∧∀j,j<x.2.length→∃p c,x.1[j*2]?=some (.bool (ix x.2 j).1)∧x.1[j*2+1]?=some (.slice p (ix x.2 j).2.length c)∧af D w (.slice p (ix x.2 j).2.length c) (ix x.2 j).2
theorem cG.fr:Aj cG:=fun h hc hd=>⟨h.1,fun j hj=>by obtain⟨p,c,a,b,d⟩:=h.2 j hj;exact⟨p,c,a,b,d.aB hc hd⟩⟩
theorem cG.nil (D:Nat→Prop) (w:World):cG D w ([],[]):=⟨rfl,fun _j hj=>absurd hj (Nat.not_lt_zero _)⟩
theorem cG.mono {D H:Nat→Prop} {w:World} {x:List Value×List (Bool×List Int)} (h:cG D w x) (hd:∀k,D k→H k):cG H w x:=⟨h.1,fun j hj=>by obtain⟨p,c,a,b,d⟩:=h.2 j hj;exact⟨p,c,a,b,d.mono fun k _ hk=>hd k hk⟩⟩
theorem cG.snoc {D H:Nat→Prop} {w:World} {tc:List Value} {l:List (Bool×List Int)} (h:cG D w (tc,l)) {b:Bool} {xs:List Int} {p:Option Addr} {c:Nat} (hi:af H w (.slice p xs.length c) xs):cG (fun k=>D k∨H k) w (tc++[Value.bool b,Value.slice p xs.length c],l++[(b,xs)]):=by
 obtain⟨h1,h2⟩:=h
 dsimp only at h1 h2
 refine⟨by simp[h1];omega,fun i hi'=>?_⟩
 dsimp only at hi' ⊢
 by_cases hlt:i<l.length
 ·obtain⟨p',c',e1,e2,e3⟩:=h2 i hlt
  rw[jm hlt]
  exact⟨p',c',by rw[List.getElem?_append_left FY];exact e1,by rw[List.getElem?_append_left FY];exact e2,e3.mono fun _ _ hk=>.inl hk⟩
 ·have e:i=l.length:=by simp at hi';omega
  subst e
  rw[h9 (Nat.le_refl _),Nat.sub_self]
  exact⟨p,c,by rw[List.getElem?_append_right FY];simp[h1,ix],by rw[List.getElem?_append_right FY];simp[h1,ix,show l.length*2+1 - l.length*2=1 by omega],hi.mono fun _ _ hk=>.inr hk⟩
def iS (T:Nat) (lv:Value) (tc:List Value) (D:Nat→Prop) (l:List (Bool×List Int)):List aU:=[.own 0 T 2 lv l.length tc,.iy cG cG.fr D (tc,l)]
structure CL where
 lv:Value
 tc:List Value
 D:Nat→Prop
 l:List (Bool×List Int)
abbrev mQ:Nat:=70
abbrev xe:Nat:=43
def A4 (bx:Nat) (s:CL):aU:=.pack (.aH bx [s.lv] xe::iS mQ s.lv s.tc s.D s.l)
theorem Ok.steps {M M1 M2:List aU} {R:List (World→Prop)} {w:World} {B T m c:Nat} {cs tc:List Value} {D:Nat→Prop} {l:List (Bool×List Int)} {p:Option Addr} (b:Bool) (xs:List Int) (h:Ok M R w)
  (r1:Rm (.own B T 1 (.slice p xs.length c) m cs) M M1) (r2:Rm (.iy cG cG.fr D (tc,l)) M1 M2) (hm:m=xs.length) (hcs:cs=aR xs) (hl:xs.length≤17592186044416):Ok (.iy cG cG.fr (fun k=>D k∨(Value.slice p xs.length c).ownBlock=some k) (tc++[Value.bool b,Value.slice p xs.length c],l++[(b,xs)])::M2) R w:=by
 subst hm;subst hcs
 exact((h.front r1).front (Rm.tail r2)).merge (q:=.iy cG cG.fr (fun k=>D k∨(Value.slice p xs.length c).ownBlock=some k) (tc++[Value.bool b,Value.slice p xs.length c],l++[(b,xs)])) (fun _ hk=>hk) (fun h1 h2=>cG.snoc (b:=b) (p:=p) (c:=c) h1 (dC h2 hl))
set_option maxHeartbeats 16000000 in
theorem uw (bx:Nat):wZ (A4 bx) (fun s=>s.l) 27 [.pointer (some ⟨bx,0,none⟩)]:=by
 rintro⟨lv,tc,D,l⟩ cp c ⟨sp,tv,pv,bv,rv,fv,DC,LC⟩ w hw hg hwf hb hts hll
 dsimp only at hll
 show Calls G.P 27 #[.pointer (some ⟨cp,0,none⟩),.pointer (some ⟨bx,0,none⟩)] w _
 refine aj (l:=[_,_]) Tryz.func27 rfl Tryz.ntmps27 rfl (Ok.bV hw) ?_
 dsimp only[aw,ax,List.cons_append,List.nil_append]
 refine aP.front (q:=A4 bx ⟨lv,tc,D,l⟩) gV ?_
 refine aP.map (fun w' h=>h.unpack) ?_
 dsimp only[iS,List.cons_append,List.nil_append]
 repeat'(first|refine ay ?_|(refine aY ?_ ?_<;>intro hc_))
 refine aP.nI 9 [.aH bx [lv] xe] [] bN aX ?_
 repeat'(first|refine BX ?_|(refine cD.fe 28 ?_;refine cD.he rfl rfl (HE.kl (v:=.bool c.live) rfl rfl (fun w' hw'=>vC cp c ⟨sp,tv,pv,bv,rv,fv,DC,LC⟩ w' ((hw'.bT (M':=aw cp c ⟨sp,tv,pv,bv,rv,fv,DC,LC⟩) cM (fun _ h=>h)).uM (List.Sublist.refl _)) hb)) (fun _=>bN) (fun _=>aX) ?_;rintro⟨⟩ _)|(refine cD.fe 29 ?_;refine cD.he rfl rfl (HE.kl rfl rfl (fun w' hw'=>da cp ⟨sp,0,none⟩ w' (hw'.c1 bM F0))) (fun _=>bN) (fun _=>aX) ?_;rintro⟨⟩ _)|(refine cD.fe 30 ?_;refine cD.he rfl rfl (HE.aS (M0:=[]) k9.nil rfl rfl (fun w' hw'=>wE sp c.aF (tv,pv) w' (hw'.bT cM (fun p hp=>absurd hp FZ)) hwf.aF.some FY)) (fun _=>by dsimp only[List.cons_append,List.nil_append];exact bN) (fun _=>aX) ?_;rintro u _;dsimp only[List.cons_append,List.nil_append];refine cX.pure (φ:=∃p c',u=.slice p c.aF.ts.length c') (fun w' hw'=>?_) ?_;(·obtain⟨p,c',e,_⟩:=au (hw'.own (v:=u));exact⟨p,c',e⟩);rintro⟨pu,cu,rfl⟩)|(refine cD.vL ?_;refine cD.he rfl rfl (HE.mq rfl rfl rfl rfl rfl fS F0 F0) (fun _=>bN) (fun _=>aX) ?_;rintro b3 _)|(refine cD.vK ?_;refine cD.he rfl rfl (HE.app rfl rfl (fun _=>bM) bM rfl rfl rfl F0 F0 F0 F0 F0 F0 FY (fun _ _=>Nat.zero_le _)) (fun _=>bN) (fun _=>aX) ?_;rintro v2 _;refine cX.pure (φ:=v2.oneCell'=true) (fun w' hw'=>fN (hw'.own (v:=v2))) fun hone=>?_)|(refine cD.gR rfl (gI.dZ rfl rfl rfl rfl hone bM lE) ?_;rintro⟨⟩ _)|refine cX.any FR ?_|exact dK.fin rfl|refine dK.skip FR ?_|refine dK.go ?_ ?_)
 all_goals refine ai.km rfl fun w' hw'=>?_
 have h1:=Ok.steps c.live c.aF.ts hw' gV gV rfl rfl FY
 have h2:=h1.bT (M':=(.aH bx [v2] xe::iS mQ v2 (tc++[.bool c.live,.slice pu c.aF.ts.length cu]) (fun k=>D k∨(Value.slice pu c.aF.ts.length cu).ownBlock=some k) (l++[(c.live,c.aF.ts)]))++aw cp c ⟨sp,tv,pv,bv,rv,fv,DC,LC⟩) (by dsimp only[iS,aw,ax,List.cons_append,List.nil_append];rw[show(l++[(c.live,c.aF.ts)]).length=l.length+1 from by simp];exact cM) (fun _ h=>h)
 have h3:=h2.pack
 exact aq.lU (x:=(⟨v2,tc++[.bool c.live,.slice pu c.aF.ts.length cu],fun k=>D k∨(Value.slice pu c.aF.ts.length cu).ownBlock=some k,l++[(c.live,c.aF.ts)]⟩:CL)) rfl rfl h3 (by dsimp only[aw,ax,A4,List.cons_append,List.nil_append];exact cM) ao
theorem Ok.yn {M:List aU} {R:List (World→Prop)} {w:World} (T:Nat) (h:Ok M R w):Ok (iS T (.slice none 0 0) [] (fun _=>False) []++M) R w:=
 (h.push (q:=.iy cG cG.fr (fun _=>False) ([],[])) (bz.refl _ w) (cG.nil _ _) (fun _ hk=>hk.elim)).ia 0 T 2
theorem zz {M:List aU} {R:List (World→Prop)} {w:World} {bx:Nat} (h:Ok (.aH bx [.slice none 0 0] xe::M) R w):Ok (A4 bx ⟨.slice none 0 0,[],fun _=>False,[]⟩::M) R w:=by
 refine Ok.pack (L:=.aH bx [.slice none 0 0] xe::iS mQ (.slice none 0 0) [] (fun _=>False) []) ?_
 have h1:=h.yn mQ
 exact h1.front (q:=.aH bx [.slice none 0 0] xe) (Rm.tail (Rm.tail Rm.head))
def rG (m:ae) (i:Int):Option (List (Bool×List Int)):=if(vw m i).2=0 then some (BQ m i)else none
def xf (T:Nat) (r:Option (List (Bool×List Int))) (w:World):Ending→World→Prop:=fK w (fun z:Value×List Value×(Nat→Prop)=>.tuple #[z.1,.bool r.isSome]) (fun z=>iS T z.1 z.2.1 z.2.2 (r.getD []))
theorem nQ (m:ae) (cs:List Value) (B:Nat) (sv:Value) (i:Int) (w:World) (hm:aD (fun _=>True) w cs m) (hs:aV B m w sv) (h0:dG w) (hB:rJ m):Calls G.P 9 #[.agg cs.toArray,sv,.int .i64 i] w fun e w'=>e=.returned (.tuple #[.int .i64 (vw m i).1,.int .i64 (vw m i).2])∧Ext w w':=by
 have hm0:=hm
 obtain⟨v0,v1,v2,v3,v4,v5,v6,v7,v8,v9,rfl,r0,r1,r2,r3,r4,r5,r6,r7,r8,r9,g0⟩:=hm;obtain⟨p0,c0,rfl,l0⟩:=r0.slice;obtain⟨p1,c1,rfl,l1⟩:=r1.slice;obtain⟨p2,c2,rfl,l2⟩:=r2.slice;obtain⟨p3,c3,rfl,l3⟩:=r3.slice;obtain⟨p4,c4,rfl,l4⟩:=r4.slice;obtain⟨p5,c5,rfl,l5⟩:=r5.slice;obtain⟨p6,c6,rfl,l6⟩:=r6.slice;obtain⟨p7,c7,rfl,l7⟩:=r7.slice;obtain⟨p8,c8,rfl,l8⟩:=r8.slice;obtain⟨p9,c9,rfl,l9⟩:=r9.slice
 refine aj (l:=[_,_,_]) Tryz.func9 rfl Tryz.ntmps9 rfl (Ok.start w) ?_
 repeat'(first|refine ay ?_|(refine br fun b_=>?_)|fail)
 refine aa.map (M':=[aU.pack []]) (R':=[Ext w]) (fun w' hw'=>Ok.pack (L:=[]) (hw'.bT cM aX)) ?_
 refine aa.he (HE.aS (M0:=[aU.pack []]) cv rfl rfl (fun w' hw'=>pU (fun _:List (Bool×List Int)=>aU.pack []) id B m ([Value.slice p0 m.types.length c0,Value.slice p1 m.imports.length c1,Value.slice p2 m.funcs.length c2,Value.slice p3 m.tables.length c3,Value.slice p4 m.bU.length c4,Value.slice p5 m.globals.length c5,Value.slice p6 m.aG.length c6,Value.bool m.aJ,Value.int .i64 m.start,Value.slice p7 m.elems.length c7,Value.slice p8 m.aW.length c8,Value.slice p9 m.bI.length c9]:List Value) sv i _ [] [] w w' hm0 hs h0 hB rfl tF rfl hw')) rfl ?_
 rintro s _
 repeat'(first|refine ay ?_|fail)
 exact ne
theorem nS (m:ae) (cs:List Value) (B:Nat) (sv:Value) (i:Int) (w:World) (hm:aD (fun _=>True) w cs m) (hs:aV B m w sv) (h0:dG w) (hB:rJ m):Calls G.P 12 #[.agg cs.toArray,sv,.int .i64 i] w (xf mQ (rG m i) w):=by
 have hm0:=hm
 obtain⟨v0,v1,v2,v3,v4,v5,v6,v7,v8,v9,rfl,r0,r1,r2,r3,r4,r5,r6,r7,r8,r9,g0⟩:=hm;obtain⟨p0,c0,rfl,l0⟩:=r0.slice;obtain⟨p1,c1,rfl,l1⟩:=r1.slice;obtain⟨p2,c2,rfl,l2⟩:=r2.slice;obtain⟨p3,c3,rfl,l3⟩:=r3.slice;obtain⟨p4,c4,rfl,l4⟩:=r4.slice;obtain⟨p5,c5,rfl,l5⟩:=r5.slice;obtain⟨p6,c6,rfl,l6⟩:=r6.slice;obtain⟨p7,c7,rfl,l7⟩:=r7.slice;obtain⟨p8,c8,rfl,l8⟩:=r8.slice;obtain⟨p9,c9,rfl,l9⟩:=r9.slice
 unfold xf fK rG
 refine aj (l:=[_,_,_]) Tryz.func12 rfl Tryz.ntmps12 rfl (Ok.start w) ?_
 repeat'(first|refine ay ?_|(refine br fun b_=>?_)|(refine aa.gn (t:=xe) ?_;refine aa.alloc (t:=xe) [Value.slice none 0 0] rfl rfl rfl fun b_=>?_)|fail)
 refine aa.map (fun w' hw'=>zz (hw'.bT (M':=[.aH b_ [.slice none 0 0] xe]) (R':=[Ext w]) cM aX)) ?_
 refine aa.he (HE.aS (M0:=[A4 b_ ⟨.slice none 0 0,[],fun _=>False,[]⟩]) cv rfl rfl (fun w' hw'=>by have:=pU (A4 b_) (fun s=>s.l) B m ([Value.slice p0 m.types.length c0,Value.slice p1 m.imports.length c1,Value.slice p2 m.funcs.length c2,Value.slice p3 m.tables.length c3,Value.slice p4 m.bU.length c4,Value.slice p5 m.globals.length c5,Value.slice p6 m.aG.length c6,Value.bool m.aJ,Value.int .i64 m.start,Value.slice p7 m.elems.length c7,Value.slice p8 m.aW.length c8,Value.slice p9 m.bI.length c9]:List Value) sv i _ [.pointer (some ⟨b_,0,none⟩)] ⟨.slice none 0 0,[],fun _=>False,[]⟩ w w' hm0 hs h0 hB rfl (uw b_) rfl hw';exact this)) rfl ?_
 rintro⟨lv,tc,D,l⟩ hl
 dsimp only[List.cons_append,List.nil_append]at hl ⊢
 by_cases he:(vw m i).2=0
 ·have hl':=hl he
  subst hl'
  rw[if_pos he]
  refine aa.map (fun w' h=>h.unpack) ?_
  dsimp only[iS,List.cons_append,List.nil_append]
  repeat'(first|refine ay ?_|fail)
  all_goals exact ai.gb rfl rfl rfl fun w' hw'=>aq.tw (x:=(lv,tc,D)) trivial hw' (by dsimp only[iS,Option.getD];exact bN) ao
 ·rw[if_neg he]
  repeat'(first|refine ay ?_|fail)
  all_goals exact ai.gb rfl rfl rfl fun w' hw'=>aq.tw (x:=(Value.slice none 0 0,[],fun _=>False)) trivial (hw'.yn mQ) (List.sublist_append_left _ _) ao
end Go.Proofs.YtceedealggognaaGreatDoor
