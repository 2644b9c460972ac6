import Derived.Test.YtdkcljdfbemnbaaGreatDoorJUb
namespace Go.Proofs.YtdkcljdfbemnbaaGreatDoor
open Go.RowKit _root_.Go.Proofs.Tryz
set_option maxHeartbeats 8000000
set_option maxRecDepth 100000
def dp (s:ck):Nat→ck×List Int×Int
 |0=>(s,[],0)
 |n+1=>if(aZ s).2.2≠0 then(s,[],(aZ s).2.2)else if(dp (aZ s).1 n).2.2≠0 then((dp (aZ s).1 n).1,[],(dp (aZ s).1 n).2.2)else((dp (aZ s).1 n).1,(dp (aZ s).1 n).2.1++[(aZ s).2.1],0)
def vP (r:ck×List Int×Int) (o:List Int):ck×List Int×Int:=if r.2.2≠0 then(r.1,[],r.2.2)else(r.1,r.2.1++o,0)
theorem xB (s:ck) (k:Nat) (o:List Int):vP (dp s (k+1)) o=if(aZ s).2.2≠0 then(s,[],(aZ s).2.2)else vP (dp (aZ s).1 k) ((aZ s).2.1::o):=by
 rw[dp]
 by_cases h1:(aZ s).2.2≠0
 ·rw[if_pos h1,if_pos h1];unfold vP;rw[if_pos h1]
 ·rw[if_neg h1,if_neg h1]
  by_cases h2:(dp (aZ s).1 k).2.2≠0
  ·rw[if_pos h2];unfold vP;rw[if_pos h2,if_pos h2]
  ·rw[if_neg h2];unfold vP;rw[if_neg h2,if_neg (fun h=>h rfl)]
   show(_,(dp (aZ s).1 k).2.1++[(aZ s).2.1]++o,(0:Int))=_
   rw[List.append_assoc];rfl
theorem aP.map {l:List Oper} {Q:Exit→Act→World→Prop} {Mc:List bu} {Rc:List (World→Prop)} {n fuel:Nat} {listed:Array Bool} {E:Env} {M M':List bu} {R R':List (World→Prop)} (hp:∀w,Ok M R w→Ok M' R' w) (h:aP l Q Mc Rc n fuel listed E M' R'):aP l Q Mc Rc n fuel listed E M R:=⟨fun w hw=>h.h w (hp w hw)⟩
theorem G5 {M:List bu} {R:List (World→Prop)} {up:Option Addr} {uc B:Nat} {o:List Int} (hm:bu.own B fR 1 (.slice up o.length uc) o.length (aY o)∈M) (hup:o.length=0∨∃g,up=some ⟨g,0,none⟩):o.length=0∨∃bk o',up=some ⟨bk,o',none⟩∧∀w',Ok M R w'→∀j u,(aY o)[j]?=some u→w'.cell? ⟨bk,o'+j,none⟩=some u:=by
 rcases hup with h|⟨g,rfl⟩
 ·exact .inl h
 ·refine .inr ⟨g,0,rfl,fun w' hw' j u hj=>?_⟩
  rw[Nat.zero_add]
  exact dP (hw'.m _ hm).1 hj
theorem mQ (s:ck):(aZ s).1.bR=s.bR:=by
 unfold aZ
 split
 ·rfl
 ·split<;>rfl
def A2 (r:ck×List Int×Int) (D:Nat→Prop) (w:World) (x:jT×Value):Prop:=x.1.Sl∧(∃p n c,x.2=.slice p n c)∧(r.2.2=0→bw r.1 D w x.1∧ai D w x.2 r.2.1)
variable (c:dv) {l ts:List Int} {s:ck} (r:ck×List Int×Int)
theorem A2.fr:vJ (A2 r):=fun h hc hd=>⟨h.1,h.2.1,fun e=>⟨bw.fr _ (h.2.2 e).1 hc hd,(h.2.2 e).2.aN hc hd⟩⟩
theorem A2.lt:Ey (A2 r):=fun h=>⟨h.1,h.2.1,fun e=>⟨bw.lt _ (h.2.2 e).1,(h.2.2 e).2.mono fun _ hk hd=>⟨hd,hk⟩⟩⟩
theorem A2.mo:zb (A2 r):=fun hd h=>⟨h.1,h.2.1,fun e=>⟨bw.mono (h.2.2 e).1 hd,(h.2.2 e).2.mono fun k _ hk=>hd k hk⟩⟩
theorem BS (F:Nat→Prop) (s:ck) (y:jT) (n:Nat) (w:World) (h:bw s F w y) (hs:s.Wf) (_hn:n≤17592186044415):Calls G.P 119 #[.agg (gw s y).toArray,.int .i64 n] w (bD (A2 (dp s n)) (fun x=>.tuple #[.agg #[x.1.l,x.1.m,x.1.o,.int .i64 s.bR],x.2,.int .i64 (dp s n).2.2]) F w):=by
 obtain⟨p1,c1,p2,c2,p3,c3,rfl,k1,k2,k3⟩:=h.gx
 refine ae (l:=[_,_]) func119 rfl ntmps119 rfl (Ok.fg (V:=bw s) (bw.fr s) (bw.lt s) h) ?_
 dsimp only[gw]
 refine ar ?_
 refine aa.box [.slice p1 s.ts.length c1,.slice p2 s.ps.length c2,.slice p3 s.ps.length c3,.int .i64 s.bR] rfl rfl rfl fun b2=>?_
 repeat'(first|refine ar ?_|(refine NY fun b_=>?_)|fail)
 obtain⟨b4,rfl⟩:∃y:Nat,y=b_:=⟨_,rfl⟩
 refine bh.iP 0 fR 1 ?_
 refine bh.loop (σ:=Nat×ck×List Int×(Nat→Prop)×Option Addr×Nat×Option Addr×Nat×Option Addr×Nat×Option Addr×Nat) (fun q=>[(1,.int .i64 n),(2,.pointer (some ⟨b2,0,none⟩)),(4,.pointer (some ⟨b4,0,none⟩)),(7,.slice q.2.2.2.2.1 q.2.2.1.length q.2.2.2.2.2.1),(8,.int .i64 q.1)])
  (fun q=>[.own 0 fR 1 (.slice q.2.2.2.2.1 q.2.2.1.length q.2.2.2.2.2.1) q.2.2.1.length (aY q.2.2.1),.aW b4 [.slice none 0 0,.slice none 0 0,.slice none 0 0,.int .i64 0] nZ,.aW b2 [.slice q.2.2.2.2.2.2.1 q.2.1.ts.length q.2.2.2.2.2.2.2.1,.slice q.2.2.2.2.2.2.2.2.1 q.2.1.ps.length q.2.2.2.2.2.2.2.2.2.1,.slice q.2.2.2.2.2.2.2.2.2.2.1 q.2.1.ps.length q.2.2.2.2.2.2.2.2.2.2.2,.int .i64 s.bR] nZ,bu.an (bw q.2.1) w F q.2.2.2.1 ⟨.slice q.2.2.2.2.2.2.1 q.2.1.ts.length q.2.2.2.2.2.2.2.1,.slice q.2.2.2.2.2.2.2.2.1 q.2.1.ps.length q.2.2.2.2.2.2.2.2.2.1,.slice q.2.2.2.2.2.2.2.2.2.2.1 q.2.1.ps.length q.2.2.2.2.2.2.2.2.2.2.2⟩])
  (fun _=>[Ext w]) (fun q=>q.1≤n∧q.2.1.Wf∧q.2.1.bR=s.bR∧q.2.2.1.length=q.1∧dp s n=vP (dp q.2.1 (n - q.1)) q.2.2.1) (fun q=>n - q.1) (0,s,[],(fun _=>False),none,0,p1,c1,p2,c2,p3,c3) bH ?_ aU ⟨Nat.zero_le _,hs,rfl,rfl,?_⟩ ?_
 ·dsimp only
  exact bz
 ·dsimp only
  rw[Nat.sub_zero]
  unfold vP
  by_cases he:(dp s n).2.2≠0
  ·rw[if_pos he]
   cases n with
   |zero=>exact absurd rfl he
   |succ n=>
    rw[dp]at he ⊢
    by_cases h1:(aZ s).2.2≠0
    ·rw[if_pos h1]
    ·rw[if_neg h1]at he ⊢
     by_cases h2:(dp (aZ s).1 n).2.2≠0
     ·rw[if_pos h2]
     ·rw[if_neg h2]at he;exact absurd rfl he
  ·rw[if_neg he,List.append_nil]
   have:(dp s n).2.2=0:=Classical.byContradiction he
   rw[←this]
 rintro⟨i,s1,o,D1,up,uc,q1,d1,q2,d2,q3,d3⟩ ⟨hi,wf1,hms,ho,hpk⟩
 dsimp only at hi wf1 hms ho hpk ⊢
 by_cases hin:i<n
 ·have hk:n - i=(n - (i+1))+1:=by omega
  rw[hk,xB]at hpk
  repeat'(first|refine ar ?_|(refine NY fun b_=>?_)|fail)
  refine aa.he (HE.bV (V:=bw s1) (V2:=bw (aZ s1).1) (tf:=fun y=>.tuple #[.agg #[y.l,y.m,y.o,.int .i64 s.bR],.int .i64 (aZ s1).2.1,.int .i64 (aZ s1).2.2]) (w0:=w) (F:=F) (D:=D1) (y:=⟨.slice q1 s1.ts.length d1,.slice q2 s1.ps.length d2,.slice q3 s1.ps.length d3⟩) (bw.fr _) (bw.lt _) (bw.mo _) ak bO (fun _=>aH) rfl rfl (fun w' _ hh=>by have:=kK _ s1 ⟨.slice q1 s1.ts.length d1,.slice q2 s1.ps.length d2,.slice q3 s1.ps.length d3⟩ w' hh wf1.some wf1.at_.1;unfold gw at this;rw[mQ,hms]at this;exact this)) rfl ?_
  rintro⟨D2,x2⟩ _
  obtain⟨pr,hpr⟩:∃r,aZ s1=r:=⟨_,rfl⟩
  have zf:(aZ s1).1.Wf:=jm wf1
  have hm2:(aZ s1).1.bR=s.bR:=by rw[mQ,hms]
  rw[hpr]at hpk zf hm2 ⊢
  obtain⟨s2,a,e⟩:=pr
  dsimp only at hpk zf hm2 ⊢
  refine aa.pure (φ:=∃q1 d1 q2 d2 q3 d3,x2=⟨.slice q1 s2.ts.length d1,.slice q2 s2.ps.length d2,.slice q3 s2.ps.length d3⟩) (fun w' hw'=>by obtain⟨q1,d1,q2,d2,q3,d3,e,-⟩:=(hw'.an (V:=bw s2) (w0:=w) (F:=F) (D:=D2) (y:=x2) ak bO).gx;exact⟨q1,d1,q2,d2,q3,d3,e⟩) ?_
  rintro⟨r1,l1,r2,l2,r3,l3,rfl⟩
  dsimp only
  by_cases he:e=0
  ·subst he
   rw[if_neg (fun h=>h rfl)]at hpk
   refine aa.pure (φ:=o.length=0∨∃g,up=some ⟨g,0,none⟩) (fun w' hw'=>?_) ?_
   ·obtain⟨p,c,e,_,_,hg⟩:=aw (hw'.own (B:=0) (T:=fR) (v:=.slice up o.length uc))
    cases e
    rcases Nat.eq_zero_or_pos o.length with h0|h0
    ·exact .inl h0
    ·obtain⟨g,hg,_⟩:=hg h0;exact .inr ⟨g,hg⟩
   intro hup
   repeat'(first|refine ar ?_|(refine NY fun b_=>?_)|fail)
   obtain⟨b9,rfl⟩:∃y:Nat,y=b_:=⟨_,rfl⟩
   simp only[List.getElem_toArray,List.getElem_cons_succ,List.getElem_cons_zero]
   refine bh.cI [.aW b9 [.slice r1 s2.ts.length l1,.slice r2 s2.ps.length l2,.slice r3 s2.ps.length l3,.int .i64 s.bR] nZ] [Ext w] bz aU ?_
   repeat'(first|refine pN ?_|(refine ax.lD ?_;refine ax.he rfl rfl (HE.jG rfl rfl rfl rfl rfl er Pk Pk) (fun _=>bz) (fun _=>aU) ?_;rintro bl _;refine aP.map (fun w' hw'=>hw'.jN (b:=bl) (len:=1) (s:=1) aH rfl O4) ?_)|(refine ax.rr ?_;refine ax.he rfl rfl (HE.gR (aY o) rfl rfl (fun _=>aH) (G5 (B:=0) (uc:=uc) bO hup) Pg rfl rfl rfl Pk Pk Pk (fj _) (by show(1+o.length)*8≤_;omega) Pi (fun _ _=>Nat.zero_le _)) (fun _=>bz) (fun _=>aU) ?_;rintro v9 _;refine aP.pure (φ:=∃p cc,v9=.slice p (1+o.length) cc) (fun w' hw'=>by obtain⟨p,cc,e,_⟩:=aw (hw'.own (v:=v9));exact⟨p,cc,e⟩) ?_;rintro⟨up2,uc2,rfl⟩;simp only[Nat.add_comm 1 o.length])|(refine ax.nj ?_;refine ax.jO rfl (gj.bn _ rfl rfl rfl rfl rfl rfl aH rfl) (fun _=>bz) (fun _=>aU) ?_;rintro⟨⟩ _)|refine aP.nil O9 ?_|refine aP.any O9 ?_|exact aB.fin rfl|refine aB.skip O9 ?_|refine aB.go ?_ ?_)
   all_goals
    repeat'(first|refine ar ?_|fail)
    exact ah.next (i+1,s2,a::o,D2,up2,uc2,r1,l1,r2,l2,r3,l3) bH bz aU ⟨by dsimp only;omega,zf,hm2,by simp[ho],hpk⟩ O6
  ·rw[if_pos he]at hpk
   rw[hpk]
   repeat'(first|refine ar ?_|(refine NY fun b_=>?_)|fail)
   all_goals first|omega|skip
   refine M5 ?_
   exact fun w' hw'=>⟨⟨(⟨.slice q1 s1.ts.length d1,.slice q2 s1.ps.length d2,.slice q3 s1.ps.length d3⟩,.slice none 0 0),rfl,jT.Sl.mk ..,⟨_,_,_,rfl⟩,fun h=>absurd h he⟩,hw'.at⟩
 ·obtain rfl:i=n:=by omega
  have hf:dp s i=(s1,o,0):=by rw[hpk,Nat.sub_self];rfl
  rw[hf]
  repeat'(first|refine ar ?_|(refine NY fun b_=>?_)|fail)
  refine M5 ?_
  exact fun w' hw'=>⟨⟨(⟨.slice q1 s1.ts.length d1,.slice q2 s1.ps.length d2,.slice q3 s1.ps.length d3⟩,.slice up o.length uc),rfl,jT.Sl.mk ..,⟨_,_,_,rfl⟩,fun _=>⟨hw'.new (V:=bw s1) (w:=w) (F:=F) (D:=D1) (bw.mo _) ak bO,ou (F:=F) o hw' ak bO rfl rfl Pi⟩⟩,hw'.at⟩
def oh (l ts:List Int):Bool:=(List.range (min l.length ts.length)).all fun i=>decide (ix l i=0∨ix l i=ix ts i)
theorem pX (h:∀i,i<l.length→i<ts.length→ix l i=0∨ix l i=ix ts i):oh l ts=true:=by
 unfold oh
 rw[List.all_eq_true]
 intro i hi
 rw[List.mem_range]at hi
 exact decide_eq_true (h i Pi Pi)
theorem rW {i:Nat} (_h1:i<l.length) (_h2:i<ts.length) (h:¬(ix l i=0∨ix l i=ix ts i)):oh l ts=false:=by
 unfold oh
 rw[List.all_eq_false]
 exact⟨i,List.mem_range.2 Pi,by rw[decide_eq_false h];simp⟩
theorem BR (F F':Nat→Prop) (l ts:List Int) (v u:Value) (w:World) (h:ai F w v l) (h':ai F' w u ts):Calls G.P 120 #[v,u] w fun e w'=>e=.returned (.bool (oh l ts))∧Ext w w':=by
 obtain⟨p,c,rfl,hl⟩:=h.slice
 obtain⟨q,d,rfl,hl'⟩:=h'.slice
 refine ae (l:=[_,_]) func120 rfl ntmps120 rfl (Ok.start w) ?_
 repeat'(first|refine ar ?_|fail)
 refine bh.loop (σ:=Nat) (fun j=>[(0,.slice p l.length c),(1,.slice q ts.length d),(5,.int .i64 j)]) (fun _=>[]) (fun _=>[Ext w]) (fun j=>j≤l.length∧∀i,i<j→i<ts.length→ix l i=0∨ix l i=ix ts i) (fun j=>l.length - j) 0 bH bz aU ⟨by omega,fun i hi=>absurd hi Pi⟩ ?_
 rintro j ⟨hj,hok⟩
 by_cases hjl:j<l.length
 ·by_cases hjt:j<ts.length
  ·obtain⟨b7,o7,rfl,-,hc⟩:=h.at hjl
   obtain⟨b8,o8,rfl,-,hc'⟩:=h'.at hjt
   have hcj:=hc j hjl
   have hcj':=hc' j hjt
   have hstep:(ix l j=0∨ix l j=ix ts j)→∀i,i<j+1→i<ts.length→ix l i=0∨ix l i=ix ts i:=fun hs i hi hi2=>by
    rcases Nat.lt_or_ge i j with hlt|hge
    ·exact hok i hlt hi2
    ·have:i=j:=by omega
     subst this;exact hs
   by_cases h0:ix l j=0
   ·repeat'(first|refine ar ?_|fail)
    all_goals first|omega|exact ah.next (j+1) bH bz aU ⟨by omega,hstep (.inl h0)⟩ Pi
   ·by_cases he:ix l j=ix ts j
    ·repeat'(first|refine ar ?_|fail)
     all_goals first|omega|exact ah.next (j+1) bH bz aU ⟨by omega,hstep (.inr he)⟩ Pi
    ·repeat'(first|refine ar ?_|fail)
     all_goals first|omega|exact ah.aG rfl rfl fun w' hw'=>⟨by rw[rW hjl hjt (fun h=>h.elim h0 he)],hw'.at⟩
  ·repeat'(first|refine ar ?_|fail)
   all_goals first|omega|exact ah.aG rfl rfl fun w' hw'=>⟨by rw[pX (fun i hi hi2=>hok i Pi hi2)],hw'.at⟩
 ·repeat'(first|refine ar ?_|fail)
  all_goals first|omega|exact ah.aG rfl rfl fun w' hw'=>⟨by rw[pX (fun i hi hi2=>hok i Pi hi2)],hw'.at⟩
def eY (c:gA) (n:Int):List Int×Int:=if n<0∨c.fs.length≤n then([],15)else(if(ix c.fs (c.fs.length - 1 - n.toNat)).op=3 then(ix c.fs (c.fs.length - 1 - n.toNat)).par else(ix c.fs (c.fs.length - 1 - n.toNat)).res,0)
theorem rz (n:Int) (hb:c.broken=0) (hk:c.Ok):cT c n=eY (bP c) n:=Fo c n hb hk
def fP (kU:Int→List Int×Int):List Int→List (List Int)×Int
 |[]=>([],0)
 |n::r=>if(kU n).2≠0 then([],(kU n).2)else if(fP kU r).2≠0 then([],(fP kU r).2)else((kU n).1::(fP kU r).1,0)
theorem vD {kU:Int→List Int×Int}:∀{ls:List Int} {i:Nat},i<ls.length→(∀j,j<i→(kU (ix ls j)).2=0)→(kU (ix ls i)).2≠0→fP kU ls=([],(kU (ix ls i)).2)
 |[],i,h,_,_=>by simp at h
 |n::r,0,_,_,h2=>by
  have e:ix (n::r) 0=n:=rfl
  rw[e]at h2 ⊢
  unfold fP;rw[if_pos h2]
 |n::r,i+1,h,h1,h2=>by
  have e:ix (n::r) (i+1)=ix r i:=by simp[ix]
  have e0:(kU n).2=0:=h1 0 Pi
  rw[e]at h2 ⊢
  have:=vD (kU:=kU) (ls:=r) (i:=i) Pa (fun j hj=>by have:=h1 (j+1) Pi;simpa[ix]using this) h2
  unfold fP;rw[if_neg (by simp[e0]),this,if_pos h2]
theorem xL {kU:Int→List Int×Int}:∀{ls:List Int},(∀j,j<ls.length→(kU (ix ls j)).2=0)→fP kU ls=(ls.map fun n=>(kU n).1,0)
 |[],_=>rfl
 |n::r,h=>by
  have e0:(kU n).2=0:=h 0 Pj
  have:=xL (kU:=kU) (ls:=r) (fun j hj=>by have:=h (j+1) (by simpa using hj);simpa[ix]using this)
  unfold fP;rw[if_neg (by simp[e0]),this];simp
theorem yZ {a b:Int→List Int×Int} (h:∀n,a n=b n) (ls:List Int):fP a ls=fP b ls:=by rw[show a=b from funext h]
def fM (rows:List (List Int)) (s:ck):ck×Int:=
 if(rows.all fun l=>decide (l.length=(ix rows (rows.length - 1)).length))=false then(s,12)
 else if(aL s [1]).2≠0 then(s,(aL s [1]).2)
 else if(dp (aL s [1]).1 (ix rows (rows.length - 1)).length).2.2≠0 then(s,(dp (aL s [1]).1 (ix rows (rows.length - 1)).length).2.2)
 else if(rows.all fun l=>oh (dp (aL s [1]).1 (ix rows (rows.length - 1)).length).2.1 l)=false then(s,12)
 else((dp (aL s [1]).1 (ix rows (rows.length - 1)).length).1,0)
def fw (c:gA) (x:cv):gA×Int:=
 if(fP (eY c) (x.labels++[x.a])).2≠0 then(c,(fP (eY c) (x.labels++[x.a])).2)
 else if(fM (fP (eY c) (x.labels++[x.a])).1 c.ao).2≠0 then(c,(fM (fP (eY c) (x.labels++[x.a])).1 c.ao).2)
 else(gk {c with ao:=(fM (fP (eY c) (x.labels++[x.a])).1 c.ao).1},0)
def dN (c:dv) (x:cv):ck×Int:=
 if(fP (cT c) (x.labels++[x.a])).2≠0 then(c.ao,(fP (cT c) (x.labels++[x.a])).2)
 else fM (fP (cT c) (x.labels++[x.a])).1 c.ao
def jx (c:dv) (x:cv):dv×Int:=if(dN c x).2≠0 then(c,(dN c x).2)else(iG {c with ao:=(dN c x).1},0)
theorem zB (x:cv) (hb:c.broken=0) (hk:c.Ok):(jx c x).2=(fw (bP c) x).2∧((jx c x).2=0→bP (jx c x).1=(fw (bP c) x).1):=by
 have ht:=yZ (fun n=>rz c n hb hk) (x.labels++[x.a])
 unfold jx dN fw
 rw[ht]
 obtain⟨t,hT⟩:∃t,fP (eY (bP c)) (x.labels++[x.a])=t:=⟨_,rfl⟩
 rw[hT]
 have hs:(bP c).ao=c.ao:=rfl
 rw[hs]
 by_cases h1:t.2≠0
 ·simp only[if_pos h1];exact⟨trivial,fun h=>absurd h h1⟩
 ·simp only[if_neg h1]
  by_cases h2:(fM t.1 c.ao).2≠0
  ·simp only[if_pos h2];exact⟨trivial,fun h=>absurd h h2⟩
  ·simp only[if_neg h2]
   exact⟨trivial,fun _=>by rw[ya {c with ao:=(fM t.1 c.ao).1} hb,Az]⟩
theorem xu {s:ck}:∀(a b:List Int) (n:Nat),eV s (a++b) n=if(eV s a n).2=0 then eV s b (eV s a n).1 else(0,(eV s a n).2)
 |[],b,n=>by simp[eV]
 |x::r,b,n=>by
  have ih:=xu (s:=s) r b
  simp only[List.cons_append,eV]
  split
  ·split
   ·exact ih n
   ·simp
  ·split
   ·simp
   ·exact ih (n - 1)
theorem pZ {s:ck} {k:Nat} (h0:0≤s.at_):∀(l:List Int) (n:Nat),n≤k→k≤s.ts.length→s.at_≤n→eV {s with ts:=s.ts.take k} l n=eV s l n
 |[],n,_,_,_=>rfl
 |x::r,n,h,hk,ha=>by
  have e2:({s with ts:=s.ts.take k}:ck).at_=s.at_:=rfl
  have e3:({s with ts:=s.ts.take k}:ck).loose=s.loose:=rfl
  rw[eV,eV,e2,e3]
  by_cases hat:(n:Int)=s.at_
  ·rw[if_pos hat,if_pos hat,pZ h0 r n h hk ha]
  ·have e4:ix (s.ts.take k) (n - 1)=ix s.ts (n - 1):=by
    rw[cz OZ,cz Pi];simp
   rw[if_neg hat,if_neg hat]
   dsimp only
   rw[e4,pZ h0 r (n - 1) Pi hk Pi]
theorem Cj (h:s.Wf) (l:List Int) (x:Int):aL s (l++[x])=if(aL s [x]).2≠0 then(s,(aL s [x]).2)else if(aL (aL s [x]).1 l).2≠0 then(s,(aL (aL s [x]).1 l).2)else aL (aL s [x]).1 l:=by
 have hat:=h.at_.2
 have h0:=h.at_.1
 unfold aL
 rw[List.reverse_append,show([x]:List Int).reverse=[x]from rfl,xu]
 obtain⟨r,hr⟩:∃r,eV s [x] s.ts.length=r:=⟨_,rfl⟩
 have hb:=jK (s:=s) [x] s.ts.length Pi
 rw[hr]at hb ⊢
 by_cases he:r.2=0
 ·obtain⟨h1,h2⟩:=hb he
  have e1:(s.ts.take r.1).length=r.1:=by rw[List.length_take];omega
  have e5:=pZ (k:=r.1) h0 l.reverse r.1 (Nat.le_refl _) h2 h1
  simp only[if_pos he,e1,e5,ne_eq,not_true_eq_false,if_false]
  obtain⟨q,hq⟩:∃q,eV s l.reverse r.1=q:=⟨_,rfl⟩
  have hb2:=jK (s:=s) l.reverse r.1 h1
  rw[hq]at hb2 ⊢
  by_cases he2:q.2=0
  ·have:=hb2 he2
   simp only[if_pos he2,not_true_eq_false,if_false]
   rw[List.take_take,Nat.min_eq_left this.2]
  ·simp[he2]
 ·simp[he]
def ck.Fit (s:ck):Prop:=s.ts.length≤s.bR
theorem BK (h:s.Fit):aS s []=s:=by
 unfold aS
 have:max s.bR (s.ts.length+([]:List Int).length)=s.bR:=Nat.max_eq_left (by unfold ck.Fit at h;simpa using h)
 rw[this,List.append_nil]
theorem mR (s:ck) (l:List Int):(aS s l).Fit:=by
 show(s.ts++l).length≤max s.bR (s.ts.length+l.length)
 rw[List.length_append];exact Nat.le_max_right ..
theorem kN (h:s.Fit) (l:List Int):(aL s l).1.Fit:=by
 have:=h;clear this
 have h1:=dD s l
 have h2:(aL s l).1.bR=s.bR:=by unfold aL;dsimp only;split<;>rfl
 unfold ck.Fit at*;omega
theorem ug (h:s.Fit):(aZ s).1.Fit:=by
 have:=h;clear this
 have h1:=jM s
 have h2:=mQ s
 unfold ck.Fit at*;omega
theorem GA (h:s.Wf) (l:List Int):(fU s ⟨l++[1],l⟩).2=(if(aL s [1]).2≠0 then(s,(aL s [1]).2)else fU (aL s [1]).1 ⟨l,l⟩).2∧((fU s ⟨l++[1],l⟩).2=0→(fU s ⟨l++[1],l⟩).1=(if(aL s [1]).2≠0 then(s,(aL s [1]).2)else fU (aL s [1]).1 ⟨l,l⟩).1):=by
 unfold fU
 dsimp only
 rw[Cj h]
 obtain⟨a,ha⟩:∃a,aL s [1]=a:=⟨_,rfl⟩
 rw[ha]
 by_cases h1:a.2≠0
 ·simp only[if_pos h1];exact⟨trivial,fun h=>absurd h h1⟩
 ·simp only[if_neg h1]
  obtain⟨b,hb⟩:∃b,aL a.1 l=b:=⟨_,rfl⟩
  rw[hb]
  by_cases h2:b.2≠0
  ·simp only[if_pos h2];exact⟨trivial,fun h=>absurd h h2⟩
  ·simp only[if_neg h2];exact⟨trivial,fun _=>trivial⟩
theorem DH {c:gA} (hf:c.ao.Fit) (l:List Int):lV c l 0=if(aL c.ao l).2≠0 then(c,(aL c.ao l).2)else(gk {c with ao:=(aL c.ao l).1},0):=by
 unfold lV kh fU
 dsimp only
 rw[if_neg Ph]
 by_cases h1:(aL c.ao l).2≠0
 ·simp only[if_pos h1]
 ·simp only[if_neg h1]
  rw[if_neg Ph,BK (kN hf l)]
end Go.Proofs.YtdkcljdfbemnbaaGreatDoor
