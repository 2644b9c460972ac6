/- The reference of layer 23: pops. Printed by gen_ua.py. -/
import Derived.Test.YtgbgnipidakdhaaGreatDoorJLz
import Derived.Test.YtgbgnipidakdhaaGreatDoorJRg
import Derived.Test.YtgbgnipidakdhaaGreatDoorJLv
namespace Go.Proofs.YtgbgnipidakdhaaGreatDoor
open Go.RowKit
set_option maxRecDepth 100000
def cV (s:bP):Nat→bP×List Int×Int
 |0=>(s,[],0)
 |n+1=>if(aU s).2.2≠0 then(s,[],(aU s).2.2)else if(cV (aU s).1 n).2.2≠0 then((cV (aU s).1 n).1,[],(cV (aU s).1 n).2.2)else((cV (aU s).1 n).1,(cV (aU s).1 n).2.1++[(aU s).2.1],0)
def ud (r:bP×List Int×Int) (o:List Int):bP×List Int×Int:=if r.2.2≠0 then(r.1,[],r.2.2)else(r.1,r.2.1++o,0)
theorem uL (s:bP) (k:Nat) (o:List Int):ud (cV s (k+1)) o=if(aU s).2.2≠0 then(s,[],(aU s).2.2)else ud (cV (aU s).1 k) ((aU s).2.1::o):=by
 rw[cV]
 by_cases h1:(aU s).2.2≠0
 ·rw[if_pos h1,if_pos h1];unfold ud;rw[if_pos h1]
 ·rw[if_neg h1,if_neg h1]
  by_cases h2:(cV (aU s).1 k).2.2≠0
  ·rw[if_pos h2];unfold ud;rw[if_pos h2,if_pos h2]
  ·rw[if_neg h2];unfold ud;rw[if_neg h2,if_neg (fun h=>h rfl)]
   show(_,(cV (aU s).1 k).2.1++[(aU s).2.1]++o,(0:Int))=_
   rw[List.append_assoc];rfl
theorem aP.map {l:List Oper} {Q:Exit→Act→World→Prop} {Mc:List a8} {Rc:List (World→Prop)} {n fuel:Nat} {listed:Array Bool} {E:Env} {M M':List a8} {R R':List (World→Prop)} (hp:∀w,Ok M R w→Ok M' R' w) (h:aP l Q Mc Rc n fuel listed E M' R'):aP l Q Mc Rc n fuel listed E M R:=⟨fun w hw=>h.h w (hp w hw)⟩
theorem Dx {M:List a8} {R:List (World→Prop)} {up:Option Addr} {uc B:Nat} {o:List Int} (hm:a8.own B fY 1 (.slice up o.length uc) o.length (aX o)∈M) (hup:o.length=0∨∃g,up=some ⟨g,0,none⟩):o.length=0∨∃bk o',up=some ⟨bk,o',none⟩∧∀w',Ok M R w'→∀j u,(aX o)[j]?=some u→w'.cell? ⟨bk,o'+j,none⟩=some u:=by
 rcases hup with h|⟨g,rfl⟩
 ·exact .inl h
 ·refine .inr ⟨g,0,rfl,fun w' hw' j u hj=>?_⟩
  rw[Nat.zero_add]
  exact dP (hw'.m _ hm).1 hj
theorem kV (s:bP):(aU s).1.bH=s.bH:=by
 unfold aU
 split
 ·rfl
 ·split<;>rfl
def zD (r:bP×List Int×Int) (D:Nat→Prop) (w:World) (x:jq×Value):Prop:=x.1.Sl∧(∃p n c,x.2=.slice p n c)∧(r.2.2=0→aY r.1 D w x.1∧af D w x.2 r.2.1)
theorem zD.fr (r:bP×List Int×Int):tp (zD r):=fun h hc hd=>⟨h.1,h.2.1,fun e=>⟨aY.fr _ (h.2.2 e).1 hc hd,(h.2.2 e).2.aO hc hd⟩⟩
theorem zD.lt (r:bP×List Int×Int):BK (zD r):=fun h=>⟨h.1,h.2.1,fun e=>⟨aY.lt _ (h.2.2 e).1,(h.2.2 e).2.mono fun _ hk hd=>⟨hd,hk⟩⟩⟩
theorem zD.mo (r:bP×List Int×Int):vP (zD r):=fun hd h=>⟨h.1,h.2.1,fun e=>⟨aY.mono (h.2.2 e).1 hd,(h.2.2 e).2.mono fun k _ hk=>hd k hk⟩⟩
set_option maxHeartbeats 8000000 in
theorem yV (F:Nat→Prop) (s:bP) (y:jq) (n:Nat) (w:World) (h:aY s F w y) (hs:s.Wf) (hn:n≤17592186044415):Calls G.P 121 #[.agg (fI s y).toArray,.int .i64 n] w (bg (zD (cV s n)) (fun x=>.tuple #[.agg #[x.1.l,x.1.m,x.1.o,.int .i64 s.bH],x.2,.int .i64 (cV s n).2.2]) F w):=by
 obtain⟨p1,c1,p2,c2,p3,c3,rfl,k1,k2,k3⟩:=h.fP
 refine ae (l:=[_,_]) Tryz.func121 rfl Tryz.ntmps121 rfl (Ok.eI (V:=aY s) (aY.fr s) (aY.lt s) h) ?_
 dsimp only[fI]
 refine ar ?_
 refine aa.box [.slice p1 s.ts.length c1,.slice p2 s.ps.length c2,.slice p3 s.ps.length c3,.int .i64 s.bH] rfl rfl rfl fun b2=>?_
 repeat'(first|refine ar ?_|(refine KR fun b_=>?_)|fail)
 obtain⟨b4,rfl⟩:∃y:Nat,y=b_:=⟨_,rfl⟩
 refine aZ.ji 0 fY 1 ?_
 refine aZ.loop (σ:=Nat×bP×List Int×(Nat→Prop)×Option Addr×Nat×Option Addr×Nat×Option Addr×Nat×Option Addr×Nat) (fun q=>[(1,.int .i64 n),(2,.pointer (some ⟨b2,0,none⟩)),(4,.pointer (some ⟨b4,0,none⟩)),(7,.slice q.2.2.2.2.1 q.2.2.1.length q.2.2.2.2.2.1),(8,.int .i64 q.1)])
  (fun q=>[.own 0 fY 1 (.slice q.2.2.2.2.1 q.2.2.1.length q.2.2.2.2.2.1) q.2.2.1.length (aX q.2.2.1),.aT b4 [.slice none 0 0,.slice none 0 0,.slice none 0 0,.int .i64 0] mJ,.aT b2 [.slice q.2.2.2.2.2.2.1 q.2.1.ts.length q.2.2.2.2.2.2.2.1,.slice q.2.2.2.2.2.2.2.2.1 q.2.1.ps.length q.2.2.2.2.2.2.2.2.2.1,.slice q.2.2.2.2.2.2.2.2.2.2.1 q.2.1.ps.length q.2.2.2.2.2.2.2.2.2.2.2,.int .i64 s.bH] mJ,a8.an (aY q.2.1) w F q.2.2.2.1 ⟨.slice q.2.2.2.2.2.2.1 q.2.1.ts.length q.2.2.2.2.2.2.2.1,.slice q.2.2.2.2.2.2.2.2.1 q.2.1.ps.length q.2.2.2.2.2.2.2.2.2.1,.slice q.2.2.2.2.2.2.2.2.2.2.1 q.2.1.ps.length q.2.2.2.2.2.2.2.2.2.2.2⟩])
  (fun _=>[Ext w]) (fun q=>q.1≤n∧q.2.1.Wf∧q.2.1.bH=s.bH∧q.2.2.1.length=q.1∧cV s n=ud (cV q.2.1 (n - q.1)) q.2.2.1) (fun q=>n - q.1) (0,s,[],(fun _=>False),none,0,p1,c1,p2,c2,p3,c3) bJ ?_ aV ⟨Nat.zero_le _,hs,rfl,rfl,?_⟩ ?_
 ·dsimp only
  exact bc
 ·dsimp only
  rw[Nat.sub_zero]
  unfold ud
  by_cases he:(cV s n).2.2≠0
  ·rw[if_pos he]
   cases n with
   |zero=>exact absurd rfl he
   |succ n=>
    rw[cV]at he ⊢
    by_cases h1:(aU s).2.2≠0
    ·rw[if_pos h1]
    ·rw[if_neg h1]at he ⊢
     by_cases h2:(cV (aU s).1 n).2.2≠0
     ·rw[if_pos h2]
     ·rw[if_neg h2]at he;exact absurd rfl he
  ·rw[if_neg he,List.append_nil]
   have:(cV s n).2.2=0:=Classical.byContradiction he
   rw[←this]
 rintro⟨i,s1,o,D1,up,uc,q1,d1,q2,d2,q3,d3⟩ ⟨hi,wf1,hms,ho,hpk⟩
 dsimp only at hi wf1 hms ho hpk ⊢
 by_cases hin:i<n
 ·have hk:n - i=(n - (i+1))+1:=by omega
  rw[hk,uL]at hpk
  repeat'(first|refine ar ?_|(refine KR fun b_=>?_)|fail)
  refine aa.he (HE.bF (V:=aY s1) (V2:=aY (aU s1).1) (tf:=fun y=>.tuple #[.agg #[y.l,y.m,y.o,.int .i64 s.bH],.int .i64 (aU s1).2.1,.int .i64 (aU s1).2.2]) (w0:=w) (F:=F) (D:=D1) (y:=⟨.slice q1 s1.ts.length d1,.slice q2 s1.ps.length d2,.slice q3 s1.ps.length d3⟩) (aY.fr _) (aY.lt _) (aY.mo _) ak bG (fun _=>aA) rfl rfl (fun w' _ hh=>by have:=jU _ s1 ⟨.slice q1 s1.ts.length d1,.slice q2 s1.ps.length d2,.slice q3 s1.ps.length d3⟩ w' hh wf1.some wf1.at_.1;unfold fI at this;rw[kV,hms]at this;exact this)) rfl ?_
  rintro⟨D2,x2⟩ _
  obtain⟨pr,hpr⟩:∃r,aU s1=r:=⟨_,rfl⟩
  have wf2:(aU s1).1.Wf:=iC wf1
  have hm2:(aU s1).1.bH=s.bH:=by rw[kV,hms]
  rw[hpr]at hpk wf2 hm2 ⊢
  obtain⟨s2,a,e⟩:=pr
  dsimp only at hpk wf2 hm2 ⊢
  refine aa.pure (φ:=∃q1 d1 q2 d2 q3 d3,x2=⟨.slice q1 s2.ts.length d1,.slice q2 s2.ps.length d2,.slice q3 s2.ps.length d3⟩) (fun w' hw'=>by obtain⟨q1,d1,q2,d2,q3,d3,e,-⟩:=(hw'.an (V:=aY s2) (w0:=w) (F:=F) (D:=D2) (y:=x2) ak bG).fP;exact⟨q1,d1,q2,d2,q3,d3,e⟩) ?_
  rintro⟨r1,l1,r2,l2,r3,l3,rfl⟩
  dsimp only
  by_cases he:e=0
  ·subst he
   rw[if_neg (fun h=>h rfl)]at hpk
   refine aa.pure (φ:=o.length=0∨∃g,up=some ⟨g,0,none⟩) (fun w' hw'=>?_) ?_
   ·obtain⟨p,c,e,_,_,hg⟩:=ax (hw'.own (B:=0) (T:=fY) (v:=.slice up o.length uc))
    cases e
    rcases Nat.eq_zero_or_pos o.length with h0|h0
    ·exact .inl h0
    ·obtain⟨g,hg,_⟩:=hg h0;exact .inr ⟨g,hg⟩
   intro hup
   repeat'(first|refine ar ?_|(refine KR fun b_=>?_)|fail)
   obtain⟨b9,rfl⟩:∃y:Nat,y=b_:=⟨_,rfl⟩
   simp only[List.getElem_toArray,List.getElem_cons_succ,List.getElem_cons_zero]
   refine aZ.cT [.aT b9 [.slice r1 s2.ts.length l1,.slice r2 s2.ps.length l2,.slice r3 s2.ps.length l3,.int .i64 s.bH] mJ] [Ext w] bc aV ?_
   repeat'(first|refine og ?_|(refine av.kZ ?_;refine av.he rfl rfl (HE.jJ rfl rfl rfl rfl rfl eT Ml Ml) (fun _=>bc) (fun _=>aV) ?_;rintro bl _;refine aP.map (fun w' hw'=>hw'.iS (b:=bl) (len:=1) (s:=1) aA rfl LR) ?_)|(refine av.ug ?_;refine av.he rfl rfl (HE.gA (aX o) rfl rfl (fun _=>aA) (Dx (B:=0) (uc:=uc) bG hup) Me rfl rfl rfl Ml Ml Ml (eV _) (by show(1+o.length)*8≤_;omega) Mj (fun _ _=>Nat.zero_le _)) (fun _=>bc) (fun _=>aV) ?_;rintro v9 _;refine aP.pure (φ:=∃p cc,v9=.slice p (1+o.length) cc) (fun w' hw'=>by obtain⟨p,cc,e,_⟩:=ax (hw'.own (v:=v9));exact⟨p,cc,e⟩) ?_;rintro⟨up2,uc2,rfl⟩;simp only[Nat.add_comm 1 o.length])|(refine av.nw ?_;refine av.jf rfl (fQ.bn _ rfl rfl rfl rfl rfl rfl aA rfl) (fun _=>bc) (fun _=>aV) ?_;rintro⟨⟩ _)|refine aP.nil LX ?_|refine aP.any LX ?_|exact aN.fin rfl|refine aN.skip LX ?_|refine aN.go ?_ ?_)
   all_goals
    repeat'(first|refine ar ?_|fail)
    exact ah.next (i+1,s2,a::o,D2,up2,uc2,r1,l1,r2,l2,r3,l3) bJ bc aV ⟨by dsimp only;omega,wf2,hm2,by simp[ho],hpk⟩ LT
  ·rw[if_pos he]at hpk
   rw[hpk]
   repeat'(first|refine ar ?_|(refine KR fun b_=>?_)|fail)
   all_goals first|omega|skip
   refine J2 ?_
   exact fun w' hw'=>⟨⟨(⟨.slice q1 s1.ts.length d1,.slice q2 s1.ps.length d2,.slice q3 s1.ps.length d3⟩,.slice none 0 0),rfl,jq.Sl.mk ..,⟨_,_,_,rfl⟩,fun h=>absurd h he⟩,hw'.at⟩
 ·obtain rfl:i=n:=by omega
  have hf:cV s i=(s1,o,0):=by rw[hpk,Nat.sub_self];rfl
  rw[hf]
  repeat'(first|refine ar ?_|(refine KR fun b_=>?_)|fail)
  refine J2 ?_
  exact fun w' hw'=>⟨⟨(⟨.slice q1 s1.ts.length d1,.slice q2 s1.ps.length d2,.slice q3 s1.ps.length d3⟩,.slice up o.length uc),rfl,jq.Sl.mk ..,⟨_,_,_,rfl⟩,fun _=>⟨hw'.new (V:=aY s1) (w:=w) (F:=F) (D:=D1) (aY.mo _) ak bG,mX (F:=F) o hw' ak bG rfl rfl Mj⟩⟩,hw'.at⟩
def mW (l ts:List Int):Bool:=(List.range (min l.length ts.length)).all fun i=>decide (ix l i=0∨ix l i=ix ts i)
theorem ob {l ts:List Int} (h:∀i,i<l.length→i<ts.length→ix l i=0∨ix l i=ix ts i):mW l ts=true:=by
 unfold mW
 rw[List.all_eq_true]
 intro i hi
 rw[List.mem_range]at hi
 exact decide_eq_true (h i Mj Mj)
theorem pE {l ts:List Int} {i:Nat} (h1:i<l.length) (h2:i<ts.length) (h:¬(ix l i=0∨ix l i=ix ts i)):mW l ts=false:=by
 unfold mW
 rw[List.all_eq_false]
 exact⟨i,List.mem_range.2 Mj,by rw[decide_eq_false h];simp⟩
set_option maxHeartbeats 4000000 in
theorem yN (F F':Nat→Prop) (l ts:List Int) (v u:Value) (w:World) (h:af F w v l) (h':af F' w u ts):Calls G.P 122 #[v,u] w fun e w'=>e=.returned (.bool (mW l ts))∧Ext w w':=by
 obtain⟨p,c,rfl,hl⟩:=h.slice
 obtain⟨q,d,rfl,hl'⟩:=h'.slice
 refine ae (l:=[_,_]) Tryz.func122 rfl Tryz.ntmps122 rfl (Ok.start w) ?_
 repeat'(first|refine ar ?_|fail)
 refine aZ.loop (σ:=Nat) (fun j=>[(0,.slice p l.length c),(1,.slice q ts.length d),(5,.int .i64 j)]) (fun _=>[]) (fun _=>[Ext w]) (fun j=>j≤l.length∧∀i,i<j→i<ts.length→ix l i=0∨ix l i=ix ts i) (fun j=>l.length - j) 0 bJ bc aV ⟨by omega,fun i hi=>absurd hi Mj⟩ ?_
 rintro j ⟨hj,hok⟩
 by_cases hjl:j<l.length
 ·by_cases hjt:j<ts.length
  ·obtain⟨b7,o7,rfl,-,hc⟩:=h.at hjl
   obtain⟨b8,o8,rfl,-,hc'⟩:=h'.at hjt
   have hcj:=hc j hjl
   have hcj':=hc' j hjt
   have hstep:(ix l j=0∨ix l j=ix ts j)→∀i,i<j+1→i<ts.length→ix l i=0∨ix l i=ix ts i:=fun hs i hi hi2=>by
    rcases Nat.lt_or_ge i j with hlt|hge
    ·exact hok i hlt hi2
    ·have:i=j:=by omega
     subst this;exact hs
   by_cases h0:ix l j=0
   ·repeat'(first|refine ar ?_|fail)
    all_goals first|omega|exact ah.next (j+1) bJ bc aV ⟨by omega,hstep (.inl h0)⟩ Mj
   ·by_cases he:ix l j=ix ts j
    ·repeat'(first|refine ar ?_|fail)
     all_goals first|omega|exact ah.next (j+1) bJ bc aV ⟨by omega,hstep (.inr he)⟩ Mj
    ·repeat'(first|refine ar ?_|fail)
     all_goals first|omega|exact ah.aB rfl rfl fun w' hw'=>⟨by rw[pE hjl hjt (fun h=>h.elim h0 he)],hw'.at⟩
  ·repeat'(first|refine ar ?_|fail)
   all_goals first|omega|exact ah.aB rfl rfl fun w' hw'=>⟨by rw[ob (fun i hi hi2=>hok i Mj hi2)],hw'.at⟩
 ·repeat'(first|refine ar ?_|fail)
  all_goals first|omega|exact ah.aB rfl rfl fun w' hw'=>⟨by rw[ob (fun i hi hi2=>hok i Mj hi2)],hw'.at⟩
def eA (c:fN) (n:Int):List Int×Int:=if n<0∨c.fs.length≤n then([],15)else(if(ix c.fs (c.fs.length - 1 - n.toNat)).op=3 then(ix c.fs (c.fs.length - 1 - n.toNat)).par else(ix c.fs (c.fs.length - 1 - n.toNat)).res,0)
theorem o9 (c:di) (n:Int) (hb:c.broken=0) (hk:c.Ok):cy c n=eA (bB c) n:=CS c n hb hk
def fg (kR:Int→List Int×Int):List Int→List (List Int)×Int
 |[]=>([],0)
 |n::r=>if(kR n).2≠0 then([],(kR n).2)else if(fg kR r).2≠0 then([],(fg kR r).2)else((kR n).1::(fg kR r).1,0)
theorem sZ {kR:Int→List Int×Int}:∀{ls:List Int} {i:Nat},i<ls.length→(∀j,j<i→(kR (ix ls j)).2=0)→(kR (ix ls i)).2≠0→fg kR ls=([],(kR (ix ls i)).2)
 |[],i,h,_,_=>by simp at h
 |n::r,0,_,_,h2=>by
  have e:ix (n::r) 0=n:=rfl
  rw[e]at h2 ⊢
  unfold fg;rw[if_pos h2]
 |n::r,i+1,h,h1,h2=>by
  have e:ix (n::r) (i+1)=ix r i:=by simp[ix]
  have e0:(kR n).2=0:=h1 0 Mj
  rw[e]at h2 ⊢
  have:=sZ (kR:=kR) (ls:=r) (i:=i) LY (fun j hj=>by have:=h1 (j+1) Mj;simpa[ix]using this) h2
  unfold fg;rw[if_neg (by simp[e0]),this,if_pos h2]
theorem uK {kR:Int→List Int×Int}:∀{ls:List Int},(∀j,j<ls.length→(kR (ix ls j)).2=0)→fg kR ls=(ls.map fun n=>(kR n).1,0)
 |[],_=>rfl
 |n::r,h=>by
  have e0:(kR n).2=0:=h 0 Mk
  have:=uK (kR:=kR) (ls:=r) (fun j hj=>by have:=h (j+1) (by simpa using hj);simpa[ix]using this)
  unfold fg;rw[if_neg (by simp[e0]),this];simp
theorem vF {a b:Int→List Int×Int} (h:∀n,a n=b n) (ls:List Int):fg a ls=fg b ls:=by rw[show a=b from funext h]
def fa (rows:List (List Int)) (s:bP):bP×Int:=
 if(rows.all fun l=>decide (l.length=(ix rows (rows.length - 1)).length))=false then(s,12)
 else if(aE s [1]).2≠0 then(s,(aE s [1]).2)
 else if(cV (aE s [1]).1 (ix rows (rows.length - 1)).length).2.2≠0 then(s,(cV (aE s [1]).1 (ix rows (rows.length - 1)).length).2.2)
 else if(rows.all fun l=>mW (cV (aE s [1]).1 (ix rows (rows.length - 1)).length).2.1 l)=false then(s,12)
 else((cV (aE s [1]).1 (ix rows (rows.length - 1)).length).1,0)
def eP (c:fN) (x:cJ):fN×Int:=
 if(fg (eA c) (x.labels++[x.a])).2≠0 then(c,(fg (eA c) (x.labels++[x.a])).2)
 else if(fa (fg (eA c) (x.labels++[x.a])).1 c.ao).2≠0 then(c,(fa (fg (eA c) (x.labels++[x.a])).1 c.ao).2)
 else(fF {c with ao:=(fa (fg (eA c) (x.labels++[x.a])).1 c.ao).1},0)
def dv (c:di) (x:cJ):bP×Int:=
 if(fg (cy c) (x.labels++[x.a])).2≠0 then(c.ao,(fg (cy c) (x.labels++[x.a])).2)
 else fa (fg (cy c) (x.labels++[x.a])).1 c.ao
def iM (c:di) (x:cJ):di×Int:=if(dv c x).2≠0 then(c,(dv c x).2)else(gi {c with ao:=(dv c x).1},0)
theorem xx (c:di) (x:cJ) (hb:c.broken=0) (hk:c.Ok):(iM c x).2=(eP (bB c) x).2∧((iM c x).2=0→bB (iM c x).1=(eP (bB c) x).1):=by
 have ht:=vF (fun n=>o9 c n hb hk) (x.labels++[x.a])
 unfold iM dv eP
 rw[ht]
 obtain⟨t,hT⟩:∃t,fg (eA (bB c)) (x.labels++[x.a])=t:=⟨_,rfl⟩
 rw[hT]
 have hs:(bB c).ao=c.ao:=rfl
 rw[hs]
 by_cases h1:t.2≠0
 ·simp only[if_pos h1];exact⟨trivial,fun h=>absurd h h1⟩
 ·simp only[if_neg h1]
  by_cases h2:(fa t.1 c.ao).2≠0
  ·simp only[if_pos h2];exact⟨trivial,fun h=>absurd h h2⟩
  ·simp only[if_neg h2]
   exact⟨trivial,fun _=>by rw[qD {c with ao:=(fa t.1 c.ao).1} hb,yk]⟩
abbrev Dh:Nat:=34
abbrev Hh:Nat:=42
def mG (D:Nat→Prop) (w:World) (L:List (List Int×Value)):Prop:=∀y∈L,af D w y.2 y.1
theorem mG.fr:tp mG:=fun h hc hd y hy=>(h y hy).aO hc hd
theorem mG.snoc {D H:Nat→Prop} {w:World} {L:List (List Int×Value)} {l:List Int} {u:Value} (h:mG D w L) (hu:af H w u l):mG (fun k=>D k∨H k) w (L++[(l,u)]):=fun y hy=>by
 rcases List.mem_append.1 hy with hy|hy
 ·exact(h y hy).mono fun _ _ h=>.inl h
 ·rw[List.mem_singleton]at hy;subst hy;exact hu.mono fun _ _ h=>.inr h
theorem mG.nil (D:Nat→Prop) (w:World):mG D w []:=fun _ h=>by cases h
theorem Ok.Cc {M:List a8} {R:List (World→Prop)} {w:World} (h:Ok M R w):Ok (.j8 mG mG.fr (fun _=>False) []::M) R w:=
 h.push (cg.refl _ w) (mG.nil _ _) (fun _ hk=>hk.elim)
theorem aZ.Cc {Q:Exit→Act→World→Prop} {n:Nat} {c:Code} {E:Env} {M:List a8} {R:List (World→Prop)} (h:aZ Q n c E (.j8 mG mG.fr (fun _=>False) []::M) R):aZ Q n c E M R:=⟨fun w hw=>h.h w hw.Cc⟩
theorem aa.mg {ops:Array Oper} {Q:Exit→Act→World→Prop} {n:Nat} {l:List Oper} {E:Env} {q1 q2 q:a8} {M M1 M2:List a8} {R:List (World→Prop)} (h1:Rm q1 M M1) (h2:Rm q2 M1 M2) (hF:∀k,q.F k→q1.F k∨q2.F k) (hP:∀w,q1.P w→q2.P w→q.P w) (h:aa ops Q n l E (q::M2) R):aa ops Q n l E M R:=
 ⟨fun w hw=>h.h w (((hw.front h1).front (Rm.tail h2)).merge (fun k hk=>(hF k hk).symm) (fun a b=>hP w b a))⟩
theorem Eb (j:Nat) (a:Int) (o:List Int):(aX (List.replicate (j+1) 0++o)).set j (.int .i64 a)=aX (List.replicate j 0++(a::o)):=by
 unfold aX
 rw[List.replicate_succ',List.append_assoc,List.map_append,List.map_append,List.set_append_right _ _ Mk]
 simp
structure jk (kR:Int→List Int×Int) (ls:List Int) (i:Nat) (L:List (List Int×Value)):Prop where
 len:L.length=i
 ok:∀j,j<i→(kR (ix ls j)).2=0
 row:L.map Prod.fst=(ls.take i).map fun n=>(kR n).1
theorem jk.nil (kR:Int→List Int×Int) (ls:List Int):jk kR ls 0 []:=⟨rfl,fun _ h=>absurd h Mj,rfl⟩
theorem jk.snoc {kR:Int→List Int×Int} {ls:List Int} {i:Nat} {L:List (List Int×Value)} (h:jk kR ls i L) (hi:i<ls.length) {l:List Int} (e:kR (ix ls i)=(l,0)) (u:Value):jk kR ls (i+1) (L++[(l,u)]):=by
 refine⟨by rw[List.length_append,h.len];rfl,fun j hj=>?_,?_⟩
 ·rcases Nat.lt_or_ge j i with hlt|hge
  ·exact h.ok j hlt
  ·obtain rfl:j=i:=by omega
   rw[e]
 ·rw[List.map_append,h.row,bE hi,List.map_append]
  simp[e]
theorem jk.types {kR:Int→List Int×Int} {ls:List Int} {L:List (List Int×Value)} (h:jk kR ls ls.length L):fg kR ls=(L.map Prod.fst,0):=by
 rw[uK (fun j hj=>h.ok j hj),h.row,List.take_length]
theorem jk.err {kR:Int→List Int×Int} {ls:List Int} {i:Nat} {L:List (List Int×Value)} (h:jk kR ls i L) (hi:i<ls.length) {l:List Int} {e:Int} (he:kR (ix ls i)=(l,e)) (h0:e≠0):fg kR ls=([],e):=by
 have:=sZ (kR:=kR) hi h.ok (by rw[he];exact h0)
 rw[he]at this;exact this
theorem wu {L:List (List Int×Value)} {i:Nat} (h:i<L.length):ix (L.map Prod.fst) i=(ix L i).1:=by
 rw[cD LY,cD h];simp
theorem all_true {L:List (List Int×Value)} {p:List Int→Bool} (h:∀i,i<L.length→p (ix L i).1=true):((L.map Prod.fst).all p)=true:=by
 rw[List.all_eq_true]
 intro l hl
 obtain⟨y,hy,rfl⟩:=List.mem_map.1 hl
 obtain⟨i,hi,rfl⟩:=List.getElem_of_mem hy
 have:=h i hi
 rwa[cD hi]at this
theorem all_false {L:List (List Int×Value)} {p:List Int→Bool} {i:Nat} (hi:i<L.length) (h:p (ix L i).1=false):((L.map Prod.fst).all p)=false:=by
 rw[List.all_eq_false]
 refine⟨(ix L i).1,List.mem_map.2 ⟨ix L i,?_,rfl⟩,by rw[h];decide⟩
 rw[cD hi];exact List.getElem_mem hi
theorem Cu (s:bP) (n:Nat):ud (cV s n) []=cV s n:=by
 unfold ud
 by_cases he:(cV s n).2.2≠0
 ·rw[if_pos he]
  cases n with
  |zero=>exact absurd rfl he
  |succ n=>
   rw[cV]at he ⊢
   by_cases h1:(aU s).2.2≠0
   ·rw[if_pos h1]
   ·rw[if_neg h1]at he ⊢
    by_cases h2:(cV (aU s).1 n).2.2≠0
    ·rw[if_pos h2]
    ·rw[if_neg h2]at he;exact absurd rfl he
 ·rw[if_neg he,List.append_nil]
  have:(cV s n).2.2=0:=Classical.byContradiction he
  rw[←this]
section
variable {Q:Exit→Act→World→Prop} {n:Nat} {E:Env} {M:List a8} {R:List (World→Prop)}
theorem aZ.Gd {σ:Type} {c:Code} (Ei:σ→Env) (Mi:σ→List a8) (Ri:σ→List (World→Prop)) (I:σ→Prop) (μ:σ→Nat) (s0:σ) (hE:Sub E (Ei s0)) (hM:js (Mi s0) M) (hR:∀p,p∈Ri s0→p∈R) (hI:I s0)
  (round:∀s,I s→aZ (Exit.then (Af n Ei Mi Ri I μ s) Q) n c (Ei s) (Mi s) (Ri s)):aZ Q n (.loop c) E M R:=
 ⟨fun _w hw=>Cd.loop Ei (fun s w=>I s∧Ok (Mi s) (Ri s) w) μ s0 hE ⟨hI,hw.cF hM hR⟩ fun s w ⟨h1,h2⟩=>(round s h1).h w h2⟩
theorem ah.Ge {σ:Type} {Ei:σ→Env} {Mi:σ→List a8} {Ri:σ→List (World→Prop)} {I:σ→Prop} {μ:σ→Nat} {s:σ} (s':σ) (hE:Sub E (Ei s')) (hM:js (Mi s') M) (hR:∀p,p∈Ri s'→p∈R) (hI:I s') (hμ:μ s'<μ s):
  ah (Exit.then (Af n Ei Mi Ri I μ s) Q) n .normal E M R:=⟨fun _w hw=>Fin.next s' hE ⟨hI,hw.cF hM hR⟩ hμ⟩
end
theorem nU (l:List Int) (a:Int):aX (l++[a])=aX l++[.int .i64 a]:=by unfold aX;rw[List.map_append];rfl
theorem HE.IK {n:Nat} {E:Env} {M:List a8} {R:List (World→Prop)} {x:Operand} {len:Nat} (hx:ev E x=some (.int .i64 (len:Int))) (hml:len≤100000000000):HE n (.makeSlice 34 x x) E M R (fun _:Nat=>True) (fun g=>.slice (some ⟨g,0,none⟩) len len) (fun g=>.own 0 fY 1 (.slice (some ⟨g,0,none⟩) len len) len (aX (List.replicate len 0))::M) (fun _=>R):=by
 have h:=HE.HR (n:=n) (E:=E) (M:=M) (R:=R) (B:=0) (t:=34) (x:=x) (len:=len) rfl rfl rfl rfl hx Ml hml (fun _ _=>Nat.zero_le _)
 have hz:aX (List.replicate len 0)=(madeCells (#[.int .i64 0]:Array Value) (len*1)).toList:=by rw[Nat.mul_one,toList_madeCells_one];unfold aX;rw[List.map_replicate]
 rw[hz]
 exact h
set_option maxHeartbeats 16000000 in
theorem zy (F:Nat→Prop) (cp:Nat) (c:di) (v:iY) (x:cJ) (pt pl:Option Addr) (ct cl:Nat) (w:World) (hw:Ok (aQ cp c v) [fun w=>af F w (.slice pl x.labels.length cl) x.labels] w) (hg:v.Good c) (hb:c.broken=0) (hwf:c.Wf) (hlb:∀n,(cy c n).1.length≤100000000000) (hll:x.labels.length≤1000):Calls G.P 112 #[.pointer (some ⟨cp,0,none⟩),.agg #[Value.int .i64 x.op,Value.int .i64 x.a,Value.int .i64 x.b,Value.int .u64 x.n,Value.int .i64 x.kind,Value.int .i64 x.val,Value.int .i64 x.index,Value.slice pt x.types.length ct,Value.slice pl x.labels.length cl]] w (aD (aQ cp c v) cp ({c with ao:=(dv c x).1},(dv c x).2) w):=by
 have hI:af F w (.slice pl x.labels.length cl) x.labels:=hw.get (p:=fun w=>af F w (.slice pl x.labels.length cl) x.labels) Mk
 refine ae (l:=[_,_]) Tryz.func112 rfl Tryz.ntmps112 rfl (Ok.dj hw) ?_
 generalize hS:Mb (aQ cp c v)=S0
 obtain⟨sp,tv,pv,bv,rv,fv,D,L⟩:=v
 obtain⟨ls,hls⟩:∃l,x.labels++[x.a]=l:=⟨_,rfl⟩
 have hln:ls.length=x.labels.length+1:=by rw[←hls];simp
 obtain⟨N,hN⟩:∃N,x.labels.length=N:=⟨_,rfl⟩
 dsimp only[aQ,aS,List.cons_append,List.nil_append]
 repeat'(first|refine ar ?_|(refine aC fun b_=>?_)|fail)
 obtain⟨b3,rfl⟩:∃y:Nat,y=b_:=⟨_,rfl⟩
 refine aZ.ji 0 3 1 ?_
 refine JA ?_
 refine aP.xW (α:=Option Addr×Nat) (fun y=>[(0,.pointer (some ⟨cp,0,none⟩)),(4,.int .i64 0),(5,.slice none 0 0),(28,.slice y.1 (x.labels.length+1) y.2),(29,.int .i64 ((x.labels.length+1:Nat):Int)),(30,.int .i64 0)]) (fun y=>.own 0 3 1 (.slice y.1 (x.labels.length+1) y.2) (x.labels.length+1) (aX x.labels++[.int .i64 x.a])::aQ cp c ⟨sp,tv,pv,bv,rv,fv,D,L⟩) (fun _=>[cg S0 w]) ?_ fun hrest=>?_
 rotate_left
 ·repeat'(first|refine og ?_|(refine av.kZ ?_;refine av.he rfl rfl (HE.jJ rfl rfl rfl rfl rfl eT Ml Ml) (fun _=>bc) (fun _=>aV) ?_;rintro bl _)|(refine av.ug ?_;refine av.he rfl rfl (HE.app rfl rfl (fun _=>aA) aA rfl rfl rfl Ml Ml Ml Ml Ml Ml Mj (fun _ _=>Nat.zero_le _)) (fun _=>bc) (fun _=>aV) ?_;rintro vb _;refine aP.pure (φ:=∃p cc,vb=.slice p (x.labels.length+1) cc) (fun w' hw'=>by obtain⟨p,cc,e,_⟩:=ax (hw'.own (v:=vb));exact⟨p,cc,e⟩) ?_;rintro⟨pb,cb,rfl⟩)|(refine av.ug ?_;refine av.he rfl rfl (HE.gA (aX x.labels) rfl rfl (fun _=>aA) (xh hI ak) Me rfl rfl rfl Ml Ml Ml (eV _) (by show(0+x.labels.length)*8≤_;omega) Mj (fun _ _=>Nat.zero_le _)) (fun _=>bc) (fun _=>aV) ?_;rintro va _;simp only[Nat.zero_add,List.nil_append];refine aP.pure (φ:=∃p cc,va=.slice p x.labels.length cc) (fun w' hw'=>by obtain⟨p,cc,e,_⟩:=ax (hw'.own (v:=va));exact⟨p,cc,e⟩) ?_;rintro⟨pa,ca,rfl⟩)|refine aP.nil LX ?_|refine aP.any LX ?_|exact aN.fin rfl|refine aN.skip LX ?_|refine aN.go ?_ ?_)
  all_goals exact ah.cF (hrest (pb,cb)) bJ LD aV
 ·rintro⟨pa,ca⟩
  dsimp only
  repeat'(first|refine ar ?_|fail)
  refine aZ.pure (φ:=∃g,pa=some ⟨g,0,none⟩) (fun w' hw'=>by
   obtain⟨p,cc,e,_,_,hg⟩:=ax (hw'.own (B:=0) (T:=3) (v:=.slice pa (x.labels.length+1) ca))
   cases e
   obtain⟨g,hg,_⟩:=hg Mj
   exact⟨g,hg⟩) ?_
  rintro⟨ga,rfl⟩
  refine aZ.freeze (q:=.own 0 3 1 (.slice (some ⟨ga,0,none⟩) (x.labels.length+1) ca) (x.labels.length+1) (aX x.labels++[.int .i64 x.a])) (fun w=>∀i,i<ls.length→w.cell? ⟨ga,0+i,none⟩=some (.int .i64 (ix ls i))) je (fun w' h _ i hi=>by rw[Nat.zero_add];exact dP h (by have:=ng hi;rw[Nat.zero_add,←hls,nU]at this;rw[←hls];exact this)) ?_
  refine aZ.ji 0 Dh 1 ?_
  refine aZ.Cc ?_
  refine aZ.loop (σ:=Nat×List (List Int×Value)×(Nat→Prop)×Option Addr×Nat) (fun z=>[(0,.pointer (some ⟨cp,0,none⟩)),(4,.int .i64 0),(5,.slice z.2.2.2.1 z.1 z.2.2.2.2),(28,.slice (some ⟨ga,0,none⟩) (x.labels.length+1) ca),(29,.int .i64 ((x.labels.length+1:Nat):Int)),(30,.int .i64 z.1)]) (fun z=>.j8 mG mG.fr z.2.2.1 z.2.1::.own 0 Dh 1 (.slice z.2.2.2.1 z.1 z.2.2.2.2) z.1 (z.2.1.map Prod.snd)::aQ cp c ⟨sp,tv,pv,bv,rv,fv,D,L⟩) (fun _=>[cg S0 w,fun w=>∀i,i<ls.length→w.cell? ⟨ga,0+i,none⟩=some (.int .i64 (ix ls i))]) (fun z=>z.1≤ls.length∧jk (cy c) ls z.1 z.2.1) (fun z=>ls.length - z.1) (0,[],fun _=>False,none,0) bJ (by dsimp only[aQ,aS,List.cons_append,List.nil_append,List.map];exact bc) aV ⟨Nat.zero_le _,jk.nil _ _⟩ ?_
  rintro⟨i,L2,DD,rp,rc⟩ ⟨hi,hrw⟩
  dsimp only[aQ,aS,List.cons_append,List.nil_append]at hi hrw ⊢
  by_cases hin:i<ls.length
  ·refine JB ?_
   repeat'(first|refine ar ?_|fail)
   refine aa.he (HE.bC (M0:=[]) ox.nil rfl rfl (fun w' hw'=>oe cp c ⟨sp,tv,pv,bv,rv,fv,D,L⟩ (ix ls i) w' ((hw'.cF (M':=aQ cp c ⟨sp,tv,pv,bv,rv,fv,D,L⟩) dM (fun _ h=>h)).zS (List.Sublist.refl _)) hg hb)) rfl ?_
   intro u _
   dsimp only[List.cons_append,List.nil_append]
   obtain⟨q,hq⟩:∃q,cy c (ix ls i)=q:=⟨_,rfl⟩
   have hql:=hlb (ix ls i)
   rw[hq]at hql ⊢
   obtain⟨l,e⟩:=q
   dsimp only at hql ⊢
   by_cases he:e=0
   ·subst he
    refine aa.pure (φ:=∃p cc,u=.slice p l.length cc) (fun w' hw'=>by obtain⟨p,cc,e,_⟩:=ax (hw'.own (B:=0) (T:=fY) (v:=u));exact⟨p,cc,e⟩) ?_
    rintro⟨pu,cu,rfl⟩
    repeat'(first|refine ar ?_|(refine eH fun b_ _=>?_)|fail)
    refine JC ?_
    intro v5 _
    refine aa.pure (φ:=∃p cc,v5=.slice p (i+1) cc) (fun w' hw'=>by obtain⟨p,cc,e,_⟩:=ax (hw'.own (B:=0) (T:=Dh) (v:=v5));exact⟨p,cc,e⟩) ?_
    rintro⟨p5,c5,rfl⟩
    refine aa.mg (q1:=.j8 mG mG.fr DD L2) (q2:=.own 0 fY 1 (.slice pu l.length cu) l.length (aX l)) (q:=.j8 mG mG.fr (fun k=>DD k∨(Value.slice pu l.length cu).ownBlock=some k) (L2++[(l,.slice pu l.length cu)])) je je (fun k hk=>hk) (fun w' h1 h2=>mG.snoc h1 (eQ h2 Mj)) ?_
    simp only[List.getElem_toArray,List.getElem_cons_zero,List.getElem_cons_succ]
    rw[show L2.map Prod.snd++[Value.slice pu l.length cu]=(L2++[(l,Value.slice pu l.length cu)]).map Prod.snd by simp]
    repeat'(first|refine ar ?_|fail)
    exact ah.next (i+1,L2++[(l,.slice pu l.length cu)],_,p5,c5) bJ Lz aV ⟨by dsimp only;omega,hrw.snoc hin hq _⟩ LT
   ·have htk:dv c x=(c.ao,e):=by unfold dv;rw[hls,hrw.err hin hq he];exact if_pos he
    repeat'(first|refine ar ?_|fail)
    all_goals first|(exfalso;omega)|exact ah.aB rfl rfl fun w' hw'=>aD.err e (by show(dv c x).2=e;rw[htk]) he hS hw' ak
  ·obtain rfl:i=ls.length:=by omega
   have hlen:=hrw.len
   have htk:=hrw.types
   have hmem:∀{j:Nat},j<ls.length→ix L2 j∈L2:=fun{j} hj=>by rw[cD Mj];exact List.getElem_mem _
   refine aZ.pure (φ:=∃g,rp=some ⟨g,0,none⟩) (fun w' hw'=>by
    obtain⟨p,cc,e,_,_,hg⟩:=ax (hw'.own (B:=0) (T:=Dh) (v:=.slice rp ls.length rc))
    cases e
    obtain⟨g,hg,_⟩:=hg Mj
    exact⟨g,hg⟩) ?_
   rintro⟨gr,rfl⟩
   refine aZ.pure (φ:=∀y∈L2,∃p cc,y.2=.slice p y.1.length cc) (fun w' hw' y hy=>by
    have hm:=(hw'.m (.j8 mG mG.fr DD L2) bG).1
    obtain⟨p,cc,e,_⟩:=(hm y hy).slice
    exact⟨p,cc,e⟩) ?_
   intro hsl
   refine aZ.freeze (q:=.own 0 Dh 1 (.slice (some ⟨gr,0,none⟩) ls.length rc) ls.length (L2.map Prod.snd)) (fun w=>∀i,i<ls.length→w.cell? ⟨gr,0+i,none⟩=some (ix L2 i).2) je (fun w' h _ i hi=>by
    rw[Nat.zero_add]
    refine dP h ?_
    rw[List.getElem?_map,List.getElem?_eq_getElem (show i<L2.length by omega),cD (show i<L2.length by omega)]
    rfl) ?_
   refine aZ.freeze (q:=.j8 mG mG.fr DD L2) (fun w=>mG DD w L2) je (fun _ h _=>h) ?_
   obtain⟨n0,hn0⟩:∃n0,ls.length=n0+1:=⟨x.labels.length,hln⟩
   obtain⟨pL,cL,eL⟩:=hsl (ix L2 n0) (hmem Mj)
   obtain⟨lst,hlst⟩:∃l,(ix L2 n0).1=l:=⟨_,rfl⟩
   rw[hlst]at eL
   have hlast:ix (L2.map Prod.fst) ((L2.map Prod.fst).length - 1)=lst:=by rw[List.length_map,hlen,hn0];show ix (L2.map Prod.fst) n0=_;rw[wu Mj,hlst]
   have hlstl:lst.length≤100000000000:=by
    have h1:ix (L2.map Prod.fst) n0=(cy c (ix ls n0)).1:=by
     rw[hrw.row,List.take_length,cD (show n0<(ls.map fun n=>(cy c n).1).length by rw[List.length_map];omega),List.getElem_map,cD (show n0<ls.length by omega)]
    rw[wu Mj,hlst]at h1
    rw[h1];exact hlb _
   have htab:dv c x=fa (L2.map Prod.fst) c.ao:=by unfold dv;rw[hls,htk];exact if_neg (fun h=>h rfl)
   refine aZ.lL (Go.Proofs.YtgbgnipidakdhaaGreatDoor.cl gr (0+n0) (.slice pL lst.length cL)) (fun w' h=>by rw[←eL];exact h (fun w=>∀i,i<ls.length→w.cell? ⟨gr,0+i,none⟩=some (ix L2 i).2) ak n0 Mj) ?_
   repeat'(first|refine ar ?_|(refine aa.ek ?_;refine aa.y_ (Yl.gh (i:=n0) rfl rfl rfl rfl rfl Mj Mj) rfl ?_)|fail)
   refine aZ.loop (σ:=Nat) (fun j=>[(0,.pointer (some ⟨cp,0,none⟩)),(4,.int .i64 0),(5,.slice (some ⟨gr,0,none⟩) ls.length rc),(10,.slice pL lst.length cL),(54,.slice (some ⟨gr,0,none⟩) ls.length rc),(55,.int .i64 ls.length),(56,.int .i64 j)]) (fun _=>aQ cp c ⟨sp,tv,pv,bv,rv,fv,D,L⟩) (fun _=>[cg S0 w,fun w=>∀i,i<ls.length→w.cell? ⟨gr,0+i,none⟩=some (ix L2 i).2,fun w=>mG DD w L2]) (fun j=>j≤ls.length∧∀q,q<j→(ix L2 q).1.length=lst.length) (fun j=>ls.length - j) 0 bJ Lz aV ⟨Nat.zero_le _,fun q hq=>absurd hq Mj⟩ ?_
   rintro j ⟨hj,hok⟩
   dsimp only[aQ,aS,List.cons_append,List.nil_append]
   by_cases hjn:j<ls.length
   ·obtain⟨pj,cj,ej⟩:=hsl (ix L2 j) (hmem hjn)
    refine aZ.lL (Go.Proofs.YtgbgnipidakdhaaGreatDoor.cl gr (0+j) (.slice pj (ix L2 j).1.length cj)) (fun w' h=>by rw[←ej];exact h (fun w=>∀i,i<ls.length→w.cell? ⟨gr,0+i,none⟩=some (ix L2 i).2) ak j hjn) ?_
    by_cases hle:(ix L2 j).1.length=lst.length
    ·repeat'(first|refine ar ?_|fail)
     all_goals first|(exfalso;omega)|exact ah.next (j+1) bJ Lz aV ⟨by omega,fun q hq=>by rcases Nat.lt_or_ge q j with h|h;exact hok q h;rw[show q=j by omega];exact hle⟩ Mj
    ·have hbr:dv c x=(c.ao,12):=by
      rw[htab];unfold fa
      rw[hlast,if_pos (all_false (i:=j) Mj (decide_eq_false hle))]
     repeat'(first|refine ar ?_|fail)
     all_goals exact wt
   ·obtain rfl:j=ls.length:=by omega
    have hall:((L2.map Prod.fst).all fun l=>decide (l.length=lst.length))=true:=all_true fun i hi=>decide_eq_true (hok i Mj)
    obtain⟨r0,hr0⟩:∃r,aE c.ao [1]=r:=⟨_,rfl⟩
    have hw0:=dn hwf.ao [1]
    have ht0:=dp c.ao [1]
    rw[hr0]at hw0 ht0
    obtain⟨s0,e0⟩:=r0
    dsimp only at hw0 ht0
    have htb2:dv c x=if e0≠0 then(c.ao,e0)else if(cV s0 lst.length).2.2≠0 then(c.ao,(cV s0 lst.length).2.2)else if((L2.map Prod.fst).all fun l=>mW (cV s0 lst.length).2.1 l)=false then(c.ao,12)else((cV s0 lst.length).1,0):=by
     rw[htab];unfold fa
     rw[hlast,hall,hr0,if_neg Mh]
    repeat'(first|refine ar ?_|refine K3 ?_|(refine eH fun b_ _=>?_)|fail)
    obtain⟨b0,rfl⟩:∃y:Nat,y=b_:=⟨_,rfl⟩
    refine aa.freeze (q:=.aT b0 [.int .i64 1] fY) (fun w=>af (fun k=>k=b0) w (.slice (some ⟨b0,0,none⟩) 1 1) [1]) je (fun w' h _=>cZ h) ?_
    refine aa.he (HE.bC (M0:=aS sp c.ao (tv,pv)) dt rfl rfl (fun w' hw'=>by have:=fK (fun k=>k=b0) sp c.ao (tv,pv) (.slice (some ⟨b0,0,none⟩) 1 1) [1] w' (hw'.cF dM aV) hwf.ao.some hwf.ao.at_.1 hwf.ao.at_.2;rw[hr0]at this;exact this)) rfl ?_
    rintro⟨tv0,pv0⟩ _
    dsimp only[aS,List.cons_append,List.nil_append]
    by_cases jf:e0=0
    ·subst jf
     rw[if_neg (fun h=>h rfl)]at htb2
     repeat'(first|refine ar ?_|fail)
     refine aa.he (HE.IK (len:=lst.length) rfl hlstl) rfl ?_
     intro gp _
     repeat'(first|refine ar ?_|fail)
     refine aZ.Gd (σ:=Nat×bP×List Int×Value×Value) (fun z=>[(0,.pointer (some ⟨cp,0,none⟩)),(4,.int .i64 0),(5,.slice (some ⟨gr,0,none⟩) ls.length rc),(14,.slice (some ⟨gp,0,none⟩) lst.length lst.length),(15,.int .i64 ((z.1:Int) - 1))]) (fun z=>.own 0 fY 1 (.slice (some ⟨gp,0,none⟩) lst.length lst.length) lst.length (aX (List.replicate z.1 0++z.2.2.1))::aQ cp {c with ao:=z.2.1} ⟨sp,z.2.2.2.1,z.2.2.2.2,bv,rv,fv,D,L⟩) (fun _=>[cg S0 w,fun w=>∀i,i<ls.length→w.cell? ⟨gr,0+i,none⟩=some (ix L2 i).2,fun w=>mG DD w L2]) (fun z=>z.1+z.2.2.1.length=lst.length∧z.2.1.Wf∧cV s0 lst.length=ud (cV z.2.1 z.1) z.2.2.1) (fun z=>z.1) (lst.length,s0,[],tv0,pv0) bJ ?_ aV ⟨by dsimp only;rw[List.length_nil,Nat.add_zero],hw0,(Cu _ _).symm⟩ ?_
     ·dsimp only[aQ,aS,List.cons_append,List.nil_append]
      rw[List.append_nil]
      exact dM
     rintro⟨j,s1,o,tv1,pv1⟩ ⟨hjo,wf1,hpk⟩
     dsimp only[aQ,aS,List.cons_append,List.nil_append]at hjo wf1 hpk ⊢
     rcases Nat.eq_zero_or_pos j with rfl|hj0
     ·have hf:cV s0 lst.length=(s1,o,0):=by rw[hpk];rfl
      rw[hf,if_neg (fun h=>h rfl)]at htb2
      dsimp only at htb2
      rw[show((0:Nat):Int) - 1=-1 from rfl,show List.replicate 0 (0:Int)=[]from rfl,List.nil_append]
      refine aZ.freeze (q:=.own 0 fY 1 (.slice (some ⟨gp,0,none⟩) lst.length lst.length) lst.length (aX o)) (fun w=>∀q,q<lst.length→w.cell? ⟨gp,0+q,none⟩=some (.int .i64 (ix o q))) je (fun w' h _ q hq=>by rw[Nat.zero_add];exact dP h (by have:=ng (l:=o) (i:=q) Mj;rwa[Nat.zero_add]at this)) ?_
      repeat'(first|refine ar ?_|fail)
      refine aZ.loop (σ:=Nat) (fun j=>[(4,.int .i64 0),(14,.slice (some ⟨gp,0,none⟩) lst.length lst.length),(96,.slice (some ⟨gr,0,none⟩) ls.length rc),(97,.int .i64 ls.length),(98,.int .i64 j)]) (fun _=>aQ cp {c with ao:=s1} ⟨sp,tv1,pv1,bv,rv,fv,D,L⟩) (fun _=>[cg S0 w,fun w=>∀i,i<ls.length→w.cell? ⟨gr,0+i,none⟩=some (ix L2 i).2,fun w=>mG DD w L2,fun w=>∀q,q<lst.length→w.cell? ⟨gp,0+q,none⟩=some (.int .i64 (ix o q))]) (fun j=>j≤ls.length∧∀q,q<j→mW o (ix L2 q).1=true) (fun j=>ls.length - j) 0 bJ Lz aV ⟨Nat.zero_le _,fun q hq=>absurd hq Mj⟩ ?_
      rintro j ⟨hj,hfit⟩
      dsimp only[aQ,aS,List.cons_append,List.nil_append]
      by_cases hjn:j<ls.length
      ·obtain⟨pj,cj,ej⟩:=hsl (ix L2 j) (hmem hjn)
       have hle:=hok j hjn
       obtain⟨l,hlj⟩:∃l,(ix L2 j).1=l:=⟨_,rfl⟩
       rw[hlj]at ej hle
       have hin2:∀w',mG DD w' L2→af DD w' (.slice pj l.length cj) l:=fun w' h=>by have:=h _ (hmem hjn);rw[ej,hlj]at this;exact this
       refine aZ.lL (Go.Proofs.YtgbgnipidakdhaaGreatDoor.cl gr (0+j) (.slice pj l.length cj)) (fun w' h=>by rw[←ej];exact h (fun w=>∀i,i<ls.length→w.cell? ⟨gr,0+i,none⟩=some (ix L2 i).2) ak j hjn) ?_
       repeat'(first|refine ar ?_|fail)
       refine aZ.loop (σ:=Nat) (fun q=>[(4,.int .i64 0),(14,.slice (some ⟨gp,0,none⟩) lst.length lst.length),(96,.slice (some ⟨gr,0,none⟩) ls.length rc),(97,.int .i64 ls.length),(98,.int .i64 j),(102,.slice pj l.length cj),(103,.int .i64 l.length),(104,.int .i64 q)]) (fun _=>aQ cp {c with ao:=s1} ⟨sp,tv1,pv1,bv,rv,fv,D,L⟩) (fun _=>[cg S0 w,fun w=>∀i,i<ls.length→w.cell? ⟨gr,0+i,none⟩=some (ix L2 i).2,fun w=>mG DD w L2,fun w=>∀q,q<lst.length→w.cell? ⟨gp,0+q,none⟩=some (.int .i64 (ix o q))]) (fun q=>q≤l.length∧∀r,r<q→ix o r=0∨ix o r=ix l r) (fun q=>l.length - q) 0 bJ Lz aV ⟨Nat.zero_le _,fun q hq=>absurd hq Mj⟩ ?_
       rintro q ⟨hq,hqs⟩
       dsimp only[aQ,aS,List.cons_append,List.nil_append]
       by_cases hql:q<l.length
       ·refine aZ.pure (φ:=∃b oo,pj=some ⟨b,oo,none⟩) (fun w' hw'=>by obtain⟨b,oo,e,_⟩:=(hin2 w' (hw'.get (p:=fun w=>mG DD w L2) ak)).at hql;exact⟨b,oo,e⟩) ?_
        rintro⟨bj,oj,rfl⟩
        refine aZ.lL (Go.Proofs.YtgbgnipidakdhaaGreatDoor.cl bj (oj+q) (.int .i64 (ix l q))) (fun w' h=>by obtain⟨b,oo,e,_,hc⟩:=(hin2 w' (h (fun w=>mG DD w L2) ak)).at hql;cases e;exact hc q hql) ?_
        refine aZ.lL (Go.Proofs.YtgbgnipidakdhaaGreatDoor.cl gp (0+q) (.int .i64 (ix o q))) (fun w' h=>h (fun w=>∀q,q<lst.length→w.cell? ⟨gp,0+q,none⟩=some (.int .i64 (ix o q))) ak q Mj) ?_
        have hstep:(ix o q=0∨ix o q=ix l q)→∀r,r<q+1→ix o r=0∨ix o r=ix l r:=fun hs r hr=>by
         rcases Nat.lt_or_ge r q with hlt|hge
         ·exact hqs r hlt
         ·rw[show r=q by omega];exact hs
        by_cases h0:ix o q=0
        ·repeat'(first|refine ar ?_|fail)
         all_goals first|(exfalso;omega)|exact ah.next (q+1) bJ Lz aV ⟨by omega,hstep (.inl h0)⟩ Mj
        ·by_cases he:ix o q=ix l q
         ·repeat'(first|refine ar ?_|fail)
          all_goals first|(exfalso;omega)|exact ah.next (q+1) bJ Lz aV ⟨by omega,hstep (.inr he)⟩ Mj
         ·have hbr:dv c x=(c.ao,12):=by
           rw[htb2,if_pos (all_false (i:=j) Mj (by rw[hlj];exact pE Mj hql (fun h=>h.elim h0 he)))]
          repeat'(first|refine ar ?_|fail)
          all_goals exact wt
       ·repeat'(first|refine ar ?_|fail)
        all_goals first|(exfalso;omega)|exact ah.next (j+1) bJ Lz aV ⟨by omega,fun r hr=>by rcases Nat.lt_or_ge r j with h|h;exact hfit r h;rw[show r=j by omega,hlj];exact ob (fun i h1 h2=>hqs i Mj)⟩ Mj
      ·have hbr:dv c x=(s1,0):=by
        rw[htb2,if_neg (by rw[all_true (fun i hi=>hfit i Mj)];decide)]
       repeat'(first|refine ar ?_|fail)
       all_goals first|(exfalso;omega)|exact ah.aB rfl rfl fun w' hw'=>by rw[hbr];exact aD.ok (r:=({c with ao:=s1},0)) (⟨sp,tv1,pv1,bv,rv,fv,D,L⟩:iY) rfl ⟨hg.len,hg.fr,hg.rs⟩ hS hw' LD ak
     ·obtain⟨i,rfl⟩:∃i,j=i+1:=⟨j - 1,by omega⟩
      rw[uL]at hpk
      rw[show((i+1:Nat):Int) - 1=(i:Int)by omega]
      repeat'(first|refine ar ?_|refine K3 ?_|fail)
      refine JY ?_
      rintro⟨tv2,pv2⟩ _
      obtain⟨pr,hpr⟩:∃r,aU s1=r:=⟨_,rfl⟩
      have wf2:(aU s1).1.Wf:=iC wf1
      rw[hpr]at hpk wf2 ⊢
      obtain⟨s2,a,e⟩:=pr
      dsimp only[aS,List.cons_append,List.nil_append]at hpk wf2 ⊢
      by_cases he:e=0
      ·subst he
       rw[if_neg (fun h=>h rfl)]at hpk
       repeat'(first|refine ar ?_|refine K5 ?_|fail)
       refine aa.jf (fQ.ES (i:=i) rfl rfl rfl Mj rfl rfl aA (by simp[aX];omega)) ?_
       rintro⟨⟩ _
       simp only[List.getElem_toArray,List.getElem_cons_zero,List.getElem_cons_succ]
       rw[Eb]
       repeat'(first|refine ar ?_|fail)
       exact ah.Ge (i,s2,a::o,tv2,pv2) bJ (by first|(dsimp only[aQ,aS,List.cons_append,List.nil_append];exact dM)|exact dM) aV ⟨by dsimp only;rw[List.length_cons];omega,wf2,hpk⟩ LT
      ·rw[if_pos he]at hpk
       have hbr:dv c x=(c.ao,e):=by rw[htb2,hpk];exact if_pos he
       repeat'(first|refine ar ?_|fail)
       all_goals first|(exfalso;omega)|exact ah.aB rfl rfl fun w' hw'=>aD.err e (by show(dv c x).2=e;rw[hbr]) he hS hw' ak
    ·have hbr:dv c x=(c.ao,e0):=by rw[htb2];exact if_pos jf
     repeat'(first|refine ar ?_|fail)
     all_goals first|(exfalso;omega)|exact ah.aB rfl rfl fun w' hw'=>aD.err e0 (by show(dv c x).2=e0;rw[hbr]) jf hS hw' ak
theorem vl {s:bP}:∀(a b:List Int) (n:Nat),ew s (a++b) n=if(ew s a n).2=0 then ew s b (ew s a n).1 else(0,(ew s a n).2)
 |[],b,n=>by simp[ew]
 |x::r,b,n=>by
  have ih:=vl (s:=s) r b
  simp only[List.cons_append,ew]
  split
  ·split
   ·exact ih n
   ·simp
  ·split
   ·simp
   ·exact ih (n - 1)
theorem nX {s:bP} {k:Nat} (h0:0≤s.at_):∀(l:List Int) (n:Nat),n≤k→k≤s.ts.length→s.at_≤n→ew {s with ts:=s.ts.take k} l n=ew s l n
 |[],n,_,_,_=>rfl
 |x::r,n,h,hk,ha=>by
  have e2:({s with ts:=s.ts.take k}:bP).at_=s.at_:=rfl
  have e3:({s with ts:=s.ts.take k}:bP).loose=s.loose:=rfl
  rw[ew,ew,e2,e3]
  by_cases hat:(n:Int)=s.at_
  ·rw[if_pos hat,if_pos hat,nX h0 r n h hk ha]
  ·have e4:ix (s.ts.take k) (n - 1)=ix s.ts (n - 1):=by
    rw[cD LN,cD Mj];simp
   rw[if_neg hat,if_neg hat]
   dsimp only
   rw[e4,nX h0 r (n - 1) Mj hk Mj]
theorem yz {s:bP} (h:s.Wf) (l:List Int) (x:Int):aE s (l++[x])=if(aE s [x]).2≠0 then(s,(aE s [x]).2)else if(aE (aE s [x]).1 l).2≠0 then(s,(aE (aE s [x]).1 l).2)else aE (aE s [x]).1 l:=by
 have hat:=h.at_.2
 have h0:=h.at_.1
 unfold aE
 rw[List.reverse_append,show([x]:List Int).reverse=[x]from rfl,vl]
 obtain⟨r,hr⟩:∃r,ew s [x] s.ts.length=r:=⟨_,rfl⟩
 have hb:=iX (s:=s) [x] s.ts.length Mj
 rw[hr]at hb ⊢
 by_cases he:r.2=0
 ·obtain⟨h1,h2⟩:=hb he
  have e1:(s.ts.take r.1).length=r.1:=by rw[List.length_take];omega
  have e5:=nX (k:=r.1) h0 l.reverse r.1 (Nat.le_refl _) h2 h1
  simp only[if_pos he,e1,e5,ne_eq,not_true_eq_false,if_false]
  obtain⟨q,hq⟩:∃q,ew s l.reverse r.1=q:=⟨_,rfl⟩
  have hb2:=iX (s:=s) l.reverse r.1 h1
  rw[hq]at hb2 ⊢
  by_cases he2:q.2=0
  ·have:=hb2 he2
   simp only[if_pos he2,not_true_eq_false,if_false]
   rw[List.take_take,Nat.min_eq_left this.2]
  ·simp[he2]
 ·simp[he]
def bP.Fit (s:bP):Prop:=s.ts.length≤s.bH
theorem yH {s:bP} (h:s.Fit):aJ s []=s:=by
 unfold aJ
 have:max s.bH (s.ts.length+([]:List Int).length)=s.bH:=Nat.max_eq_left (by unfold bP.Fit at h;simpa using h)
 rw[this,List.append_nil]
theorem jR (s:bP) (l:List Int):(aJ s l).Fit:=by
 show(s.ts++l).length≤max s.bH (s.ts.length+l.length)
 rw[List.length_append];exact Nat.le_max_right ..
theorem jS {s:bP} (h:s.Fit) (l:List Int):(aE s l).1.Fit:=by
 have h1:=dp s l
 have h2:(aE s l).1.bH=s.bH:=by unfold aE;dsimp only;split<;>rfl
 unfold bP.Fit at*;omega
theorem qU {s:bP} (h:s.Fit):(aU s).1.Fit:=by
 have h1:=ja s
 have h2:=kV s
 unfold bP.Fit at*;omega
theorem DQ {s:bP} (h:s.Wf) (l:List Int):(fy s ⟨l++[1],l⟩).2=(if(aE s [1]).2≠0 then(s,(aE s [1]).2)else fy (aE s [1]).1 ⟨l,l⟩).2∧((fy s ⟨l++[1],l⟩).2=0→(fy s ⟨l++[1],l⟩).1=(if(aE s [1]).2≠0 then(s,(aE s [1]).2)else fy (aE s [1]).1 ⟨l,l⟩).1):=by
 unfold fy
 dsimp only
 rw[yz h]
 obtain⟨a,ha⟩:∃a,aE s [1]=a:=⟨_,rfl⟩
 rw[ha]
 by_cases h1:a.2≠0
 ·simp only[if_pos h1];exact⟨trivial,fun h=>absurd h h1⟩
 ·simp only[if_neg h1]
  obtain⟨b,hb⟩:∃b,aE a.1 l=b:=⟨_,rfl⟩
  rw[hb]
  by_cases h2:b.2≠0
  ·simp only[if_pos h2];exact⟨trivial,fun h=>absurd h h2⟩
  ·simp only[if_neg h2];exact⟨trivial,fun _=>trivial⟩
theorem Bv {c:fN} (hf:c.ao.Fit) (l:List Int):kp c l 0=if(aE c.ao l).2≠0 then(c,(aE c.ao l).2)else(fF {c with ao:=(aE c.ao l).1},0):=by
 unfold kp jl fy
 dsimp only
 rw[if_neg Mh]
 by_cases h1:(aE c.ao l).2≠0
 ·simp only[if_pos h1]
 ·simp only[if_neg h1]
  rw[if_neg Mh,yH (jS hf l)]
theorem yx {m:aj} {locals:List Int} {x:cJ} {f:aL} {e:Int} (h:ed m locals x=(f,e)) (h1:e≠0):f=dy:=by
 unfold ed dH bM ec cX cU at h
 dsimp only at h
 repeat' split at h
 all_goals first|(cases h;exact absurd rfl h1)|(cases h;rfl)
theorem xr {m:aj} {locals:List Int} {x:cJ} {f:aL} {e:Int} (h:kP m locals x=(f,e)) (h1:e≠0):f=dy:=by
 unfold kP at h
 split at h
 ·cases h;rfl
 split at h
 ·cases h;rfl
 ·exact yx h h1
theorem Ep (op t:Int) (s:List UInt8):(hU op t s).params.length≤3∧(hU op t s).results.length≤3:=by
 unfold hU
 repeat' split
 all_goals(dsimp only[List.length_cons,List.length_nil];omega)
theorem GP (op:Int):((ft op).getD dy).params.length≤3∧((ft op).getD dy).results.length≤3:=by
 unfold ft
 repeat' split
 all_goals first|exact⟨by decide,by decide⟩|exact Ep _ _ _|(dsimp only[Option.getD_some,Option.getD_none,dy,List.length_cons,List.length_nil];omega)
theorem vd {m:aj} {locals:List Int} {x:cJ} {f:aL} {e:Int} (hT:kx m) (h:ed m locals x=(f,e)):f.params.length≤17592186043905∧f.results.length≤17592186043904:=by
 have hfun:∀g,fS m x.a=some g→g∈m.types:=fun g hg=>by
  unfold fS at hg
  cases ha:cx (fX m) x.a with
  |none=>rw[ha]at hg;cases hg
  |some t=>rw[ha]at hg;exact nc hg
 have hs:=GP x.op
 unfold ed dH bM ec cX cU at h
 dsimp only at h
 repeat' split at h
 all_goals cases h
 all_goals first
  |(dsimp only[dy,List.length_cons,List.length_nil];omega)
  |(have:=hT _ (hfun _ Md);omega)
  |(have:=hT _ (nc Md);dsimp only;rw[List.length_append];dsimp only[List.length_cons,List.length_nil];omega)
  |omega
end Go.Proofs.YtgbgnipidakdhaaGreatDoor
