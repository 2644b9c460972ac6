import Derived.Test.YtdkcljdfbemnbaaGreatDoorJOk
import Derived.Test.YtdkcljdfbemnbaaGreatDoorJGd
import Derived.Test.YtdkcljdfbemnbaaGreatDoorJVi2
namespace Go.Proofs.YtdkcljdfbemnbaaGreatDoor
open Go.RowKit
set_option maxHeartbeats 16000000
open Nat renaming lt_or_ge→PG,zero_add→Ps,zero_le→Pu
open Value renaming int→Pm,slice→Pn
set_option maxRecDepth 100000
abbrev sA:Nat:=119
variable (f:aO) {ops:Array Oper} {Q:Exit→Act→World→Prop} {n:Nat} (F:Nat→Prop) (c:gA)
theorem kX {rest:List Oper} {E:Env} {M:List bu} {R:List (World→Prop)} {d:Nat} {ty:TypeId} {pos:String} {aft:Array Edge} (h:∀b:Nat,aa ops Q n rest ((d,.pointer (some ⟨b,0,none⟩))::E) (.aW b [.slice none 0 0,.slice none 0 0,.slice none 0 0,.int .i64 0,.slice none 0 0,.slice none 0 0,.int .i64 0] sA::M) R) (hd:Nat.blt d n=true:=by rfl):aa ops Q n (⟨some d,.alloc sA,ty,pos,aft,none⟩::rest) E M R:=aa.alloc (t:=sA) [.slice none 0 0,.slice none 0 0,.slice none 0 0,.int .i64 0,.slice none 0 0,.slice none 0 0,.int .i64 0] rfl rfl hd h
theorem Ok.xS {β β2:Type} {V:(Nat→Prop)→World→β→Prop} {V2:(Nat→Prop)→World→β2→Prop} {M M':List bu} {R:List (World→Prop)} {w0 w:World} {F D:Nat→Prop} {y:β} (y2:β2) (hw:Ok M R w) (hM:Up (bu.an V w0 F D y) (bu.an V2 w0 F D y2) M M') (hp:∀w',Ext w0 w'→V (AF F w0 D) w' y→V2 (AF F w0 D) w' y2):Ok M' R w:=
 hw.qj hM (bX.refl _ w) (fun w' h0 h2=>hp w' h0 ((hw.m _ hM.mem).1 w' h0 h2)) fun k hk=>⟨(hw.m _ hM.mem).2 k hk,fun _=>hk⟩
theorem aa.xS {l:List Oper} {E:Env} {M M':List bu} {R:List (World→Prop)} {β β2:Type} {V:(Nat→Prop)→World→β→Prop} {V2:(Nat→Prop)→World→β2→Prop} {w0:World} {F D:Nat→Prop} {y:β} (y2:β2) (hM:Up (bu.an V w0 F D y) (bu.an V2 w0 F D y2) M M') (hp:∀w',Ext w0 w'→V (AF F w0 D) w' y→V2 (AF F w0 D) w' y2) (h:aa ops Q n l E M' R):aa ops Q n l E M R:=⟨fun w hw=>h.h w (hw.xS y2 hM hp)⟩
theorem nR.mono {D H:Nat→Prop} {w:World} {L:List (List Int×Value)} (h:nR D w L) (hd:∀k,D k→H k):nR H w L:=fun y hy=>(h y hy).mono fun k _ hk=>hd k hk
theorem BJ (s:ck):∀n,(dp s n).1.bR=s.bR:=by
 intro n
 induction n generalizing s with
 |zero=>rfl
 |succ n ih=>
  rw[dp]
  split
  ·rfl
  ·split
   ·exact(ih _).trans (mQ s)
   ·exact(ih _).trans (mQ s)
theorem ny (y:jC) (w:World) (h:cG c F w y) (n:Int):∃u,ai F w u (eY c n).1∧∀w',Ext w w'→Calls G.P 72 #[.agg (eO c y).toArray,.int .i64 n] w' fun e w2=>e=.returned (.tuple #[u,.int .i64 (eY c n).2])∧Ext w' w2:=by
 have hc:∀w',Ext w w'→cG c F w' y:=fun w' hx=>cG.fr c h hx (fun _ _ _ h=>h)
 unfold eY
 by_cases hb:n<0∨(c.fs.length:Int)≤n
 ·rw[if_pos hb]
  refine⟨.slice none 0 0,ai.cH _ _,fun w' hx=>?_⟩
  have:=sq F c y n w' (hc w' hx)
  rw[if_pos hb]at this;exact this
 ·rw[if_neg hb]
  obtain⟨_,_,_,_,_,_,_,-,-,hf,-⟩:=h.frame (i:=c.fs.length - 1 - n.toNat) Pi
  refine⟨if(ix c.fs (c.fs.length - 1 - n.toNat)).op=3 then(ix y.z (c.fs.length - 1 - n.toNat)).2.1 else(ix y.z (c.fs.length - 1 - n.toNat)).2.2,?_,fun w' hx=>?_⟩
  ·dsimp only
   by_cases h3:(ix c.fs (c.fs.length - 1 - n.toNat)).op=3
   ·rw[if_pos h3,if_pos h3];exact hf.1
   ·rw[if_neg h3,if_neg h3];exact hf.2
  ·have:=sq F c y n w' (hc w' hx)
   rw[if_neg hb]at this;exact this
theorem uI (y:jC) (w:World) (h:cG c F w y) (x:cv) (pt pl:Option Addr) (ct cl:Nat) (hl:ai F w (.slice pl x.labels.length cl) x.labels) (_hll:x.labels.length≤10000000) (hfl:c.fs.length≤1000000) (hs:c.ao.Wf) (hpl:c.ao.ps.length≤1000000) (hlb:∀n,(eY c n).1.length≤100000000000):Calls G.P 74 #[.agg (eO c y).toArray,.agg #[Pm .i64 x.op,Pm .i64 x.a,Pm .i64 x.b,Pm .u64 x.n,Pm .i64 x.kind,Pm .i64 x.val,Pm .i64 x.index,Pn pt x.types.length ct,Pn pl x.labels.length cl]] w (gG (fw c x) F w):=by
 have hlab:=fun n=>ny F c y w h n
 obtain⟨p1,c1,p2,c2,p3,c3,p4,c4,p5,c5,ey,k4,h4,kz⟩:=h.gx
 obtain⟨y,fv,rv,z⟩:=y
 cases ey
 obtain⟨ls,hls⟩:∃l,x.labels++[x.a]=l:=⟨_,rfl⟩
 have hln:ls.length=x.labels.length+1:=by rw[←hls];simp
 refine ae (l:=[_,_]) Tryz.func74 rfl Tryz.ntmps74 rfl (Ok.fg (V:=bw c.ao) (bw.fr c.ao) (bw.lt c.ao) h.1) ?_
 dsimp only[eO]at hlab ⊢
 refine ar ?_
 refine aa.box [.slice p1 c.ao.ts.length c1,.slice p2 c.ao.ps.length c2,.slice p3 c.ao.ps.length c3,.int .i64 c.ao.bR,.slice p4 c.fs.length c4,.slice p5 c.results.length c5,.int .i64 0] rfl rfl rfl fun b2=>?_
 refine aa.box [Pm .i64 x.op,Pm .i64 x.a,Pm .i64 x.b,Pm .u64 x.n,Pm .i64 x.kind,Pm .i64 x.val,Pm .i64 x.index,Pn pt x.types.length ct,Pn pl x.labels.length cl] rfl rfl rfl fun b3=>?_
 refine aa.alloc (t:=sA) [.slice none 0 0,.slice none 0 0,.slice none 0 0,.int .i64 0,.slice none 0 0,.slice none 0 0,.int .i64 0] rfl rfl rfl fun b4=>?_
 repeat'(first|refine ar ?_|fail)
 refine MJ ?_
 refine aP.zR (α:=Option Addr×Nat) (fun y=>[(2,.pointer (some ⟨b2,0,none⟩)),(4,.pointer (some ⟨b4,0,none⟩)),(5,.int .i64 0),(6,.slice y.1 (x.labels.length+1) y.2)]) (fun y=>[.own 0 3 1 (.slice y.1 (x.labels.length+1) y.2) (x.labels.length+1) (aY x.labels++[.int .i64 x.a]),.aW b4 [.slice none 0 0,.slice none 0 0,.slice none 0 0,.int .i64 0,.slice none 0 0,.slice none 0 0,.int .i64 0] sA,.aW b2 [.slice p1 c.ao.ts.length c1,.slice p2 c.ao.ps.length c2,.slice p3 c.ao.ps.length c3,.int .i64 c.ao.bR,.slice p4 c.fs.length c4,.slice p5 c.results.length c5,.int .i64 0] sA,bu.an (bw c.ao) w F (fun _=>False) ⟨.slice p1 c.ao.ts.length c1,.slice p2 c.ao.ps.length c2,.slice p3 c.ao.ps.length c3⟩]) (fun _=>[Ext w]) ?_ fun hrest=>?_
 rotate_left
 ·repeat'(first|refine pN ?_|(refine ax.lD ?_;refine ax.he rfl rfl (HE.jG rfl rfl rfl rfl rfl er Pk Pk) (fun _=>bz) (fun _=>aU) ?_;rintro bl0 _;refine aP.map (fun w' hw'=>hw'.jN (b:=bl0) (len:=0) (s:=1) aH rfl O4) ?_)|(refine ax.lD ?_;refine ax.he rfl rfl (HE.jG rfl rfl rfl rfl rfl er Pk Pk) (fun _=>bz) (fun _=>aU) ?_;rintro bl _)|(refine ax.rr ?_;refine ax.he rfl rfl (HE.app rfl rfl (fun _=>aH) aH rfl rfl rfl Pk Pk Pk Pk Pk Pk Pi (fun _ _=>Pu _)) (fun _=>bz) (fun _=>aU) ?_;rintro vb _;refine aP.pure (φ:=∃p cc,vb=.slice p (x.labels.length+1) cc) (fun w' hw'=>by obtain⟨p,cc,e,_⟩:=aw (hw'.own (v:=vb));exact⟨p,cc,e⟩) ?_;rintro⟨pb,cb,rfl⟩)|(refine ax.rr ?_;refine ax.he rfl rfl (HE.gR (aY x.labels) rfl rfl (fun _=>aH) (jJ hl ak) Pg rfl rfl rfl Pk Pk Pk (fj _) (by show(0+x.labels.length)*8≤_;omega) Pi (fun _ _=>Pu _)) (fun _=>bz) (fun _=>aU) ?_;rintro va _;simp only[Ps,List.nil_append];refine aP.pure (φ:=∃p cc,va=.slice p x.labels.length cc) (fun w' hw'=>by obtain⟨p,cc,e,_⟩:=aw (hw'.own (v:=va));exact⟨p,cc,e⟩) ?_;rintro⟨pa,ca,rfl⟩)|refine aP.nil O9 ?_|refine aP.any O9 ?_|exact aB.fin rfl|refine aB.skip O9 ?_|refine aB.go ?_ ?_)
  all_goals exact ah.dc (hrest (pb,cb)) bH dV aU
 ·rintro⟨pa,ca⟩
  dsimp only
  repeat'(first|refine ar ?_|fail)
  refine bh.pure (φ:=∃g,pa=some ⟨g,0,none⟩) (fun w' hw'=>by
   obtain⟨p,cc,e,_,_,hg⟩:=aw (hw'.own (B:=0) (T:=3) (v:=.slice pa (x.labels.length+1) ca))
   cases e
   obtain⟨g,hg,_⟩:=hg Pi
   exact⟨g,hg⟩) ?_
  rintro⟨ga,rfl⟩
  refine bh.freeze (q:=.own 0 3 1 (.slice (some ⟨ga,0,none⟩) (x.labels.length+1) ca) (x.labels.length+1) (aY x.labels++[.int .i64 x.a])) (fun w=>∀i,i<ls.length→w.cell? ⟨ga,0+i,none⟩=some (.int .i64 (ix ls i))) jH (fun w' h _ i hi=>by rw[Ps];exact dP h (by have:=o0 hi;rw[Ps,←hls,qk]at this;rw[←hls];exact this)) ?_
  refine bh.iP 0 Gh 1 ?_
  refine bh.loop (σ:=Nat×List (List Int×Value)×Option Addr×Nat) (fun q=>[(2,.pointer (some ⟨b2,0,none⟩)),(4,.pointer (some ⟨b4,0,none⟩)),(5,.int .i64 0),(6,.slice (some ⟨ga,0,none⟩) (x.labels.length+1) ca),(7,.slice q.2.2.1 q.1 q.2.2.2),(8,.int .i64 q.1)]) (fun q=>[.own 0 Gh 1 (.slice q.2.2.1 q.1 q.2.2.2) q.1 (q.2.1.map Prod.snd),.aW b4 [.slice none 0 0,.slice none 0 0,.slice none 0 0,.int .i64 0,.slice none 0 0,.slice none 0 0,.int .i64 0] sA,.aW b2 [.slice p1 c.ao.ts.length c1,.slice p2 c.ao.ps.length c2,.slice p3 c.ao.ps.length c3,.int .i64 c.ao.bR,.slice p4 c.fs.length c4,.slice p5 c.results.length c5,.int .i64 0] sA,bu.an (bw c.ao) w F (fun _=>False) ⟨.slice p1 c.ao.ts.length c1,.slice p2 c.ao.ps.length c2,.slice p3 c.ao.ps.length c3⟩]) (fun _=>[Ext w,fun w=>∀i,i<ls.length→w.cell? ⟨ga,0+i,none⟩=some (.int .i64 (ix ls i))]) (fun q=>q.1≤ls.length∧jS (eY c) ls q.1 q.2.1∧nR F w q.2.1) (fun q=>ls.length - q.1) (0,[],none,0) bH (by dsimp only[List.map];exact bz) aU ⟨Nat.zero_le _,jS.nil _ _,nR.nil _ _⟩ ?_
  rintro⟨i,L2,rp,rc⟩ ⟨hi,hrw,hrl⟩
  dsimp only at hi hrw hrl ⊢
  by_cases hin:i<ls.length
  ·refine MK ?_
   obtain⟨u,hu,hcall⟩:=hlab (ix ls i)
   obtain⟨q,hq⟩:∃q,eY c (ix ls i)=q:=⟨_,rfl⟩
   have hql:=hlb (ix ls i)
   rw[hq]at hql hu hcall
   obtain⟨l,e⟩:=q
   dsimp only at hql hu hcall
   obtain⟨pu,cu,rfl,_⟩:=hu.slice
   repeat'(first|refine ar ?_|fail)
   refine Mq ?_
   refine cq ?_
   refine aq.oc rfl rfl rfl (fun w' hw'=>hcall w' hw'.at) ?_
   refine cq ?_
   by_cases he:e=0
   ·subst he
    repeat'(first|refine ar ?_|(refine fC fun b_ _=>?_)|fail)
    refine MM ?_
    intro v5 _
    refine aa.pure (φ:=∃p cc,v5=.slice p (i+1) cc) (fun w' hw'=>by obtain⟨p,cc,e,_⟩:=aw (hw'.own (B:=0) (T:=Gh) (v:=v5));exact⟨p,cc,e⟩) ?_
    rintro⟨p5',c5',rfl⟩
    try simp only[List.getElem_toArray,List.getElem_cons_zero,List.getElem_cons_succ]
    rw[show L2.map Prod.snd++[Pn pu l.length cu]=(L2++[(l,Pn pu l.length cu)]).map Prod.snd by simp]
    repeat'(first|refine ar ?_|fail)
    exact ah.next (i+1,L2++[(l,.slice pu l.length cu)],p5',c5') bH bz aU ⟨by dsimp only;omega,hrw.snoc hin hq _,(nR.snoc hrl hu).mono fun _ h=>h.elim id id⟩ O6
   ·have hbr:fw c x=(c,e):=by unfold fw;rw[hls,hrw.err hin hq he];exact if_pos he
    repeat'(first|refine ar ?_|fail)
    all_goals exact H1
  ·obtain rfl:i=ls.length:=by omega
   have hlen:=hrw.len
   have htk:=hrw.types
   have hmem:∀{j:Nat},j<ls.length→ix L2 j∈L2:=fun{j} hj=>by rw[cz Pi];exact List.getElem_mem _
   refine bh.pure (φ:=∃g,rp=some ⟨g,0,none⟩) (fun w' hw'=>by
    obtain⟨p,cc,e,_,_,hg⟩:=aw (hw'.own (B:=0) (T:=Gh) (v:=.slice rp ls.length rc))
    cases e
    obtain⟨g,hg,_⟩:=hg Pi
    exact⟨g,hg⟩) ?_
   rintro⟨gr,rfl⟩
   have hsl:∀y∈L2,∃p cc,y.2=.slice p y.1.length cc:=fun y hy=>by
    obtain⟨p,cc,e,_⟩:=(hrl y hy).slice
    exact⟨p,cc,e⟩
   refine bh.freeze (q:=.own 0 Gh 1 (.slice (some ⟨gr,0,none⟩) ls.length rc) ls.length (L2.map Prod.snd)) (fun w=>∀i,i<ls.length→w.cell? ⟨gr,0+i,none⟩=some (ix L2 i).2) jH (fun w' h _ i hi=>by
    rw[Ps]
    refine dP h ?_
    rw[List.getElem?_map,List.getElem?_eq_getElem (show i<L2.length by omega),cz (show i<L2.length by omega)]
    rfl) ?_
   obtain⟨n0,hn0⟩:∃n0,ls.length=n0+1:=⟨x.labels.length,hln⟩
   obtain⟨pL,cL,eL⟩:=hsl (ix L2 n0) (hmem Pi)
   obtain⟨lst,hlst⟩:∃l,(ix L2 n0).1=l:=⟨_,rfl⟩
   rw[hlst]at eL
   have hlast:ix (L2.map Prod.fst) ((L2.map Prod.fst).length - 1)=lst:=by rw[List.length_map,hlen,hn0];show ix (L2.map Prod.fst) n0=_;rw[yi Pi,hlst]
   have hlstl:lst.length≤100000000000:=by
    have h1:ix (L2.map Prod.fst) n0=(eY c (ix ls n0)).1:=by
     rw[hrw.row,List.take_length,cz (show n0<(ls.map fun n=>(eY c n).1).length by rw[List.length_map];omega),List.getElem_map,cz (show n0<ls.length by omega)]
    rw[yi Pi,hlst]at h1
    rw[h1];exact hlb _
   have htab:fw c x=if(fM (L2.map Prod.fst) c.ao).2≠0 then(c,(fM (L2.map Prod.fst) c.ao).2)else(gk {c with ao:=(fM (L2.map Prod.fst) c.ao).1},0):=by unfold fw;rw[hls,htk];exact if_neg (fun h=>h rfl)
   refine bh.lj (Go.Proofs.YtdkcljdfbemnbaaGreatDoor.cl gr (0+n0) (.slice pL lst.length cL)) (fun w' h=>by rw[←eL];exact h (fun w=>∀i,i<ls.length→w.cell? ⟨gr,0+i,none⟩=some (ix L2 i).2) ak n0 Pi) ?_
   repeat'(first|refine ar ?_|(refine aa.eN ?_;refine aa.y_ (Yl.gn (i:=n0) rfl rfl rfl rfl rfl Pi Pi) rfl ?_)|fail)
   refine bh.loop (σ:=Nat) (fun j=>[(2,.pointer (some ⟨b2,0,none⟩)),(4,.pointer (some ⟨b4,0,none⟩)),(5,.int .i64 0),(7,.slice (some ⟨gr,0,none⟩) ls.length rc),(11,.int .i64 lst.length),(12,.int .i64 j)]) (fun _=>[.aW b4 [.slice none 0 0,.slice none 0 0,.slice none 0 0,.int .i64 0,.slice none 0 0,.slice none 0 0,.int .i64 0] sA,.aW b2 [.slice p1 c.ao.ts.length c1,.slice p2 c.ao.ps.length c2,.slice p3 c.ao.ps.length c3,.int .i64 c.ao.bR,.slice p4 c.fs.length c4,.slice p5 c.results.length c5,.int .i64 0] sA,bu.an (bw c.ao) w F (fun _=>False) ⟨.slice p1 c.ao.ts.length c1,.slice p2 c.ao.ps.length c2,.slice p3 c.ao.ps.length c3⟩]) (fun _=>[Ext w,fun w=>∀i,i<ls.length→w.cell? ⟨gr,0+i,none⟩=some (ix L2 i).2]) (fun j=>j≤ls.length∧∀q,q<j→(ix L2 q).1.length=lst.length) (fun j=>ls.length - j) 0 bH bz aU ⟨Nat.zero_le _,fun q hq=>absurd hq Pi⟩ ?_
   rintro j ⟨hj,hok⟩
   by_cases hjn:j<ls.length
   ·obtain⟨pj,cj,ej⟩:=hsl (ix L2 j) (hmem hjn)
    refine bh.lj (Go.Proofs.YtdkcljdfbemnbaaGreatDoor.cl gr (0+j) (.slice pj (ix L2 j).1.length cj)) (fun w' h=>by rw[←ej];exact h (fun w=>∀i,i<ls.length→w.cell? ⟨gr,0+i,none⟩=some (ix L2 i).2) ak j hjn) ?_
    by_cases hle:(ix L2 j).1.length=lst.length
    ·repeat'(first|refine ar ?_|fail)
     all_goals first|(exfalso;omega)|exact ah.next (j+1) bH bz aU ⟨by omega,fun q hq=>by rcases PG q j with h|h;exact hok q h;rw[show q=j by omega];exact hle⟩ Pi
    ·have hbr:fw c x=(c,12):=by
      rw[htab]
      have:fM (L2.map Prod.fst) c.ao=(c.ao,12):=by unfold fM;rw[hlast,if_pos (all_false (i:=j) Pi (decide_eq_false hle))]
      rw[this];exact if_pos (show(12:Int)≠0 by decide)
     repeat'(first|refine ar ?_|fail)
     all_goals exact H1
   ·obtain rfl:j=ls.length:=by omega
    have hall:((L2.map Prod.fst).all fun l=>decide (l.length=lst.length))=true:=all_true fun i hi=>decide_eq_true (hok i Pi)
    obtain⟨r0,hr0⟩:∃r,aL c.ao [1]=r:=⟨_,rfl⟩
    have hw0:=dE hs [1]
    have hps0:=ft c.ao [1]
    rw[hr0]at hw0 hps0
    obtain⟨s0,e0⟩:=r0
    dsimp only at hw0 hps0
    have htb2:fM (L2.map Prod.fst) c.ao=if e0≠0 then(c.ao,e0)else if(dp s0 lst.length).2.2≠0 then(c.ao,(dp s0 lst.length).2.2)else if((L2.map Prod.fst).all fun l=>oh (dp s0 lst.length).2.1 l)=false then(c.ao,12)else((dp s0 lst.length).1,0):=by
     unfold fM
     rw[hlast,hall,hr0,if_neg Ph]
    repeat'(first|refine ar ?_|fail)
    by_cases jO:e0=0
    ·subst jO
     rw[if_neg (fun h=>h rfl)]at htb2
     refine Nk ?_
     refine aP.zR (α:=Nat×(Nat→Prop)×Option Addr×Nat×Option Addr×Nat×Option Addr×Nat) (fun y=>[(2,.pointer (some ⟨b2,0,none⟩)),(4,.pointer (some ⟨b4,0,none⟩)),(5,.int .i64 0),(7,.slice (some ⟨gr,0,none⟩) ls.length rc),(11,.int .i64 lst.length),(13,.pointer (some ⟨y.1,0,none⟩)),(14,.int .i64 0)]) (fun y=>[.aW y.1 [.slice y.2.2.1 s0.ts.length y.2.2.2.1,.slice y.2.2.2.2.1 s0.ps.length y.2.2.2.2.2.1,.slice y.2.2.2.2.2.2.1 s0.ps.length y.2.2.2.2.2.2.2,.int .i64 s0.bR] nZ,.aW b4 [.slice none 0 0,.slice none 0 0,.slice none 0 0,.int .i64 0,.slice none 0 0,.slice none 0 0,.int .i64 0] sA,.aW b2 [.slice p1 c.ao.ts.length c1,.slice p2 c.ao.ps.length c2,.slice p3 c.ao.ps.length c3,.int .i64 c.ao.bR,.slice p4 c.fs.length c4,.slice p5 c.results.length c5,.int .i64 0] sA,bu.an (bw s0) w F y.2.1 ⟨.slice y.2.2.1 s0.ts.length y.2.2.2.1,.slice y.2.2.2.2.1 s0.ps.length y.2.2.2.2.2.1,.slice y.2.2.2.2.2.2.1 s0.ps.length y.2.2.2.2.2.2.2⟩]) (fun _=>[Ext w,fun w=>∀i,i<ls.length→w.cell? ⟨gr,0+i,none⟩=some (ix L2 i).2]) ?_ fun hrest=>?_
     rotate_left
     ·repeat'(first|refine pN ?_|(refine ax.lD ?_;refine ax.he rfl rfl (HE.jG rfl rfl rfl rfl rfl er Pk Pk) (fun _=>bz) (fun _=>aU) ?_;rintro bl _)|(refine ax.dA 118 ?_;refine ax.he rfl rfl (HE.eU rfl rfl (fun w' hw'=>gq _ _ _ w')) (fun _=>bz) (fun _=>aU) ?_;rintro⟨⟩ _)|(refine ax.dA 111 ?_;refine ax.he rfl rfl (HE.bV (V:=bw c.ao) (V2:=bw s0) (w0:=w) (F:=F) (D:=(fun _=>False)) (y:=⟨.slice p1 c.ao.ts.length c1,.slice p2 c.ao.ps.length c2,.slice p3 c.ao.ps.length c3⟩) (bw.fr _) (bw.lt _) (bw.mo _) ak bO (fun _=>aH) rfl rfl (fun w' hw' hh=>by have:=fa _ _ c.ao ⟨.slice p1 c.ao.ts.length c1,.slice p2 c.ao.ps.length c2,.slice p3 c.ao.ps.length c3⟩ (.slice (some ⟨bl,0,none⟩) 1 1) [1] w' hh (dJ (hw'.m (.aW bl [.int .i64 1] fR) bO).1) hs.some hs.at_.1 hs.at_.2;rw[hr0]at this;exact this.mono fun _ _ g=>oS.to g)) (fun _=>bz) (fun _=>aU) ?_;rintro⟨D1,x1⟩ _;refine aP.pure (φ:=∃q1 d1 q2 d2 q3 d3,x1=⟨.slice q1 s0.ts.length d1,.slice q2 s0.ps.length d2,.slice q3 s0.ps.length d3⟩) (fun w' hw'=>by obtain⟨q1,d1,q2,d2,q3,d3,e,-⟩:=(hw'.an (V:=bw s0) (w0:=w) (F:=F) (D:=D1) (y:=x1) ak bO).gx;exact⟨q1,d1,q2,d2,q3,d3,e⟩) ?_;rintro⟨r1,rc1,r2,rc2,r3,rc3,rfl⟩;dsimp only[gw])|(refine ax.yf nZ ?_;refine ax.he rfl rfl (HE.alloc (t:=nZ) [.slice none 0 0,.slice none 0 0,.slice none 0 0,.int .i64 0] rfl rfl) (fun _=>bz) (fun _=>aU) ?_;intro b13 _)|(refine ax.nj ?_;refine ax.jO rfl (gj.bn _ rfl rfl rfl rfl rfl rfl aH rfl) (fun _=>bz) (fun _=>aU) ?_;rintro⟨⟩ _)|refine aP.nil O9 ?_|refine aP.any O9 ?_|exact aB.fin rfl|refine aB.skip O9 ?_|refine aB.go ?_ ?_)
      all_goals exact ah.dc (hrest (b13,D1,r1,rc1,r2,rc2,r3,rc3)) bH dV aU
     ·rintro⟨b13,D1,r1,rc1,r2,rc2,r3,rc3⟩
      dsimp only
      repeat'(first|refine ar ?_|fail)
      refine aa.he (HE.bV (V:=bw s0) (V2:=A2 (dp s0 lst.length)) (tf:=fun x=>.tuple #[.agg #[x.1.l,x.1.m,x.1.o,.int .i64 s0.bR],x.2,.int .i64 (dp s0 lst.length).2.2]) (w0:=w) (F:=F) (D:=D1) (y:=⟨.slice r1 s0.ts.length rc1,.slice r2 s0.ps.length rc2,.slice r3 s0.ps.length rc3⟩) (A2.fr _) (A2.lt _) (A2.mo _) ak bO (fun _=>aH) rfl rfl (fun w' _ hh=>BS _ s0 ⟨.slice r1 s0.ts.length rc1,.slice r2 s0.ps.length rc2,.slice r3 s0.ps.length rc3⟩ lst.length w' hh hw0 Pi)) rfl ?_
      rintro⟨D2,x2,u2⟩ _
      obtain⟨pr,hpr⟩:∃r,dp s0 lst.length=r:=⟨_,rfl⟩
      have hpw:=z7 hw0 lst.length
      have hms:=BJ s0 lst.length
      rw[hpr]at htb2 hpw hms ⊢
      obtain⟨s2,o,e2⟩:=pr
      dsimp only at htb2 hpw hms ⊢
      rw[←hms]
      refine aa.pure (φ:=x2.Sl∧∃p n c,u2=.slice p n c) (fun w' hw'=>by have hv:=hw'.an (V:=A2 (s2,o,e2)) (w0:=w) (F:=F) (D:=D2) (y:=(x2,u2)) ak bO;exact⟨hv.1,hv.2.1⟩) ?_
      rintro⟨⟨q1,n1,d1,q2,n2,d2,q3,n3,d3,rfl⟩,pu,nu,cu,rfl⟩
      dsimp only
      by_cases he2:e2=0
      ·subst he2
       rw[if_neg (fun h=>h rfl)]at htb2
       repeat'(first|refine ar ?_|fail)
       refine bh.loop (σ:=Nat) (fun j=>[(2,.pointer (some ⟨b2,0,none⟩)),(4,.pointer (some ⟨b4,0,none⟩)),(5,.int .i64 0),(7,.slice (some ⟨gr,0,none⟩) ls.length rc),(13,.pointer (some ⟨b13,0,none⟩)),(15,.slice pu nu cu),(16,.int .i64 j)]) (fun _=>[.aW b13 [.slice q1 n1 d1,.slice q2 n2 d2,.slice q3 n3 d3,.int .i64 s2.bR] nZ,.aW b4 [.slice none 0 0,.slice none 0 0,.slice none 0 0,.int .i64 0,.slice none 0 0,.slice none 0 0,.int .i64 0] sA,.aW b2 [.slice p1 c.ao.ts.length c1,.slice p2 c.ao.ps.length c2,.slice p3 c.ao.ps.length c3,.int .i64 c.ao.bR,.slice p4 c.fs.length c4,.slice p5 c.results.length c5,.int .i64 0] sA,bu.an (A2 (s2,o,0)) w F D2 (⟨.slice q1 n1 d1,.slice q2 n2 d2,.slice q3 n3 d3⟩,.slice pu nu cu)]) (fun _=>[Ext w,fun w=>∀i,i<ls.length→w.cell? ⟨gr,0+i,none⟩=some (ix L2 i).2]) (fun j=>j≤ls.length∧∀q,q<j→oh o (ix L2 q).1=true) (fun j=>ls.length - j) 0 bH bz aU ⟨Nat.zero_le _,fun q hq=>absurd hq Pi⟩ ?_
       rintro j ⟨hj,hfit⟩
       by_cases hjn:j<ls.length
       ·obtain⟨pj,cj,ej⟩:=hsl (ix L2 j) (hmem hjn)
        obtain⟨l,hlj⟩:∃l,(ix L2 j).1=l:=⟨_,rfl⟩
        have hrow:ai F w (.slice pj l.length cj) l:=by have:=hrl _ (hmem hjn);rw[ej,hlj]at this;exact this
        rw[hlj]at ej
        refine bh.lj (Go.Proofs.YtdkcljdfbemnbaaGreatDoor.cl gr (0+j) (.slice pj l.length cj)) (fun w' h=>by rw[←ej];exact h (fun w=>∀i,i<ls.length→w.cell? ⟨gr,0+i,none⟩=some (ix L2 i).2) ak j hjn) ?_
        obtain⟨fb,hfb⟩:∃b,oh o l=b:=⟨_,rfl⟩
        repeat'(first|refine ar ?_|fail)
        refine aa.he (HE.eU (v:=.bool fb) rfl rfl (fun w' hw'=>by have:=BR _ F o l (.slice pu nu cu) (.slice pj l.length cj) w' ((hw'.an (V:=A2 (s2,o,0)) (w0:=w) (F:=F) (D:=D2) (y:=(⟨.slice q1 n1 d1,.slice q2 n2 d2,.slice q3 n3 d3⟩,.slice pu nu cu)) ak bO).2.2 rfl).2 (hrow.aN (show Ext w w' from hw'.at) (fun _ _ _ h=>h));rw[hfb]at this;exact this)) rfl ?_
        rintro⟨⟩ _
        cases fb with
        |true=>
         repeat'(first|refine ar ?_|fail)
         all_goals first|(exfalso;omega)|exact ah.next (j+1) bH bz aU ⟨by omega,fun r hr=>by rcases PG r j with h|h;exact hfit r h;rw[show r=j by omega,hlj];exact hfb⟩ Pi
        |false=>
         have hbr:fw c x=(c,12):=by
          rw[htab,htb2,if_pos (all_false (i:=j) Pi (by rw[hlj];exact hfb))];exact if_pos (show(12:Int)≠0 by decide)
         repeat'(first|refine ar ?_|fail)
         all_goals exact H1
       ·have hbr:fw c x=(gk {c with ao:=s2},0):=by
         have h1:fM (L2.map Prod.fst) c.ao=(s2,0):=by rw[htb2,if_neg (by rw[all_true (fun i hi=>hfit i Pi)];decide)]
         rw[htab,h1];exact if_neg (fun h=>h rfl)
        rw[hbr]
        repeat'(first|refine ar ?_|fail)
        refine aa.jO (gj.iu [.slice q1 n1 d1,.slice q2 n2 d2,.slice q3 n3 d3,.int .i64 s2.bR] [.slice q1 n1 d1,.slice q2 n2 d2,.slice q3 n3 d3,.int .i64 s2.bR,.slice p4 c.fs.length c4,.slice p5 c.results.length c5,.int .i64 0] rfl rfl rfl rfl rfl rfl aH rfl rfl) ?_
        rintro⟨⟩ _
        refine aa.xS (V:=A2 (s2,o,0)) (V2:=cG {c with ao:=s2}) (w0:=w) (F:=F) (D:=D2) (⟨⟨.slice q1 n1 d1,.slice q2 n2 d2,.slice q3 n3 d3⟩,.slice p4 c.fs.length c4,.slice p5 c.results.length c5,z⟩:jC) aH (fun w' hx hv=>cG.Kt h hx (hv.2.2 rfl).1) ?_
        repeat'(first|refine ar ?_|fail)
        refine aa.he (HE.bV (V:=cG {c with ao:=s2}) (V2:=cG (gk {c with ao:=s2})) (tf:=fun y=>.agg (eO (gk {c with ao:=s2}) y).toArray) (w0:=w) (F:=F) (D:=D2) (y:=⟨⟨.slice q1 n1 d1,.slice q2 n2 d2,.slice q3 n3 d3⟩,.slice p4 c.fs.length c4,.slice p5 c.results.length c5,z⟩) (cG.fr _) (cG.lt _) (cG.mo _) ak bO (fun _=>aH) rfl rfl (fun w' _ hh=>oG _ {c with ao:=s2} ⟨⟨.slice q1 n1 d1,.slice q2 n2 d2,.slice q3 n3 d3⟩,.slice p4 c.fs.length c4,.slice p5 c.results.length c5,z⟩ w' hh hfl hpw.1 (by show s2.ps.length≤_;rw[hpw.2,hps0];exact hpl))) rfl ?_
        rintro⟨D5,y5⟩ _
        obtain⟨cc,hcc⟩:∃cc,gk {c with ao:=s2}=cc:=⟨_,rfl⟩
        rw[hcc]
        refine aa.pure (φ:=∃a1 n1 c1 a2 n2 c2 a3 n3 c3 a4 n4 c4 a5 n5 c5,∃z:List vI,y5=⟨⟨.slice a1 n1 c1,.slice a2 n2 c2,.slice a3 n3 c3⟩,.slice a4 n4 c4,.slice a5 n5 c5,z⟩) (fun w' hw'=>by obtain⟨p1,c1,p2,c2,p3,c3,p4,c4,p5,c5,e,-⟩:=(hw'.an (V:=cG cc) (w0:=w) (F:=F) (D:=D5) (y:=y5) ak bO).gx;exact⟨p1,_,c1,p2,_,c2,p3,_,c3,p4,_,c4,p5,_,c5,_,e⟩) ?_
        rintro⟨t1,m1,j1,t2,m2,j2,t3,m3,j3,t4,m4,j4,t5,m5,j5,z5,rfl⟩
        dsimp only[eO]
        repeat'(first|refine ar ?_|fail)
        refine My ?_
        exact fun w' hw'=>gG.ok (c:=cc) ⟨⟨.slice t1 m1 j1,.slice t2 m2 j2,.slice t3 m3 j3⟩,.slice t4 m4 j4,.slice t5 m5 j5,z5⟩ (hw'.new (V:=cG cc) (w:=w) (F:=F) (D:=D5) (y:=⟨⟨.slice t1 m1 j1,.slice t2 m2 j2,.slice t3 m3 j3⟩,.slice t4 m4 j4,.slice t5 m5 j5,z5⟩) (cG.mo _) ak bO) hw'.at
      ·have hbr:fw c x=(c,e2):=by rw[htab,htb2,if_pos he2];exact if_pos he2
       repeat'(first|refine ar ?_|fail)
       all_goals exact H1
    ·have hbr:fw c x=(c,e0):=by rw[htab,htb2,if_pos jO];exact if_pos jO
     refine Nk ?_
     repeat'(first|refine pN ?_|(refine ax.lD ?_;refine ax.he rfl rfl (HE.jG rfl rfl rfl rfl rfl er Pk Pk) (fun _=>bz) (fun _=>aU) ?_;rintro bl _)|(refine ax.dA 118 ?_;refine ax.he rfl rfl (HE.eU rfl rfl (fun w' hw'=>gq _ _ _ w')) (fun _=>bz) (fun _=>aU) ?_;rintro⟨⟩ _)|(refine ax.dA 111 ?_;refine ax.he rfl rfl (HE.bV (V:=bw c.ao) (V2:=ky) (w0:=w) (F:=F) (D:=(fun _=>False)) (y:=⟨.slice p1 c.ao.ts.length c1,.slice p2 c.ao.ps.length c2,.slice p3 c.ao.ps.length c3⟩) ky.fr ky.lt ky.mo ak bO (fun _=>aH) rfl rfl (fun w' hw' hh=>by have:=fa _ _ c.ao ⟨.slice p1 c.ao.ts.length c1,.slice p2 c.ao.ps.length c2,.slice p3 c.ao.ps.length c3⟩ (.slice (some ⟨bl,0,none⟩) 1 1) [1] w' hh (dJ (hw'.m (.aW bl [.int .i64 1] fR) bO).1) hs.some hs.at_.1 hs.at_.2;rw[hr0]at this;exact this.mono fun _ _ g=>oS.re g)) (fun _=>bz) (fun _=>aU) ?_;rintro⟨D1,x1⟩ _;refine aP.pure (φ:=jT.Sl x1) (fun w' hw'=>hw'.an (V:=ky) (w0:=w) (F:=F) (D:=D1) (y:=x1) ak bO) ?_;rintro⟨q1,n1,d1,q2,n2,d2,q3,n3,d3,rfl⟩;dsimp only[gw])|(refine ax.yf nZ ?_;refine ax.he rfl rfl (HE.alloc (t:=nZ) [.slice none 0 0,.slice none 0 0,.slice none 0 0,.int .i64 0] rfl rfl) (fun _=>bz) (fun _=>aU) ?_;intro b13 _)|(refine ax.nj ?_;refine ax.jO rfl (gj.bn _ rfl rfl rfl rfl rfl rfl aH rfl) (fun _=>bz) (fun _=>aU) ?_;rintro⟨⟩ _)|refine aP.nil O9 ?_|refine aP.any O9 ?_|exact aB.fin rfl|refine aB.skip O9 ?_|refine aB.go ?_ ?_)
     all_goals
      repeat'(first|refine ar ?_|fail)
     all_goals exact H1
theorem Ao (y:jC) (op:Int) (f:aO) (fp fq:Option Addr) (fc fd:Nat) (w:World) (h:cG c F w y) (hf:dH f F w (.slice fp f.params.length fc,.slice fq f.results.length fd)) (hs:c.ao.Wf) (hfl:c.fs.length≤1000000) (hpl:c.ao.ps.length≤1000000) (hb:c.ao.ts.length+f.params.length≤17592186044416):Calls G.P 66 #[.agg (eO c y).toArray,.int .i64 op,.agg #[.slice fp f.params.length fc,.slice fq f.results.length fd]] w (gG (og c op f) F w):=by
 by_cases h1:op≠2∧op≠3∧op≠4
 ·have:=oH F c y op f fp fq fc fd w h hf hs hfl hpl hb (.inl h1)
  rw[if_pos h1]at this
  unfold og;rw[if_pos h1];exact this
 ·by_cases h2:c.fs.length=0
  ·have:=oH F c y op f fp fq fc fd w h hf hs hfl hpl hb (.inr h2)
   rw[if_neg h1]at this
   unfold og;rw[if_neg h1,if_pos h2];exact this
  ·unfold og
   rw[if_neg h1,if_neg h2]
   rcases(show op=2∨op=3∨op=4 by omega)with h0|h0|h0
   ·rw[if_neg (show¬op=4 by omega),if_neg (show¬((c.ao,(0:Int)).2≠0)from fun h=>h rfl)]
    exact pF F c y op f fp fq fc fd w h hf hs hfl hpl hb (.inl h0) h2
   ·rw[if_neg (show¬op=4 by omega),if_neg (show¬((c.ao,(0:Int)).2≠0)from fun h=>h rfl)]
    exact pF F c y op f fp fq fc fd w h hf hs hfl hpl hb (.inr h0) h2
   ·rw[if_pos h0]
    exact wm F c y op f fp fq fc fd w h hf hs hfl hpl hb h0 h2
theorem BO (y:jC) (w:World) (h:cG c F w y) (hs:c.ao.Wf) (hfl:c.fs.length≤1000000) (hpl:c.ao.ps.length≤1000000) (_hmany:c.ao.ps.length=c.fs.length+1) (hb:c.ao.ts.length+(ix c.fs (c.fs.length - 1)).par.length≤17592186044416):Calls G.P 67 #[.agg (eO c y).toArray] w (gG (xi c) F w):=by
 unfold xi
 by_cases h0:c.fs.length=0
 ·rw[if_pos (.inl h0)];exact sO F c y w h hs hfl hpl h0
 ·by_cases h1:(ix c.fs (c.fs.length - 1)).op=4
  ·rw[if_neg (fun hh=>hh.elim h0 (fun h=>h h1))];exact yF F c y w h hs hfl hpl h0 h1 Pi hb
  ·rw[if_pos (.inr h1)];exact wk F c y w h hs hfl hpl h0 h1
theorem Ap (y:jC) (w:World) (h:cG c F w y) (hs:c.ao.Wf) (hfl:c.fs.length≤1000000) (hpl:c.ao.ps.length≤1000000) (_hmany:c.ao.ps.length=c.fs.length+1) (hb:c.ao.ts.length+(ix c.fs (c.fs.length - 1)).res.length≤17592186044416):Calls G.P 68 #[.agg (eO c y).toArray] w (gG (rD c) F w):=by
 unfold rD
 by_cases h0:c.fs.length=0
 ·rw[if_pos h0];exact rH F c y w h hs hfl hpl h0
 ·rw[if_neg h0];exact wo F c y w h hs hfl hpl h0 Pi hb
theorem gG.congr {a b:gA×Int} {F:Nat→Prop} {w w':World} {e:Ending} (h:gG a F w e w') (h2:a.2=b.2) (h1:a.2=0→a.1=b.1):gG b F w e w':=by
 obtain⟨⟨x,e1,hx⟩,h3⟩:=h
 refine⟨⟨x,by rw[e1,h2],hx.1,fun hb=>?_⟩,h3⟩
 have ha:a.2=0:=h2.trans hb
 rw[←h1 ha];exact hx.2 ha
theorem Av (y:jC) (w:World) (h:cG c F w y) (op:Int) (ho:ku op) (hs:c.ao.Wf) (hb:c.ao.ts.length+1≤17592186044416):Calls G.P 75 #[.agg (eO c y).toArray,.int .i64 op] w (gG (Bs c op) F w):=by
 unfold ku at ho
 unfold Bs ic
 rcases ho with h0|h0|h0
 ·have n27:¬op=27:=by omega
  refine(uK F c y w h op h0 hs).mono fun _ _ hh=>hh.congr ?_ ?_
  all_goals
   by_cases h2:(aZ c.ao).2.2=0
   ·simp[h2,h0]
   ·simp[h2,h0]
 ·refine(uL F c y w h op h0 hs hb).mono fun _ _ hh=>hh.congr ?_ ?_
  all_goals
   have n26:¬op=26:=by omega
   have n209:¬op=209:=by omega
   simp only[if_pos h0,if_neg n26,if_neg n209]
   generalize aL c.ao [1]=a
   by_cases h2:a.2=0
   ·simp only[h2,ne_eq,not_true_eq_false,if_false]
    generalize aZ a.1=b
    by_cases h3:b.2.2=0
    ·simp only[h3,not_true_eq_false,if_false]
     generalize aZ b.1=d
     by_cases h4:d.2.2=0
     ·simp only[h4,not_true_eq_false,if_false]
      split<;>simp
     ·simp[h4]
    ·simp[h3]
   ·simp[h2]
 ·have n27:¬op=27:=by omega
  have n26:¬op=26:=by omega
  refine(sP F c y w h op h0 hs hb).mono fun _ _ hh=>hh.congr ?_ ?_
  all_goals
   simp only[if_neg n27,if_neg n26,if_pos h0]
   generalize aZ c.ao=b
   by_cases h2:b.2.2=0
   ·simp only[h2,ne_eq,not_true_eq_false,if_false]
    split<;>simp
   ·simp[h2]
def HU {β β2:Type} (V:(Nat→Prop)→World→β→Prop) (V2:(Nat→Prop)→World→β2→Prop) (D:Nat→Prop) (w:World) (x:β×β2):Prop:=V D w x.1∧V2 D w x.2
def IC (xs:List Int) (D:Nat→Prop) (w:World) (v:Value):Prop:=ai D w v xs
section
variable {β β2:Type} {V:(Nat→Prop)→World→β→Prop} {V2:(Nat→Prop)→World→β2→Prop} {w0 w:World} {F D D2:Nat→Prop} {y:β} {y2:β2} {n:Nat} {E:Env} {M M':List bu} {R:List (World→Prop)}
theorem An.pair (h1:zb V) (h2:zb V2) (a:An V w0 F D w y) (b:An V2 w0 F D2 w y2):An (HU V V2) w0 F (fun k=>D k∨D2 k) w (y,y2):=fun w' hx hc=>
 ⟨h1 (fun _ h=>h.elim .inl fun h=>.inr (.inl h)) (a w' hx (hc.mono fun _ _ h hD=>h (.inl hD))),h2 (fun _ h=>h.elim .inl fun h=>.inr (.inr h)) (b w' hx (hc.mono fun _ _ h hD=>h (.inr hD)))⟩
theorem HE.qG (hV:vJ V) (hl:Ey V) (hm:zb V) {tf:β→Value} {f:Nat} {args:List Operand} {tys:Array TypeId} {vs:List Value} (hR:Ext w0∈R) (hf:G.fb[f]?=some true) (ha:kJ E args=some vs)
  (hc:∀w,Ok M R w→Calls G.P f vs.toArray w (bD V tf (AF F w0 (fun _=>False)) w)):
  HE n (.call ⟨.value (.func f),args.toArray,tys⟩) E M R (fun _:(Nat→Prop)×β=>True) (fun x=>tf x.2) (fun x=>bu.an V w0 F x.1 x.2::M) (fun _=>R):=
 ⟨fun w hw=>(bU.call hf ha (hc w hw) (fun e w' h=>by obtain⟨⟨x,e1,_⟩,_⟩:=h;exact⟨_,e1⟩)).mono fun v w' ⟨⟨x,e1,hv⟩,hx⟩=>by
  cases e1
  refine⟨(fun k=>w.heap.size≤k∧k<w'.heap.size,x),trivial,rfl,hw.push hx (An.mk hV (hm ?_ (hl hv)) ((hw.get hR).trans hx)) (fun k hk=>hk)⟩
  rintro k ⟨(hk|hk)|hk,hlt⟩
  ·exact .inl hk
  ·exact hk.elim
  ·exact .inr ⟨hk,hlt⟩⟩
theorem aa.yA {ops:Array Oper} {Q:Exit→Act→World→Prop} {l:List Oper} {M1 M2:List bu} (h1:zb V) (h2:zb V2) (r1:Rm (bu.an V w0 F D y) M M1) (r2:Rm (bu.an V2 w0 F D2 y2) M1 M2) (h:aa ops Q n l E (bu.an (HU V V2) w0 F (fun k=>D k∨D2 k) (y,y2)::M2) R):aa ops Q n l E M R:=
 aa.nk r1 r2 (fun _ hk=>hk) (fun _ a b=>An.pair (V:=V) (V2:=V2) @h1 @h2 a b) h
theorem aP.yA {l:List Oper} {Q:Exit→Act→World→Prop} {Mc:List bu} {Rc:List (World→Prop)} {fuel:Nat} {listed:Array Bool} {M1 M2:List bu} (h1:zb V) (h2:zb V2) (r1:Rm (bu.an V w0 F D y) M M1) (r2:Rm (bu.an V2 w0 F D2 y2) M1 M2) (h:aP l Q Mc Rc n fuel listed E (bu.an (HU V V2) w0 F (fun k=>D k∨D2 k) (y,y2)::M2) R):aP l Q Mc Rc n fuel listed E M R:=
 aP.map (fun _ hw=>((hw.front r1).front (Rm.tail r2)).merge (q:=bu.an (HU V V2) w0 F (fun k=>D k∨D2 k) (y,y2)) (fun _ (hk:D _∨D2 _)=>hk.symm) (fun b a=>An.pair (V:=V) (V2:=V2) @h1 @h2 a b)) h
theorem aP.Jn {l:List Oper} {Q:Exit→Act→World→Prop} {Mc:List bu} {Rc:List (World→Prop)} {fuel:Nat} {listed:Array Bool} {B T m:Nat} {v:Value} {cs:List Value} (xs:List Int) (hM:Up (.own B T 1 v m cs) (bu.an (IC xs) w0 F (fun k=>v.ownBlock=some k) v) M M') (hm:m=xs.length) (hcs:cs=aY xs) (hl:xs.length≤17592186044416) (h:aP l Q Mc Rc n fuel listed E M' R):aP l Q Mc Rc n fuel listed E M R:=
 aP.map (fun _ hw=>hw.swap hM (fun _ hk=>hk) (fun ho w' _ h2=>by subst hm hcs;exact((dK ho hl).aN h2 (fun _ _ hk hn=>hn hk)).mono fun _ _ hk=>.inr hk)) h
end
theorem IC.mo (xs:List Int):zb (IC xs):=fun hd h=>ai.mono h fun k _ hk=>hd k hk
theorem dH.lt:Ey (dH f):=fun h=>⟨h.1.mono fun _ hk hd=>⟨hd,hk⟩,h.2.mono fun _ hk hd=>⟨hd,hk⟩⟩
theorem dH.mo:zb (dH f):=fun hd h=>⟨h.1.mono fun k _ hk=>hd k hk,h.2.mono fun k _ hk=>hd k hk⟩
theorem Ai (m:af) (k v i:Int) (cs:List Value) (w:World) (hm:au F w cs m) (hF:∀k,F k→k<w.heap.size):Calls G.P 65 #[.agg cs.toArray,.agg #[.int .i64 k,.int .i64 v,.int .i64 i]] w (iV (cX m k v i) F w):=by
 have hm0:=hm
 obtain⟨v0,v1,v2,v3,v4,v5,v6,v7,v8,v9,rfl,r0,r1,r2,r3,r4,r5,r6,r7,r8,r9,g0⟩:=hm
 by_cases h0:k=0
 ·subst h0
  rw[show cX m 0 v i=some dF from rfl]
  refine Nl ?_
  repeat'(first|refine ar ?_|(refine N0 fun b_=>?_)|(refine bC ?_ ?_<;>intro hc_))
  all_goals exact mt
 ·by_cases h1:k=1
  ·subst h1
   by_cases hv:1≤v∧v≤4
   ·have hk:ki v=true:=by unfold ki;simp[hv.1,hv.2]
    rw[show cX m 1 v i=some ⟨[],[v]⟩from by unfold cX;rw[if_neg Pi,if_pos rfl,if_pos hk]]
    obtain⟨q1,q2⟩:=hv
    refine Nl ?_
    repeat'(first|refine ar ?_|(refine N0 fun b_=>?_)|(refine fC fun b_ _=>?_)|(refine bC ?_ ?_<;>intro hc_))
    all_goals exact mt
   ·have hk:ki v=false:=by unfold ki;by_cases a:1≤v<;>by_cases b:v≤4<;>simp[a,b]<;>omega
    rw[show cX m 1 v i=none from by unfold cX;rw[if_neg Pi,if_pos rfl,hk];rfl]
    refine Nl ?_
    repeat'(first|refine ar ?_|(refine N0 fun b_=>?_)|(refine bC ?_ ?_<;>intro hc_))
    all_goals exact mt
  ·by_cases h2:k=2
   ·subst h2
    rw[show cX m 2 v i=cJ m.types i from by unfold cX;rw[if_neg Pi,if_neg Pi,if_pos rfl]]
    refine Nl ?_
    repeat'(first|refine ar ?_|(refine N0 fun b_=>?_)|(refine bC ?_ ?_<;>intro hc_))
    refine aa.he (HE.ze (r:=cJ m.types i) (F:=F) ak hF rfl rfl (fun w' hw'=>iJ F m i _ w' (hm0.aN (show Ext w w' from hw'.at) (fun _ _ _ h=>h)))) rfl ?_
    rintro⟨D_,p_,c_,q_,d_⟩ hD_
    dsimp only
    repeat'(first|refine ar ?_|(refine bC ?_ ?_<;>intro hc_))
    all_goals(refine ah.aM (.inl rfl) rfl rfl rfl rfl rfl aH rfl rfl ?_;exact fun w' hw'=>bD.jl (f0:=(cJ m.types i).getD dF) (tf:=fun y:Value×Value=>.tuple #[.agg #[y.1,y.2],.bool (cJ m.types i).isSome]) ⟨D_,p_,c_,q_,d_⟩ hw' ak ak hD_)
   ·rw[show cX m k v i=none from by unfold cX;rw[if_neg h0,if_neg h1,if_neg h2]]
    refine Nl ?_
    repeat'(first|refine ar ?_|(refine N0 fun b_=>?_)|(refine bC ?_ ?_<;>intro hc_))
    all_goals exact mt
end Go.Proofs.YtdkcljdfbemnbaaGreatDoor
