/- The reference of layer 23: branches (br_table). Printed by gen_uw.py. -/
import Derived.Test.YtgbgnipidakdhaaGreatDoorJOk
import Derived.Test.YtgbgnipidakdhaaGreatDoorJWz
import Derived.Test.YtgbgnipidakdhaaGreatDoorJVi2
import Derived.Test.YtgbgnipidakdhaaGreatDoorJWn
namespace Go.Proofs.YtgbgnipidakdhaaGreatDoor
open Go.RowKit
set_option maxRecDepth 100000
abbrev uA:Nat:=73
theorem jC {ops:Array Oper} {Q:Exit→Act→World→Prop} {n:Nat} {rest:List Oper} {E:Env} {M:List a8} {R:List (World→Prop)} {d:Nat} {ty:TypeId} {pos:String} {aft:Array Edge} (h:∀b:Nat,aa ops Q n rest ((d,.pointer (some ⟨b,0,none⟩))::E) (.aT b [.slice none 0 0,.slice none 0 0,.slice none 0 0,.int .i64 0,.slice none 0 0,.slice none 0 0,.int .i64 0] uA::M) R) (hd:Nat.blt d n=true:=by rfl):aa ops Q n (⟨some d,.alloc uA,ty,pos,aft,none⟩::rest) E M R:=aa.alloc (t:=uA) [.slice none 0 0,.slice none 0 0,.slice none 0 0,.int .i64 0,.slice none 0 0,.slice none 0 0,.int .i64 0] rfl rfl hd h
theorem Ok.vC {β β2:Type} {V:(Nat→Prop)→World→β→Prop} {V2:(Nat→Prop)→World→β2→Prop} {M M':List a8} {R:List (World→Prop)} {w0 w:World} {F D:Nat→Prop} {y:β} (y2:β2) (hw:Ok M R w) (hM:Up (a8.an V w0 F D y) (a8.an V2 w0 F D y2) M M') (hp:∀w',Ext w0 w'→V (AF F w0 D) w' y→V2 (AF F w0 D) w' y2):Ok M' R w:=
 hw.yu hM (cg.refl _ w) (fun w' h0 h2=>hp w' h0 ((hw.m _ hM.mem).1 w' h0 h2)) fun k hk=>⟨(hw.m _ hM.mem).2 k hk,fun _=>hk⟩
theorem aa.vC {ops:Array Oper} {Q:Exit→Act→World→Prop} {n:Nat} {l:List Oper} {E:Env} {M M':List a8} {R:List (World→Prop)} {β β2:Type} {V:(Nat→Prop)→World→β→Prop} {V2:(Nat→Prop)→World→β2→Prop} {w0:World} {F D:Nat→Prop} {y:β} (y2:β2) (hM:Up (a8.an V w0 F D y) (a8.an V2 w0 F D y2) M M') (hp:∀w',Ext w0 w'→V (AF F w0 D) w' y→V2 (AF F w0 D) w' y2) (h:aa ops Q n l E M' R):aa ops Q n l E M R:=⟨fun w hw=>h.h w (hw.vC y2 hM hp)⟩
theorem mG.mono {D H:Nat→Prop} {w:World} {L:List (List Int×Value)} (h:mG D w L) (hd:∀k,D k→H k):mG H w L:=fun y hy=>(h y hy).mono fun k _ hk=>hd k hk
theorem yv (s:bP):∀n,(cV s n).1.bH=s.bH:=by
 intro n
 induction n generalizing s with
 |zero=>rfl
 |succ n ih=>
  rw[cV]
  split
  ·rfl
  ·split
   ·exact(ih _).trans (kV s)
   ·exact(ih _).trans (kV s)
theorem lK (F:Nat→Prop) (c:fN) (y:iP) (w:World) (h:bY c F w y) (n:Int):∃u,af F w u (eA c n).1∧∀w',Ext w w'→Calls G.P 71 #[.agg (er c y).toArray,.int .i64 n] w' fun e w2=>e=.returned (.tuple #[u,.int .i64 (eA c n).2])∧Ext w' w2:=by
 have hc:∀w',Ext w w'→bY c F w' y:=fun w' hx=>bY.fr c h hx (fun _ _ _ h=>h)
 unfold eA
 by_cases hb:n<0∨(c.fs.length:Int)≤n
 ·rw[if_pos hb]
  refine⟨.slice none 0 0,af.bR _ _,fun w' hx=>?_⟩
  have:=pN F c y n w' (hc w' hx)
  rw[if_pos hb]at this;exact this
 ·rw[if_neg hb]
  obtain⟨_,_,_,_,_,_,_,-,-,hf,-⟩:=h.frame (i:=c.fs.length - 1 - n.toNat) Mj
  refine⟨if(ix c.fs (c.fs.length - 1 - n.toNat)).op=3 then(ix y.z (c.fs.length - 1 - n.toNat)).2.1 else(ix y.z (c.fs.length - 1 - n.toNat)).2.2,?_,fun w' hx=>?_⟩
  ·dsimp only
   by_cases h3:(ix c.fs (c.fs.length - 1 - n.toNat)).op=3
   ·rw[if_pos h3,if_pos h3];exact hf.1
   ·rw[if_neg h3,if_neg h3];exact hf.2
  ·have:=pN F c y n w' (hc w' hx)
   rw[if_neg hb]at this;exact this
set_option maxHeartbeats 16000000 in
theorem tm (F:Nat→Prop) (c:fN) (y:iP) (w:World) (h:bY c F w y) (x:cJ) (pt pl:Option Addr) (ct cl:Nat) (hl:af F w (.slice pl x.labels.length cl) x.labels) (hll:x.labels.length≤1000) (hfl:c.fs.length≤1000000) (hs:c.ao.Wf) (hpl:c.ao.ps.length≤1000000) (hlb:∀n,(eA c n).1.length≤100000000000):Calls G.P 73 #[.agg (er c y).toArray,.agg #[Value.int .i64 x.op,Value.int .i64 x.a,Value.int .i64 x.b,Value.int .u64 x.n,Value.int .i64 x.kind,Value.int .i64 x.val,Value.int .i64 x.index,Value.slice pt x.types.length ct,Value.slice pl x.labels.length cl]] w (fT (eP c x) F w):=by
 have hlab:=fun n=>lK F c y w h n
 obtain⟨p1,c1,p2,c2,p3,c3,p4,c4,p5,c5,ey,k4,h4,kz⟩:=h.fP
 obtain⟨y,fv,rv,z⟩:=y
 cases ey
 obtain⟨ls,hls⟩:∃l,x.labels++[x.a]=l:=⟨_,rfl⟩
 have hln:ls.length=x.labels.length+1:=by rw[←hls];simp
 refine ae (l:=[_,_]) Tryz.func73 rfl Tryz.ntmps73 rfl (Ok.eI (V:=aY c.ao) (aY.fr c.ao) (aY.lt c.ao) h.1) ?_
 dsimp only[er]at hlab ⊢
 refine ar ?_
 refine aa.box [.slice p1 c.ao.ts.length c1,.slice p2 c.ao.ps.length c2,.slice p3 c.ao.ps.length c3,.int .i64 c.ao.bH,.slice p4 c.fs.length c4,.slice p5 c.results.length c5,.int .i64 0] rfl rfl rfl fun b2=>?_
 refine aa.box [Value.int .i64 x.op,Value.int .i64 x.a,Value.int .i64 x.b,Value.int .u64 x.n,Value.int .i64 x.kind,Value.int .i64 x.val,Value.int .i64 x.index,Value.slice pt x.types.length ct,Value.slice pl x.labels.length cl] rfl rfl rfl fun b3=>?_
 refine aa.alloc (t:=uA) [.slice none 0 0,.slice none 0 0,.slice none 0 0,.int .i64 0,.slice none 0 0,.slice none 0 0,.int .i64 0] rfl rfl rfl fun b4=>?_
 repeat'(first|refine ar ?_|fail)
 refine JA ?_
 refine aP.xW (α:=Option Addr×Nat) (fun y=>[(2,.pointer (some ⟨b2,0,none⟩)),(4,.pointer (some ⟨b4,0,none⟩)),(5,.int .i64 0),(6,.slice y.1 (x.labels.length+1) y.2)]) (fun y=>[.own 0 3 1 (.slice y.1 (x.labels.length+1) y.2) (x.labels.length+1) (aX x.labels++[.int .i64 x.a]),.aT b4 [.slice none 0 0,.slice none 0 0,.slice none 0 0,.int .i64 0,.slice none 0 0,.slice none 0 0,.int .i64 0] uA,.aT b2 [.slice p1 c.ao.ts.length c1,.slice p2 c.ao.ps.length c2,.slice p3 c.ao.ps.length c3,.int .i64 c.ao.bH,.slice p4 c.fs.length c4,.slice p5 c.results.length c5,.int .i64 0] uA,a8.an (aY c.ao) w F (fun _=>False) ⟨.slice p1 c.ao.ts.length c1,.slice p2 c.ao.ps.length c2,.slice p3 c.ao.ps.length c3⟩]) (fun _=>[Ext w]) ?_ fun hrest=>?_
 rotate_left
 ·repeat'(first|refine og ?_|(refine av.kZ ?_;refine av.he rfl rfl (HE.jJ rfl rfl rfl rfl rfl eT Ml Ml) (fun _=>bc) (fun _=>aV) ?_;rintro bl0 _;refine aP.map (fun w' hw'=>hw'.iS (b:=bl0) (len:=0) (s:=1) aA rfl LR) ?_)|(refine av.kZ ?_;refine av.he rfl rfl (HE.jJ rfl rfl rfl rfl rfl eT Ml Ml) (fun _=>bc) (fun _=>aV) ?_;rintro bl _)|(refine av.ug ?_;refine av.he rfl rfl (HE.app rfl rfl (fun _=>aA) aA rfl rfl rfl Ml Ml Ml Ml Ml Ml Mj (fun _ _=>Nat.zero_le _)) (fun _=>bc) (fun _=>aV) ?_;rintro vb _;refine aP.pure (φ:=∃p cc,vb=.slice p (x.labels.length+1) cc) (fun w' hw'=>by obtain⟨p,cc,e,_⟩:=ax (hw'.own (v:=vb));exact⟨p,cc,e⟩) ?_;rintro⟨pb,cb,rfl⟩)|(refine av.ug ?_;refine av.he rfl rfl (HE.gA (aX x.labels) rfl rfl (fun _=>aA) (iT hl ak) Me rfl rfl rfl Ml Ml Ml (eV _) (by show(0+x.labels.length)*8≤_;omega) Mj (fun _ _=>Nat.zero_le _)) (fun _=>bc) (fun _=>aV) ?_;rintro va _;simp only[Nat.zero_add,List.nil_append];refine aP.pure (φ:=∃p cc,va=.slice p x.labels.length cc) (fun w' hw'=>by obtain⟨p,cc,e,_⟩:=ax (hw'.own (v:=va));exact⟨p,cc,e⟩) ?_;rintro⟨pa,ca,rfl⟩)|refine aP.nil LX ?_|refine aP.any LX ?_|exact aN.fin rfl|refine aN.skip LX ?_|refine aN.go ?_ ?_)
  all_goals exact ah.cF (hrest (pb,cb)) bJ dM aV
 ·rintro⟨pa,ca⟩
  dsimp only
  repeat'(first|refine ar ?_|fail)
  refine aZ.pure (φ:=∃g,pa=some ⟨g,0,none⟩) (fun w' hw'=>by
   obtain⟨p,cc,e,_,_,hg⟩:=ax (hw'.own (B:=0) (T:=3) (v:=.slice pa (x.labels.length+1) ca))
   cases e
   obtain⟨g,hg,_⟩:=hg Mj
   exact⟨g,hg⟩) ?_
  rintro⟨ga,rfl⟩
  refine aZ.freeze (q:=.own 0 3 1 (.slice (some ⟨ga,0,none⟩) (x.labels.length+1) ca) (x.labels.length+1) (aX x.labels++[.int .i64 x.a])) (fun w=>∀i,i<ls.length→w.cell? ⟨ga,0+i,none⟩=some (.int .i64 (ix ls i))) je (fun w' h _ i hi=>by rw[Nat.zero_add];exact dP h (by have:=ng hi;rw[Nat.zero_add,←hls,nU]at this;rw[←hls];exact this)) ?_
  refine aZ.ji 0 Dh 1 ?_
  refine aZ.loop (σ:=Nat×List (List Int×Value)×Option Addr×Nat) (fun q=>[(2,.pointer (some ⟨b2,0,none⟩)),(4,.pointer (some ⟨b4,0,none⟩)),(5,.int .i64 0),(6,.slice (some ⟨ga,0,none⟩) (x.labels.length+1) ca),(7,.slice q.2.2.1 q.1 q.2.2.2),(8,.int .i64 q.1)]) (fun q=>[.own 0 Dh 1 (.slice q.2.2.1 q.1 q.2.2.2) q.1 (q.2.1.map Prod.snd),.aT b4 [.slice none 0 0,.slice none 0 0,.slice none 0 0,.int .i64 0,.slice none 0 0,.slice none 0 0,.int .i64 0] uA,.aT b2 [.slice p1 c.ao.ts.length c1,.slice p2 c.ao.ps.length c2,.slice p3 c.ao.ps.length c3,.int .i64 c.ao.bH,.slice p4 c.fs.length c4,.slice p5 c.results.length c5,.int .i64 0] uA,a8.an (aY c.ao) w F (fun _=>False) ⟨.slice p1 c.ao.ts.length c1,.slice p2 c.ao.ps.length c2,.slice p3 c.ao.ps.length c3⟩]) (fun _=>[Ext w,fun w=>∀i,i<ls.length→w.cell? ⟨ga,0+i,none⟩=some (.int .i64 (ix ls i))]) (fun q=>q.1≤ls.length∧jk (eA c) ls q.1 q.2.1∧mG F w q.2.1) (fun q=>ls.length - q.1) (0,[],none,0) bJ (by dsimp only[List.map];exact bc) aV ⟨Nat.zero_le _,jk.nil _ _,mG.nil _ _⟩ ?_
  rintro⟨i,L2,rp,rc⟩ ⟨hi,hrw,hrl⟩
  dsimp only at hi hrw hrl ⊢
  by_cases hin:i<ls.length
  ·refine JB ?_
   obtain⟨u,hu,hcall⟩:=hlab (ix ls i)
   obtain⟨q,hq⟩:∃q,eA c (ix ls i)=q:=⟨_,rfl⟩
   have hql:=hlb (ix ls i)
   rw[hq]at hql hu hcall
   obtain⟨l,e⟩:=q
   dsimp only at hql hu hcall
   obtain⟨pu,cu,rfl,_⟩:=hu.slice
   repeat'(first|refine ar ?_|fail)
   refine GT ?_
   refine bQ ?_
   refine aw.mT rfl rfl rfl (fun w' hw'=>hcall w' hw'.at) ?_
   refine bQ ?_
   by_cases he:e=0
   ·subst he
    repeat'(first|refine ar ?_|(refine eH fun b_ _=>?_)|fail)
    refine JC ?_
    intro v5 _
    refine aa.pure (φ:=∃p cc,v5=.slice p (i+1) cc) (fun w' hw'=>by obtain⟨p,cc,e,_⟩:=ax (hw'.own (B:=0) (T:=Dh) (v:=v5));exact⟨p,cc,e⟩) ?_
    rintro⟨p5',c5',rfl⟩
    try simp only[List.getElem_toArray,List.getElem_cons_zero,List.getElem_cons_succ]
    rw[show L2.map Prod.snd++[Value.slice pu l.length cu]=(L2++[(l,Value.slice pu l.length cu)]).map Prod.snd by simp]
    repeat'(first|refine ar ?_|fail)
    exact ah.next (i+1,L2++[(l,.slice pu l.length cu)],p5',c5') bJ bc aV ⟨by dsimp only;omega,hrw.snoc hin hq _,(mG.snoc hrl hu).mono fun _ h=>h.elim id id⟩ LT
   ·have hbr:eP c x=(c,e):=by unfold eP;rw[hls,hrw.err hin hq he];exact if_pos he
    repeat'(first|refine ar ?_|fail)
    all_goals exact i5
  ·obtain rfl:i=ls.length:=by omega
   have hlen:=hrw.len
   have htk:=hrw.types
   have hmem:∀{j:Nat},j<ls.length→ix L2 j∈L2:=fun{j} hj=>by rw[cD Mj];exact List.getElem_mem _
   refine aZ.pure (φ:=∃g,rp=some ⟨g,0,none⟩) (fun w' hw'=>by
    obtain⟨p,cc,e,_,_,hg⟩:=ax (hw'.own (B:=0) (T:=Dh) (v:=.slice rp ls.length rc))
    cases e
    obtain⟨g,hg,_⟩:=hg Mj
    exact⟨g,hg⟩) ?_
   rintro⟨gr,rfl⟩
   have hsl:∀y∈L2,∃p cc,y.2=.slice p y.1.length cc:=fun y hy=>by
    obtain⟨p,cc,e,_⟩:=(hrl y hy).slice
    exact⟨p,cc,e⟩
   refine aZ.freeze (q:=.own 0 Dh 1 (.slice (some ⟨gr,0,none⟩) ls.length rc) ls.length (L2.map Prod.snd)) (fun w=>∀i,i<ls.length→w.cell? ⟨gr,0+i,none⟩=some (ix L2 i).2) je (fun w' h _ i hi=>by
    rw[Nat.zero_add]
    refine dP h ?_
    rw[List.getElem?_map,List.getElem?_eq_getElem (show i<L2.length by omega),cD (show i<L2.length by omega)]
    rfl) ?_
   obtain⟨n0,hn0⟩:∃n0,ls.length=n0+1:=⟨x.labels.length,hln⟩
   obtain⟨pL,cL,eL⟩:=hsl (ix L2 n0) (hmem Mj)
   obtain⟨lst,hlst⟩:∃l,(ix L2 n0).1=l:=⟨_,rfl⟩
   rw[hlst]at eL
   have hlast:ix (L2.map Prod.fst) ((L2.map Prod.fst).length - 1)=lst:=by rw[List.length_map,hlen,hn0];show ix (L2.map Prod.fst) n0=_;rw[wu Mj,hlst]
   have hlstl:lst.length≤100000000000:=by
    have h1:ix (L2.map Prod.fst) n0=(eA c (ix ls n0)).1:=by
     rw[hrw.row,List.take_length,cD (show n0<(ls.map fun n=>(eA c n).1).length by rw[List.length_map];omega),List.getElem_map,cD (show n0<ls.length by omega)]
    rw[wu Mj,hlst]at h1
    rw[h1];exact hlb _
   have htab:eP c x=if(fa (L2.map Prod.fst) c.ao).2≠0 then(c,(fa (L2.map Prod.fst) c.ao).2)else(fF {c with ao:=(fa (L2.map Prod.fst) c.ao).1},0):=by unfold eP;rw[hls,htk];exact if_neg (fun h=>h rfl)
   refine aZ.lL (Go.Proofs.YtgbgnipidakdhaaGreatDoor.cl gr (0+n0) (.slice pL lst.length cL)) (fun w' h=>by rw[←eL];exact h (fun w=>∀i,i<ls.length→w.cell? ⟨gr,0+i,none⟩=some (ix L2 i).2) ak n0 Mj) ?_
   repeat'(first|refine ar ?_|(refine aa.ek ?_;refine aa.y_ (Yl.gh (i:=n0) rfl rfl rfl rfl rfl Mj Mj) rfl ?_)|fail)
   refine aZ.loop (σ:=Nat) (fun j=>[(2,.pointer (some ⟨b2,0,none⟩)),(4,.pointer (some ⟨b4,0,none⟩)),(5,.int .i64 0),(7,.slice (some ⟨gr,0,none⟩) ls.length rc),(11,.int .i64 lst.length),(12,.int .i64 j)]) (fun _=>[.aT b4 [.slice none 0 0,.slice none 0 0,.slice none 0 0,.int .i64 0,.slice none 0 0,.slice none 0 0,.int .i64 0] uA,.aT b2 [.slice p1 c.ao.ts.length c1,.slice p2 c.ao.ps.length c2,.slice p3 c.ao.ps.length c3,.int .i64 c.ao.bH,.slice p4 c.fs.length c4,.slice p5 c.results.length c5,.int .i64 0] uA,a8.an (aY c.ao) w F (fun _=>False) ⟨.slice p1 c.ao.ts.length c1,.slice p2 c.ao.ps.length c2,.slice p3 c.ao.ps.length c3⟩]) (fun _=>[Ext w,fun w=>∀i,i<ls.length→w.cell? ⟨gr,0+i,none⟩=some (ix L2 i).2]) (fun j=>j≤ls.length∧∀q,q<j→(ix L2 q).1.length=lst.length) (fun j=>ls.length - j) 0 bJ bc aV ⟨Nat.zero_le _,fun q hq=>absurd hq Mj⟩ ?_
   rintro j ⟨hj,hok⟩
   by_cases hjn:j<ls.length
   ·obtain⟨pj,cj,ej⟩:=hsl (ix L2 j) (hmem hjn)
    refine aZ.lL (Go.Proofs.YtgbgnipidakdhaaGreatDoor.cl gr (0+j) (.slice pj (ix L2 j).1.length cj)) (fun w' h=>by rw[←ej];exact h (fun w=>∀i,i<ls.length→w.cell? ⟨gr,0+i,none⟩=some (ix L2 i).2) ak j hjn) ?_
    by_cases hle:(ix L2 j).1.length=lst.length
    ·repeat'(first|refine ar ?_|fail)
     all_goals first|(exfalso;omega)|exact ah.next (j+1) bJ bc aV ⟨by omega,fun q hq=>by rcases Nat.lt_or_ge q j with h|h;exact hok q h;rw[show q=j by omega];exact hle⟩ Mj
    ·have hbr:eP c x=(c,12):=by
      rw[htab]
      have:fa (L2.map Prod.fst) c.ao=(c.ao,12):=by unfold fa;rw[hlast,if_pos (all_false (i:=j) Mj (decide_eq_false hle))]
      rw[this];exact if_pos (show(12:Int)≠0 by decide)
     repeat'(first|refine ar ?_|fail)
     all_goals exact i5
   ·obtain rfl:j=ls.length:=by omega
    have hall:((L2.map Prod.fst).all fun l=>decide (l.length=lst.length))=true:=all_true fun i hi=>decide_eq_true (hok i Mj)
    obtain⟨r0,hr0⟩:∃r,aE c.ao [1]=r:=⟨_,rfl⟩
    have hw0:=dn hs [1]
    have hps0:=eM c.ao [1]
    rw[hr0]at hw0 hps0
    obtain⟨s0,e0⟩:=r0
    dsimp only at hw0 hps0
    have htb2:fa (L2.map Prod.fst) c.ao=if e0≠0 then(c.ao,e0)else if(cV s0 lst.length).2.2≠0 then(c.ao,(cV s0 lst.length).2.2)else if((L2.map Prod.fst).all fun l=>mW (cV s0 lst.length).2.1 l)=false then(c.ao,12)else((cV s0 lst.length).1,0):=by
     unfold fa
     rw[hlast,hall,hr0,if_neg Mh]
    repeat'(first|refine ar ?_|fail)
    by_cases jf:e0=0
    ·subst jf
     rw[if_neg (fun h=>h rfl)]at htb2
     refine JD ?_
     refine aP.xW (α:=Nat×(Nat→Prop)×Option Addr×Nat×Option Addr×Nat×Option Addr×Nat) (fun y=>[(2,.pointer (some ⟨b2,0,none⟩)),(4,.pointer (some ⟨b4,0,none⟩)),(5,.int .i64 0),(7,.slice (some ⟨gr,0,none⟩) ls.length rc),(11,.int .i64 lst.length),(13,.pointer (some ⟨y.1,0,none⟩)),(14,.int .i64 0)]) (fun y=>[.aT y.1 [.slice y.2.2.1 s0.ts.length y.2.2.2.1,.slice y.2.2.2.2.1 s0.ps.length y.2.2.2.2.2.1,.slice y.2.2.2.2.2.2.1 s0.ps.length y.2.2.2.2.2.2.2,.int .i64 s0.bH] mJ,.aT b4 [.slice none 0 0,.slice none 0 0,.slice none 0 0,.int .i64 0,.slice none 0 0,.slice none 0 0,.int .i64 0] uA,.aT b2 [.slice p1 c.ao.ts.length c1,.slice p2 c.ao.ps.length c2,.slice p3 c.ao.ps.length c3,.int .i64 c.ao.bH,.slice p4 c.fs.length c4,.slice p5 c.results.length c5,.int .i64 0] uA,a8.an (aY s0) w F y.2.1 ⟨.slice y.2.2.1 s0.ts.length y.2.2.2.1,.slice y.2.2.2.2.1 s0.ps.length y.2.2.2.2.2.1,.slice y.2.2.2.2.2.2.1 s0.ps.length y.2.2.2.2.2.2.2⟩]) (fun _=>[Ext w,fun w=>∀i,i<ls.length→w.cell? ⟨gr,0+i,none⟩=some (ix L2 i).2]) ?_ fun hrest=>?_
     rotate_left
     ·repeat'(first|refine og ?_|(refine av.kZ ?_;refine av.he rfl rfl (HE.jJ rfl rfl rfl rfl rfl eT Ml Ml) (fun _=>bc) (fun _=>aV) ?_;rintro bl _)|(refine av.ep 96 ?_;refine av.he rfl rfl (HE.dX rfl rfl (fun w' hw'=>fJ _ _ _ w')) (fun _=>bc) (fun _=>aV) ?_;rintro⟨⟩ _)|(refine av.ep 58 ?_;refine av.he rfl rfl (HE.bF (V:=aY c.ao) (V2:=aY s0) (w0:=w) (F:=F) (D:=(fun _=>False)) (y:=⟨.slice p1 c.ao.ts.length c1,.slice p2 c.ao.ps.length c2,.slice p3 c.ao.ps.length c3⟩) (aY.fr _) (aY.lt _) (aY.mo _) ak bG (fun _=>aA) rfl rfl (fun w' hw' hh=>by have:=eC _ _ c.ao ⟨.slice p1 c.ao.ts.length c1,.slice p2 c.ao.ps.length c2,.slice p3 c.ao.ps.length c3⟩ (.slice (some ⟨bl,0,none⟩) 1 1) [1] w' hh (cZ (hw'.m (.aT bl [.int .i64 1] fY) bG).1) hs.some hs.at_.1 hs.at_.2;rw[hr0]at this;exact this.mono fun _ _ g=>nm.to g)) (fun _=>bc) (fun _=>aV) ?_;rintro⟨D1,x1⟩ _;refine aP.pure (φ:=∃q1 d1 q2 d2 q3 d3,x1=⟨.slice q1 s0.ts.length d1,.slice q2 s0.ps.length d2,.slice q3 s0.ps.length d3⟩) (fun w' hw'=>by obtain⟨q1,d1,q2,d2,q3,d3,e,-⟩:=(hw'.an (V:=aY s0) (w0:=w) (F:=F) (D:=D1) (y:=x1) ak bG).fP;exact⟨q1,d1,q2,d2,q3,d3,e⟩) ?_;rintro⟨r1,rc1,r2,rc2,r3,rc3,rfl⟩;dsimp only[fI])|(refine av.zM mJ ?_;refine av.he rfl rfl (HE.alloc (t:=mJ) [.slice none 0 0,.slice none 0 0,.slice none 0 0,.int .i64 0] rfl rfl) (fun _=>bc) (fun _=>aV) ?_;intro b13 _)|(refine av.nw ?_;refine av.jf rfl (fQ.bn _ rfl rfl rfl rfl rfl rfl aA rfl) (fun _=>bc) (fun _=>aV) ?_;rintro⟨⟩ _)|refine aP.nil LX ?_|refine aP.any LX ?_|exact aN.fin rfl|refine aN.skip LX ?_|refine aN.go ?_ ?_)
      all_goals exact ah.cF (hrest (b13,D1,r1,rc1,r2,rc2,r3,rc3)) bJ dM aV
     ·rintro⟨b13,D1,r1,rc1,r2,rc2,r3,rc3⟩
      dsimp only
      repeat'(first|refine ar ?_|fail)
      refine aa.he (HE.bF (V:=aY s0) (V2:=zD (cV s0 lst.length)) (tf:=fun x=>.tuple #[.agg #[x.1.l,x.1.m,x.1.o,.int .i64 s0.bH],x.2,.int .i64 (cV s0 lst.length).2.2]) (w0:=w) (F:=F) (D:=D1) (y:=⟨.slice r1 s0.ts.length rc1,.slice r2 s0.ps.length rc2,.slice r3 s0.ps.length rc3⟩) (zD.fr _) (zD.lt _) (zD.mo _) ak bG (fun _=>aA) rfl rfl (fun w' _ hh=>yV _ s0 ⟨.slice r1 s0.ts.length rc1,.slice r2 s0.ps.length rc2,.slice r3 s0.ps.length rc3⟩ lst.length w' hh hw0 Mj)) rfl ?_
      rintro⟨D2,x2,u2⟩ _
      obtain⟨pr,hpr⟩:∃r,cV s0 lst.length=r:=⟨_,rfl⟩
      have hpw:=xj hw0 lst.length
      have hms:=yv s0 lst.length
      rw[hpr]at htb2 hpw hms ⊢
      obtain⟨s2,o,e2⟩:=pr
      dsimp only at htb2 hpw hms ⊢
      rw[←hms]
      refine aa.pure (φ:=x2.Sl∧∃p n c,u2=.slice p n c) (fun w' hw'=>by have hv:=hw'.an (V:=zD (s2,o,e2)) (w0:=w) (F:=F) (D:=D2) (y:=(x2,u2)) ak bG;exact⟨hv.1,hv.2.1⟩) ?_
      rintro⟨⟨q1,n1,d1,q2,n2,d2,q3,n3,d3,rfl⟩,pu,nu,cu,rfl⟩
      dsimp only
      by_cases he2:e2=0
      ·subst he2
       rw[if_neg (fun h=>h rfl)]at htb2
       repeat'(first|refine ar ?_|fail)
       refine aZ.loop (σ:=Nat) (fun j=>[(2,.pointer (some ⟨b2,0,none⟩)),(4,.pointer (some ⟨b4,0,none⟩)),(5,.int .i64 0),(7,.slice (some ⟨gr,0,none⟩) ls.length rc),(13,.pointer (some ⟨b13,0,none⟩)),(15,.slice pu nu cu),(16,.int .i64 j)]) (fun _=>[.aT b13 [.slice q1 n1 d1,.slice q2 n2 d2,.slice q3 n3 d3,.int .i64 s2.bH] mJ,.aT b4 [.slice none 0 0,.slice none 0 0,.slice none 0 0,.int .i64 0,.slice none 0 0,.slice none 0 0,.int .i64 0] uA,.aT b2 [.slice p1 c.ao.ts.length c1,.slice p2 c.ao.ps.length c2,.slice p3 c.ao.ps.length c3,.int .i64 c.ao.bH,.slice p4 c.fs.length c4,.slice p5 c.results.length c5,.int .i64 0] uA,a8.an (zD (s2,o,0)) w F D2 (⟨.slice q1 n1 d1,.slice q2 n2 d2,.slice q3 n3 d3⟩,.slice pu nu cu)]) (fun _=>[Ext w,fun w=>∀i,i<ls.length→w.cell? ⟨gr,0+i,none⟩=some (ix L2 i).2]) (fun j=>j≤ls.length∧∀q,q<j→mW o (ix L2 q).1=true) (fun j=>ls.length - j) 0 bJ bc aV ⟨Nat.zero_le _,fun q hq=>absurd hq Mj⟩ ?_
       rintro j ⟨hj,hfit⟩
       by_cases hjn:j<ls.length
       ·obtain⟨pj,cj,ej⟩:=hsl (ix L2 j) (hmem hjn)
        obtain⟨l,hlj⟩:∃l,(ix L2 j).1=l:=⟨_,rfl⟩
        have hrow:af F w (.slice pj l.length cj) l:=by have:=hrl _ (hmem hjn);rw[ej,hlj]at this;exact this
        rw[hlj]at ej
        refine aZ.lL (Go.Proofs.YtgbgnipidakdhaaGreatDoor.cl gr (0+j) (.slice pj l.length cj)) (fun w' h=>by rw[←ej];exact h (fun w=>∀i,i<ls.length→w.cell? ⟨gr,0+i,none⟩=some (ix L2 i).2) ak j hjn) ?_
        obtain⟨fb,hfb⟩:∃b,mW o l=b:=⟨_,rfl⟩
        repeat'(first|refine ar ?_|fail)
        refine aa.he (HE.dX (v:=.bool fb) rfl rfl (fun w' hw'=>by have:=yN _ F o l (.slice pu nu cu) (.slice pj l.length cj) w' ((hw'.an (V:=zD (s2,o,0)) (w0:=w) (F:=F) (D:=D2) (y:=(⟨.slice q1 n1 d1,.slice q2 n2 d2,.slice q3 n3 d3⟩,.slice pu nu cu)) ak bG).2.2 rfl).2 (hrow.aO (show Ext w w' from hw'.at) (fun _ _ _ h=>h));rw[hfb]at this;exact this)) rfl ?_
        rintro⟨⟩ _
        cases fb with
        |true=>
         repeat'(first|refine ar ?_|fail)
         all_goals first|(exfalso;omega)|exact ah.next (j+1) bJ bc aV ⟨by omega,fun r hr=>by rcases Nat.lt_or_ge r j with h|h;exact hfit r h;rw[show r=j by omega,hlj];exact hfb⟩ Mj
        |false=>
         have hbr:eP c x=(c,12):=by
          rw[htab,htb2,if_pos (all_false (i:=j) Mj (by rw[hlj];exact hfb))];exact if_pos (show(12:Int)≠0 by decide)
         repeat'(first|refine ar ?_|fail)
         all_goals exact i5
       ·have hbr:eP c x=(fF {c with ao:=s2},0):=by
         have h1:fa (L2.map Prod.fst) c.ao=(s2,0):=by rw[htb2,if_neg (by rw[all_true (fun i hi=>hfit i Mj)];decide)]
         rw[htab,h1];exact if_neg (fun h=>h rfl)
        rw[hbr]
        repeat'(first|refine ar ?_|fail)
        refine aa.jf (fQ.gx [.slice q1 n1 d1,.slice q2 n2 d2,.slice q3 n3 d3,.int .i64 s2.bH] [.slice q1 n1 d1,.slice q2 n2 d2,.slice q3 n3 d3,.int .i64 s2.bH,.slice p4 c.fs.length c4,.slice p5 c.results.length c5,.int .i64 0] rfl rfl rfl rfl rfl rfl aA rfl rfl) ?_
        rintro⟨⟩ _
        refine aa.vC (V:=zD (s2,o,0)) (V2:=bY {c with ao:=s2}) (w0:=w) (F:=F) (D:=D2) (⟨⟨.slice q1 n1 d1,.slice q2 n2 d2,.slice q3 n3 d3⟩,.slice p4 c.fs.length c4,.slice p5 c.results.length c5,z⟩:iP) aA (fun w' hx hv=>bY.HO h hx (hv.2.2 rfl).1) ?_
        repeat'(first|refine ar ?_|fail)
        refine aa.he (HE.bF (V:=bY {c with ao:=s2}) (V2:=bY (fF {c with ao:=s2})) (tf:=fun y=>.agg (er (fF {c with ao:=s2}) y).toArray) (w0:=w) (F:=F) (D:=D2) (y:=⟨⟨.slice q1 n1 d1,.slice q2 n2 d2,.slice q3 n3 d3⟩,.slice p4 c.fs.length c4,.slice p5 c.results.length c5,z⟩) (bY.fr _) (bY.lt _) (bY.mo _) ak bG (fun _=>aA) rfl rfl (fun w' _ hh=>km _ {c with ao:=s2} ⟨⟨.slice q1 n1 d1,.slice q2 n2 d2,.slice q3 n3 d3⟩,.slice p4 c.fs.length c4,.slice p5 c.results.length c5,z⟩ w' hh hfl hpw.1 (by show s2.ps.length≤_;rw[hpw.2,hps0];exact hpl))) rfl ?_
        rintro⟨D5,y5⟩ _
        obtain⟨cc,hcc⟩:∃cc,fF {c with ao:=s2}=cc:=⟨_,rfl⟩
        rw[hcc]
        refine aa.pure (φ:=∃a1 n1 c1 a2 n2 c2 a3 n3 c3 a4 n4 c4 a5 n5 c5,∃z:List rU,y5=⟨⟨.slice a1 n1 c1,.slice a2 n2 c2,.slice a3 n3 c3⟩,.slice a4 n4 c4,.slice a5 n5 c5,z⟩) (fun w' hw'=>by obtain⟨p1,c1,p2,c2,p3,c3,p4,c4,p5,c5,e,-⟩:=(hw'.an (V:=bY cc) (w0:=w) (F:=F) (D:=D5) (y:=y5) ak bG).fP;exact⟨p1,_,c1,p2,_,c2,p3,_,c3,p4,_,c4,p5,_,c5,_,e⟩) ?_
        rintro⟨t1,m1,j1,t2,m2,j2,t3,m3,j3,t4,m4,j4,t5,m5,j5,z5,rfl⟩
        dsimp only[er]
        repeat'(first|refine ar ?_|fail)
        refine IR ?_
        exact fun w' hw'=>fT.ok (c:=cc) ⟨⟨.slice t1 m1 j1,.slice t2 m2 j2,.slice t3 m3 j3⟩,.slice t4 m4 j4,.slice t5 m5 j5,z5⟩ (hw'.new (V:=bY cc) (w:=w) (F:=F) (D:=D5) (y:=⟨⟨.slice t1 m1 j1,.slice t2 m2 j2,.slice t3 m3 j3⟩,.slice t4 m4 j4,.slice t5 m5 j5,z5⟩) (bY.mo _) ak bG) hw'.at
      ·have hbr:eP c x=(c,e2):=by rw[htab,htb2,if_pos he2];exact if_pos he2
       repeat'(first|refine ar ?_|fail)
       all_goals exact i5
    ·have hbr:eP c x=(c,e0):=by rw[htab,htb2,if_pos jf];exact if_pos jf
     refine JD ?_
     repeat'(first|refine og ?_|(refine av.kZ ?_;refine av.he rfl rfl (HE.jJ rfl rfl rfl rfl rfl eT Ml Ml) (fun _=>bc) (fun _=>aV) ?_;rintro bl _)|(refine av.ep 96 ?_;refine av.he rfl rfl (HE.dX rfl rfl (fun w' hw'=>fJ _ _ _ w')) (fun _=>bc) (fun _=>aV) ?_;rintro⟨⟩ _)|(refine av.ep 58 ?_;refine av.he rfl rfl (HE.bF (V:=aY c.ao) (V2:=jD) (w0:=w) (F:=F) (D:=(fun _=>False)) (y:=⟨.slice p1 c.ao.ts.length c1,.slice p2 c.ao.ps.length c2,.slice p3 c.ao.ps.length c3⟩) jD.fr jD.lt jD.mo ak bG (fun _=>aA) rfl rfl (fun w' hw' hh=>by have:=eC _ _ c.ao ⟨.slice p1 c.ao.ts.length c1,.slice p2 c.ao.ps.length c2,.slice p3 c.ao.ps.length c3⟩ (.slice (some ⟨bl,0,none⟩) 1 1) [1] w' hh (cZ (hw'.m (.aT bl [.int .i64 1] fY) bG).1) hs.some hs.at_.1 hs.at_.2;rw[hr0]at this;exact this.mono fun _ _ g=>nm.oQ g)) (fun _=>bc) (fun _=>aV) ?_;rintro⟨D1,x1⟩ _;refine aP.pure (φ:=jq.Sl x1) (fun w' hw'=>hw'.an (V:=jD) (w0:=w) (F:=F) (D:=D1) (y:=x1) ak bG) ?_;rintro⟨q1,n1,d1,q2,n2,d2,q3,n3,d3,rfl⟩;dsimp only[fI])|(refine av.zM mJ ?_;refine av.he rfl rfl (HE.alloc (t:=mJ) [.slice none 0 0,.slice none 0 0,.slice none 0 0,.int .i64 0] rfl rfl) (fun _=>bc) (fun _=>aV) ?_;intro b13 _)|(refine av.nw ?_;refine av.jf rfl (fQ.bn _ rfl rfl rfl rfl rfl rfl aA rfl) (fun _=>bc) (fun _=>aV) ?_;rintro⟨⟩ _)|refine aP.nil LX ?_|refine aP.any LX ?_|exact aN.fin rfl|refine aN.skip LX ?_|refine aN.go ?_ ?_)
     all_goals
      repeat'(first|refine ar ?_|fail)
     all_goals exact i5
theorem pG (F:Nat→Prop) (c:fN) (y:iP) (op:Int) (f:aL) (fp fq:Option Addr) (fc fd:Nat) (w:World) (h:bY c F w y) (hf:dr f F w (.slice fp f.params.length fc,.slice fq f.results.length fd)) (hs:c.ao.Wf) (hfl:c.fs.length≤1000000) (hpl:c.ao.ps.length≤1000000) (hb:c.ao.ts.length+f.params.length≤17592186044416):Calls G.P 20 #[.agg (er c y).toArray,.int .i64 op,.agg #[.slice fp f.params.length fc,.slice fq f.results.length fd]] w (fT (lS c op f) F w):=by
 by_cases h1:op≠2∧op≠3∧op≠4
 ·have:=mN F c y op f fp fq fc fd w h hf hs hfl hpl hb (.inl h1)
  rw[if_pos h1]at this
  unfold lS;rw[if_pos h1];exact this
 ·by_cases h2:c.fs.length=0
  ·have:=mN F c y op f fp fq fc fd w h hf hs hfl hpl hb (.inr h2)
   rw[if_neg h1]at this
   unfold lS;rw[if_neg h1,if_pos h2];exact this
  ·unfold lS
   rw[if_neg h1,if_neg h2]
   rcases(show op=2∨op=3∨op=4 by omega)with h0|h0|h0
   ·rw[if_neg (show¬op=4 by omega),if_neg (show¬((c.ao,(0:Int)).2≠0)from fun h=>h rfl)]
    exact nJ F c y op f fp fq fc fd w h hf hs hfl hpl hb (.inl h0) h2
   ·rw[if_neg (show¬op=4 by omega),if_neg (show¬((c.ao,(0:Int)).2≠0)from fun h=>h rfl)]
    exact nJ F c y op f fp fq fc fd w h hf hs hfl hpl hb (.inr h0) h2
   ·rw[if_pos h0]
    exact ur F c y op f fp fq fc fd w h hf hs hfl hpl hb h0 h2
theorem yw (F:Nat→Prop) (c:fN) (y:iP) (w:World) (h:bY c F w y) (hs:c.ao.Wf) (hfl:c.fs.length≤1000000) (hpl:c.ao.ps.length≤1000000) (hmany:c.ao.ps.length=c.fs.length+1) (hb:c.ao.ts.length+(ix c.fs (c.fs.length - 1)).par.length≤17592186044416):Calls G.P 67 #[.agg (er c y).toArray] w (fT (uN c) F w):=by
 unfold uN
 by_cases h0:c.fs.length=0
 ·rw[if_pos (.inl h0)];exact qq F c y w h hs hfl hpl h0
 ·by_cases h1:(ix c.fs (c.fs.length - 1)).op=4
  ·rw[if_neg (fun hh=>hh.elim h0 (fun h=>h h1))];exact vM F c y w h hs hfl hpl h0 h1 Mj hb
  ·rw[if_pos (.inr h1)];exact tJ F c y w h hs hfl hpl h0 h1
theorem xD (F:Nat→Prop) (c:fN) (y:iP) (w:World) (h:bY c F w y) (hs:c.ao.Wf) (hfl:c.fs.length≤1000000) (hpl:c.ao.ps.length≤1000000) (hmany:c.ao.ps.length=c.fs.length+1) (hb:c.ao.ts.length+(ix c.fs (c.fs.length - 1)).res.length≤17592186044416):Calls G.P 68 #[.agg (er c y).toArray] w (fT (pA c) F w):=by
 unfold pA
 by_cases h0:c.fs.length=0
 ·rw[if_pos h0];exact ph F c y w h hs hfl hpl h0
 ·rw[if_neg h0];exact tS F c y w h hs hfl hpl h0 Mj hb
theorem fT.congr {a b:fN×Int} {F:Nat→Prop} {w w':World} {e:Ending} (h:fT a F w e w') (h2:a.2=b.2) (h1:a.2=0→a.1=b.1):fT b F w e w':=by
 obtain⟨⟨x,e1,hx⟩,h3⟩:=h
 refine⟨⟨x,by rw[e1,h2],hx.1,fun hb=>?_⟩,h3⟩
 have ha:a.2=0:=h2.trans hb
 rw[←h1 ha];exact hx.2 ha
theorem yi (F:Nat→Prop) (c:fN) (y:iP) (w:World) (h:bY c F w y) (op:Int) (ho:jy op) (hs:c.ao.Wf) (hb:c.ao.ts.length+1≤17592186044416):Calls G.P 74 #[.agg (er c y).toArray,.int .i64 op] w (fT (zu c op) F w):=by
 unfold jy at ho
 unfold zu gH
 rcases ho with h0|h0|h0
 ·refine(sC F c y w h op h0 hs).mono fun _ _ hh=>hh.congr ?_ ?_
  all_goals
   by_cases h2:(aU c.ao).2.2=0
   ·simp[h2,h0]
   ·simp[h2,h0]
 ·refine(ry F c y w h op h0 hs hb).mono fun _ _ hh=>hh.congr ?_ ?_
  all_goals
   have n26:¬op=26:=by omega
   have n209:¬op=209:=by omega
   simp only[if_pos h0,if_neg n26,if_neg n209]
   generalize aE c.ao [1]=a
   by_cases h2:a.2=0
   ·simp only[h2,ne_eq,not_true_eq_false,if_false]
    generalize aU a.1=b
    by_cases h3:b.2.2=0
    ·simp only[h3,not_true_eq_false,if_false]
     generalize aU b.1=d
     by_cases h4:d.2.2=0
     ·simp only[h4,not_true_eq_false,if_false]
      split<;>simp
     ·simp[h4]
    ·simp[h3]
   ·simp[h2]
 ·have n27:¬op=27:=by omega
  have n26:¬op=26:=by omega
  refine(pY F c y w h op h0 hs hb).mono fun _ _ hh=>hh.congr ?_ ?_
  all_goals
   simp only[if_neg n27,if_neg n26,if_pos h0]
   generalize aU c.ao=b
   by_cases h2:b.2.2=0
   ·simp only[h2,ne_eq,not_true_eq_false,if_false]
    split<;>simp
   ·simp[h2]
def Ex {β β2:Type} (V:(Nat→Prop)→World→β→Prop) (V2:(Nat→Prop)→World→β2→Prop) (D:Nat→Prop) (w:World) (x:β×β2):Prop:=V D w x.1∧V2 D w x.2
def A0 (xs:List Int) (D:Nat→Prop) (w:World) (v:Value):Prop:=af D w v xs
section
variable {β β2:Type} {V:(Nat→Prop)→World→β→Prop} {V2:(Nat→Prop)→World→β2→Prop} {w0 w:World} {F D D2:Nat→Prop} {y:β} {y2:β2} {n:Nat} {E:Env} {M M':List a8} {R:List (World→Prop)}
theorem An.pair (h1:vP V) (h2:vP V2) (a:An V w0 F D w y) (b:An V2 w0 F D2 w y2):An (Ex V V2) w0 F (fun k=>D k∨D2 k) w (y,y2):=fun w' hx hc=>
 ⟨h1 (fun _ h=>h.elim .inl fun h=>.inr (.inl h)) (a w' hx (hc.mono fun _ _ h hD=>h (.inl hD))),h2 (fun _ h=>h.elim .inl fun h=>.inr (.inr h)) (b w' hx (hc.mono fun _ _ h hD=>h (.inr hD)))⟩
theorem HE.qB (hV:tp V) (hl:BK V) (hm:vP V) {tf:β→Value} {f:Nat} {args:List Operand} {tys:Array TypeId} {vs:List Value} (hR:Ext w0∈R) (hf:G.fb[f]?=some true) (ha:jQ E args=some vs)
  (hc:∀w,Ok M R w→Calls G.P f vs.toArray w (bg V tf (AF F w0 (fun _=>False)) w)):
  HE n (.call ⟨.value (.func f),args.toArray,tys⟩) E M R (fun _:(Nat→Prop)×β=>True) (fun x=>tf x.2) (fun x=>a8.an V w0 F x.1 x.2::M) (fun _=>R):=
 ⟨fun w hw=>(ck.call hf ha (hc w hw) (fun e w' h=>by obtain⟨⟨x,e1,_⟩,_⟩:=h;exact⟨_,e1⟩)).mono fun v w' ⟨⟨x,e1,hv⟩,hx⟩=>by
  cases e1
  refine⟨(fun k=>w.heap.size≤k∧k<w'.heap.size,x),trivial,rfl,hw.push hx (An.mk hV (hm ?_ (hl hv)) ((hw.get hR).trans hx)) (fun k hk=>hk)⟩
  rintro k ⟨(hk|hk)|hk,hlt⟩
  ·exact .inl hk
  ·exact hk.elim
  ·exact .inr ⟨hk,hlt⟩⟩
theorem aa.rh {ops:Array Oper} {Q:Exit→Act→World→Prop} {l:List Oper} {M1 M2:List a8} (h1:vP V) (h2:vP V2) (r1:Rm (a8.an V w0 F D y) M M1) (r2:Rm (a8.an V2 w0 F D2 y2) M1 M2) (h:aa ops Q n l E (a8.an (Ex V V2) w0 F (fun k=>D k∨D2 k) (y,y2)::M2) R):aa ops Q n l E M R:=
 aa.mg r1 r2 (fun _ hk=>hk) (fun _ a b=>An.pair (V:=V) (V2:=V2) @h1 @h2 a b) h
theorem aP.rh {l:List Oper} {Q:Exit→Act→World→Prop} {Mc:List a8} {Rc:List (World→Prop)} {fuel:Nat} {listed:Array Bool} {M1 M2:List a8} (h1:vP V) (h2:vP V2) (r1:Rm (a8.an V w0 F D y) M M1) (r2:Rm (a8.an V2 w0 F D2 y2) M1 M2) (h:aP l Q Mc Rc n fuel listed E (a8.an (Ex V V2) w0 F (fun k=>D k∨D2 k) (y,y2)::M2) R):aP l Q Mc Rc n fuel listed E M R:=
 aP.map (fun _ hw=>((hw.front r1).front (Rm.tail r2)).merge (q:=a8.an (Ex V V2) w0 F (fun k=>D k∨D2 k) (y,y2)) (fun _ (hk:D _∨D2 _)=>hk.symm) (fun b a=>An.pair (V:=V) (V2:=V2) @h1 @h2 a b)) h
theorem aP.Gc {l:List Oper} {Q:Exit→Act→World→Prop} {Mc:List a8} {Rc:List (World→Prop)} {fuel:Nat} {listed:Array Bool} {B T m:Nat} {v:Value} {cs:List Value} (xs:List Int) (hM:Up (.own B T 1 v m cs) (a8.an (A0 xs) w0 F (fun k=>v.ownBlock=some k) v) M M') (hm:m=xs.length) (hcs:cs=aX xs) (hl:xs.length≤17592186044416) (h:aP l Q Mc Rc n fuel listed E M' R):aP l Q Mc Rc n fuel listed E M R:=
 aP.map (fun _ hw=>hw.swap hM (fun _ hk=>hk) (fun ho w' _ h2=>by subst hm hcs;exact((eQ ho hl).aO h2 (fun _ _ hk hn=>hn hk)).mono fun _ _ hk=>.inr hk)) h
end
theorem A0.mo (xs:List Int):vP (A0 xs):=fun hd h=>af.mono h fun k _ hk=>hd k hk
theorem dr.lt (f:aL):BK (dr f):=fun h=>⟨h.1.mono fun _ hk hd=>⟨hd,hk⟩,h.2.mono fun _ hk hd=>⟨hd,hk⟩⟩
theorem dr.mo (f:aL):vP (dr f):=fun hd h=>⟨h.1.mono fun k _ hk=>hd k hk,h.2.mono fun k _ hk=>hd k hk⟩
set_option maxHeartbeats 8000000 in
theorem wZ (F:Nat→Prop) (m:aj) (k v i:Int) (cs:List Value) (w:World) (hm:ay F w cs m) (hF:∀k,F k→k<w.heap.size):Calls G.P 66 #[.agg cs.toArray,.agg #[.int .i64 k,.int .i64 v,.int .i64 i]] w (iZ (cA m k v i) F w):=by
 have hm0:=hm
 obtain⟨v0,v1,v2,v3,v4,v5,v6,v7,v8,v9,rfl,r0,r1,r2,r3,r4,r5,r6,r7,r8,r9,g0⟩:=hm
 by_cases h0:k=0
 ·subst h0
  rw[show cA m 0 v i=some dy from rfl]
  refine JE ?_
  repeat'(first|refine ar ?_|(refine KS fun b_=>?_)|(refine a7 ?_ ?_<;>intro hc_))
  all_goals exact co
 ·by_cases h1:k=1
  ·subst h1
   by_cases hv:1≤v∧v≤4
   ·have hk:jo v=true:=by unfold jo;simp[hv.1,hv.2]
    rw[show cA m 1 v i=some ⟨[],[v]⟩from by unfold cA;rw[if_neg Mj,if_pos rfl,if_pos hk]]
    obtain⟨q1,q2⟩:=hv
    refine JE ?_
    repeat'(first|refine ar ?_|(refine KS fun b_=>?_)|(refine eH fun b_ _=>?_)|(refine a7 ?_ ?_<;>intro hc_))
    all_goals exact co
   ·have hk:jo v=false:=by unfold jo;by_cases a:1≤v<;>by_cases b:v≤4<;>simp[a,b]<;>omega
    rw[show cA m 1 v i=none from by unfold cA;rw[if_neg Mj,if_pos rfl,hk];rfl]
    refine JE ?_
    repeat'(first|refine ar ?_|(refine KS fun b_=>?_)|(refine a7 ?_ ?_<;>intro hc_))
    all_goals exact co
  ·by_cases h2:k=2
   ·subst h2
    rw[show cA m 2 v i=cx m.types i from by unfold cA;rw[if_neg Mj,if_neg Mj,if_pos rfl]]
    refine JE ?_
    repeat'(first|refine ar ?_|(refine KS fun b_=>?_)|(refine a7 ?_ ?_<;>intro hc_))
    refine aa.he (HE.BJ (r:=cx m.types i) (F:=F) ak hF rfl rfl (fun w' hw'=>iJ F m i _ w' (hm0.aO (show Ext w w' from hw'.at) (fun _ _ _ h=>h)))) rfl ?_
    rintro⟨D_,p_,c_,q_,d_⟩ hD_
    dsimp only
    repeat'(first|refine ar ?_|(refine a7 ?_ ?_<;>intro hc_))
    all_goals(refine ah.aF (.inl rfl) rfl rfl rfl rfl rfl aA rfl rfl ?_;exact fun w' hw'=>bg.iI (f0:=(cx m.types i).getD dy) (tf:=fun y:Value×Value=>.tuple #[.agg #[y.1,y.2],.bool (cx m.types i).isSome]) ⟨D_,p_,c_,q_,d_⟩ hw' ak ak hD_)
   ·rw[show cA m k v i=none from by unfold cA;rw[if_neg h0,if_neg h1,if_neg h2]]
    refine JE ?_
    repeat'(first|refine ar ?_|(refine KS fun b_=>?_)|(refine a7 ?_ ?_<;>intro hc_))
    all_goals exact co
end Go.Proofs.YtgbgnipidakdhaaGreatDoor
