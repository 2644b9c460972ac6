/- Plain laws: the program's control frames against the reference's. -/
import Derived.Test.YtdkcljdfbemnbaaGreatDoorJLz
import Derived.Test.YtdkcljdfbemnbaaGreatDoorJVh
import Derived.Test.YtdkcljdfbemnbaaGreatDoorJWe
namespace Go.Proofs.YtdkcljdfbemnbaaGreatDoor
set_option maxRecDepth 100000
def rW (c:dv) (i:Nat):Ga:=⟨(ix c.fs i).op,(ix c.fs i).par,(ix c.fs i).res,c.il i,(ix c.fs i).lq⟩
def bP (c:dv):gA:=⟨c.ao,(List.range c.fs.length).map (rW c),c.results⟩
variable {α:Type} {l ts:List Int} (m:af) (c:dv) {i:Nat} (s:ck)
theorem cU:(bP c).fs.length=c.fs.length:=by simp[bP]
theorem iQ (h:i<c.fs.length):ix (bP c).fs i=rW c i:=by
 rw[cz (by rw[cU];exact h)]
 simp[bP]
theorem Bd {a b:List Ga} (hl:a.length=b.length) (h:∀i,i<a.length→ix a i=ix b i):a=b:=by
 apply List.ext_getElem hl
 intro i h1 h2
 have:=h i h1
 rwa[cz h1,cz h2]at this
theorem tK (_h:0<c.fs.length):c.il (c.fs.length - 1)=c.live:=by unfold dv.il;rw[if_neg Pc]
theorem FU (l:List Int):bP (jR l)=DM l:=rfl
theorem Av:bP {c with ao:=s}={bP c with ao:=s}:=rfl
theorem BQ (f:nS) (hf:f.lq=c.live):bP (gW c s c.fs f)={bP c with ao:=aS (aW s) f.par,fs:=(bP c).fs++[⟨f.op,f.par,f.res,c.live,c.live⟩]}:=by
 have e:(bP (gW c s c.fs f)).fs=(bP c).fs++[⟨f.op,f.par,f.res,c.live,c.live⟩]:=by
  have hl:(gW c s c.fs f).fs.length=c.fs.length+1:=by simp[gW]
  refine Bd (by rw[cU,hl,List.length_append,cU];rfl) fun i hi=>?_
  rw[cU,hl]at hi
  rw[iQ _ (by rw[hl];exact hi)]
  rcases Nat.lt_or_ge i c.fs.length with h|h
  ·rw[iF (by rw[cU];exact h),iQ c h]
   have h1:ix (gW c s c.fs f).fs i=ix c.fs i:=iF h
   have h2:(gW c s c.fs f).il i=c.il i:=by
    unfold dv.il
    rw[hl,if_pos Pc]
    by_cases h3:i+1<c.fs.length
    ·rw[if_pos h3];show(ix (c.fs++[f]) (i+1)).lq=_;rw[iF h3]
    ·rw[if_neg h3];show(ix (c.fs++[f]) (i+1)).lq=_;rw[gJ Pc,show i+1 - c.fs.length=0 by omega];exact hf
   unfold rW
   rw[h1,h2]
  ·obtain rfl:i=c.fs.length:=by omega
   rw[gJ (by rw[cU];exact Nat.le_refl _),cU,Nat.sub_self]
   have h1:ix (gW c s c.fs f).fs c.fs.length=f:=by show ix (c.fs++[f]) c.fs.length=f;rw[gJ (Nat.le_refl _),Nat.sub_self];rfl
   have h2:(gW c s c.fs f).il c.fs.length=c.live:=by
    unfold dv.il;rw[hl,if_neg Pc];exact hf
   unfold rW
   rw[h1,h2,hf];rfl
 show(⟨_,(bP (gW c s c.fs f)).fs,_⟩:gA)=_
 rw[e];rfl
theorem Ic {k:Int} (h:k=2∨k=3∨k=4) (par res:List Int) (b:Bool):(⟨k,par,res,false,b⟩:nS).op=k:=by
 have:=h;clear this
 unfold nS.op
 dsimp only
 rw[if_neg Pc,if_neg Pb]
theorem E9 (op:Int) (f:aO) (hb:c.broken=0):(jv c op f.params f.results).2=(nZ (bP c) op f).2∧((jv c op f.params f.results).2=0→bP (jv c op f.params f.results).1=(nZ (bP c) op f).1):=by
 unfold jv nZ
 rw[if_neg (fun h=>h hb)]
 by_cases h1:op≠2∧op≠3∧op≠4
 ·rw[if_pos h1,if_pos h1];exact⟨rfl,fun _=>rfl⟩
 rw[if_neg h1,if_neg h1,cU]
 by_cases h2:c.fs.length=0
 ·rw[if_pos h2,if_pos h2];exact⟨rfl,fun _=>rfl⟩
 rw[if_neg h2,if_neg h2]
 rw[show(bP c).ao=c.ao from rfl]
 dsimp only
 obtain⟨a,ha⟩:∃a,(if op=4 then aK c.ao [1]else(c.ao,0))=a:=⟨_,rfl⟩
 rw[ha]
 by_cases h3:a.2≠0
 ·rw[if_pos h3,if_pos h3];exact⟨rfl,fun h=>absurd h h3⟩
 rw[if_neg h3,if_neg h3]
 by_cases h4:(aK a.1 f.params).2≠0
 ·rw[if_pos h4,if_pos h4];exact⟨rfl,fun h=>absurd h h4⟩
 rw[if_neg h4,if_neg h4]
 refine⟨rfl,fun _=>?_⟩
 dsimp only
 rw[BQ c _ ⟨op,f.params,f.results,false,c.live⟩ rfl,Ic Pc,iQ c Pc]
 unfold rW
 rw[tK c Pc]
theorem Jc {c:dv} (h:c.Ok) {i:Nat} (hi:i<c.fs.length):(ix c.fs i).op=3↔(ix c.fs i).kind=3:=by
 have h1:=h.other i hi
 unfold nS.op
 by_cases h0:(ix c.fs i).kind=0
 ·rw[if_pos h0];omega
 rw[if_neg h0]
 by_cases h2:(ix c.fs i).other=true
 ·rw[if_pos h2];have:=h1 h2;omega
 ·rw[if_neg h2]
theorem Jd {c:dv} (h:c.Ok) {i:Nat} (_hi:i<c.fs.length):(ix c.fs i).op=4↔(ix c.fs i).kind=4∧(ix c.fs i).other=false:=by
 have:=h;clear this
 unfold nS.op
 by_cases h0:(ix c.fs i).kind=0
 ·rw[if_pos h0];omega
 rw[if_neg h0]
 cases h2:(ix c.fs i).other with
 |true=>rw[if_pos rfl];simp
 |false=>rw[if_neg Pb];simp
theorem Fk (n:Int) (hb:c.broken=0) (hk:c.Ok):cT c n=if n<0∨(bP c).fs.length≤n then([],15)else(if(ix (bP c).fs ((bP c).fs.length - 1 - n.toNat)).op=3 then(ix (bP c).fs ((bP c).fs.length - 1 - n.toNat)).par else(ix (bP c).fs ((bP c).fs.length - 1 - n.toNat)).res,0):=by
 unfold cT
 rw[if_neg (fun h=>h hb),cU]
 by_cases h:n<0∨(c.fs.length:Int)≤n
 ·rw[if_pos h,if_pos h]
 have hi:c.fs.length - 1 - n.toNat<c.fs.length:=by omega
 rw[if_neg h,if_neg h,iQ c hi]
 dsimp only
 by_cases h3:(ix c.fs (c.fs.length - 1 - n.toNat)).kind=3
 ·rw[if_pos h3,if_pos (show(rW c (c.fs.length - 1 - n.toNat)).op=3 from(Jc hk hi).2 h3)];rfl
 ·rw[if_neg h3,if_neg (show¬(rW c (c.fs.length - 1 - n.toNat)).op=3 from fun h=>h3 ((Jc hk hi).1 h))];rfl
theorem Ea (hb:c.broken=0):qS c=(bP c).results:=by unfold qS;rw[if_neg (fun h=>h hb)];rfl
theorem FT (_hn:0<c.fs.length):bP {c with ao:=s,fs:=c.fs.take (c.fs.length - 1),live:=c.top.lq}={bP c with ao:=s,fs:=(bP c).fs.take (c.fs.length - 1)}:=by
 have hl:(c.fs.take (c.fs.length - 1)).length=c.fs.length - 1:=by rw[List.length_take];omega
 have e:(bP {c with ao:=s,fs:=c.fs.take (c.fs.length - 1),live:=c.top.lq}).fs=(bP c).fs.take (c.fs.length - 1):=by
  refine Bd (by rw[cU];show(c.fs.take _).length=_;rw[hl,List.length_take,cU];omega) fun i hi=>?_
  rw[cU]at hi
  have hi:i<c.fs.length - 1:=by rw[←hl];exact hi
  rw[iQ _ (by show i<(c.fs.take _).length;rw[hl];exact hi),jl hi (by rw[cU];omega),iQ c Pc]
  have h1:ix (c.fs.take (c.fs.length - 1)) i=ix c.fs i:=jl hi Pc
  have h2:({c with ao:=s,fs:=c.fs.take (c.fs.length - 1),live:=c.top.lq}:dv).il i=c.il i:=by
   unfold dv.il
   dsimp only
   rw[hl,if_pos (show i+1<c.fs.length by omega)]
   by_cases h3:i+1<c.fs.length - 1
   ·rw[if_pos h3,jl h3 Pc]
   ·rw[if_neg h3]
    unfold dv.top
    rw[show c.fs.length - 1=i+1 by omega]
  unfold rW
  rw[h2]
  dsimp only
  rw[h1]
 show(⟨_,(bP {c with ao:=s,fs:=c.fs.take (c.fs.length - 1),live:=c.top.lq}).fs,_⟩:gA)=_
 rw[e];rfl
theorem Fp (hb:c.broken=0) (hk:c.Ok):(ke c).2=(ry (bP c)).2∧((ke c).2=0→bP (ke c).1=(ry (bP c)).1):=by
 unfold ke ry
 rw[if_neg (fun h=>h hb),cU]
 by_cases h2:c.fs.length=0
 ·rw[if_pos h2,if_pos h2];exact⟨rfl,fun _=>rfl⟩
 rw[if_neg h2,if_neg h2,iQ c Pc,show(bP c).ao=c.ao from rfl]
 have h4:=Jd hk (i:=c.fs.length - 1) Pc
 dsimp only
 by_cases h3:(cP c.ao c.top.res).2≠0
 ·rw[if_pos h3,if_pos (show(cP c.ao (rW c (c.fs.length - 1)).res).2≠0 from h3)];exact⟨rfl,fun h=>absurd h h3⟩
 rw[if_neg h3,if_neg (show¬(cP c.ao (rW c (c.fs.length - 1)).res).2≠0 from h3)]
 by_cases h5:c.top.kind=4∧c.top.other=false∧c.top.par≠c.top.res
 ·rw[if_pos h5,if_pos (show(rW c (c.fs.length - 1)).op=4∧(rW c (c.fs.length - 1)).par≠(rW c (c.fs.length - 1)).res from⟨h4.2 ⟨h5.1,h5.2.1⟩,h5.2.2⟩)]
  exact⟨rfl,fun h=>by cases h⟩
 ·rw[if_neg h5,if_neg (show¬((rW c (c.fs.length - 1)).op=4∧(rW c (c.fs.length - 1)).par≠(rW c (c.fs.length - 1)).res)from fun h=>h5 ⟨(h4.1 h.1).1,(h4.1 h.1).2,h.2⟩)]
  refine⟨rfl,fun _=>?_⟩
  exact FT c _ Pc
theorem xD (c c2:dv) (g:Ga) (_hn:0<c.fs.length) (hr:c2.results=c.results) (hl:c2.fs.length=c.fs.length) (hp:∀i,i<c.fs.length - 1→ix c2.fs i=ix c.fs i) (hw:(ix c2.fs (c.fs.length - 1)).lq=c.top.lq) (hg:rW c2 (c.fs.length - 1)=g):bP c2={bP c with ao:=c2.ao,fs:=(bP c).fs.take ((bP c).fs.length - 1)++[g]}:=by
 have e:(bP c2).fs=(bP c).fs.take ((bP c).fs.length - 1)++[g]:=by
  have ht:((bP c).fs.take ((bP c).fs.length - 1)).length=c.fs.length - 1:=by rw[List.length_take,cU];omega
  refine Bd (by rw[cU,hl,List.length_append,ht];show _=_+1;omega) fun i hi=>?_
  rw[cU,hl]at hi
  rw[iQ _ (by rw[hl];exact hi)]
  rcases Nat.lt_or_ge i (c.fs.length - 1)with h|h
  ·rw[iF (by rw[ht];exact h),jl (by rw[cU];exact h) Pc,iQ c hi]
   have h2:c2.il i=c.il i:=by
    unfold dv.il
    rw[hl,if_pos (show i+1<c.fs.length by omega),if_pos (show i+1<c.fs.length by omega)]
    by_cases h3:i+1<c.fs.length - 1
    ·rw[hp _ h3]
    ·have h4:i+1=c.fs.length - 1:=by omega
     rw[h4,hw];rfl
   unfold rW
   rw[h2,hp i h]
  ·obtain rfl:i=c.fs.length - 1:=by omega
   rw[gJ (by rw[ht];exact Nat.le_refl _),ht,Nat.sub_self,hg];rfl
 show(⟨_,(bP c2).fs,c2.results⟩:gA)=_
 rw[e,hr];rfl
theorem xV (hb:c.broken=0):bP (iE c)=gk (bP c):=by
 unfold iE gk
 rw[cU]
 by_cases hn:c.fs.length=0
 ·rw[if_pos (.inr hn),if_pos hn]
 rw[if_neg (fun h=>h.elim (fun h=>h hb) hn),if_neg hn]
 unfold o9
 rw[xD c {c with ao:=dG c.ao,live:=false} {ix (bP c).fs ((bP c).fs.length - 1)with live:=false} Pc rfl rfl (fun _ _=>rfl) rfl ?_]
 ·rfl
 ·rw[cU,iQ c Pc]
  unfold rW
  have:({c with ao:=dG c.ao,live:=false}:dv).il (c.fs.length - 1)=false:=by unfold dv.il;rw[if_neg (show¬c.fs.length - 1+1<c.fs.length by omega)]
  rw[this]
theorem else_eq (hb:c.broken=0) (hk:c.Ok):(my c).2=(xd (bP c)).2∧((my c).2=0→bP (my c).1=(xd (bP c)).1):=by
 unfold my xd
 rw[if_neg (fun h=>h hb),cU]
 by_cases h2:c.fs.length=0
 ·rw[if_pos (.inl h2),if_pos (.inl h2)];exact⟨rfl,fun _=>rfl⟩
 have h4:=Jd hk (i:=c.fs.length - 1) Pc
 rw[iQ c Pc,show(bP c).ao=c.ao from rfl]
 by_cases h1:c.top.kind≠4∨c.top.other=true
 ·have h5:(rW c (c.fs.length - 1)).op≠4:=fun h=>by
   have:=h4.1 h
   rcases h1 with h1|h1
   ·exact h1 this.1
   ·have h6:c.top.other=false:=this.2
    rw[h6]at h1;cases h1
  rw[if_pos (.inr h1),if_pos (.inr h5)];exact⟨rfl,fun _=>rfl⟩
 have hk4:c.top.kind=4:=Classical.byContradiction fun h=>h1 (.inl h)
 have ho:c.top.other=false:=by
  cases h:c.top.other with
  |false=>rfl
  |true=>exact absurd (.inr h) h1
 have h5:(rW c (c.fs.length - 1)).op=4:=h4.2 ⟨hk4,ho⟩
 rw[if_neg (show¬(c.fs.length=0∨c.top.kind≠4∨c.top.other=true)from fun h=>h.elim h2 h1),if_neg (show¬(c.fs.length=0∨(rW c (c.fs.length - 1)).op≠4)from fun h=>h.elim h2 fun h=>h h5)]
 dsimp only
 by_cases h3:(cP c.ao c.top.res).2≠0
 ·rw[if_pos h3,if_pos (show(cP c.ao (rW c (c.fs.length - 1)).res).2≠0 from h3)];exact⟨rfl,fun h=>absurd h h3⟩
 rw[if_neg h3,if_neg (show¬(cP c.ao (rW c (c.fs.length - 1)).res).2≠0 from h3)]
 refine⟨rfl,fun _=>?_⟩
 have ht:(c.fs.take (c.fs.length - 1)).length=c.fs.length - 1:=by rw[List.length_take];omega
 have hl:(c.fs.take (c.fs.length - 1)++[{c.top with other:=true}]).length=c.fs.length:=by rw[List.length_append,ht];show _+1=_;omega
 have hlast:ix (c.fs.take (c.fs.length - 1)++[{c.top with other:=true}]) (c.fs.length - 1)={c.top with other:=true}:=by rw[gJ (by rw[ht];exact Nat.le_refl _),ht,Nat.sub_self];rfl
 have:=xD c (gW c (cP c.ao c.top.res).1 (c.fs.take (c.fs.length - 1)) {c.top with other:=true}) {rW c (c.fs.length - 1)with op:=5,live:=c.top.lq} Pc rfl hl (fun i hi=>by
  show ix (c.fs.take (c.fs.length - 1)++[{c.top with other:=true}]) i=_
  rw[iF (by rw[ht];exact hi),jl hi Pc]) (by
  show(ix (c.fs.take (c.fs.length - 1)++[{c.top with other:=true}]) (c.fs.length - 1)).lq=_
  rw[hlast]) (by
  unfold rW
  have e1:(gW c (cP c.ao c.top.res).1 (c.fs.take (c.fs.length - 1)) {c.top with other:=true}).il (c.fs.length - 1)=c.top.lq:=by
   unfold dv.il
   refine(if_neg ?_).trans rfl
   show¬c.fs.length - 1+1<(c.fs.take (c.fs.length - 1)++[{c.top with other:=true}]).length
   rw[hl];omega
  rw[e1]
  rw[show ix (gW c (cP c.ao c.top.res).1 (c.fs.take (c.fs.length - 1)) {c.top with other:=true}).fs (c.fs.length - 1)={c.top with other:=true}from hlast]
  have e2:({c.top with other:=true}:nS).op=5:=by unfold nS.op;dsimp only;rw[if_neg (by rw[hk4];decide),if_pos rfl]
  rw[e2];rfl)
 rw[this]
 rw[cU]
 rfl
theorem GO (_hb:c.broken=0) (hn:0<c.fs.length):(ix (bP c).fs ((bP c).fs.length - 1)).live=c.live:=by
 rw[cU,iQ c Pc]
 exact tK c hn
open Go.RowKit _root_.Go.Proofs.Tryz
set_option maxHeartbeats 16000000
open Bool renaming false_or→P7
open List renaming cons_append→Pj,length_append→Pt,length_take→Ps,nil_append→Pi,range→PB,take_length→Pu
open Nat renaming le_refl→Pr,lt_or_ge→PA,sub_self→PO
open Value renaming bool→Ph,int→Pf,slice→Pg
def n7 (l ts:List Int):Bool:=(PB (min l.length ts.length)).all fun i=>decide (ix l i=0∨ix l i=ix ts i)
theorem pR (h:∀i,i<l.length→i<ts.length→ix l i=0∨ix l i=ix ts i):n7 l ts=true:=by
 unfold n7
 rw[List.all_eq_true]
 intro i hi
 rw[List.mem_range]at hi
 exact decide_eq_true (h i Pc Pc)
theorem rV (_h1:i<l.length) (_h2:i<ts.length) (h:¬(ix l i=0∨ix l i=ix ts i)):n7 l ts=false:=by
 unfold n7
 rw[List.all_eq_false]
 exact⟨i,List.mem_range.2 Pc,by rw[decide_eq_false h];simp⟩
theorem BM (F F':Nat→Prop) (l ts:List Int) (v u:Value) (w:World) (h:ai F w v l) (h':ai F' w u ts):Calls G.P 120 #[v,u] w fun e w'=>e=.returned (.bool (n7 l ts))∧Ext w w':=by
 obtain⟨p,c,rfl,hl⟩:=h.slice
 obtain⟨q,d,rfl,hl'⟩:=h'.slice
 refine ae (l:=[_,_]) func120 rfl ntmps120 rfl (Ok.start w) ?_
 repeat'(first|refine ar ?_|fail)
 refine bh.loop (σ:=Nat) (fun j=>[(0,.slice p l.length c),(1,.slice q ts.length d),(5,.int .i64 j)]) (fun _=>[]) (fun _=>[Ext w]) (fun j=>j≤l.length∧∀i,i<j→i<ts.length→ix l i=0∨ix l i=ix ts i) (fun j=>l.length - j) 0 bH bw aU ⟨by omega,fun i hi=>absurd hi Pc⟩ ?_
 rintro j ⟨hj,hok⟩
 by_cases hjl:j<l.length
 ·by_cases hjt:j<ts.length
  ·obtain⟨b7,o7,rfl,-,hc⟩:=h.at hjl
   obtain⟨b8,o8,rfl,-,hc'⟩:=h'.at hjt
   have hcj:=hc j hjl
   have hcj':=hc' j hjt
   have hstep:(ix l j=0∨ix l j=ix ts j)→∀i,i<j+1→i<ts.length→ix l i=0∨ix l i=ix ts i:=fun hs i hi hi2=>by
    rcases PA i j with hlt|hge
    ·exact hok i hlt hi2
    ·have:i=j:=by omega
     subst this;exact hs
   by_cases h0:ix l j=0
   ·repeat'(first|refine ar ?_|fail)
    all_goals first|omega|exact ah.next (j+1) bH bw aU ⟨by omega,hstep (.inl h0)⟩ Pc
   ·by_cases he:ix l j=ix ts j
    ·repeat'(first|refine ar ?_|fail)
     all_goals first|omega|exact ah.next (j+1) bH bw aU ⟨by omega,hstep (.inr he)⟩ Pc
    ·repeat'(first|refine ar ?_|fail)
     all_goals first|omega|exact ah.aF rfl rfl fun w' hw'=>⟨by rw[rV hjl hjt (fun h=>h.elim h0 he)],hw'.at⟩
  ·repeat'(first|refine ar ?_|fail)
   all_goals first|omega|exact ah.aF rfl rfl fun w' hw'=>⟨by rw[pR (fun i hi hi2=>hok i Pc hi2)],hw'.at⟩
 ·repeat'(first|refine ar ?_|fail)
  all_goals first|omega|exact ah.aF rfl rfl fun w' hw'=>⟨by rw[pR (fun i hi hi2=>hok i Pc hi2)],hw'.at⟩
theorem uY (B:Nat) (F:Nat→Prop) (cp:Nat) (c:dv) (v:jI) (m:af) (locals:List Int) (sv:Value) (x:cv) (lp pt pl:Option Addr) (lc ct cl:Nat) (w:World) (hw:Ok (aT cp c v) (qg B F m sv locals (.slice lp locals.length lc) x (.slice pt x.types.length ct) (.slice pl x.labels.length cl)) w) (hg:v.Good c) (hwf:c.Wf) (hb:c.broken=0) (hp:cW x=true) (_hop:x.op=0):Calls G.P 32 #[.pointer (some ⟨cp,0,none⟩),sv,.slice lp locals.length lc,.agg #[Pf .i64 x.op,Pf .i64 x.a,Pf .i64 x.b,Pf .u64 x.n,Pf .i64 x.kind,Pf .i64 x.val,Pf .i64 x.index,Pg pt x.types.length ct,Pg pl x.labels.length cl]] w (aJ (aT cp c v) cp (iE c,0) w):=by
 refine ae (l:=[_,_,_,_]) func32 rfl ntmps32 rfl (Ok.dk hw) ?_
 generalize hS:Mb (aT cp c v)=S0
 unfold qg
 obtain⟨sp,tv,pv,bv,rv,fv,D,L⟩:=v
 dsimp only[aT,aX,Pj,Pi]
 have hno:=fun w' M (hw':Ok M _ w')=>lW (B:=B) (F:=F) (m:=m) (locals:=locals) (sv:=sv) (lv:=.slice lp locals.length lc) (x:=x) (pt:=pt) (pl:=pl) (ct:=ct) (cl:=cl) hw'
 rw[hp]at hno
 repeat'(first|refine ar ?_|(refine aE fun b_=>?_)|refine Ow ?_|refine N7 ?_|refine N6 ?_|fail)
 refine aa.he (HE.bJ (M0:=aT cp c ⟨sp,tv,pv,bv,rv,fv,D,L⟩) dS rfl rfl (fun w' hw'=>oM cp c ⟨sp,tv,pv,bv,rv,fv,D,L⟩ w' (hw'.dc dU (fun p hp=>absurd hp Pd)) hg hb hwf)) rfl ?_
 rintro⟨sp2,tv2,pv2,bv2,rv2,fv2,D2,L2⟩ hg2
 dsimp only[aT,aX,Pj,Pi]at hg2 ⊢
 repeat'(first|refine ar ?_|fail)
 exact ah.aF rfl rfl fun w' hw'=>aJ.ok (r:=(iE c,0)) (⟨sp2,tv2,pv2,bv2,rv2,fv2,D2,L2⟩:jI) rfl hg2 hS hw' OH ak
def Ba (i:Int) (x:mr):Bool:=decide (x.kind=0) && decide (x.index=i)
theorem qs [Inhabited α] {l:List α} {f:α→Bool} {j:Nat} (hj:j<l.length):(l.take (j+1)).any f=((l.take j).any f || f (ix l j)):=by rw[bM hj,List.any_append];simp
theorem sY {l:List α} {f:α→Bool} {j:Nat} (h:(l.take j).any f=true):l.any f=true:=by
 rw[List.any_eq_true]at h ⊢
 obtain⟨x,hx,h⟩:=h
 exact⟨x,List.mem_of_mem_take hx,h⟩
theorem EZ (i:Int) (h0:0≤i) (h1:i<(gI m).length):nF m i=(m.aL.any (Ba i) || m.globals.any (fun g=>named g.nH i) || m.elems.any (fun e=>e.items.any fun l=>named l i)):=by
 unfold nF d6 d4
 rw[decide_eq_true h0,decide_eq_true h1,Pu,Pu]
 unfold Ba
 rw[Bool.eq_iff_iff]
 simp only[Bool.true_and,Bool.or_eq_true]
 constructor
 ·rintro((h|h)|h)
  ·exact .inl (.inr h)
  ·exact .inr h
  ·exact .inl (.inl h)
 ·rintro((h|h)|h)
  ·exact .inr h
  ·exact .inl (.inl h)
  ·exact .inl (.inr h)
theorem zA (i:Int) (_h:¬(0≤i∧i<(gI m).length)):nF m i=false:=by
 unfold nF
 by_cases a:0≤i
 ·rw[decide_eq_false (show¬i<((gI m).length:Int)by omega)];simp
 ·rw[decide_eq_false a];simp
theorem oh (F:Nat→Prop) (m:af) (i:Int) (cs:List Value) (w:World) (hm:av F w cs m):Calls G.P 177 #[.agg cs.toArray,.int .i64 i] w fun e w'=>e=.returned (.bool (nF m i))∧Ext w w':=by
 have hm0:=hm
 obtain⟨v0,v1,v2,v3,v4,v5,v6,v7,v8,v9,rfl,r0,r1,r2,r3,r4,r5,r6,r7,r8,r9,g0⟩:=hm;obtain⟨p0,c0,rfl,l0⟩:=r0.slice;obtain⟨p1,c1,rfl,l1⟩:=r1.slice;obtain⟨p2,c2,rfl,l2⟩:=r2.slice;obtain⟨p3,c3,rfl,l3⟩:=r3.slice;obtain⟨p4,c4,rfl,l4⟩:=r4.slice;obtain⟨p5,c5,rfl,l5⟩:=r5.slice;obtain⟨p6,c6,rfl,l6⟩:=r6.slice;obtain⟨p7,c7,rfl,l7⟩:=r7.slice;obtain⟨p8,c8,rfl,l8⟩:=r8.slice;obtain⟨p9,c9,rfl,l9⟩:=r9.slice
 have hfn:∀w',Ext w w'→Calls G.P 196 #[.agg (([Pg p0 m.types.length c0,Pg p1 m.imports.length c1,Pg p2 m.funcs.length c2,Pg p3 m.tables.length c3,Pg p4 m.bR.length c4,Pg p5 m.globals.length c5,Pg p6 m.aL.length c6,Ph m.aI,Pf .i64 m.start,Pg p7 m.elems.length c7,Pg p8 m.bg.length c8,Pg p9 m.bE.length c9]:List Value)).toArray] w' fun e w2=>e=.returned (.int .i64 (gI m).length)∧Ext w' w2:=fun w' hx=>Ae F m _ w' (hm0.aP hx (fun _ _ _ h=>h))
 by_cases h0:0≤i
 ·by_cases h1:i<(gI m).length
  ·rw[EZ m i h0 h1]
   refine MD ?_
   repeat'(first|refine ar ?_|fail)
   refine aa.box ([Pg p0 m.types.length c0,Pg p1 m.imports.length c1,Pg p2 m.funcs.length c2,Pg p3 m.tables.length c3,Pg p4 m.bR.length c4,Pg p5 m.globals.length c5,Pg p6 m.aL.length c6,Ph m.aI,Pf .i64 m.start,Pg p7 m.elems.length c7,Pg p8 m.bg.length c8,Pg p9 m.bE.length c9]:List Value) rfl rfl rfl fun b=>?_
   repeat'(first|refine ar ?_|fail)
   refine aa.cH rfl rfl rfl rfl (fun w' hw'=>hfn w' hw'.at) ?_
   repeat'(first|refine ar ?_|fail)
   refine bh.loop (σ:=Nat) (fun j=>[(1,.int .i64 i),(2,.pointer (some ⟨b,0,none⟩)),(5,.int .i64 j)]) (fun _=>[.aV b ([Pg p0 m.types.length c0,Pg p1 m.imports.length c1,Pg p2 m.funcs.length c2,Pg p3 m.tables.length c3,Pg p4 m.bR.length c4,Pg p5 m.globals.length c5,Pg p6 m.aL.length c6,Ph m.aI,Pf .i64 m.start,Pg p7 m.elems.length c7,Pg p8 m.bg.length c8,Pg p9 m.bE.length c9]:List Value) jF]) (fun _=>[Ext w]) (fun j=>j≤m.aL.length∧(m.aL.take j).any (Ba i)=false) (fun j=>m.aL.length - j) 0 bH bw aU ⟨by omega,by simp⟩ ?_
   rintro j ⟨hj,hno⟩
   by_cases hjl:j<m.aL.length
   ·obtain⟨b1,o1,rfl,hFb,he⟩:=r6.el hjl
    have k1:=he.kind
    have k2:=he.index
    have hst:=qs (f:=Ba i) hjl
    rw[hno,P7]at hst
    by_cases g1:(ix m.aL j).kind=0
    ·by_cases g2:(ix m.aL j).index=i
     ·repeat'(first|refine ar ?_|fail)
      all_goals exact ah.aF rfl rfl fun w' hw'=>⟨by rw[sY (l:=m.aL) (j:=j+1) (by rw[hst];simp[Ba,g1,g2])];rfl,hw'.at⟩
     ·repeat'(first|refine ar ?_|fail)
      all_goals exact ah.next (j+1) bH bw aU ⟨by omega,by rw[hst];simp[Ba,g2]⟩ Pc
    ·repeat'(first|refine ar ?_|fail)
     all_goals exact ah.next (j+1) bH bw aU ⟨by omega,by rw[hst];simp[Ba,g1]⟩ Pc
   ·obtain rfl:j=m.aL.length:=by omega
    rw[Pu]at hno
    rw[hno,P7]
    repeat'(first|refine ar ?_|fail)
    refine bh.loop (σ:=Nat) (fun j=>[(1,.int .i64 i),(2,.pointer (some ⟨b,0,none⟩)),(6,.int .i64 j)]) (fun _=>[.aV b ([Pg p0 m.types.length c0,Pg p1 m.imports.length c1,Pg p2 m.funcs.length c2,Pg p3 m.tables.length c3,Pg p4 m.bR.length c4,Pg p5 m.globals.length c5,Pg p6 m.aL.length c6,Ph m.aI,Pf .i64 m.start,Pg p7 m.elems.length c7,Pg p8 m.bg.length c8,Pg p9 m.bE.length c9]:List Value) jF]) (fun _=>[Ext w]) (fun j=>j≤m.globals.length∧(m.globals.take j).any (fun g=>named g.nH i)=false) (fun j=>m.globals.length - j) 0 bH bw aU ⟨by omega,by simp⟩ ?_
    rintro j ⟨hj,hno2⟩
    by_cases hjl:j<m.globals.length
    ·obtain⟨b1,o1,rfl,hFb,he⟩:=r5.el hjl
     obtain⟨u,hu,hb⟩:=he.nH
     have hst:=qs (f:=fun g:gU=>named g.nH i) hjl
     rw[hno2,P7]at hst
     cases hn:named (ix m.globals j).nH i with
     |true=>
      repeat'(first|refine ar ?_|(refine aa.aj (f:=197) ?_;refine aa.au (v:=.bool true) rfl rfl rfl (fun w' hw'=>by have:=mc F _ u i w' (hb.aP (show Ext w w' from hw'.at) (fun _ _ _ h=>h));rw[hn]at this;exact this) ?_)|fail)
      all_goals exact ah.aF rfl rfl fun w' hw'=>⟨by rw[sY (l:=m.globals) (j:=j+1) (by rw[hst,hn])];rfl,hw'.at⟩
     |false=>
      repeat'(first|refine ar ?_|(refine aa.aj (f:=197) ?_;refine aa.au (v:=.bool false) rfl rfl rfl (fun w' hw'=>by have:=mc F _ u i w' (hb.aP (show Ext w w' from hw'.at) (fun _ _ _ h=>h));rw[hn]at this;exact this) ?_)|fail)
      all_goals exact ah.next (j+1) bH bw aU ⟨by omega,by rw[hst,hn]⟩ Pc
    ·obtain rfl:j=m.globals.length:=by omega
     rw[Pu]at hno2
     rw[hno2,P7]
     repeat'(first|refine ar ?_|fail)
     refine bh.loop (σ:=Nat) (fun j=>[(1,.int .i64 i),(2,.pointer (some ⟨b,0,none⟩)),(7,.int .i64 j)]) (fun _=>[.aV b ([Pg p0 m.types.length c0,Pg p1 m.imports.length c1,Pg p2 m.funcs.length c2,Pg p3 m.tables.length c3,Pg p4 m.bR.length c4,Pg p5 m.globals.length c5,Pg p6 m.aL.length c6,Ph m.aI,Pf .i64 m.start,Pg p7 m.elems.length c7,Pg p8 m.bg.length c8,Pg p9 m.bE.length c9]:List Value) jF]) (fun _=>[Ext w]) (fun j=>j≤m.elems.length∧(m.elems.take j).any (fun e=>e.items.any fun l=>named l i)=false) (fun j=>m.elems.length - j) 0 bH bw aU ⟨by omega,by simp⟩ ?_
     rintro j ⟨hj,hno3⟩
     by_cases hjl:j<m.elems.length
     ·obtain⟨b1,o1,rfl,hFb,he⟩:=r7.el hjl
      obtain⟨u,hu,hb⟩:=he.items
      obtain⟨x2,y2,rfl,z2⟩:=hb.slice
      have hst:=qs (f:=fun e:ql=>e.items.any fun l=>named l i) hjl
      rw[hno3,P7]at hst
      repeat'(first|refine ar ?_|fail)
      refine bh.loop (σ:=Nat) (fun k=>[(1,.int .i64 i),(2,.pointer (some ⟨b,0,none⟩)),(7,.int .i64 j),(8,.int .i64 k)]) (fun _=>[.aV b ([Pg p0 m.types.length c0,Pg p1 m.imports.length c1,Pg p2 m.funcs.length c2,Pg p3 m.tables.length c3,Pg p4 m.bR.length c4,Pg p5 m.globals.length c5,Pg p6 m.aL.length c6,Ph m.aI,Pf .i64 m.start,Pg (some ⟨b1,o1,none⟩) m.elems.length c7,Pg p8 m.bg.length c8,Pg p9 m.bE.length c9]:List Value) jF]) (fun _=>[Ext w]) (fun k=>k≤(ix m.elems j).items.length∧((ix m.elems j).items.take k).any (fun l=>named l i)=false) (fun k=>(ix m.elems j).items.length - k) 0 bH bw aU ⟨by omega,by simp⟩ ?_
      rintro k ⟨hk,hno4⟩
      by_cases hkl:k<(ix m.elems j).items.length
      ·obtain⟨b2,o2,rfl,hF2,u2,k1,hb2⟩:=hb.el hkl
       rw[Nat.mul_one]at k1
       have hst2:=qs (f:=fun l:List cv=>named l i) hkl
       rw[hno4,P7]at hst2
       cases hn:named (ix (ix m.elems j).items k) i with
       |true=>
        repeat'(first|refine ar ?_|(refine aa.aj (f:=197) ?_;refine aa.au (v:=.bool true) rfl rfl rfl (fun w' hw'=>by have:=mc F _ u2 i w' (hb2.aP (show Ext w w' from hw'.at) (fun _ _ _ h=>h));rw[hn]at this;exact this) ?_)|fail)
        all_goals exact ah.aF rfl rfl fun w' hw'=>⟨by rw[sY (l:=m.elems) (j:=j+1) (by rw[hst];exact sY (j:=k+1) (by rw[hst2,hn]))],hw'.at⟩
       |false=>
        repeat'(first|refine ar ?_|(refine aa.aj (f:=197) ?_;refine aa.au (v:=.bool false) rfl rfl rfl (fun w' hw'=>by have:=mc F _ u2 i w' (hb2.aP (show Ext w w' from hw'.at) (fun _ _ _ h=>h));rw[hn]at this;exact this) ?_)|fail)
        all_goals exact ah.next (k+1) bH bw aU ⟨by omega,by rw[hst2,hn]⟩ Pc
      ·obtain rfl:k=(ix m.elems j).items.length:=by omega
       rw[Pu]at hno4
       repeat'(first|refine ar ?_|fail)
       all_goals exact ah.next (j+1) bH bw aU ⟨by omega,by rw[hst,hno4]⟩ Pc
     ·obtain rfl:j=m.elems.length:=by omega
      rw[Pu]at hno3
      rw[hno3]
      repeat'(first|refine ar ?_|fail)
      all_goals exact ci
  ·rw[zA m i Pc]
   refine MD ?_
   repeat'(first|refine ar ?_|fail)
   refine aa.box ([Pg p0 m.types.length c0,Pg p1 m.imports.length c1,Pg p2 m.funcs.length c2,Pg p3 m.tables.length c3,Pg p4 m.bR.length c4,Pg p5 m.globals.length c5,Pg p6 m.aL.length c6,Ph m.aI,Pf .i64 m.start,Pg p7 m.elems.length c7,Pg p8 m.bg.length c8,Pg p9 m.bE.length c9]:List Value) rfl rfl rfl fun b=>?_
   repeat'(first|refine ar ?_|fail)
   refine aa.cH rfl rfl rfl rfl (fun w' hw'=>hfn w' hw'.at) ?_
   repeat'(first|refine ar ?_|fail)
   all_goals exact ci
 ·rw[zA m i Pc]
  refine MD ?_
  repeat'(first|refine ar ?_|fail)
  refine aa.box ([Pg p0 m.types.length c0,Pg p1 m.imports.length c1,Pg p2 m.funcs.length c2,Pg p3 m.tables.length c3,Pg p4 m.bR.length c4,Pg p5 m.globals.length c5,Pg p6 m.aL.length c6,Ph m.aI,Pf .i64 m.start,Pg p7 m.elems.length c7,Pg p8 m.bg.length c8,Pg p9 m.bE.length c9]:List Value) rfl rfl rfl fun b=>?_
  repeat'(first|refine ar ?_|fail)
  all_goals exact ci
end Go.Proofs.YtdkcljdfbemnbaaGreatDoor
