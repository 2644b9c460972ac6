/- Layer 23, plain: what an instruction that is applied leaves as it must be. -/
import Derived.Test.YtceedealggognaaGreatDoorJUt
import Derived.Test.YtceedealggognaaGreatDoorJLm
namespace Go.Proofs.YtceedealggognaaGreatDoor
set_option maxRecDepth 100000
def uC (K:Nat) (fs:List mP):Prop:=∀f∈fs,f.par.length≤K∧f.res.length≤K
theorem uC.ix {K:Nat} {fs:List mP} (h:uC K fs) {i:Nat} (hi:i<fs.length):(Go.Proofs.YtceedealggognaaGreatDoor.ix fs i).par.length≤K∧(Go.Proofs.YtceedealggognaaGreatDoor.ix fs i).res.length≤K:=by
 rw[cI hi];exact h _ (List.getElem_mem hi)
theorem uC.top {K:Nat} {c:dq} (h:uC K c.fs):c.top.par.length≤K∧c.top.res.length≤K:=by
 unfold dq.top
 by_cases h0:c.fs.length=0
 ·have:c.fs=[]:=List.eq_nil_of_length_eq_zero h0
  rw[this];exact⟨Nat.zero_le _,Nat.zero_le _⟩
 ·exact h.ix FY
theorem uC.snoc {K:Nat} {fs:List mP} {f:mP} (h:uC K fs) (h1:f.par.length≤K) (h2:f.res.length≤K):uC K (fs++[f]):=fun g hg=>by
 rcases List.mem_append.1 hg with hg|hg
 ·exact h g hg
 ·rw[List.mem_singleton]at hg;subst hg;exact⟨h1,h2⟩
theorem uC.take {K:Nat} {fs:List mP} (h:uC K fs) (n:Nat):uC K (fs.take n):=fun f hf=>h f (List.mem_of_mem_take hf)
theorem uC.label {K:Nat} {c:dq} (h:uC K c.fs) (n:Int):(bR c n).1.length≤K:=by
 unfold bR
 split
 ·exact Nat.zero_le _
 ·split
  ·exact Nat.zero_le _
  ·rename_i hn
   have:=h.ix (i:=c.fs.length - 1 - n.toNat) FY
   dsimp only
   split
   ·exact this.1
   ·exact this.2
structure gy (K L:Nat) (c:dq):Prop where
 wf:c.Wf
 bk:c.broken=0
 fit:c.aF.Fit
 fr:uC K c.fs
 ts:c.aF.ts.length≤L
theorem qh (s:cU):(fZ s).ts.length≤s.ts.length:=by unfold fZ;rw[List.length_take];omega
theorem tR {s:cU} (h:s.Fit):(fZ s).Fit:=by
 have h1:=qh s
 have h2:(fZ s).lS=s.lS:=rfl
 unfold cU.Fit at*;omega
theorem xY (s:cU):∀n,(dx s n).1.ts.length≤s.ts.length∧(s.Fit→(dx s n).1.Fit):=by
 intro n
 induction n generalizing s with
 |zero=>exact⟨Nat.le_refl _,fun h=>h⟩
 |succ n ih=>
  have h1:=jO s
  have h2:=ih (aZ s).1
  rw[dx]
  split
  ·exact⟨Nat.le_refl _,fun h=>h⟩
  ·split
   ·exact⟨Nat.le_trans h2.1 h1,fun h=>h2.2 (oF h)⟩
   ·exact⟨Nat.le_trans h2.1 h1,fun h=>h2.2 (oF h)⟩
theorem vy (rows:List (List Int)) (s:cU):(iZ rows s).1.ts.length≤s.ts.length∧(s.Fit→(iZ rows s).1.Fit):=by
 have h1:=dn s [1]
 have h2:=xY (aO s [1]).1 (ix rows (rows.length - 1)).length
 unfold iZ
 split
 ·exact⟨Nat.le_refl _,fun h=>h⟩
 ·split
  ·exact⟨Nat.le_refl _,fun h=>h⟩
  ·split
   ·exact⟨Nat.le_refl _,fun h=>h⟩
   ·split
    ·exact⟨Nat.le_refl _,fun h=>h⟩
    ·exact⟨Nat.le_trans h2.1 h1,fun h=>h2.2 (jz h _)⟩
theorem s8 (s:cU) (f:aC):(fF s f).1.ts.length≤s.ts.length+f.results.length∧(s.Fit→(fF s f).1.Fit):=by
 have h1:=dn s f.params
 unfold fF
 split
 ·exact⟨by omega,fun h=>jz h _⟩
 ·refine⟨?_,fun _=>jv _ _⟩
  show((aO s f.params).1.ts++f.results).length≤_
  rw[List.length_append];omega
theorem uc {s:cU} (h:s.Wf) (op:Int):(eY s op).1.Wf∧(eY s op).1.ps=s.ps∧(eY s op).1.ts.length≤s.ts.length+1∧(s.Fit→(eY s op).1.Fit):=by
 have hpp:∀s:cU,(aZ s).1.ps=s.ps:=fun s=>by unfold aZ;split<;>(try rfl);split<;>rfl
 have base:∀s:cU,s.Wf→s.Wf∧s.ps=s.ps∧s.ts.length≤s.ts.length∧(s.Fit→s.Fit):=fun s h=>⟨h,rfl,Nat.le_refl _,fun h=>h⟩
 have pop:∀{a b:cU},(b.Wf∧b.ps=a.ps∧b.ts.length≤a.ts.length∧(a.Fit→b.Fit))→((aZ b).1.Wf∧(aZ b).1.ps=a.ps∧(aZ b).1.ts.length≤a.ts.length∧(a.Fit→(aZ b).1.Fit)):=fun{a b} h=>⟨jP h.1,(hpp b).trans h.2.1,Nat.le_trans (jO b) h.2.2.1,fun hf=>oF (h.2.2.2 hf)⟩
 have want:(aO s [1]).1.Wf∧(aO s [1]).1.ps=s.ps∧(aO s [1]).1.ts.length≤s.ts.length∧(s.Fit→(aO s [1]).1.Fit):=⟨dp h _,ec _ _,dn _ _,fun hf=>jz hf _⟩
 have out:∀{b:cU},(b.Wf∧b.ps=s.ps∧b.ts.length≤s.ts.length∧(s.Fit→b.Fit))→(b.Wf∧b.ps=s.ps∧b.ts.length≤s.ts.length+1∧(s.Fit→b.Fit)):=fun{b} h=>⟨h.1,h.2.1,by omega,h.2.2.2⟩
 have push:∀{b:cU} (a:Int),(b.Wf∧b.ps=s.ps∧b.ts.length≤s.ts.length∧(s.Fit→b.Fit))→((fO b [a]).Wf∧(fO b [a]).ps=s.ps∧(fO b [a]).ts.length≤s.ts.length+1∧(s.Fit→(fO b [a]).Fit)):=fun{b} a h=>⟨lZ h.1 _,h.2.1,by show(b.ts++[a]).length≤_;rw[List.length_append];show _+1≤_;omega,fun _=>jv _ _⟩
 have w2:(if op=27 then aO s [1]else(s,0)).1.Wf∧(if op=27 then aO s [1]else(s,0)).1.ps=s.ps∧(if op=27 then aO s [1]else(s,0)).1.ts.length≤s.ts.length∧(s.Fit→(if op=27 then aO s [1]else(s,0)).1.Fit):=by
  split
  ·exact want
  ·exact base s h
 have ite:∀{p:Prop} [Decidable p] {a b:cU×Int},(a.1.Wf∧a.1.ps=s.ps∧a.1.ts.length≤s.ts.length+1∧(s.Fit→a.1.Fit))→(b.1.Wf∧b.1.ps=s.ps∧b.1.ts.length≤s.ts.length+1∧(s.Fit→b.1.Fit))→((if p then a else b).1.Wf∧(if p then a else b).1.ps=s.ps∧(if p then a else b).1.ts.length≤s.ts.length+1∧(s.Fit→(if p then a else b).1.Fit)):=fun{p _ a b} h1 h2=>by
  by_cases hp:p
  ·rw[if_pos hp];exact h1
  ·rw[if_neg hp];exact h2
 unfold eY
 exact ite (out w2) (ite (out (pop w2)) (ite (out (pop (base s h))) (ite (ite (out (pop (base s h))) (push _ (pop (base s h)))) (ite (out (pop (pop want))) (ite (out (pop (pop want))) (push _ (pop (pop want))))))))
theorem gy.aF {K L L':Nat} {c:dq} (h:gy K L c) {s:cU} (h1:s.Wf) (h2:s.ps=c.aF.ps) (h3:s.Fit) (h4:s.ts.length≤L'):gy K L' {c with aF:=s}:=
 ⟨⟨h1,by show s.ps.length=_;rw[h2];exact h.wf.many,h.wf.fr,h.wf.ended⟩,h.bk,h3,h.fr,h4⟩
theorem gy.mono {K L L':Nat} {c:dq} (h:gy K L c) (hl:L≤L'):gy K L' c:=⟨h.wf,h.bk,h.fit,h.fr,Nat.le_trans h.ts hl⟩
theorem gy.dead {K L:Nat} {c:dq} (h:gy K L c):gy K L (fq c)∧(fq c).fs=c.fs∧(fq c).results=c.results:=by
 refine⟨⟨xw h.wf,?_,?_,?_,?_⟩,?_,?_⟩
 all_goals
  unfold fq
  split
 ·exact h.bk
 ·exact h.bk
 ·exact h.fit
 ·exact tR h.fit
 ·exact h.fr
 ·exact h.fr
 ·exact h.ts
 ·exact Nat.le_trans (qh _) h.ts
 all_goals rfl
theorem lM {K L:Nat} {c:dq} (h:gy K L c) {m:ae} {locals:List Int} {x:bZ} (h1:1≤K) (hbl:∀f,dy m x.kind x.val x.index=some f→f.params.length≤K∧f.results.length≤K) (hty:(eD m locals x).1.results.length≤K) (he:(dL c m locals x).2=0):
  gy K (L+K) (dL c m locals x).1∧(dL c m locals x).1.results=c.results∧(dL c m locals x).1.fs.length≤c.fs.length+1∧c.fs.length≤(dL c m locals x).1.fs.length+1:=by
 have hts:=h.ts
 have same:gy K (L+K) c∧c.results=c.results∧c.fs.length≤c.fs.length+1∧c.fs.length≤c.fs.length+1:=⟨h.mono FY,rfl,by omega,by omega⟩
 have dead:∀s:cU,s.Wf→s.ps=c.aF.ps→s.Fit→s.ts.length≤L→gy K (L+K) (fq {c with aF:=s})∧(fq {c with aF:=s}).results=c.results∧(fq {c with aF:=s}).fs.length≤c.fs.length+1∧c.fs.length≤(fq {c with aF:=s}).fs.length+1:=fun s a b d e=>by
  have k:=(h.aF a b d e).dead
  rw[k.2.1,k.2.2]
  exact⟨k.1.mono FY,rfl,by show c.fs.length≤_;omega,by show c.fs.length≤c.fs.length+1;omega⟩
 have lea:∀l,(fy c l).2=0→gy K (L+K) (fy c l).1∧(fy c l).1.results=c.results∧(fy c l).1.fs.length≤c.fs.length+1∧c.fs.length≤(fy c l).1.fs.length+1:=fun l hl=>by
  unfold fy at hl ⊢
  split
  ·exact same
  ·exact dead _ (dp h.wf.aF l) (ec _ _) (jz h.fit l) (by have:=dn c.aF l;omega)
 have aF:∀s:cU,s.Wf→s.ps=c.aF.ps→s.Fit→s.ts.length≤L+K→gy K (L+K) {c with aF:=s}∧({c with aF:=s}:dq).results=c.results∧({c with aF:=s}:dq).fs.length≤c.fs.length+1∧c.fs.length≤({c with aF:=s}:dq).fs.length+1:=fun s a b d e=>⟨h.aF a b d e,rfl,by show c.fs.length≤_;omega,by show c.fs.length≤c.fs.length+1;omega⟩
 unfold dL at he ⊢
 by_cases q0:cW x=false
 ·rw[if_pos q0]at he;exact absurd he (show¬(10:Int)=0 by decide)
 rw[if_neg q0]at he ⊢
 by_cases q1:opens x.op
 ·rw[if_pos q1]at he ⊢
  cases hf:dy m x.kind x.val x.index with
  |none=>rw[hf]at he;exact absurd he (show¬(11:Int)=0 by decide)
  |some f=>
   rw[hf]at he
   dsimp only at he ⊢
   obtain⟨b1,b2⟩:=hbl f hf
   have hwf:=vD h.wf x.op f.params f.results
   unfold hO at he hwf ⊢
   rw[if_neg (fun hh=>hh h.bk)]at he hwf ⊢
   by_cases e1:x.op≠2∧x.op≠3∧x.op≠4
   ·rw[if_pos e1]at he;exact absurd he (show¬(1:Int)=0 by decide)
   rw[if_neg e1]at he hwf ⊢
   by_cases e2:c.fs.length=0
   ·rw[if_pos e2]at he;exact absurd he (show¬(16:Int)=0 by decide)
   rw[if_neg e2]at he hwf ⊢
   dsimp only at he hwf ⊢
   have ha:(if x.op=4 then aO c.aF [1]else(c.aF,0)).1.ts.length≤c.aF.ts.length:=by
    split
    ·exact dn _ _
    ·exact Nat.le_refl _
   generalize (if x.op=4 then aO c.aF [1]else(c.aF,0))=a at he hwf ha ⊢
   by_cases e3:a.2≠0
   ·rw[if_pos e3]at he;exact absurd he e3
   rw[if_neg e3]at he hwf ⊢
   by_cases e4:(aO a.1 f.params).2≠0
   ·rw[if_pos e4]at he;exact absurd he e4
   rw[if_neg e4]at hwf ⊢
   have hw:=dn a.1 f.params
   refine⟨⟨hwf,h.bk,jv _ _,h.fr.snoc b1 b2,?_⟩,rfl,?_,?_⟩
   ·show((aO a.1 f.params).1.ts++f.params).length≤_
    rw[List.length_append];omega
   ·show(c.fs++[_]).length≤_;rw[List.length_append];exact Nat.le_refl _
   ·show _≤(c.fs++[_]).length+1;rw[List.length_append];omega
 rw[if_neg q1]at he ⊢
 by_cases q2:x.op=5
 ·rw[if_pos q2]at he ⊢
  have hwf:=xy h.wf
  unfold lP at he hwf ⊢
  rw[if_neg (fun hh=>hh h.bk)]at he hwf ⊢
  by_cases e1:c.fs.length=0∨c.top.kind≠4∨c.top.other=true
  ·rw[if_pos e1]at he;exact absurd he (show¬(16:Int)=0 by decide)
  rw[if_neg e1]at he hwf ⊢
  dsimp only at he hwf ⊢
  have hn:c.fs.length≠0:=fun hh=>e1 (.inl hh)
  by_cases e2:(dv c.aF c.top.res).2≠0
  ·rw[if_pos e2]at he;exact absurd he e2
  rw[if_neg e2]at hwf ⊢
  have hw:=mh c.aF c.top.res
  have ht:=h.fr.top
  have hl:(c.fs.take (c.fs.length - 1)++[{c.top with other:=true}]).length=c.fs.length:=by rw[List.length_append,List.length_take];show _+1=_;omega
  refine⟨⟨hwf,h.bk,jv _ _,(h.fr.take _).snoc ht.1 ht.2,?_⟩,rfl,?_,?_⟩
  ·show((dv c.aF c.top.res).1.ts++c.top.par).length≤_
   rw[List.length_append];omega
  ·show(c.fs.take (c.fs.length - 1)++[{c.top with other:=true}]).length≤_;omega
  ·show _≤(c.fs.take (c.fs.length - 1)++[{c.top with other:=true}]).length+1;omega
 rw[if_neg q2]at he ⊢
 by_cases q3:x.op=11
 ·rw[if_pos q3]at he ⊢
  have hwf:=vT h.wf
  unfold jL at he hwf ⊢
  rw[if_neg (fun hh=>hh h.bk)]at he hwf ⊢
  by_cases e1:c.fs.length=0
  ·rw[if_pos e1]at he;exact absurd he (show¬(16:Int)=0 by decide)
  rw[if_neg e1]at he hwf ⊢
  dsimp only at he hwf ⊢
  by_cases e2:(dv c.aF c.top.res).2≠0
  ·rw[if_pos e2]at he;exact absurd he e2
  rw[if_neg e2]at he hwf ⊢
  by_cases e3:c.top.kind=4∧c.top.other=false∧c.top.par≠c.top.res
  ·rw[if_pos e3]at he;exact absurd he (show¬(12:Int)=0 by decide)
  rw[if_neg e3]at hwf ⊢
  have hw:=mh c.aF c.top.res
  have ht:=h.fr.top
  have hl:(c.fs.take (c.fs.length - 1)).length=c.fs.length - 1:=by rw[List.length_take];omega
  refine⟨⟨hwf,h.bk,jv _ _,h.fr.take _,?_⟩,rfl,?_,?_⟩
  ·show((dv c.aF c.top.res).1.ts++c.top.res).length≤_
   rw[List.length_append];omega
  ·show(c.fs.take (c.fs.length - 1)).length≤_;omega
  ·show _≤(c.fs.take (c.fs.length - 1)).length+1;omega
 rw[if_neg q3]at he ⊢
 by_cases q4:x.op=0
 ·rw[if_pos q4];exact dead c.aF h.wf.aF rfl h.fit h.ts
 rw[if_neg q4]at he ⊢
 by_cases q5:jumps x.op
 ·rw[if_pos q5]at he ⊢
  unfold kD at he ⊢
  by_cases e1:x.op=15
  ·rw[if_pos e1]at he ⊢;exact lea _ he
  rw[if_neg e1]at he ⊢
  by_cases e2:x.op=14
  ·rw[if_pos e2]at he ⊢
   unfold kE at he ⊢
   split
   ·exact same
   ·have hk:(cr c x).1.Wf∧(cr c x).1.ps=c.aF.ps∧(cr c x).1.Fit∧(cr c x).1.ts.length≤L:=by
     unfold cr
     split
     ·exact⟨h.wf.aF,rfl,h.fit,h.ts⟩
     ·have a:=pV h.wf.aF (fC (bR c) (x.labels++[x.a])).1
      have b:=vy (fC (bR c) (x.labels++[x.a])).1 c.aF
      exact⟨a.1,a.2,b.2 h.fit,Nat.le_trans b.1 h.ts⟩
    exact dead _ hk.1 hk.2.1 hk.2.2.1 hk.2.2.2
  rw[if_neg e2]at he ⊢
  by_cases e3:(bR c x.a).2≠0
  ·rw[if_pos e3]at he;exact absurd he e3
  rw[if_neg e3]at he ⊢
  by_cases e4:x.op=13
  ·rw[if_pos e4]at he ⊢
   unfold uK at he ⊢
   split
   ·exact same
   ·have a:=dp h.wf.aF [1]
    have b:=s8 (aO c.aF [1]).1 ⟨(bR c x.a).1,(bR c x.a).1⟩
    have d:=dn c.aF [1]
    have hl:=h.fr.label x.a
    refine aF _ (s9 a _) ((s7 _ _).trans (ec _ _)) (b.2 (jz h.fit _)) ?_
    have b1:=b.1
    dsimp only at b1
    show(fF (aO c.aF [1]).1 ⟨(bR c x.a).1,(bR c x.a).1⟩).1.ts.length≤L+K
    omega
  rw[if_neg e4]at he ⊢;exact lea _ he
 rw[if_neg q5]at he ⊢
 by_cases q6:kr x.op
 ·rw[if_pos q6]
  have a:=uc h.wf.aF x.op
  exact aF _ a.1 a.2.1 (a.2.2.2 h.fit) (by have:=a.2.2.1;omega)
 rw[if_neg q6]at he ⊢
 unfold qE at he ⊢
 by_cases e1:(eD m locals x).2≠0
 ·rw[if_pos e1]at he;exact absurd he e1
 rw[if_neg e1]at he ⊢
 have a:=s8 c.aF (eD m locals x).1
 exact aF _ (s9 h.wf.aF _) (s7 _ _) (a.2 h.fit) (by have:=a.1;omega)
end Go.Proofs.YtceedealggognaaGreatDoor
