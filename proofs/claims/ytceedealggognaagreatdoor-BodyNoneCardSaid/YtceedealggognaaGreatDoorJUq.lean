/- Layer 23: rule.turn: the parameters popped, the results pushed. -/
import Derived.Test.YtceedealggognaaGreatDoorJWj
import Derived.Test.YtceedealggognaaGreatDoorJEn
import Derived.Test.YtceedealggognaaGreatDoorJLv
import Derived.Test.YtceedealggognaaGreatDoorJRy
import Derived.Test.YtceedealggognaaGreatDoorJP1
namespace Go.Proofs.YtceedealggognaaGreatDoor
open Go.RowKit
set_option maxRecDepth 100000
def fF (s:cU) (f:aC):cU×Int:=if(aO s f.params).2≠0 then aO s f.params else(fO (aO s f.params).1 f.results,0)
theorem zO {s:cU} (p:List Int) {n:Nat} (h:(s.ts.length+n)*8≤140737488355328):(aO s p).2=0→((aO s p).1.ts.length+n)*8≤140737488355328:=fun _=>by have:=dn s p;omega
set_option maxHeartbeats 4000000 in
theorem qn (sp:Nat) (s:cU) (y:Value×Value) (f:aC) (a:yw) (w:World) (hw:Ok (ax sp s y) [tt f a] w) (hwf:s.Wf) (hb:(aO s f.params).2=0→((aO s f.params).1.ts.length+f.results.length)*8≤140737488355328):
  Calls G.P 60 #[.pointer (some ⟨sp,0,none⟩),.agg #[.slice a.p f.params.length a.c,.slice a.q f.results.length a.d]] w (dh sp s y (.int .i64 (fF s f).2) (fF s f).1 w):=by
 obtain⟨tv,pv⟩:=y
 have hp:=hwf.some
 have h0:=hwf.at_.1
 have hle:=hwf.at_.2
 refine aj (l:=[_,_]) Tryz.func60 rfl Tryz.ntmps60 rfl (Ok.bV hw) ?_
 unfold dh
 generalize hS:Mb (ax sp s (tv,pv))=S0
 unfold fF
 have hw1:=dp hwf f.params
 have hts:=dn s f.params
 obtain⟨r,hr⟩:∃r,aO s f.params=r:=⟨_,rfl⟩
 obtain⟨s1,e1⟩:=r
 rw[hr]at hw1 hts hb ⊢
 dsimp only at hw1 hts hb ⊢
 have hp1:=hw1.some
 have hwant:=fun w' hw'=>dN a.D sp s (tv,pv) (.slice a.p f.params.length a.c) f.params w' hw' hp h0 hle
 rw[hr]at hwant
 dsimp only at hwant
 dsimp only[ax]
 repeat'(first|refine ay ?_|(refine br fun b_=>?_)|fail)
 refine aa.he (HE.aS (M0:=ax sp s (tv,pv)) cv rfl rfl (fun w' hw'=>hwant w' ((hw'.kJ (p:=fun w=>af a.D w (.slice a.p f.params.length a.c) f.params) (fun w2 h=>(h (tt f a) ao).1)).bT cM aX))) rfl ?_
 rintro⟨tv1,pv1⟩ _
 dsimp only[ax,List.cons_append,List.nil_append]
 by_cases he:e1=0
 ·subst he
  have hb:=hb rfl
  rw[if_neg FX]
  repeat'(first|refine ay ?_|fail)
  refine aa.he (HE.aS (M0:=ax sp s1 (tv1,pv1)) cv rfl rfl (fun w' hw'=>eo a.D sp s1 (tv1,pv1) (.slice a.q f.results.length a.d) f.results w' ((hw'.kJ (p:=fun w=>af a.D w (.slice a.q f.results.length a.d) f.results) (fun w2 h=>(h (tt f a) ao).2)).bT cM aX) hp1 FY)) rfl ?_
  rintro⟨tv2,pv2⟩ _
  dsimp only[ax,List.cons_append,List.nil_append]
  repeat'(first|refine ay ?_|fail)
  all_goals exact ai.aA rfl rfl fun w' hw'=>aq.lU (x:=(tv2,pv2)) trivial hS hw' cM ao
 ·rw[if_pos he]
  repeat'(first|refine ay ?_|fail)
  all_goals exact kw
def yq (c:dq) (f:aC):dq×Int:=({c with aF:=(fF c.aF f).1},(fF c.aF f).2)
theorem s9 {s:cU} (h:s.Wf) (f:aC):(fF s f).1.Wf:=by
 unfold fF
 split
 ·exact dp h _
 ·exact lZ (dp h _) _
theorem s7 (s:cU) (f:aC):(fF s f).1.ps=s.ps:=by
 unfold fF
 split
 ·exact ec _ _
 ·exact ec _ _
def eY (s:cU) (op:Int):cU×Int:=
 if(if op=27 then aO s [1]else(s,0)).2≠0 then(if op=27 then aO s [1]else(s,0))else
 if(aZ (if op=27 then aO s [1]else(s,0)).1).2.2≠0 then((aZ (if op=27 then aO s [1]else(s,0)).1).1,(aZ (if op=27 then aO s [1]else(s,0)).1).2.2)else
 if op=26 then((aZ s).1,0)else
 if op=209 then(if(aZ s).2.1=1∨(aZ s).2.1=2 then((aZ s).1,12)else(fO (aZ s).1 [1],0))else
 if(aZ (aZ (aO s [1]).1).1).2.2≠0 then((aZ (aZ (aO s [1]).1).1).1,(aZ (aZ (aO s [1]).1).1).2.2)else
 if(aZ (aO s [1]).1).2.1=3∨(aZ (aO s [1]).1).2.1=4∨(aZ (aZ (aO s [1]).1).1).2.1=3∨(aZ (aZ (aO s [1]).1).1).2.1=4∨((aZ (aO s [1]).1).2.1≠(aZ (aZ (aO s [1]).1).1).2.1∧(aZ (aO s [1]).1).2.1≠0∧(aZ (aZ (aO s [1]).1).1).2.1≠0)then((aZ (aZ (aO s [1]).1).1).1,12)
 else(fO (aZ (aZ (aO s [1]).1).1).1 [if(aZ (aO s [1]).1).2.1=0 then(aZ (aZ (aO s [1]).1).1).2.1 else(aZ (aO s [1]).1).2.1],0)
theorem jO (s:cU):(aZ s).1.ts.length≤s.ts.length:=by
 unfold aZ
 split
 ·dsimp only;rw[List.length_take];omega
 ·split<;>exact Nat.le_refl _
def dx (s:cU):Nat→cU×List Int×Int
 |0=>(s,[],0)
 |n+1=>if(aZ s).2.2≠0 then(s,[],(aZ s).2.2)else if(dx (aZ s).1 n).2.2≠0 then((dx (aZ s).1 n).1,[],(dx (aZ s).1 n).2.2)else((dx (aZ s).1 n).1,(dx (aZ s).1 n).2.1++[(aZ s).2.1],0)
def si (r:cU×List Int×Int) (o:List Int):cU×List Int×Int:=if r.2.2≠0 then(r.1,[],r.2.2)else(r.1,r.2.1++o,0)
theorem wk (s:cU) (k:Nat) (o:List Int):si (dx s (k+1)) o=if(aZ s).2.2≠0 then(s,[],(aZ s).2.2)else si (dx (aZ s).1 k) ((aZ s).2.1::o):=by
 rw[dx]
 by_cases h1:(aZ s).2.2≠0
 ·rw[if_pos h1,if_pos h1];unfold si;rw[if_pos h1]
 ·rw[if_neg h1,if_neg h1]
  by_cases h2:(dx (aZ s).1 k).2.2≠0
  ·rw[if_pos h2];unfold si;rw[if_pos h2,if_pos h2]
  ·rw[if_neg h2];unfold si;rw[if_neg h2,if_neg (fun h=>h rfl)]
   show(_,(dx (aZ s).1 k).2.1++[(aZ s).2.1]++o,(0:Int))=_
   rw[List.append_assoc];rfl
theorem wj (s:cU):(aZ s).1.lS=s.lS:=by
 unfold aZ
 split
 ·rfl
 ·split<;>rfl
def nX (l ts:List Int):Bool:=(List.range (min l.length ts.length)).all fun i=>decide (ix l i=0∨ix l i=ix ts i)
theorem tK {l ts:List Int} (h:∀i,i<l.length→i<ts.length→ix l i=0∨ix l i=ix ts i):nX l ts=true:=by
 unfold nX
 rw[List.all_eq_true]
 intro i hi
 rw[List.mem_range]at hi
 exact decide_eq_true (h i FY FY)
theorem su {l ts:List Int} {i:Nat} (h1:i<l.length) (h2:i<ts.length) (h:¬(ix l i=0∨ix l i=ix ts i)):nX l ts=false:=by
 unfold nX
 rw[List.all_eq_false]
 exact⟨i,List.mem_range.2 FY,by rw[decide_eq_false h];simp⟩
def fC (jd:Int→List Int×Int):List Int→List (List Int)×Int
 |[]=>([],0)
 |n::r=>if(jd n).2≠0 then([],(jd n).2)else if(fC jd r).2≠0 then([],(fC jd r).2)else((jd n).1::(fC jd r).1,0)
theorem o9 {jd:Int→List Int×Int}:∀{ls:List Int} {i:Nat},i<ls.length→(∀j,j<i→(jd (ix ls j)).2=0)→(jd (ix ls i)).2≠0→fC jd ls=([],(jd (ix ls i)).2)
 |[],i,h,_,_=>by simp at h
 |n::r,0,_,_,h2=>by
  have e:ix (n::r) 0=n:=rfl
  rw[e]at h2 ⊢
  unfold fC;rw[if_pos h2]
 |n::r,i+1,h,h1,h2=>by
  have e:ix (n::r) (i+1)=ix r i:=by simp[ix]
  have e0:(jd n).2=0:=h1 0 FY
  rw[e]at h2 ⊢
  have:=o9 (jd:=jd) (ls:=r) (i:=i) FS (fun j hj=>by have:=h1 (j+1) FY;simpa[ix]using this) h2
  unfold fC;rw[if_neg (by simp[e0]),this,if_pos h2]
theorem qu {jd:Int→List Int×Int}:∀{ls:List Int},(∀j,j<ls.length→(jd (ix ls j)).2=0)→fC jd ls=(ls.map fun n=>(jd n).1,0)
 |[],_=>rfl
 |n::r,h=>by
  have e0:(jd n).2=0:=h 0 FZ
  have:=qu (jd:=jd) (ls:=r) (fun j hj=>by have:=h (j+1) (by simpa using hj);simpa[ix]using this)
  unfold fC;rw[if_neg (by simp[e0]),this];simp
def iZ (rows:List (List Int)) (s:cU):cU×Int:=
 if(rows.all fun l=>decide (l.length=(ix rows (rows.length - 1)).length))=false then(s,12)
 else if(aO s [1]).2≠0 then(s,(aO s [1]).2)
 else if(dx (aO s [1]).1 (ix rows (rows.length - 1)).length).2.2≠0 then(s,(dx (aO s [1]).1 (ix rows (rows.length - 1)).length).2.2)
 else if(rows.all fun l=>nX (dx (aO s [1]).1 (ix rows (rows.length - 1)).length).2.1 l)=false then(s,12)
 else((dx (aO s [1]).1 (ix rows (rows.length - 1)).length).1,0)
def cr (c:dq) (x:bZ):cU×Int:=
 if(fC (bR c) (x.labels++[x.a])).2≠0 then(c.aF,(fC (bR c) (x.labels++[x.a])).2)
 else iZ (fC (bR c) (x.labels++[x.a])).1 c.aF
def kE (c:dq) (x:bZ):dq×Int:=if(cr c x).2≠0 then(c,(cr c x).2)else(fq {c with aF:=(cr c x).1},0)
set_option maxHeartbeats 4000000 in
theorem rl (sp:Nat) (s:cU) (y:Value×Value) (op:Int) (ho:op=26) (w:World) (hw:Ok (ax sp s y) [] w) (hwf:s.Wf):Calls G.P 58 #[.pointer (some ⟨sp,0,none⟩),.int .i64 op] w (dh sp s y (.int .i64 (aZ s).2.2) (aZ s).1 w):=by
 obtain⟨tv,pv⟩:=y
 refine aj (l:=[_,_]) Tryz.func58 rfl Tryz.ntmps58 rfl (Ok.bV hw) ?_;unfold dh;generalize hS:Mb (ax sp s (tv,pv))=S0;dsimp only[ax]
 repeat'(first|refine ay ?_|fail)
 refine E8 ?_
 rintro⟨tv1,pv1⟩ _
 obtain⟨pr1,hpr1⟩:∃r,aZ s=r:=⟨_,rfl⟩
 have wf1:(aZ s).1.Wf:=jP hwf
 have tl1:(aZ s).1.ts.length≤s.ts.length:=jO s
 rw[hpr1]at wf1 tl1 ⊢
 obtain⟨s1,a1,e1⟩:=pr1
 dsimp only[ax,List.cons_append,List.nil_append]at wf1 tl1 ⊢
 by_cases he:e1=0
 ·subst he
  repeat'(first|refine ay ?_|fail)
  all_goals exact kw
 ·repeat'(first|refine ay ?_|fail)
  all_goals exact kw
set_option maxHeartbeats 4000000 in
theorem pG (sp:Nat) (s:cU) (y:Value×Value) (op:Int) (ho:op=209) (w:World) (hw:Ok (ax sp s y) [] w) (hwf:s.Wf) (hb:(s.ts.length+1)*8≤140737488355328):Calls G.P 58 #[.pointer (some ⟨sp,0,none⟩),.int .i64 op] w (dh sp s y (.int .i64 (if(aZ s).2.2≠0 then(aZ s).2.2 else if(aZ s).2.1=1∨(aZ s).2.1=2 then 12 else 0)) (if(aZ s).2.2≠0 then(aZ s).1 else if(aZ s).2.1=1∨(aZ s).2.1=2 then(aZ s).1 else fO (aZ s).1 [1]) w):=by
 obtain⟨tv,pv⟩:=y
 refine aj (l:=[_,_]) Tryz.func58 rfl Tryz.ntmps58 rfl (Ok.bV hw) ?_;unfold dh;generalize hS:Mb (ax sp s (tv,pv))=S0;dsimp only[ax]
 repeat'(first|refine ay ?_|(refine aY ?_ ?_<;>intro hc_))
 refine E8 ?_
 rintro⟨tv1,pv1⟩ _
 obtain⟨pr1,hpr1⟩:∃r,aZ s=r:=⟨_,rfl⟩
 have wf1:(aZ s).1.Wf:=jP hwf
 have tl1:(aZ s).1.ts.length≤s.ts.length:=jO s
 rw[hpr1]at wf1 tl1 ⊢
 obtain⟨s1,a1,e1⟩:=pr1
 dsimp only[ax,List.cons_append,List.nil_append]at wf1 tl1 ⊢
 by_cases he:e1=0
 ·subst he
  repeat rw[if_neg (show¬((0:Int)≠0)from fun h=>h rfl)]
  by_cases hbad:a1=1∨a1=2
  ·repeat rw[if_pos hbad]
   repeat'(first|refine ay ?_|(refine aY ?_ ?_<;>intro hc_))
   all_goals exact kw
  ·repeat rw[if_neg hbad]
   have n1:a1≠1:=fun h=>hbad (.inl h)
   have n2:a1≠2:=fun h=>hbad (.inr h)
   repeat'(first|refine ay ?_|(refine fP fun b_ _=>?_)|(refine aY ?_ ?_<;>intro hc_))
   obtain⟨bl,rfl⟩:∃y:Nat,y=b_:=⟨_,rfl⟩
   refine aa.freeze (q:=.aH bl [.int .i64 1] eV) (fun w=>af (fun k=>k=bl) w (.slice (some ⟨bl,0,none⟩) 1 1) [1]) gV (fun w' h _=>eQ h) ?_
   refine aa.he (HE.aS (M0:=ax sp s1 (tv1,pv1)) cv rfl rfl (fun w' hw'=>eo (fun k=>k=bl) sp s1 (tv1,pv1) (.slice (some ⟨bl,0,none⟩) 1 1) [1] w' (hw'.bT cM aX) wf1.some (by show(s1.ts.length+1)*8≤_;omega))) rfl ?_
   rintro⟨tv2,pv2⟩ _
   dsimp only[ax,List.cons_append,List.nil_append]
   repeat'(first|refine ay ?_|(refine aY ?_ ?_<;>intro hc_))
   all_goals exact ip
 ·repeat rw[if_pos he]
  repeat'(first|refine ay ?_|(refine aY ?_ ?_<;>intro hc_))
  all_goals exact kw
end Go.Proofs.YtceedealggognaaGreatDoor
