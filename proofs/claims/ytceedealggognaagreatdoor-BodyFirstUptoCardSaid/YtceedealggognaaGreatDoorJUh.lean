/- The reference of layer 23: takes, leaves. Printed by gen_ua.py. -/
import Derived.Test.YtceedealggognaaGreatDoorJEl
import Derived.Test.YtceedealggognaaGreatDoorJSe
import Derived.Test.YtceedealggognaaGreatDoorJVe
import Derived.Test.YtceedealggognaaGreatDoorJWj
import Derived.Test.YtceedealggognaaGreatDoorJNb
namespace Go.Proofs.YtceedealggognaaGreatDoor
open Go.RowKit
set_option maxRecDepth 100000
theorem ug {s:cZ} (h:s.Wf) (f:aE):(fQ s f).1.Wf:=by
 unfold fQ
 split
 ·exact dx h _
 ·exact mR (dx h _) _
theorem ue (s:cZ) (f:aE):(fQ s f).1.ps=s.ps:=by
 unfold fQ
 split
 ·exact eu _ _
 ·exact eu _ _
def fq (s:cZ) (op:Int):cZ×Int:=
 if(if op=27 then aT s [1]else(s,0)).2≠0 then(if op=27 then aT s [1]else(s,0))else
 if(aZ (if op=27 then aT s [1]else(s,0)).1).2.2≠0 then((aZ (if op=27 then aT s [1]else(s,0)).1).1,(aZ (if op=27 then aT s [1]else(s,0)).1).2.2)else
 if op=26 then((aZ s).1,0)else
 if op=209 then(if(aZ s).2.1=1∨(aZ s).2.1=2 then((aZ s).1,12)else(gg (aZ s).1 [1],0))else
 if(aZ (aZ (aT s [1]).1).1).2.2≠0 then((aZ (aZ (aT s [1]).1).1).1,(aZ (aZ (aT s [1]).1).1).2.2)else
 if(aZ (aT s [1]).1).2.1=3∨(aZ (aT s [1]).1).2.1=4∨(aZ (aZ (aT s [1]).1).1).2.1=3∨(aZ (aZ (aT s [1]).1).1).2.1=4∨((aZ (aT s [1]).1).2.1≠(aZ (aZ (aT s [1]).1).1).2.1∧(aZ (aT s [1]).1).2.1≠0∧(aZ (aZ (aT s [1]).1).1).2.1≠0)then((aZ (aZ (aT s [1]).1).1).1,12)
 else(gg (aZ (aZ (aT s [1]).1).1).1 [if(aZ (aT s [1]).1).2.1=0 then(aZ (aZ (aT s [1]).1).1).2.1 else(aZ (aT s [1]).1).2.1],0)
theorem kb (s:cZ):(aZ s).1.ts.length≤s.ts.length:=by
 unfold aZ
 split
 ·dsimp only;rw[List.length_take];omega
 ·split<;>exact Nat.le_refl _
def dC (s:cZ):Nat→cZ×List Int×Int
 |0=>(s,[],0)
 |n+1=>if(aZ s).2.2≠0 then(s,[],(aZ s).2.2)else if(dC (aZ s).1 n).2.2≠0 then((dC (aZ s).1 n).1,[],(dC (aZ s).1 n).2.2)else((dC (aZ s).1 n).1,(dC (aZ s).1 n).2.1++[(aZ s).2.1],0)
def tk (r:cZ×List Int×Int) (o:List Int):cZ×List Int×Int:=if r.2.2≠0 then(r.1,[],r.2.2)else(r.1,r.2.1++o,0)
theorem xx (s:cZ) (k:Nat) (o:List Int):tk (dC s (k+1)) o=if(aZ s).2.2≠0 then(s,[],(aZ s).2.2)else tk (dC (aZ s).1 k) ((aZ s).2.1::o):=by
 rw[dC]
 by_cases h1:(aZ s).2.2≠0
 ·rw[if_pos h1,if_pos h1];unfold tk;rw[if_pos h1]
 ·rw[if_neg h1,if_neg h1]
  by_cases h2:(dC (aZ s).1 k).2.2≠0
  ·rw[if_pos h2];unfold tk;rw[if_pos h2,if_pos h2]
  ·rw[if_neg h2];unfold tk;rw[if_neg h2,if_neg (fun h=>h rfl)]
   show(_,(dC (aZ s).1 k).2.1++[(aZ s).2.1]++o,(0:Int))=_
   rw[List.append_assoc];rfl
theorem xw (s:cZ):(aZ s).1.mK=s.mK:=by
 unfold aZ
 split
 ·rfl
 ·split<;>rfl
def oK (l ts:List Int):Bool:=(List.range (min l.length ts.length)).all fun i=>decide (ix l i=0∨ix l i=ix ts i)
theorem uM {l ts:List Int} (h:∀i,i<l.length→i<ts.length→ix l i=0∨ix l i=ix ts i):oK l ts=true:=by
 unfold oK
 rw[List.all_eq_true]
 intro i hi
 rw[List.mem_range]at hi
 exact decide_eq_true (h i Hb Hb)
theorem tB {l ts:List Int} {i:Nat} (h1:i<l.length) (h2:i<ts.length) (h:¬(ix l i=0∨ix l i=ix ts i)):oK l ts=false:=by
 unfold oK
 rw[List.all_eq_false]
 exact⟨i,List.mem_range.2 Hb,by rw[decide_eq_false h];simp⟩
def fN (iA:Int→List Int×Int):List Int→List (List Int)×Int
 |[]=>([],0)
 |n::r=>if(iA n).2≠0 then([],(iA n).2)else if(fN iA r).2≠0 then([],(fN iA r).2)else((iA n).1::(fN iA r).1,0)
theorem pX {iA:Int→List Int×Int}:∀{ls:List Int} {i:Nat},i<ls.length→(∀j,j<i→(iA (ix ls j)).2=0)→(iA (ix ls i)).2≠0→fN iA ls=([],(iA (ix ls i)).2)
 |[],i,h,_,_=>by simp at h
 |n::r,0,_,_,h2=>by
  have e:ix (n::r) 0=n:=rfl
  rw[e]at h2 ⊢
  unfold fN;rw[if_pos h2]
 |n::r,i+1,h,h1,h2=>by
  have e:ix (n::r) (i+1)=ix r i:=by simp[ix]
  have e0:(iA n).2=0:=h1 0 Hb
  rw[e]at h2 ⊢
  have:=pX (iA:=iA) (ls:=r) (i:=i) G5 (fun j hj=>by have:=h1 (j+1) Hb;simpa[ix]using this) h2
  unfold fN;rw[if_neg (by simp[e0]),this,if_pos h2]
theorem rj {iA:Int→List Int×Int}:∀{ls:List Int},(∀j,j<ls.length→(iA (ix ls j)).2=0)→fN iA ls=(ls.map fun n=>(iA n).1,0)
 |[],_=>rfl
 |n::r,h=>by
  have e0:(iA n).2=0:=h 0 Hc
  have:=rj (iA:=iA) (ls:=r) (fun j hj=>by have:=h (j+1) (by simpa using hj);simpa[ix]using this)
  unfold fN;rw[if_neg (by simp[e0]),this];simp
def jo (rows:List (List Int)) (s:cZ):cZ×Int:=
 if(rows.all fun l=>decide (l.length=(ix rows (rows.length - 1)).length))=false then(s,12)
 else if(aT s [1]).2≠0 then(s,(aT s [1]).2)
 else if(dC (aT s [1]).1 (ix rows (rows.length - 1)).length).2.2≠0 then(s,(dC (aT s [1]).1 (ix rows (rows.length - 1)).length).2.2)
 else if(rows.all fun l=>oK (dC (aT s [1]).1 (ix rows (rows.length - 1)).length).2.1 l)=false then(s,12)
 else((dC (aT s [1]).1 (ix rows (rows.length - 1)).length).1,0)
def cD (c:dq) (x:bP):cZ×Int:=
 if(fN (bU c) (x.labels++[x.a])).2≠0 then(c.aG,(fN (bU c) (x.labels++[x.a])).2)
 else jo (fN (bU c) (x.labels++[x.a])).1 c.aG
def ld (c:dq) (x:bP):dq×Int:=if(cD c x).2≠0 then(c,(cD c x).2)else(fD {c with aG:=(cD c x).1},0)
set_option maxHeartbeats 4000000 in
theorem ss (sp:Nat) (s:cZ) (y:Value×Value) (op:Int) (ho:op=26) (w:World) (hw:Ok (ay sp s y) [] w) (hwf:s.Wf):Calls G.P 58 #[.pointer (some ⟨sp,0,none⟩),.int .i64 op] w (dr sp s y (.int .i64 (aZ s).2.2) (aZ s).1 w):=by
 obtain⟨tv,pv⟩:=y
 refine aj (l:=[_,_]) Tryz.func58 rfl Tryz.ntmps58 rfl (Ok.bW hw) ?_;unfold dr;generalize hS:Mb (ay sp s (tv,pv))=S0;dsimp only[ay]
 repeat'(first|refine ax ?_|fail)
 refine FJ ?_
 rintro⟨tv1,pv1⟩ _
 obtain⟨pr1,hpr1⟩:∃r,aZ s=r:=⟨_,rfl⟩
 have wf1:(aZ s).1.Wf:=kc hwf
 have tl1:(aZ s).1.ts.length≤s.ts.length:=kb s
 rw[hpr1]at wf1 tl1 ⊢
 obtain⟨s1,a1,e1⟩:=pr1
 dsimp only[ay,List.cons_append,List.nil_append]at wf1 tl1 ⊢
 by_cases he:e1=0
 ·subst he
  repeat'(first|refine ax ?_|fail)
  all_goals exact fd
 ·repeat'(first|refine ax ?_|fail)
  all_goals exact fd
set_option maxHeartbeats 4000000 in
theorem qq (sp:Nat) (s:cZ) (y:Value×Value) (op:Int) (ho:op=209) (w:World) (hw:Ok (ay sp s y) [] w) (hwf:s.Wf) (hb:(s.ts.length+1)*8≤140737488355328):Calls G.P 58 #[.pointer (some ⟨sp,0,none⟩),.int .i64 op] w (dr sp s y (.int .i64 (if(aZ s).2.2≠0 then(aZ s).2.2 else if(aZ s).2.1=1∨(aZ s).2.1=2 then 12 else 0)) (if(aZ s).2.2≠0 then(aZ s).1 else if(aZ s).2.1=1∨(aZ s).2.1=2 then(aZ s).1 else gg (aZ s).1 [1]) w):=by
 obtain⟨tv,pv⟩:=y
 refine aj (l:=[_,_]) Tryz.func58 rfl Tryz.ntmps58 rfl (Ok.bW hw) ?_;unfold dr;generalize hS:Mb (ay sp s (tv,pv))=S0;dsimp only[ay]
 repeat'(first|refine ax ?_|(refine aO ?_ ?_<;>intro hc_))
 refine FJ ?_
 rintro⟨tv1,pv1⟩ _
 obtain⟨pr1,hpr1⟩:∃r,aZ s=r:=⟨_,rfl⟩
 have wf1:(aZ s).1.Wf:=kc hwf
 have tl1:(aZ s).1.ts.length≤s.ts.length:=kb s
 rw[hpr1]at wf1 tl1 ⊢
 obtain⟨s1,a1,e1⟩:=pr1
 dsimp only[ay,List.cons_append,List.nil_append]at wf1 tl1 ⊢
 by_cases he:e1=0
 ·subst he
  repeat rw[if_neg (show¬((0:Int)≠0)from fun h=>h rfl)]
  by_cases hbad:a1=1∨a1=2
  ·repeat rw[if_pos hbad]
   repeat'(first|refine ax ?_|(refine aO ?_ ?_<;>intro hc_))
   all_goals exact fd
  ·repeat rw[if_neg hbad]
   have n1:a1≠1:=fun h=>hbad (.inl h)
   have n2:a1≠2:=fun h=>hbad (.inr h)
   repeat'(first|refine ax ?_|(refine gh fun b_ _=>?_)|(refine aO ?_ ?_<;>intro hc_))
   obtain⟨bl,rfl⟩:∃y:Nat,y=b_:=⟨_,rfl⟩
   refine aa.freeze (q:=.aJ bl [.int .i64 1] fl) (fun w=>af (fun k=>k=bl) w (.slice (some ⟨bl,0,none⟩) 1 1) [1]) hU (fun w' h _=>fg h) ?_
   refine aa.he (HE.aW (M0:=ay sp s1 (tv1,pv1)) cE rfl rfl (fun w' hw'=>eB (fun k=>k=bl) sp s1 (tv1,pv1) (.slice (some ⟨bl,0,none⟩) 1 1) [1] w' (hw'.bV cT aY) wf1.some (by show(s1.ts.length+1)*8≤_;omega))) rfl ?_
   rintro⟨tv2,pv2⟩ _
   dsimp only[ay,List.cons_append,List.nil_append]
   repeat'(first|refine ax ?_|(refine aO ?_ ?_<;>intro hc_))
   all_goals exact em
 ·repeat rw[if_pos he]
  repeat'(first|refine ax ?_|(refine aO ?_ ?_<;>intro hc_))
  all_goals exact fd
abbrev Cq:Nat:=49
abbrev DW:Nat:=63
def lP (D:Nat→Prop) (w:World) (L:List (List Int×Value)):Prop:=∀y∈L,af D w y.2 y.1
theorem lP.fr:Bi lP:=fun h hc hd y hy=>(h y hy).aD hc hd
theorem lP.snoc {D H:Nat→Prop} {w:World} {L:List (List Int×Value)} {l:List Int} {u:Value} (h:lP D w L) (hu:af H w u l):lP (fun k=>D k∨H k) w (L++[(l,u)]):=fun y hy=>by
 rcases List.mem_append.1 hy with hy|hy
 ·exact(h y hy).mono fun _ _ h=>.inl h
 ·rw[List.mem_singleton]at hy;subst hy;exact hu.mono fun _ _ h=>.inr h
theorem lP.nil (D:Nat→Prop) (w:World):lP D w []:=fun _ h=>by cases h
theorem Ok.yQ {M:List aV} {R:List (World→Prop)} {w:World} (h:Ok M R w):Ok (.iM lP lP.fr (fun _=>False) []::M) R w:=
 h.push (bA.refl _ w) (lP.nil _ _) (fun _k hk=>hk.elim)
theorem aQ.yQ {Q:Exit→Act→World→Prop} {n:Nat} {c:Code} {E:Env} {M:List aV} {R:List (World→Prop)} (h:aQ Q n c E (.iM lP lP.fr (fun _=>False) []::M) R):aQ Q n c E M R:=⟨fun w hw=>h.h w hw.yQ⟩
theorem aa.kN {ops:Array Oper} {Q:Exit→Act→World→Prop} {n:Nat} {l:List Oper} {E:Env} {q1 q2 q:aV} {M M1 M2:List aV} {R:List (World→Prop)} (h1:Rm q1 M M1) (h2:Rm q2 M1 M2) (hF:∀k,q.F k→q1.F k∨q2.F k) (hP:∀w,q1.P w→q2.P w→q.P w) (h:aa ops Q n l E (q::M2) R):aa ops Q n l E M R:=
 ⟨fun w hw=>h.h w (((hw.front h1).front (Rm.tail h2)).merge (fun k hk=>(hF k hk).symm) (fun a b=>hP w b a))⟩
theorem AG (j:Nat) (a:Int) (o:List Int):(aU (List.replicate (j+1) 0++o)).set j (.int .i64 a)=aU (List.replicate j 0++(a::o)):=by
 unfold aU
 rw[List.replicate_succ',List.append_assoc,List.map_append,List.map_append,List.set_append_right _ _ Hc]
 simp
structure ia (iA:Int→List Int×Int) (ls:List Int) (i:Nat) (L:List (List Int×Value)):Prop where
 len:L.length=i
 ok:∀j,j<i→(iA (ix ls j)).2=0
 row:L.map Prod.fst=(ls.take i).map fun n=>(iA n).1
theorem ia.nil (iA:Int→List Int×Int) (ls:List Int):ia iA ls 0 []:=⟨rfl,fun _ h=>absurd h Hb,rfl⟩
theorem ia.snoc {iA:Int→List Int×Int} {ls:List Int} {i:Nat} {L:List (List Int×Value)} (h:ia iA ls i L) (hi:i<ls.length) {l:List Int} (e:iA (ix ls i)=(l,0)) (u:Value):ia iA ls (i+1) (L++[(l,u)]):=by
 refine⟨by rw[List.length_append,h.len];rfl,fun j hj=>?_,?_⟩
 ·rcases Nat.lt_or_ge j i with hlt|hge
  ·exact h.ok j hlt
  ·obtain rfl:j=i:=by omega
   rw[e]
 ·rw[List.map_append,h.row,bu hi,List.map_append]
  simp[e]
theorem ia.types {iA:Int→List Int×Int} {ls:List Int} {L:List (List Int×Value)} (h:ia iA ls ls.length L):fN iA ls=(L.map Prod.fst,0):=by
 rw[rj (fun j hj=>h.ok j hj),h.row,List.take_length]
theorem ia.err {iA:Int→List Int×Int} {ls:List Int} {i:Nat} {L:List (List Int×Value)} (h:ia iA ls i L) (hi:i<ls.length) {l:List Int} {e:Int} (he:iA (ix ls i)=(l,e)) (h0:e≠0):fN iA ls=([],e):=by
 have:=pX (iA:=iA) hi h.ok (by rw[he];exact h0)
 rw[he]at this;exact this
theorem yG {L:List (List Int×Value)} {i:Nat} (h:i<L.length):ix (L.map Prod.fst) i=(ix L i).1:=by
 rw[cw G5,cw h];simp
theorem all_true {L:List (List Int×Value)} {p:List Int→Bool} (h:∀i,i<L.length→p (ix L i).1=true):((L.map Prod.fst).all p)=true:=by
 rw[List.all_eq_true]
 intro l hl
 obtain⟨y,hy,rfl⟩:=List.mem_map.1 hl
 obtain⟨i,hi,rfl⟩:=List.getElem_of_mem hy
 have:=h i hi
 rwa[cw hi]at this
theorem all_false {L:List (List Int×Value)} {p:List Int→Bool} {i:Nat} (hi:i<L.length) (h:p (ix L i).1=false):((L.map Prod.fst).all p)=false:=by
 rw[List.all_eq_false]
 refine⟨(ix L i).1,List.mem_map.2 ⟨ix L i,?_,rfl⟩,by rw[h];decide⟩
 rw[cw hi];exact List.getElem_mem hi
theorem yr (s:cZ) (n:Nat):tk (dC s n) []=dC s n:=by
 unfold tk
 by_cases he:(dC s n).2.2≠0
 ·rw[if_pos he]
  cases n with
  |zero=>exact absurd rfl he
  |succ n=>
   rw[dC]at he ⊢
   by_cases h1:(aZ s).2.2≠0
   ·rw[if_pos h1]
   ·rw[if_neg h1]at he ⊢
    by_cases h2:(dC (aZ s).1 n).2.2≠0
    ·rw[if_pos h2]
    ·rw[if_neg h2]at he;exact absurd rfl he
 ·rw[if_neg he,List.append_nil]
  have:(dC s n).2.2=0:=Classical.byContradiction he
  rw[←this]
section
variable {Q:Exit→Act→World→Prop} {n:Nat} {E:Env} {M:List aV} {R:List (World→Prop)}
theorem aQ.A5 {σ:Type} {c:Code} (Ei:σ→Env) (Mi:σ→List aV) (Ri:σ→List (World→Prop)) (I:σ→Prop) (μ:σ→Nat) (s0:σ) (hE:Sub E (Ei s0)) (hM:gK (Mi s0) M) (hR:∀p,p∈Ri s0→p∈R) (hI:I s0)
  (round:∀s,I s→aQ (Exit.then (vF n Ei Mi Ri I μ s) Q) n c (Ei s) (Mi s) (Ri s)):aQ Q n (.loop c) E M R:=
 ⟨fun _w hw=>Cd.loop Ei (fun s w=>I s∧Ok (Mi s) (Ri s) w) μ s0 hE ⟨hI,hw.bV hM hR⟩ fun s w ⟨h1,h2⟩=>(round s h1).h w h2⟩
theorem ai.A7 {σ:Type} {Ei:σ→Env} {Mi:σ→List aV} {Ri:σ→List (World→Prop)} {I:σ→Prop} {μ:σ→Nat} {s:σ} (s':σ) (hE:Sub E (Ei s')) (hM:gK (Mi s') M) (hR:∀p,p∈Ri s'→p∈R) (hI:I s') (hμ:μ s'<μ s):
  ai (Exit.then (vF n Ei Mi Ri I μ s) Q) n .normal E M R:=⟨fun _w hw=>Fin.next s' hE ⟨hI,hw.bV hM hR⟩ hμ⟩
end
theorem vz (l:List Int) (a:Int):aU (l++[a])=aU l++[.int .i64 a]:=by unfold aU;rw[List.map_append];rfl
theorem HE.ET {n:Nat} {E:Env} {M:List aV} {R:List (World→Prop)} {x:Operand} {len:Nat} (hx:ev E x=some (.int .i64 (len:Int))) (hml:len≤100000000000):HE n (.makeSlice 49 x x) E M R (fun _:Nat=>True) (fun g=>.slice (some ⟨g,0,none⟩) len len) (fun g=>.own 0 fl 1 (.slice (some ⟨g,0,none⟩) len len) len (aU (List.replicate len 0))::M) (fun _=>R):=by
 have h:=HE.Eb (n:=n) (E:=E) (M:=M) (R:=R) (B:=0) (t:=49) (x:=x) (len:=len) rfl rfl rfl rfl hx Hd hml (fun _ _=>Nat.zero_le _)
 have hz:aU (List.replicate len 0)=(madeCells (#[.int .i64 0]:Array Value) (len*1)).toList:=by rw[Nat.mul_one,toList_madeCells_one];unfold aU;rw[List.map_replicate]
 rw[hz]
 exact h
set_option maxHeartbeats 16000000 in
theorem vk (F:Nat→Prop) (cp:Nat) (c:dq) (v:fU) (x:bP) (pt pl:Option Addr) (ct cl:Nat) (w:World) (hw:Ok (aw cp c v) [fun w=>af F w (.slice pl x.labels.length cl) x.labels] w) (hg:v.Good c) (hb:c.broken=0) (hwf:c.Wf) (hlb:∀n,(bU c n).1.length≤100000000000) (hll:x.labels.length≤10000000):Calls G.P 95 #[.pointer (some ⟨cp,0,none⟩),.agg #[Value.int .i64 x.op,Value.int .i64 x.a,Value.int .i64 x.b,Value.int .u64 x.n,Value.int .i64 x.kind,Value.int .i64 x.val,Value.int .i64 x.index,Value.slice pt x.types.length ct,Value.slice pl x.labels.length cl]] w (ar (aw cp c v) cp ({c with aG:=(cD c x).1},(cD c x).2) w):=by
 have hI:af F w (.slice pl x.labels.length cl) x.labels:=hw.get (p:=fun w=>af F w (.slice pl x.labels.length cl) x.labels) Hc
 refine aj (l:=[_,_]) Tryz.func95 rfl Tryz.ntmps95 rfl (Ok.bW hw) ?_
 generalize hS:Mb (aw cp c v)=S0
 obtain⟨sp,tv,pv,bv,rv,fv,D,L⟩:=v
 obtain⟨ls,hls⟩:∃l,x.labels++[x.a]=l:=⟨_,rfl⟩
 have hln:ls.length=x.labels.length+1:=by rw[←hls];simp
 obtain⟨N,hN⟩:∃N,x.labels.length=N:=⟨_,rfl⟩
 dsimp only[aw,ay,List.cons_append,List.nil_append]
 repeat'(first|refine ax ?_|(refine bz fun b_=>?_)|fail)
 obtain⟨b3,rfl⟩:∃y:Nat,y=b_:=⟨_,rfl⟩
 refine aQ.iC 0 3 1 ?_
 refine aQ.de [.aJ b3 [Value.int .i64 x.op,Value.int .i64 x.a,Value.int .i64 x.b,Value.int .u64 x.n,Value.int .i64 x.kind,Value.int .i64 x.val,Value.int .i64 x.index,Value.slice pt x.types.length ct,Value.slice pl x.labels.length cl] DW] [] bN aY ?_
 refine aK.A2 (α:=Option Addr×Nat) (fun y=>[(0,.pointer (some ⟨cp,0,none⟩)),(4,.int .i64 0),(5,.slice none 0 0),(28,.slice y.1 (x.labels.length+1) y.2),(29,.int .i64 ((x.labels.length+1:Nat):Int)),(30,.int .i64 0)]) (fun y=>.own 0 3 1 (.slice y.1 (x.labels.length+1) y.2) (x.labels.length+1) (aU x.labels++[.int .i64 x.a])::aw cp c ⟨sp,tv,pv,bv,rv,fv,D,L⟩) (fun _=>[bA S0 w]) ?_ fun hrest=>?_
 rotate_left
 ·repeat'(first|refine uo ?_|(refine aI.wX ?_;refine aI.he rfl rfl (HE.ml rfl rfl rfl rfl rfl fT Hd Hd) (fun _=>bN) (fun _=>aY) ?_;rintro bl _)|(refine aI.wW ?_;refine aI.he rfl rfl (HE.app rfl rfl (fun _=>bJ) bJ rfl rfl rfl Hd Hd Hd Hd Hd Hd Hb (fun _ _=>Nat.zero_le _)) (fun _=>bN) (fun _=>aY) ?_;rintro vb _;refine aK.pure (φ:=∃p cc,vb=.slice p (x.labels.length+1) cc) (fun w' hw'=>by obtain⟨p,cc,e,_⟩:=av (hw'.own (v:=vb));exact⟨p,cc,e⟩) ?_;rintro⟨pb,cb,rfl⟩)|(refine aI.wW ?_;refine aI.he rfl rfl (HE.kF (aU x.labels) rfl rfl (fun _=>bJ) (tF hI ao) (by simp[aU]) rfl rfl rfl Hd Hd Hd (gL _) (by show(0+x.labels.length)*8≤_;omega) Hb (fun _ _=>Nat.zero_le _)) (fun _=>bN) (fun _=>aY) ?_;rintro va _;simp only[Nat.zero_add,List.nil_append];refine aK.pure (φ:=∃p cc,va=.slice p x.labels.length cc) (fun w' hw'=>by obtain⟨p,cc,e,_⟩:=av (hw'.own (v:=va));exact⟨p,cc,e⟩) ?_;rintro⟨pa,ca,rfl⟩)|refine aK.nil G6 ?_|refine aK.any G6 ?_|exact aC.fin rfl|refine aC.skip G6 ?_|refine aC.go ?_ ?_)
  all_goals exact ai.bV (hrest (pb,cb)) bR GP aY
 ·rintro⟨pa,ca⟩
  dsimp only
  repeat'(first|refine ax ?_|fail)
  refine aQ.pure (φ:=∃g,pa=some ⟨g,0,none⟩) (fun w' hw'=>by
   obtain⟨p,cc,e,_,_,hg⟩:=av (hw'.own (B:=0) (T:=3) (v:=.slice pa (x.labels.length+1) ca))
   cases e
   obtain⟨g,hg,_⟩:=hg Hb
   exact⟨g,hg⟩) ?_
  rintro⟨ga,rfl⟩
  refine aQ.freeze (q:=.own 0 3 1 (.slice (some ⟨ga,0,none⟩) (x.labels.length+1) ca) (x.labels.length+1) (aU x.labels++[.int .i64 x.a])) (fun w=>∀i,i<ls.length→w.cell? ⟨ga,0+i,none⟩=some (.int .i64 (ix ls i))) hU (fun w' h _ i hi=>by rw[Nat.zero_add];exact dL h (by have:=mX hi;rw[Nat.zero_add,←hls,vz]at this;rw[←hls];exact this)) ?_
  refine aQ.iC 0 Cq 1 ?_
  refine aQ.yQ ?_
  refine aQ.loop (σ:=Nat×List (List Int×Value)×(Nat→Prop)×Option Addr×Nat) (fun z=>[(0,.pointer (some ⟨cp,0,none⟩)),(4,.int .i64 0),(5,.slice z.2.2.2.1 z.1 z.2.2.2.2),(28,.slice (some ⟨ga,0,none⟩) (x.labels.length+1) ca),(29,.int .i64 ((x.labels.length+1:Nat):Int)),(30,.int .i64 z.1)]) (fun z=>.iM lP lP.fr z.2.2.1 z.2.1::.own 0 Cq 1 (.slice z.2.2.2.1 z.1 z.2.2.2.2) z.1 (z.2.1.map Prod.snd)::aw cp c ⟨sp,tv,pv,bv,rv,fv,D,L⟩) (fun _=>[bA S0 w,fun w=>∀i,i<ls.length→w.cell? ⟨ga,0+i,none⟩=some (.int .i64 (ix ls i))]) (fun z=>z.1≤ls.length∧ia (bU c) ls z.1 z.2.1) (fun z=>ls.length - z.1) (0,[],fun _=>False,none,0) bR (by dsimp only[aw,ay,List.cons_append,List.nil_append,List.map];exact bN) aY ⟨Nat.zero_le _,ia.nil _ _⟩ ?_
  rintro⟨i,L2,DD,rp,rc⟩ ⟨hi,hrw⟩
  dsimp only[aw,ay,List.cons_append,List.nil_append]at hi hrw ⊢
  by_cases hin:i<ls.length
  ·refine aQ.kq (Go.Proofs.YtceedealggognaaGreatDoor.cl ga (0+i) (.int .i64 (ix ls i))) (fun w' h=>h (fun w=>∀i,i<ls.length→w.cell? ⟨ga,0+i,none⟩=some (.int .i64 (ix ls i))) ao i hin) ?_
   repeat'(first|refine ax ?_|fail)
   refine aa.he (HE.aW (M0:=[]) lD.nil rfl rfl (fun w' hw'=>lY cp c ⟨sp,tv,pv,bv,rv,fv,D,L⟩ (ix ls i) w' ((hw'.bV (M':=aw cp c ⟨sp,tv,pv,bv,rv,fv,D,L⟩) cT (fun _ h=>h)).vN (List.Sublist.refl _)) hg hb)) rfl ?_
   intro u _
   dsimp only[List.cons_append,List.nil_append]
   obtain⟨q,hq⟩:∃q,bU c (ix ls i)=q:=⟨_,rfl⟩
   have hql:=hlb (ix ls i)
   rw[hq]at hql ⊢
   obtain⟨l,e⟩:=q
   dsimp only at hql ⊢
   by_cases he:e=0
   ·subst he
    refine aa.pure (φ:=∃p cc,u=.slice p l.length cc) (fun w' hw'=>by obtain⟨p,cc,e,_⟩:=av (hw'.own (B:=0) (T:=fl) (v:=u));exact⟨p,cc,e⟩) ?_
    rintro⟨pu,cu,rfl⟩
    repeat'(first|refine ax ?_|(refine gh fun b_ _=>?_)|fail)
    refine aa.he (HE.app rfl rfl (fun _=>bJ) bJ rfl rfl rfl Hd Hd Hd Hd Hd Hd Hb (fun _ _=>Nat.zero_le _)) rfl ?_
    intro v5 _
    refine aa.pure (φ:=∃p cc,v5=.slice p (i+1) cc) (fun w' hw'=>by obtain⟨p,cc,e,_⟩:=av (hw'.own (B:=0) (T:=Cq) (v:=v5));exact⟨p,cc,e⟩) ?_
    rintro⟨p5,c5,rfl⟩
    refine aa.kN (q1:=.iM lP lP.fr DD L2) (q2:=.own 0 fl 1 (.slice pu l.length cu) l.length (aU l)) (q:=.iM lP lP.fr (fun k=>DD k∨(Value.slice pu l.length cu).ownBlock=some k) (L2++[(l,.slice pu l.length cu)])) hU hU (fun k hk=>hk) (fun w' h1 h2=>lP.snoc h1 (dI h2 Hb)) ?_
    simp only[List.getElem_toArray,List.getElem_cons_zero,List.getElem_cons_succ]
    rw[show L2.map Prod.snd++[Value.slice pu l.length cu]=(L2++[(l,Value.slice pu l.length cu)]).map Prod.snd by simp]
    repeat'(first|refine ax ?_|fail)
    exact ai.next (i+1,L2++[(l,.slice pu l.length cu)],_,p5,c5) bR GM aY ⟨by dsimp only;omega,hrw.snoc hin hq _⟩ G2
   ·have htk:cD c x=(c.aG,e):=by unfold cD;rw[hls,hrw.err hin hq he];exact if_pos he
    repeat'(first|refine ax ?_|fail)
    all_goals first|(exfalso;omega)|exact ai.aA rfl rfl fun w' hw'=>ar.err e (by show(cD c x).2=e;rw[htk]) he hS hw' ao
  ·obtain rfl:i=ls.length:=by omega
   have hlen:=hrw.len
   have htk:=hrw.types
   have hmem:∀{j:Nat},j<ls.length→ix L2 j∈L2:=fun{j} hj=>by rw[cw Hb];exact List.getElem_mem _
   refine aQ.pure (φ:=∃g,rp=some ⟨g,0,none⟩) (fun w' hw'=>by
    obtain⟨p,cc,e,_,_,hg⟩:=av (hw'.own (B:=0) (T:=Cq) (v:=.slice rp ls.length rc))
    cases e
    obtain⟨g,hg,_⟩:=hg Hb
    exact⟨g,hg⟩) ?_
   rintro⟨gr,rfl⟩
   refine aQ.pure (φ:=∀y∈L2,∃p cc,y.2=.slice p y.1.length cc) (fun w' hw' y hy=>by
    have hm:=(hw'.m (.iM lP lP.fr DD L2) gi).1
    obtain⟨p,cc,e,_⟩:=(hm y hy).slice
    exact⟨p,cc,e⟩) ?_
   intro hsl
   refine aQ.freeze (q:=.own 0 Cq 1 (.slice (some ⟨gr,0,none⟩) ls.length rc) ls.length (L2.map Prod.snd)) (fun w=>∀i,i<ls.length→w.cell? ⟨gr,0+i,none⟩=some (ix L2 i).2) hU (fun w' h _ i hi=>by
    rw[Nat.zero_add]
    refine dL h ?_
    rw[List.getElem?_map,List.getElem?_eq_getElem (show i<L2.length by omega),cw (show i<L2.length by omega)]
    rfl) ?_
   refine aQ.freeze (q:=.iM lP lP.fr DD L2) (fun w=>lP DD w L2) hU (fun _ h _=>h) ?_
   obtain⟨n0,hn0⟩:∃n0,ls.length=n0+1:=⟨x.labels.length,hln⟩
   obtain⟨pL,cL,eL⟩:=hsl (ix L2 n0) (hmem Hb)
   obtain⟨lst,hlst⟩:∃l,(ix L2 n0).1=l:=⟨_,rfl⟩
   rw[hlst]at eL
   have hlast:ix (L2.map Prod.fst) ((L2.map Prod.fst).length - 1)=lst:=by rw[List.length_map,hlen,hn0];show ix (L2.map Prod.fst) n0=_;rw[yG Hb,hlst]
   have hlstl:lst.length≤100000000000:=by
    have h1:ix (L2.map Prod.fst) n0=(bU c (ix ls n0)).1:=by
     rw[hrw.row,List.take_length,cw (show n0<(ls.map fun n=>(bU c n).1).length by rw[List.length_map];omega),List.getElem_map,cw (show n0<ls.length by omega)]
    rw[yG Hb,hlst]at h1
    rw[h1];exact hlb _
   have htab:cD c x=jo (L2.map Prod.fst) c.aG:=by unfold cD;rw[hls,htk];exact if_neg (fun h=>h rfl)
   refine aQ.kq (Go.Proofs.YtceedealggognaaGreatDoor.cl gr (0+n0) (.slice pL lst.length cL)) (fun w' h=>by rw[←eL];exact h (fun w=>∀i,i<ls.length→w.cell? ⟨gr,0+i,none⟩=some (ix L2 i).2) ao n0 Hb) ?_
   repeat'(first|refine ax ?_|(refine aa.dK ?_;refine aa.y_ (Yl.fX (i:=n0) rfl rfl rfl rfl rfl Hb Hb) rfl ?_)|fail)
   refine aQ.loop (σ:=Nat) (fun j=>[(0,.pointer (some ⟨cp,0,none⟩)),(4,.int .i64 0),(5,.slice (some ⟨gr,0,none⟩) ls.length rc),(10,.slice pL lst.length cL),(54,.slice (some ⟨gr,0,none⟩) ls.length rc),(55,.int .i64 ls.length),(56,.int .i64 j)]) (fun _=>aw cp c ⟨sp,tv,pv,bv,rv,fv,D,L⟩) (fun _=>[bA S0 w,fun w=>∀i,i<ls.length→w.cell? ⟨gr,0+i,none⟩=some (ix L2 i).2,fun w=>lP DD w L2]) (fun j=>j≤ls.length∧∀q,q<j→(ix L2 q).1.length=lst.length) (fun j=>ls.length - j) 0 bR GM aY ⟨Nat.zero_le _,fun q hq=>absurd hq Hb⟩ ?_
   rintro j ⟨hj,hok⟩
   dsimp only[aw,ay,List.cons_append,List.nil_append]
   by_cases hjn:j<ls.length
   ·obtain⟨pj,cj,ej⟩:=hsl (ix L2 j) (hmem hjn)
    refine aQ.kq (Go.Proofs.YtceedealggognaaGreatDoor.cl gr (0+j) (.slice pj (ix L2 j).1.length cj)) (fun w' h=>by rw[←ej];exact h (fun w=>∀i,i<ls.length→w.cell? ⟨gr,0+i,none⟩=some (ix L2 i).2) ao j hjn) ?_
    by_cases hle:(ix L2 j).1.length=lst.length
    ·repeat'(first|refine ax ?_|fail)
     all_goals first|(exfalso;omega)|exact ai.next (j+1) bR GM aY ⟨by omega,fun q hq=>by rcases Nat.lt_or_ge q j with h|h;exact hok q h;rw[show q=j by omega];exact hle⟩ Hb
    ·have hbr:cD c x=(c.aG,12):=by
      rw[htab];unfold jo
      rw[hlast,if_pos (all_false (i:=j) Hb (decide_eq_false hle))]
     repeat'(first|refine ax ?_|fail)
     all_goals exact jp
   ·obtain rfl:j=ls.length:=by omega
    have hall:((L2.map Prod.fst).all fun l=>decide (l.length=lst.length))=true:=all_true fun i hi=>decide_eq_true (hok i Hb)
    obtain⟨r0,hr0⟩:∃r,aT c.aG [1]=r:=⟨_,rfl⟩
    have hw0:=dx hwf.aG [1]
    have ht0:=dw c.aG [1]
    rw[hr0]at hw0 ht0
    obtain⟨s0,e0⟩:=r0
    dsimp only at hw0 ht0
    have htb2:cD c x=if e0≠0 then(c.aG,e0)else if(dC s0 lst.length).2.2≠0 then(c.aG,(dC s0 lst.length).2.2)else if((L2.map Prod.fst).all fun l=>oK (dC s0 lst.length).2.1 l)=false then(c.aG,12)else((dC s0 lst.length).1,0):=by
     rw[htab];unfold jo
     rw[hlast,hall,hr0,if_neg Ha]
    repeat'(first|refine ax ?_|refine Gw ?_|(refine gh fun b_ _=>?_)|fail)
    obtain⟨b0,rfl⟩:∃y:Nat,y=b_:=⟨_,rfl⟩
    refine aa.freeze (q:=.aJ b0 [.int .i64 1] fl) (fun w=>af (fun k=>k=b0) w (.slice (some ⟨b0,0,none⟩) 1 1) [1]) hU (fun w' h _=>fg h) ?_
    refine aa.he (HE.aW (M0:=ay sp c.aG (tv,pv)) cE rfl rfl (fun w' hw'=>by have:=dX (fun k=>k=b0) sp c.aG (tv,pv) (.slice (some ⟨b0,0,none⟩) 1 1) [1] w' (hw'.bV cT aY) hwf.aG.some hwf.aG.at_.1 hwf.aG.at_.2;rw[hr0]at this;exact this)) rfl ?_
    rintro⟨tv0,pv0⟩ _
    dsimp only[ay,List.cons_append,List.nil_append]
    by_cases m6:e0=0
    ·subst m6
     rw[if_neg (fun h=>h rfl)]at htb2
     repeat'(first|refine ax ?_|fail)
     refine aa.he (HE.ET (len:=lst.length) rfl hlstl) rfl ?_
     intro gp _
     repeat'(first|refine ax ?_|fail)
     refine aQ.A5 (σ:=Nat×cZ×List Int×Value×Value) (fun z=>[(0,.pointer (some ⟨cp,0,none⟩)),(4,.int .i64 0),(5,.slice (some ⟨gr,0,none⟩) ls.length rc),(14,.slice (some ⟨gp,0,none⟩) lst.length lst.length),(15,.int .i64 ((z.1:Int) - 1))]) (fun z=>.own 0 fl 1 (.slice (some ⟨gp,0,none⟩) lst.length lst.length) lst.length (aU (List.replicate z.1 0++z.2.2.1))::aw cp {c with aG:=z.2.1} ⟨sp,z.2.2.2.1,z.2.2.2.2,bv,rv,fv,D,L⟩) (fun _=>[bA S0 w,fun w=>∀i,i<ls.length→w.cell? ⟨gr,0+i,none⟩=some (ix L2 i).2,fun w=>lP DD w L2]) (fun z=>z.1+z.2.2.1.length=lst.length∧z.2.1.Wf∧dC s0 lst.length=tk (dC z.2.1 z.1) z.2.2.1) (fun z=>z.1) (lst.length,s0,[],tv0,pv0) bR ?_ aY ⟨by dsimp only;rw[List.length_nil,Nat.add_zero],hw0,(yr _ _).symm⟩ ?_
     ·dsimp only[aw,ay,List.cons_append,List.nil_append]
      rw[List.append_nil]
      exact cT
     rintro⟨j,s1,o,tv1,pv1⟩ ⟨hjo,wf1,hpk⟩
     dsimp only[aw,ay,List.cons_append,List.nil_append]at hjo wf1 hpk ⊢
     rcases Nat.eq_zero_or_pos j with rfl|hj0
     ·have hf:dC s0 lst.length=(s1,o,0):=by rw[hpk];rfl
      rw[hf,if_neg (fun h=>h rfl)]at htb2
      dsimp only at htb2
      rw[show((0:Nat):Int) - 1=-1 from rfl,show List.replicate 0 (0:Int)=[]from rfl,List.nil_append]
      refine aQ.freeze (q:=.own 0 fl 1 (.slice (some ⟨gp,0,none⟩) lst.length lst.length) lst.length (aU o)) (fun w=>∀q,q<lst.length→w.cell? ⟨gp,0+q,none⟩=some (.int .i64 (ix o q))) hU (fun w' h _ q hq=>by rw[Nat.zero_add];exact dL h (by have:=mX (l:=o) (i:=q) Hb;rwa[Nat.zero_add]at this)) ?_
      repeat'(first|refine ax ?_|fail)
      refine aQ.loop (σ:=Nat) (fun j=>[(4,.int .i64 0),(14,.slice (some ⟨gp,0,none⟩) lst.length lst.length),(96,.slice (some ⟨gr,0,none⟩) ls.length rc),(97,.int .i64 ls.length),(98,.int .i64 j)]) (fun _=>aw cp {c with aG:=s1} ⟨sp,tv1,pv1,bv,rv,fv,D,L⟩) (fun _=>[bA S0 w,fun w=>∀i,i<ls.length→w.cell? ⟨gr,0+i,none⟩=some (ix L2 i).2,fun w=>lP DD w L2,fun w=>∀q,q<lst.length→w.cell? ⟨gp,0+q,none⟩=some (.int .i64 (ix o q))]) (fun j=>j≤ls.length∧∀q,q<j→oK o (ix L2 q).1=true) (fun j=>ls.length - j) 0 bR GM aY ⟨Nat.zero_le _,fun q hq=>absurd hq Hb⟩ ?_
      rintro j ⟨hj,hfit⟩
      dsimp only[aw,ay,List.cons_append,List.nil_append]
      by_cases hjn:j<ls.length
      ·obtain⟨pj,cj,ej⟩:=hsl (ix L2 j) (hmem hjn)
       have hle:=hok j hjn
       obtain⟨l,hlj⟩:∃l,(ix L2 j).1=l:=⟨_,rfl⟩
       rw[hlj]at ej hle
       have hin2:∀w',lP DD w' L2→af DD w' (.slice pj l.length cj) l:=fun w' h=>by have:=h _ (hmem hjn);rw[ej,hlj]at this;exact this
       refine aQ.kq (Go.Proofs.YtceedealggognaaGreatDoor.cl gr (0+j) (.slice pj l.length cj)) (fun w' h=>by rw[←ej];exact h (fun w=>∀i,i<ls.length→w.cell? ⟨gr,0+i,none⟩=some (ix L2 i).2) ao j hjn) ?_
       repeat'(first|refine ax ?_|fail)
       refine aQ.loop (σ:=Nat) (fun q=>[(4,.int .i64 0),(14,.slice (some ⟨gp,0,none⟩) lst.length lst.length),(96,.slice (some ⟨gr,0,none⟩) ls.length rc),(97,.int .i64 ls.length),(98,.int .i64 j),(102,.slice pj l.length cj),(103,.int .i64 l.length),(104,.int .i64 q)]) (fun _=>aw cp {c with aG:=s1} ⟨sp,tv1,pv1,bv,rv,fv,D,L⟩) (fun _=>[bA S0 w,fun w=>∀i,i<ls.length→w.cell? ⟨gr,0+i,none⟩=some (ix L2 i).2,fun w=>lP DD w L2,fun w=>∀q,q<lst.length→w.cell? ⟨gp,0+q,none⟩=some (.int .i64 (ix o q))]) (fun q=>q≤l.length∧∀r,r<q→ix o r=0∨ix o r=ix l r) (fun q=>l.length - q) 0 bR GM aY ⟨Nat.zero_le _,fun q hq=>absurd hq Hb⟩ ?_
       rintro q ⟨hq,hqs⟩
       dsimp only[aw,ay,List.cons_append,List.nil_append]
       by_cases hql:q<l.length
       ·refine aQ.pure (φ:=∃b oo,pj=some ⟨b,oo,none⟩) (fun w' hw'=>by obtain⟨b,oo,e,_⟩:=(hin2 w' (hw'.get (p:=fun w=>lP DD w L2) ao)).at hql;exact⟨b,oo,e⟩) ?_
        rintro⟨bj,oj,rfl⟩
        refine aQ.kq (Go.Proofs.YtceedealggognaaGreatDoor.cl bj (oj+q) (.int .i64 (ix l q))) (fun w' h=>by obtain⟨b,oo,e,_,hc⟩:=(hin2 w' (h (fun w=>lP DD w L2) ao)).at hql;cases e;exact hc q hql) ?_
        refine aQ.kq (Go.Proofs.YtceedealggognaaGreatDoor.cl gp (0+q) (.int .i64 (ix o q))) (fun w' h=>h (fun w=>∀q,q<lst.length→w.cell? ⟨gp,0+q,none⟩=some (.int .i64 (ix o q))) ao q Hb) ?_
        have hstep:(ix o q=0∨ix o q=ix l q)→∀r,r<q+1→ix o r=0∨ix o r=ix l r:=fun hs r hr=>by
         rcases Nat.lt_or_ge r q with hlt|hge
         ·exact hqs r hlt
         ·rw[show r=q by omega];exact hs
        by_cases h0:ix o q=0
        ·repeat'(first|refine ax ?_|fail)
         all_goals first|(exfalso;omega)|exact ai.next (q+1) bR GM aY ⟨by omega,hstep (.inl h0)⟩ Hb
        ·by_cases he:ix o q=ix l q
         ·repeat'(first|refine ax ?_|fail)
          all_goals first|(exfalso;omega)|exact ai.next (q+1) bR GM aY ⟨by omega,hstep (.inr he)⟩ Hb
         ·have hbr:cD c x=(c.aG,12):=by
           rw[htb2,if_pos (all_false (i:=j) Hb (by rw[hlj];exact tB Hb hql (fun h=>h.elim h0 he)))]
          repeat'(first|refine ax ?_|fail)
          all_goals exact jp
       ·repeat'(first|refine ax ?_|fail)
        all_goals first|(exfalso;omega)|exact ai.next (j+1) bR GM aY ⟨by omega,fun r hr=>by rcases Nat.lt_or_ge r j with h|h;exact hfit r h;rw[show r=j by omega,hlj];exact uM (fun i h1 h2=>hqs i Hb)⟩ Hb
      ·have hbr:cD c x=(s1,0):=by
        rw[htb2,if_neg (by rw[all_true (fun i hi=>hfit i Hb)];decide)]
       repeat'(first|refine ax ?_|fail)
       all_goals first|(exfalso;omega)|exact ai.aA rfl rfl fun w' hw'=>by rw[hbr];exact ar.ok (r:=({c with aG:=s1},0)) (⟨sp,tv1,pv1,bv,rv,fv,D,L⟩:fU) rfl ⟨hg.len,hg.fr,hg.rs⟩ hS hw' GP ao
     ·obtain⟨i,rfl⟩:∃i,j=i+1:=⟨j - 1,by omega⟩
      rw[xx]at hpk
      rw[show((i+1:Nat):Int) - 1=(i:Int)by omega]
      repeat'(first|refine ax ?_|refine Gw ?_|fail)
      refine t8 ?_
      rintro⟨tv2,pv2⟩ _
      obtain⟨pr,hpr⟩:∃r,aZ s1=r:=⟨_,rfl⟩
      have AN:(aZ s1).1.Wf:=kc wf1
      rw[hpr]at hpk AN ⊢
      obtain⟨s2,a,e⟩:=pr
      dsimp only[ay,List.cons_append,List.nil_append]at hpk AN ⊢
      by_cases he:e=0
      ·subst he
       rw[if_neg (fun h=>h rfl)]at hpk
       repeat'(first|refine ax ?_|(refine aa.dK ?_;refine aa.y_ (Yl.fX (i:=i) rfl rfl rfl rfl rfl Hb Hb) rfl ?_)|fail)
       refine aa.m6 (gj.Bc (i:=i) rfl rfl rfl Hb rfl rfl bJ (by simp[aU];omega)) ?_
       rintro⟨⟩ _
       simp only[List.getElem_toArray,List.getElem_cons_zero,List.getElem_cons_succ]
       rw[AG]
       repeat'(first|refine ax ?_|fail)
       exact ai.A7 (i,s2,a::o,tv2,pv2) bR (by first|(dsimp only[aw,ay,List.cons_append,List.nil_append];exact cT)|exact cT) aY ⟨by dsimp only;rw[List.length_cons];omega,AN,hpk⟩ G2
      ·rw[if_pos he]at hpk
       have hbr:cD c x=(c.aG,e):=by rw[htb2,hpk];exact if_pos he
       repeat'(first|refine ax ?_|fail)
       all_goals first|(exfalso;omega)|exact ai.aA rfl rfl fun w' hw'=>ar.err e (by show(cD c x).2=e;rw[hbr]) he hS hw' ao
    ·have hbr:cD c x=(c.aG,e0):=by rw[htb2];exact if_pos m6
     repeat'(first|refine ax ?_|fail)
     all_goals first|(exfalso;omega)|exact ai.aA rfl rfl fun w' hw'=>ar.err e0 (by show(cD c x).2=e0;rw[hbr]) m6 hS hw' ao
def cZ.Fit (s:cZ):Prop:=s.ts.length≤s.mK
theorem jG (s:cZ) (l:List Int):(gg s l).Fit:=by
 show(s.ts++l).length≤max s.mK (s.ts.length+l.length)
 rw[List.length_append];exact Nat.le_max_right ..
theorem jL {s:cZ} (h:s.Fit) (l:List Int):(aT s l).1.Fit:=by
 have h1:=dw s l
 have h2:(aT s l).1.mK=s.mK:=by unfold aT;dsimp only;split<;>rfl
 unfold cZ.Fit at*;omega
theorem pk {s:cZ} (h:s.Fit):(aZ s).1.Fit:=by
 have h1:=kb s
 have h2:=xw s
 unfold cZ.Fit at*;omega
def fH (c:dq) (l:List Int):dq×Int:=if(aT c.aG l).2≠0 then(c,(aT c.aG l).2)else(fD {c with aG:=(aT c.aG l).1},0)
def vL (c:dq) (l:List Int):dq×Int:=if(aT c.aG [1]).2≠0 then(c,(aT c.aG [1]).2)else zA {c with aG:=(aT c.aG [1]).1} ⟨l,l⟩
def k9 (c:dq) (x:bP):dq×Int:=
 if x.op=15 then fH c (sq c)
 else if x.op=14 then ld c x
 else if(bU c x.a).2≠0 then(c,(bU c x.a).2)
 else if x.op=13 then vL c (bU c x.a).1 else fH c (bU c x.a).1
def opens (op:Int):Prop:=op=2∨op=3∨op=4
instance (op:Int):Decidable (opens op):=by unfold opens;infer_instance
def jumps (op:Int):Prop:=op=12∨op=13∨op=14∨op=15
instance (op:Int):Decidable (jumps op):=by unfold jumps;infer_instance
def kP (op:Int):Prop:=op=26∨op=27∨op=209
instance (op:Int):Decidable (kP op):=by unfold kP;infer_instance
def dj (c:dq) (m:ae) (locals:List Int) (x:bP):dq×Int:=
 if db x=false then(c,10)
 else if opens x.op then(match dD m x.kind x.val x.index with|none=>(c,11)|some f=>iu c x.op f.params f.results)
 else if x.op=5 then mH c
 else if x.op=11 then jY c
 else if x.op=0 then(fD c,0)
 else if jumps x.op then k9 c x
 else if kP x.op then({c with aG:=(fq c.aG x.op).1},(fq c.aG x.op).2)
 else rB c (dY m locals x)
theorem yh {op:Int} (h1:¬opens op) (h2:op≠5) (h3:op≠11) (h4:op≠0) (h5:¬jumps op) (h6:¬kP op):ry op=false:=by
 unfold opens at h1;unfold jumps at h5;unfold kP at h6;unfold ry
 simp only[not_or]at h1 h5 h6
 simp[h1,h2,h3,h4,h5,h6]
end Go.Proofs.YtceedealggognaaGreatDoor
