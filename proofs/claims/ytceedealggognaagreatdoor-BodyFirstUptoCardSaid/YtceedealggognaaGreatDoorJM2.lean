/- Maps keyed by int: rules for the operations on a map of the call's own, and for ranging over it. -/
import Derived.Test.YtceedealggognaaGreatDoorJR7
import Derived.Maps.Keyed
import Derived.Maps.RangeRun
import Derived.Test.YtceedealggognaaGreatDoorJIo
import Derived.Test.YtceedealggognaaGreatDoorJK2
namespace Go.Proofs.YtceedealggognaaGreatDoor
open Go.RowKit
open Go.ChangeMaps (setBlock)
open Go.MapKept (Stamped)
theorem bA.setBlock (w:World) (b:Nat) (o:Obj):bA (fun k=>k=b) w (setBlock w b o):=
 ⟨rfl,rfl,rfl,by simp[ChangeMaps.setBlock],fun k _ hs=>by simp only[ChangeMaps.setBlock];rw[Array.getElem?_setIfInBounds_ne (fun e=>hs e.symm)]⟩
section
variable {n:Nat} {E:Env} {w:World} {t:TypeId} {x y z:Operand}
end
structure aV where
 F:Nat→Prop
 P:World→Prop
 st:∀{S:Nat→Prop} {w w':World},P w→bA S w w'→(∀k,k<w.heap.size→F k→¬S k)→P w'
def Mb (M:List aV) (k:Nat):Prop:=∃q,q∈M∧q.F k
structure Ok (M:List aV) (R:List (World→Prop)) (w:World):Prop where
 m:∀q,q∈M→q.P w∧∀k,q.F k→k<w.heap.size
 d:M.Pairwise fun a b=>∀k,a.F k→¬b.F k
 r:∀p,p∈R→∀w',bA (Mb M) w w'→p w'
section
variable {M M':List aV} {R R':List (World→Prop)} {w w':World} {q q':aV} {p:World→Prop}
theorem Ok.step (h:Ok M R w) (hc:bA (Mb M) w w') (hm:∀q,q∈M'→q.P w'∧∀k,q.F k→k<w'.heap.size) (hd:M'.Pairwise fun a b=>∀k,a.F k→¬b.F k) (hs:∀k,Mb M' k→k<w.heap.size→Mb M k):Ok M' R w':=
 ⟨hm,hd,fun p hp w2 h2=>h.r p hp w2 (hc.trans' h2 fun i hi hm=>hs i hm hi)⟩
theorem Ok.ext (h:Ok M R w) (hx:Ext w w'):Ok M R w':=
 h.step hx.any (fun q hq=>⟨q.st (h.m q hq).1 hx (fun _ _ _ e=>e),fun k hk=>Nat.lt_of_lt_of_le ((h.m q hq).2 k hk) hx.size⟩) h.d (fun _ hk _=>hk)
theorem Ok.drew (h:Ok M R w):Ok M R w.drew:=h.ext ((bA.refl _ w).drew)
theorem Ok.get (h:Ok M R w) (hp:p∈R):p w:=h.r p hp w (bA.refl _ _)
theorem Ok.add (h:Ok M R w) (hp:∀w',bA (Mb M) w w'→p w'):Ok M (p::R) w:=
 ⟨h.m,h.d,fun x hx=>by exact(List.mem_cons.1 hx).elim (fun e=>e ▸ hp) (h.r x)⟩
theorem Ok.kq (h:Ok M R w) (hp:∀w',(∀r,r∈R→r w')→p w'):Ok M (p::R) w:=h.add fun w' hc=>hp w' fun r hr=>h.r r hr w' hc
theorem Ok.push (h:Ok M R w) (hx:Ext w w') (hq:q.P w') (hl:∀k,q.F k→w.heap.size≤k∧k<w'.heap.size):Ok (q::M) R w':=by
 refine h.step hx.any (fun x hx'=>?_) (List.pairwise_cons.2 ⟨fun x hx' k hk hk'=>?_,h.d⟩) (fun k hk hlt=>?_)
 ·rcases List.mem_cons.1 hx' with rfl|hx'
  ·exact⟨hq,fun k hk=>(hl k hk).2⟩
  ·exact⟨x.st (h.m x hx').1 hx (fun _ _ _ e=>e),fun k hk=>Nat.lt_of_lt_of_le ((h.m x hx').2 k hk) hx.size⟩
 ·have:=(h.m x hx').2 k hk';have:=(hl k hk).1;omega
 ·obtain⟨x,hx',hk⟩:=hk
  rcases List.mem_cons.1 hx' with rfl|hx'
  ·have:=(hl k hk).1;omega
  ·exact⟨x,hx',hk⟩
theorem Ok.sub (h:Ok M R w) (hM:M'.Sublist M) (hR:∀p,p∈R'→p∈R):Ok M' R' w:=by
 have h1:Ok M' R w:=h.step (bA.refl _ w) (fun q hq=>h.m q (hM.subset hq)) (h.d.sublist hM) (fun k ⟨q,hq,hk⟩ _=>⟨q,hM.subset hq,hk⟩)
 exact⟨h1.m,h1.d,fun p hp=>h1.r p (hR p hp)⟩
end
inductive Up (q q':aV):List aV→List aV→Prop
 |head {l:List aV}:Up q q' (q::l) (q'::l)
 |tail {a:aV} {l l':List aV}:Up q q' l l'→Up q q' (a::l) (a::l')
inductive Rm (q:aV):List aV→List aV→Prop
 |head {l:List aV}:Rm q (q::l) l
 |tail {a:aV} {l l':List aV}:Rm q l l'→Rm q (a::l) (a::l')
section
variable {M M':List aV} {R R':List (World→Prop)} {w w':World} {q q':aV} {p:World→Prop}
theorem Up.mem (h:Up q q' M M'):q∈M:=by induction h with|head=>simp|tail _ ih=>simp[ih]
theorem Ok.nL (h:Ok M R w) (hu:Up q q' M M') (hc:bA q.F w w') (hq:q'.P w') (hl:∀k,q'.F k→k<w'.heap.size∧(k<w.heap.size→q.F k)):Ok M' R w':=by
  have hqm:=h.m q hu.mem
 -- footprint kept within the old one or new
  have key:∀x:aV,(∀k,x.F k→k<w.heap.size)→(∀k,q.F k→¬x.F k)→∀k,q'.F k→¬x.F k:=fun x hx hd k hk hk'=>hd k ((hl k hk).2 (hx k hk')) hk'
  have hd2:M.Pairwise fun a b=>((∀k,a.F k→k<w.heap.size)∨a=q')∧True:=by
    exact List.pairwise_of_forall_mem_list (fun a ha b hb=>⟨.inl (h.m a ha).2,trivial⟩)
  have hpw:M'.Pairwise (fun a b=>∀k,a.F k→¬b.F k)∧∀x,x∈M'→x=q'∨(x∈M∧∀k,q.F k→¬x.F k):=by
    have:=hu
    clear hd2
    have hm:=h.m
    have hd:=h.d
    clear h hqm
    induction hu with
    |head=>
      rw[List.pairwise_cons]at hd ⊢
      refine⟨⟨fun x hx=>key x (hm x (by simp[hx])).2 (hd.1 x hx),hd.2⟩,fun x hx=>?_⟩
      rcases List.mem_cons.1 hx with rfl|hx
      · exact .inl rfl
      · exact .inr ⟨by simp[hx],hd.1 x hx⟩
    |@tail a l l' hu ih=>
      rw[List.pairwise_cons]at hd ⊢
      obtain⟨h1,h2⟩:=ih hu (fun q hq=>hm q (by simp[hq])) hd.2
      have haq:∀k,q.F k→¬a.F k:=fun k h1 h2=>hd.1 q hu.mem k h2 h1
      refine⟨⟨fun x hx=>?_,h1⟩,fun x hx=>?_⟩
      · rcases h2 x hx with rfl|⟨hx,_⟩
        · exact fun k h1 h2=>key a (hm a Hc).2 haq k h2 h1
        · exact hd.1 x hx
      · rcases List.mem_cons.1 hx with rfl|hx
        · exact .inr ⟨by simp,haq⟩
        · rcases h2 x hx with rfl|⟨hx,hr⟩
          · exact .inl rfl
          · exact .inr ⟨by simp[hx],hr⟩
  refine h.step (hc.mono fun k _ hk=>⟨q,hu.mem,hk⟩) (fun x hx=>?_) hpw.1 (fun k ⟨x,hx,hk⟩ hlt=>?_)
  · rcases hpw.2 x hx with rfl|⟨hx,hd⟩
    · exact⟨hq,fun k hk=>(hl k hk).1⟩
    · exact⟨x.st (h.m x hx).1 hc (fun k _ h1 h2=>hd k h2 h1),fun k hk=>Nat.lt_of_lt_of_le ((h.m x hx).2 k hk) hc.size⟩
  · rcases hpw.2 x hx with rfl|⟨hx,_⟩
    · exact⟨q,hu.mem,(hl k hk).2 hlt⟩
    · exact⟨x,hx,hk⟩
theorem Rm.sub (h:Rm q M M'):M'.Sublist M:=by
 induction h with
 |head=>exact List.sublist_cons_self _ _
 |tail _ ih=>exact ih.cons_cons _
theorem Rm.mem (h:Rm q M M'):q∈M:=by induction h with|head=>simp|tail _ ih=>simp[ih]
theorem Rm.DZ (h:Rm q M M') (hd:M.Pairwise fun a b=>∀k,a.F k→¬b.F k):∀x,x∈M'→∀k,q.F k→¬x.F k:=by
 induction h with
 |head=>exact(List.pairwise_cons.1 hd).1
 |tail hr ih=>
  rw[List.pairwise_cons]at hd
  intro x hx k h1 h2
  rcases List.mem_cons.1 hx with rfl|hx
  ·exact hd.1 q hr.mem k h2 h1
  ·exact ih hd.2 x hx k h1 h2
theorem Ok.freeze (h:Ok M R w) (hr:Rm q M M') (hp:∀w',q.P w'→p w'):Ok M' (p::R) w:=by
 have h1:=h.sub hr.sub (fun p hp=>hp)
 refine h1.add fun w' hc=>hp w' (q.st (h.m q hr.mem).1 hc fun k _ hk ⟨x,hx,hk'⟩=>hr.DZ h.d x hx k hk hk')
theorem Ok.jW (h:Ok M R w) (hr:Rm q M M') (hp:∀w',q.P w'→(∀r,r∈R→r w')→p w'):Ok M' (p::R) w:=by
 have h1:=h.freeze hr (p:=q.P) (fun _ h=>h)
 have h2:=h1.kq (p:=p) (fun w' hw=>hp w' (hw _ Hc) (fun r hr=>hw r (by simp[hr])))
 exact h2.sub (List.Sublist.refl _) (fun x hx=>by rcases List.mem_cons.1 hx with rfl|hx<;>simp[*])
end
def aV.aJ (b:Nat) (cs:List Value) (T:TypeId):aV:=⟨fun k=>k=b,fun w=>dZ w b cs T,fun h hc hd=>h.aD hc (hd b h.lt rfl)⟩
def aV.own (B T s:Nat) (v:Value) (n:Nat) (cs:List Value):aV:=⟨fun k=>v.ownBlock=some k,fun w=>w.ownsRow B T s v n cs,fun h hc hd=>bC h hc (fun k hk=>hd k (h.lt k hk).2 hk)⟩
def cl (b o:Nat) (v:Value):World→Prop:=fun w=>w.cell? ⟨b,o,none⟩=some v
def Cs (b o:Nat) (cs:List Value):World→Prop:=fun w=>∀j,j<cs.length→w.cell? ⟨b,o+j,none⟩=cs[j]?
inductive Ld (w:World) (b o:Nat) (v:Value):List aV→List (World→Prop)→Prop
 |aJ {cs:List Value} {T:TypeId} {M:List aV} {R:List (World→Prop)} (h:cs[o]?=some v):Ld w b o v (.aJ b cs T::M) R
 |ji {a:aV} {M:List aV} {R:List (World→Prop)}:Ld w b o v M R→Ld w b o v (a::M) R
 |cl {R:List (World→Prop)}:Ld w b o v [] (cl b o v::R)
 |cs {o':Nat} {cs:List Value} {R:List (World→Prop)} (j:Nat) (e:o'+j=o) (h:cs[j]?=some v):Ld w b o v [] (Cs b o' cs::R)
 |vP {w0:World} {R:List (World→Prop)} (h:w0.cell? ⟨b,o,none⟩=some v):Ld w b o v [] (Ext w0::R)
 |jj {p:World→Prop} {R:List (World→Prop)}:Ld w b o v [] R→Ld w b o v [] (p::R)
theorem Ld.ok {w:World} {b o:Nat} {v:Value} {M:List aV} {R:List (World→Prop)} (h:Ld w b o v M R) (hM:∀q,q∈M→q.P w) (hR:∀p,p∈R→p w):w.cell? ⟨b,o,none⟩=some v:=by
 induction h with
 |@aJ cs T M R h=>exact dZ.cell (hM (.aJ b cs T) Hc) h
 |ji _ ih=>exact ih (fun q hq=>hM q (by simp[hq])) hR
 |cl=>exact hR (Go.Proofs.YtceedealggognaaGreatDoor.cl b o v) Hc
 |@cs o' cs R j e h=>
  have:=hR (Cs b o' cs) Hc
  rw[←e,←h];exact this j (List.getElem?_eq_some_iff.1 h).1
 |@vP w0 _ h=>exact(show Ext w0 w from hR (Ext w0) Hc).cell h
 |jj _ ih=>exact ih hM (fun q hq=>hR q (by simp[hq]))
inductive dR (v:Value):List Value→Nat→List Value→Prop
 |zero {a:Value} {l:List Value}:dR v (a::l) 0 (v::l)
 |succ {a:Value} {l l':List Value} {j:Nat}:dR v l j l'→dR v (a::l) (j+1) (a::l')
theorem dR.eq {v:Value} {l l':List Value} {j:Nat} (h:dR v l j l'):l.set j v=l'∧j<l.length:=by
 induction h with
 |zero=>simp
 |succ _ ih=>simp[ih.1,ih.2]
structure aa (ops:Array Oper) (Q:Exit→Act→World→Prop) (n:Nat) (l:List Oper) (E:Env) (M:List aV) (R:List (World→Prop)):Prop where
 h:∀w,Ok M R w→ah G ops (.list Q w) n l E
structure aQ (Q:Exit→Act→World→Prop) (n:Nat) (c:Code) (E:Env) (M:List aV) (R:List (World→Prop)):Prop where
 h:∀w,Ok M R w→Cd G Q n c E w
structure ai (Q:Exit→Act→World→Prop) (n:Nat) (e:Exit) (E:Env) (M:List aV) (R:List (World→Prop)):Prop where
 h:∀w,Ok M R w→Fin Q n e E w
theorem Yl.mono {n:Nat} {op:Op} {E:Env} {C C':World→Prop} {v:Value} (h:Yl G n op E C v) (hc:∀w,C' w→C w):Yl G n op E C' v:=⟨fun w hw=>h.h w (hc w hw)⟩
section
variable {ops:Array Oper} {Q:Exit→Act→World→Prop} {n:Nat} {E:Env} {M M':List aV} {R R':List (World→Prop)} {rest l:List Oper} {op:Op} {d:Nat} {ty:TypeId} {pos:String} {aft:Array Edge} {v:Value} {x y z:Operand} {t:TypeId}
theorem aQ.seq {x y:Code} (h:aQ (Exit.then (y.wp G.P Q) Q) n x E M R):aQ Q n (.seq x y) E M R:=⟨fun w hw=>Cd.seq (h.h w hw)⟩
theorem aQ.block {id:Nat} {c:Code} (h:aQ (Exit.inBlock id Q) n c E M R):aQ Q n (.block id c) E M R:=⟨fun w hw=>Cd.block (h.h w hw)⟩
theorem aQ.skip (h:ai Q n .normal E M R):aQ Q n .skip E M R:=⟨fun w hw=>Cd.skip (h.h w hw)⟩
theorem aQ.exit {id:Nat} (h:ai Q n (.exit id) E M R):aQ Q n (.exit id) E M R:=⟨fun w hw=>Cd.exit (h.h w hw)⟩
theorem aQ.ret (h:ai Q n .ret E M R):aQ Q n .ret E M R:=⟨fun w hw=>Cd.ret (h.h w hw)⟩
theorem aQ.region {id:Nat} {l:List Oper} (h:aa l.toArray Q n l E M R):aQ Q n (.region id l.toArray false) E M R:=⟨fun w hw=>Cd.region (h.h w hw)⟩
theorem aQ.fC {c:Operand} {x y:Code} (hc:ev E c=some (.bool true)) (h:aQ Q n x E M R):aQ Q n (.cond c x y) E M R:=⟨fun w hw=>Cd.fC hc (h.h w hw)⟩
theorem aQ.fB {c:Operand} {x y:Code} (hc:ev E c=some (.bool false)) (h:aQ Q n y E M R):aQ Q n (.cond c x y) E M R:=⟨fun w hw=>Cd.fB hc (h.h w hw)⟩
theorem aQ.AV {b:Bool} {c:Operand} {x y:Code} (hc:ev E c=some (.bool b)) (hx:b=true→aQ Q n x E M R) (hy:b=false→aQ Q n y E M R):aQ Q n (.cond c x y) E M R:=by
 cases b with
 |true=>exact aQ.fC hc (hx rfl)
 |false=>exact aQ.fB hc (hy rfl)
theorem ai.iG {y:Code} (h:aQ Q n y E M R):ai (Exit.then (y.wp G.P Q) Q) n .normal E M R:=⟨fun w hw=>Fin.iG (h.h w hw)⟩
theorem ai.iH {K:Act→World→Prop} (h:ai Q n .ret E M R):ai (Exit.then K Q) n .ret E M R:=⟨fun w hw=>Fin.iH (h.h w hw)⟩
theorem ai.iI {K:Act→World→Prop} {id:Nat} (h:ai Q n (.exit id) E M R):ai (Exit.then K Q) n (.exit id) E M R:=⟨fun w hw=>Fin.iI (h.h w hw)⟩
theorem ai.lT {id:Nat} (h:ai Q n .normal E M R):ai (Exit.inBlock id Q) n .normal E M R:=⟨fun w hw=>Fin.lT (h.h w hw)⟩
theorem ai.lU {id:Nat} (h:ai Q n .ret E M R):ai (Exit.inBlock id Q) n .ret E M R:=⟨fun w hw=>Fin.lU (h.h w hw)⟩
theorem ai.lV {id:Nat} (h:ai Q n .normal E M R):ai (Exit.inBlock id Q) n (.exit id) E M R:=⟨fun w hw=>Fin.lV (h.h w hw)⟩
theorem ai.rE {id id':Nat} (hne:Nat.beq id' id=false) (h:ai Q n (.exit id') E M R):ai (Exit.inBlock id Q) n (.exit id') E M R:=⟨fun w hw=>Fin.rE hne (h.h w hw)⟩
theorem aa.nil (h:ai Q n .normal E M R):aa ops Q n [] E M R:=⟨fun w hw=>ah.nil (h.h w hw)⟩
theorem aa.y_ (hy:Yl G n op E (Ok M R) v) (hd:(mn op && Nat.blt d n)=true) (h:aa ops Q n rest ((d,v)::E) M R):aa ops Q n (⟨some d,op,ty,pos,aft,none⟩::rest) E M R:=
 ⟨fun w hw=>ah.y (M:=.list Q w) (hy.mono (by rintro _ rfl;exact hw)) hd (h.h w hw)⟩
theorem aa.yg {j:Nat} {b:Bool} (hg:mm ops E j=some b) (hy:Yl G n op E (Ok M R) v) (hd:(mn op && Nat.blt d n)=true) (h:aa ops Q n rest ((d,v)::E) M R):aa ops Q n (⟨some d,op,ty,pos,aft,some (j,b)⟩::rest) E M R:=
 ⟨fun w hw=>ah.yg (M:=.list Q w) hg (hy.mono (by rintro _ rfl;exact hw)) hd (h.h w hw)⟩
theorem aa.gs {j:Nat} {b b':Bool} (hg:mm ops E j=some b') (hb:b'=!b) (hd:Nat.blt d n=true) (h:aa ops Q n rest ((d,undef)::E) M R):aa ops Q n (⟨some d,op,ty,pos,aft,some (j,b)⟩::rest) E M R:=⟨fun w hw=>ah.gs hg hb hd (h.h w hw)⟩
theorem aa.gu {j:Nat} {b:Bool} (hg:C3 ops E j=true) (hd:Nat.blt d n=true) (h:aa ops Q n rest ((d,undef)::E) M R):aa ops Q n (⟨some d,op,ty,pos,aft,some (j,b)⟩::rest) E M R:=⟨fun w hw=>ah.gu hg hd (h.h w hw)⟩
theorem aa.e {K:World→Value→World→Prop} (he:∀w,Ok M R w→bB G n op E w (K w)) (hd:Nat.blt d n=true) (h:∀w v w',Ok M R w→K w v w'→ah G ops (.list Q w') n rest ((d,v)::E)):aa ops Q n (⟨some d,op,ty,pos,aft,none⟩::rest) E M R:=⟨fun w hw=>ah.e (he w hw) hd fun v w' hk=>h w v w' hw hk⟩
theorem aa.e0 {K:World→Value→World→Prop} (he:∀w,Ok M R w→bB G n op E w (K w)) (h:∀w v w',Ok M R w→K w v w'→ah G ops (.list Q w') n rest E):aa ops Q n (⟨none,op,ty,pos,aft,none⟩::rest) E M R:=⟨fun w hw=>ah.e0 (he w hw) fun v w' hk=>h w v w' hw hk⟩
theorem aa.kq (p:World→Prop) (hp:∀w',(∀r,r∈R→r w')→p w') (h:aa ops Q n l E M (p::R)):aa ops Q n l E M R:=⟨fun w hw=>h.h w (hw.kq hp)⟩
theorem aQ.kq {c:Code} (p:World→Prop) (hp:∀w',(∀r,r∈R→r w')→p w') (h:aQ Q n c E M (p::R)):aQ Q n c E M R:=⟨fun w hw=>h.h w (hw.kq hp)⟩
theorem aa.sub {E':Env} (hE:Sub E E') (hM:M'.Sublist M) (hR:∀p,p∈R'→p∈R) (h:aa ops Q n l E' M' R'):aa ops Q n l E M R:=⟨fun w hw=>ah.sub hE (h.h w (hw.sub hM hR))⟩
structure HE {β:Type} (n:Nat) (op:Op) (E:Env) (M:List aV) (R:List (World→Prop)) (φ:β→Prop) (vf:β→Value) (Mf:β→List aV) (Rf:β→List (World→Prop)):Prop where
 h:∀w,Ok M R w→bB G n op E w (fun v w'=>∃x,φ x∧v=vf x∧Ok (Mf x) (Rf x) w')
structure gj {β:Type} (n:Nat) (op:Op) (E:Env) (M:List aV) (R:List (World→Prop)) (φ:β→Prop) (Mf:β→List aV) (Rf:β→List (World→Prop)):Prop where
 h:∀w,Ok M R w→bB G n op E w (fun _ w'=>∃x,φ x∧Ok (Mf x) (Rf x) w')
section
variable {β:Type} {φ:β→Prop} {vf:β→Value} {Mf:β→List aV} {Rf:β→List (World→Prop)}
theorem aa.he (he:HE n op E M R φ vf Mf Rf) (hd:Nat.blt d n=true) (h:∀x,φ x→aa ops Q n rest ((d,vf x)::E) (Mf x) (Rf x)):aa ops Q n (⟨some d,op,ty,pos,aft,none⟩::rest) E M R:=
 aa.e (fun w hw=>he.h w hw) hd fun w v w' hw ⟨x,h1,h2,h3⟩=>by subst h2;exact(h x h1).h w' h3
theorem aa.m6 (he:gj n op E M R φ Mf Rf) (h:∀x,φ x→aa ops Q n rest E (Mf x) (Rf x)):aa ops Q n (⟨none,op,ty,pos,aft,none⟩::rest) E M R:=
 aa.e0 (fun w hw=>he.h w hw) fun _w _v w' _hw ⟨x,h1,h3⟩=>(h x h1).h w' h3
theorem aa.Dq {j:Nat} {b:Bool} (hg:mm ops E j=some b) (he:HE n op E M R φ vf Mf Rf) (hd:Nat.blt d n=true) (h:∀x,φ x→aa ops Q n rest ((d,vf x)::E) (Mf x) (Rf x)):aa ops Q n (⟨some d,op,ty,pos,aft,some (j,b)⟩::rest) E M R:=
 ⟨fun w hw=>ah.eg hg (he.h w hw) hd fun v w' ⟨x,h1,h2,h3⟩=>by subst h2;exact(h x h1).h w' h3⟩
end
theorem rF {w w':World} {cs:List Value} {T:TypeId} (hn:uv w w' cs T):∀k,(aV.aJ w.heap.size cs T).F k→w.heap.size≤k∧k<w'.heap.size:=fun k hk=>by
 have:k=w.heap.size:=hk
 have:=hn.size;omega
theorem HE.alloc {ti:TI} (cs:List Value) (ht:G.ty t=some ti) (hz:ti.zero.cells.toList=cs):HE n (.alloc t) E M R (fun _:Nat=>True) (fun b=>.pointer (some ⟨b,0,none⟩)) (fun b=>.aJ b cs t::M) (fun _=>R):=
 ⟨fun w hw=>(bB.alloc ht).mono fun v w' ⟨e,hn⟩=>by rw[hz]at hn;exact⟨w.heap.size,trivial,e,hw.push hn.ext hn.aJ (rF hn)⟩⟩
theorem HE.box (cs:List Value) (hx:ev E x=some v) (hcs:v.cells=cs.toArray):HE n (.box t x) E M R (fun _:Nat=>True) (fun b=>.pointer (some ⟨b,0,none⟩)) (fun b=>.aJ b cs t::M) (fun _=>R):=
 ⟨fun w hw=>(bB.box hx hcs).mono fun _v _w' ⟨e,hn⟩=>⟨w.heap.size,trivial,e,hw.push hn.ext hn.aJ (rF hn)⟩⟩
theorem HE.Bu {e len:Nat} {parts:List (Nat×Operand)} {vs:List Value} (cs:List Value) (hv:ju E (parts.map (·.2))=some vs)
  (hr:∀w,(Instr.buildSlice t len ((parts.map (·.1)).zip vs).toArray).run G.P w=.ok (.slice (some ⟨w.heap.size,0,none⟩) len len) (w.alloc (.cells cs.toArray e))):
  HE n (.buildSlice t len parts.toArray) E M R (fun _:Nat=>True) (fun b=>.slice (some ⟨b,0,none⟩) len len) (fun b=>.aJ b cs e::M) (fun _=>R):=
 ⟨fun w hw=>(bB.buildSlice hv (hr w)).mono fun _v _w' ⟨e1,hn⟩=>⟨w.heap.size,trivial,e1,hw.push hn.ext hn.aJ (rF hn)⟩⟩
theorem aa.alloc {ti:TI} (cs:List Value) (ht:G.ty t=some ti) (hz:ti.zero.cells.toList=cs) (hd:Nat.blt d n=true) (h:∀b,aa ops Q n rest ((d,.pointer (some ⟨b,0,none⟩))::E) (.aJ b cs t::M) R):aa ops Q n (⟨some d,.alloc t,ty,pos,aft,none⟩::rest) E M R:=
 aa.he (HE.alloc cs ht hz) hd fun b _=>h b
theorem aa.box (cs:List Value) (hx:ev E x=some v) (hcs:v.cells=cs.toArray) (hd:Nat.blt d n=true) (h:∀b,aa ops Q n rest ((d,.pointer (some ⟨b,0,none⟩))::E) (.aJ b cs t::M) R):aa ops Q n (⟨some d,.box t x,ty,pos,aft,none⟩::rest) E M R:=
 aa.he (HE.box cs hx hcs) hd fun b _=>h b
theorem rG {w w':World} {b T:Nat} {old cs:List Value} (hw:Ok M R w) (hM:Up (.aJ b old T) (.aJ b cs T) M M') (hb:dZ w' b cs T) (hc:bA (fun k=>k=b) w w'):Ok M' R w':=
 hw.nL hM hc hb (fun k hk=>by
  have:k=b:=hk
  have:=(hw.m _ hM.mem).2 b rfl
  have:=hc.size
  exact⟨by omega,fun _=>hk⟩)
theorem gj.aM {ti:TI} {b T:Nat} {old:List Value} (cs:List Value) (ht:G.ty t=some ti) (hx:ev E x=some (.pointer (some ⟨b,0,none⟩))) (hy:ev E y=some v) (hcs:v.cells=cs.toArray) (hs:ti.size=cs.length) (hv:(cs.all fun u=>u.oneCell')=true)
  (hM:Up (.aJ b old T) (.aJ b cs T) M M') (hl:Nat.beq old.length cs.length=true):gj n (.store t x y) E M R (fun _:Unit=>True) (fun _=>M') (fun _=>R):=
 ⟨fun _w hw=>(bB.aM ht hx hy hcs hs (fun u hu=>List.all_eq_true.1 hv u hu) (hw.m _ hM.mem).1 (Nat.eq_of_beq_eq_true hl)).mono fun _ _w' ⟨hb,hc,_⟩=>⟨(),trivial,rG hw hM hb hc⟩⟩
theorem aa.aM {ti:TI} {b T:Nat} {old:List Value} (cs:List Value) (ht:G.ty t=some ti) (hx:ev E x=some (.pointer (some ⟨b,0,none⟩))) (hy:ev E y=some v) (hcs:v.cells=cs.toArray) (hs:ti.size=cs.length) (hv:(cs.all fun u=>u.oneCell')=true)
  (hM:Up (.aJ b old T) (.aJ b cs T) M M') (hl:Nat.beq old.length cs.length=true) (h:aa ops Q n rest E M' R):aa ops Q n (⟨none,.store t x y,ty,pos,aft,none⟩::rest) E M R:=
 aa.m6 (gj.aM cs ht hx hy hcs hs hv hM hl) fun _ _=>h
theorem gj.er {ti:TI} {b j T:Nat} {old cs:List Value} (ht:G.ty t=some ti) (hs:ti.size=1) (hx:ev E x=some (.pointer (some ⟨b,j,none⟩))) (hy:ev E y=some v) (hv:v.oneCell'=true)
  (hM:Up (.aJ b old T) (.aJ b cs T) M M') (hcs:dR v old j cs):gj n (.store t x y) E M R (fun _:Unit=>True) (fun _=>M') (fun _=>R):=
 ⟨fun w hw=>(bB.vt ht hs hx hy hv (hw.m _ hM.mem).1 hcs.eq.2).mono fun _ w' ⟨hb,hc,_⟩=>by
  rw[hcs.eq.1]at hb;exact⟨(),trivial,rG hw hM hb hc⟩⟩
theorem aa.er {ti:TI} {b j T:Nat} {old cs:List Value} (ht:G.ty t=some ti) (hs:ti.size=1) (hx:ev E x=some (.pointer (some ⟨b,j,none⟩))) (hy:ev E y=some v) (hv:v.oneCell'=true)
  (hM:Up (.aJ b old T) (.aJ b cs T) M M') (hcs:dR v old j cs) (h:aa ops Q n rest E M' R):aa ops Q n (⟨none,.store t x y,ty,pos,aft,none⟩::rest) E M R:=
 aa.m6 (gj.er ht hs hx hy hv hM hcs) fun _ _=>h
theorem HE.app {Mf:Value→List aV} {ti te:TI} {B T s m bk Tb:Nat} {xs cs:List Value} (hx:ev E x=some v) (hy:ev E y=some (.slice (some ⟨bk,0,none⟩) 1 1)) (hM:∀v',Up (.own B T s v m xs) (.own B T s v' (m+1) (xs++cs)) M (Mf v')) (hb:Up (.aJ bk cs Tb) (.aJ bk cs Tb) M M')
  (ht:G.ty t=some ti) (he:ti.elem=some T) (hte:G.ty T=some te) (hs:te.size=s) (hzs:Nat.beq te.zero.cells.size te.size=true) (hsz:Nat.blt 0 te.size=true) (hbt:Nat.ble te.bytes 1000=true) (hcl:Nat.beq cs.length s=true) (h1:(cs.all fun u=>u.oneCell')=true) (hlen:m≤100000000000) (hB:∀w,Ok M R w→B≤w.heap.size):
  HE n (.call ⟨.builtin .append,#[x,y],#[t,t]⟩) E M R (fun _:Value=>True) (fun v'=>v') Mf (fun _=>R):=
 ⟨fun w hw=>by
  subst hs
  have hm:=(hw.m _ (hM undef).mem)
  have hbk:dZ w bk cs Tb:=(hw.m _ hb.mem).1
  have hcl':=Nat.eq_of_beq_eq_true hcl
  have hbt':=Nat.le_of_ble_eq_true hbt
  refine(bB.ou (G:=G) (news:=cs) ht he hte (Nat.eq_of_beq_eq_true hzs) (by simpa using hsz) hx hm.1 hy (by rw[hcl'];omega) (fun j u hj=>by rw[Nat.zero_add];exact hbk.cell hj) (fun u hu=>List.all_eq_true.1 h1 u hu) G0 (by have:=Nat.mul_le_mul (show m+1≤100000000001 by omega) hbt';omega) (hB w hw)).mono
   fun v' w' ⟨ho,hc,hob⟩=>⟨v',trivial,rfl,hw.nL (hM v') hc ho fun k hk=>⟨(ho.lt k hk).2,fun hlt=>?_⟩⟩
  rcases hob with e|e
  ·show v.ownBlock=some k
   rw[←e];exact hk
  ·have hk':v'.ownBlock=some k:=hk
   rw[e]at hk';cases hk';omega⟩
theorem Yl.jC {ti:TI} {b o:Nat} (ht:G.ty t=some ti) (ha:ti.agg=false) (hx:ev E x=some (.pointer (some ⟨b,o,none⟩))) (h:∀w,Ld w b o v M R):Yl G n (.load t x) E (Ok M R) v:=
 Yl.load ht ha hx fun w hw=>(h w).ok (fun q hq=>(hw.m q hq).1) (fun _p hp=>hw.get hp)
theorem Yl.jA {ti:TI} {b T:Nat} {cs:List Value} (ht:G.ty t=some ti) (ha:ti.agg=true) (hx:ev E x=some (.pointer (some ⟨b,0,none⟩))) (hs:Nat.beq cs.length ti.size=true) (hM:Up (.aJ b cs T) (.aJ b cs T) M M'):Yl G n (.load t x) E (Ok M R) (.agg cs.toArray):=
 Yl.nE ht ha rfl hx (Nat.eq_of_beq_eq_true hs) fun w hw j hj=>by
  have hb:dZ w b cs T:=(hw.m _ hM.mem).1
  have hl:j<cs.length:=by rw[Nat.eq_of_beq_eq_true hs];exact hj
  rw[Nat.zero_add,List.getElem?_eq_getElem hl]
  exact hb.cell (List.getElem?_eq_getElem hl)
theorem Yl.jB {ti:TI} {b o:Nat} {cs:List Value} (ht:G.ty t=some ti) (ha:ti.agg=true) (hx:ev E x=some (.pointer (some ⟨b,o,none⟩))) (hR:Cs b o cs∈R) (hs:Nat.beq cs.length ti.size=true):Yl G n (.load t x) E (Ok M R) (.agg cs.toArray):=
 Yl.nE ht ha rfl hx (Nat.eq_of_beq_eq_true hs) fun w hw j hj=>hw.get hR j (by rw[Nat.eq_of_beq_eq_true hs];exact hj)
theorem Yl.fY {ti:TI} {b o s:Nat} {cs:List Value} {w0:World} (ht:G.ty t=some ti) (ha:ti.agg=true) (hx:ev E x=some (.pointer (some ⟨b,o,none⟩))) (hR:Ext w0∈R) (hs:ti.size=s) (hl:cs.length=s) (hc:∀j,j<s→w0.cell? ⟨b,o+j,none⟩=cs[j]?):Yl G n (.load t x) E (Ok M R) (.agg cs.toArray):=
 Yl.nE ht ha hs hx hl fun w hw j hj=>by
  have h1:=hc j hj
  rw[List.getElem?_eq_getElem Hb]at h1 ⊢
  exact(show Ext w0 w from hw.get hR).cell h1
theorem aa.az {f:Nat} {args:List Operand} {tys:Array TypeId} {vs:List Value} (hf:G.fb[f]?=some true) (ha:ju E args=some vs) (hd:Nat.blt d n=true)
  (hc:∀w,Ok M R w→Calls G.P f vs.toArray w (fun e w'=>e=.returned v∧Ext w w'))
  (h:aa ops Q n rest ((d,v)::E) M R):aa ops Q n (⟨some d,.call ⟨.value (.func f),args.toArray,tys⟩,ty,pos,aft,none⟩::rest) E M R:=
 ⟨fun w hw=>ah.call hf ha hd (hc w hw) fun _e w' ⟨e1,hx⟩=>⟨v,e1,h.h w' (hw.ext hx)⟩⟩
theorem aa.dV {f j:Nat} {b:Bool} {args:List Operand} {tys:Array TypeId} {vs:List Value} (hg:mm ops E j=some b) (hf:G.fb[f]?=some true) (ha:ju E args=some vs) (hd:Nat.blt d n=true)
  (hc:∀w,Ok M R w→Calls G.P f vs.toArray w (fun e w'=>e=.returned v∧Ext w w'))
  (h:aa ops Q n rest ((d,v)::E) M R):aa ops Q n (⟨some d,.call ⟨.value (.func f),args.toArray,tys⟩,ty,pos,aft,some (j,b)⟩::rest) E M R:=
 ⟨fun w hw=>ah.tj hg hf ha hd (hc w hw) fun _e w' ⟨e1,hx⟩=>⟨v,e1,h.h w' (hw.ext hx)⟩⟩
def AQ {β:Type} (V:Nat→World→β→Prop):Prop:=∀{lo:Nat} {x:β} {S:Nat→Prop} {w w':World},V lo w x→bA S w w'→(∀k,k<w.heap.size→lo≤k→¬S k)→V lo w' x
theorem HE.Cx {β:Type} {V:Nat→World→β→Prop} (tf:β→Value) {f:Nat} {args:List Operand} {tys:Array TypeId} {vs:List Value} (hV:AQ V) (hf:G.fb[f]?=some true) (ha:ju E args=some vs)
  (hc:∀w,Ok M R w→Calls G.P f vs.toArray w (fun e w'=>(∃x,e=.returned (tf x)∧V w.heap.size w' x)∧Ext w w')):
  HE n (.call ⟨.value (.func f),args.toArray,tys⟩) E M R (fun x:Nat×β=>∃w,Ok M R w∧x.1=w.heap.size) (fun x=>tf x.2) (fun _=>M) (fun x=>(fun w=>V x.1 w x.2)::R):=
 ⟨fun w hw=>(bB.call hf ha (hc w hw) (fun e w' h=>by obtain⟨⟨x,e1,_⟩,_⟩:=h;exact⟨_,e1⟩)).mono fun v w' ⟨⟨x,e1,hv⟩,hx⟩=>by
  cases e1
  refine⟨(w.heap.size,x),⟨w,hw,rfl⟩,rfl,(hw.ext hx).add fun w2 h2=>hV hv h2 fun k _ hk ⟨q,hq,hk'⟩=>?_⟩
  have:=(hw.m q hq).2 k hk';omega⟩
theorem HE.call {β:Type} {φ:β→Prop} {Mf:β→List aV} {Rf:β→List (World→Prop)} (tf:β→Value) {f:Nat} {args:List Operand} {tys:Array TypeId} {vs:List Value} (hf:G.fb[f]?=some true) (ha:ju E args=some vs)
  (hc:∀w,Ok M R w→Calls G.P f vs.toArray w (fun e w'=>∃x,e=.returned (tf x)∧φ x∧Ok (Mf x) (Rf x) w')):HE n (.call ⟨.value (.func f),args.toArray,tys⟩) E M R φ tf Mf Rf:=
 ⟨fun w hw=>(bB.call hf ha (hc w hw) (fun e w' h=>by obtain⟨x,e1,_⟩:=h;exact⟨_,e1⟩)).mono fun v w' ⟨x,e1,h1,h2⟩=>by cases e1;exact⟨x,h1,rfl,h2⟩⟩
theorem aa.pure {φ:Prop} (hp:∀w,Ok M R w→φ) (h:φ→aa ops Q n l E M R):aa ops Q n l E M R:=⟨fun w hw=>(h (hp w hw)).h w hw⟩
theorem aQ.pure {φ:Prop} {c:Code} (hp:∀w,Ok M R w→φ) (h:φ→aQ Q n c E M R):aQ Q n c E M R:=⟨fun w hw=>(h (hp w hw)).h w hw⟩
theorem aa.freeze {q:aV} (p:World→Prop) (hr:Rm q M M') (hp:∀w',q.P w'→(∀r,r∈R→r w')→p w') (h:aa ops Q n l E M' (p::R)):aa ops Q n l E M R:=⟨fun w hw=>h.h w (hw.jW hr hp)⟩
theorem aQ.freeze {q:aV} {c:Code} (p:World→Prop) (hr:Rm q M M') (hp:∀w',q.P w'→(∀r,r∈R→r w')→p w') (h:aQ Q n c E M' (p::R)):aQ Q n c E M R:=⟨fun w hw=>h.h w (hw.jW hr hp)⟩
/-! a region that draws its order and holds effects, the last one of which waits for all others -/
structure aN (ops:Array Oper) (Q:Exit→Act→World→Prop) (Mc:List aV) (Rc:List (World→Prop)) (n:Nat) (l:List Oper) (E:Env) (M:List aV) (R:List (World→Prop)):Prop where
 h:∀w,Ok M R w→ah G ops (.mix true Q (Ok Mc Rc) w) n l E
theorem aQ.cA {id:Nat} {l:List Oper} (ord:List Nat) (z:Nat) (Mc:List aV) (Rc:List (World→Prop)) (hB:vT l ord z=true) (hM:Mc.Sublist M) (hR:∀p,p∈Rc→p∈R) (h:aN l.toArray Q Mc Rc n (pick l (ord++[z])) E M R):aQ Q n (.region id l.toArray true) E M R:=
 ⟨fun w hw=>Cd.cA ord z (Ok Mc Rc) hB (hw.drew.sub hM hR) (h.h w.drew hw.drew)⟩
section
variable {Mc:List aV} {Rc:List (World→Prop)} {β:Type} {φ:β→Prop} {vf:β→Value} {Mf:β→List aV} {Rf:β→List (World→Prop)}
theorem aN.y_ (hy:Yl G n op E (Ok Mc Rc) v) (hd:(mn op && Nat.blt d n)=true) (h:aN ops Q Mc Rc n rest ((d,v)::E) M R):aN ops Q Mc Rc n (⟨some d,op,ty,pos,aft,none⟩::rest) E M R:=
 ⟨fun w hw=>ah.y (M:=.mix true Q (Ok Mc Rc) w) hy hd (h.h w hw)⟩
theorem aN.he (he:HE n op E M R φ vf Mf Rf) (hd:(!mn op && Nat.blt d n)=true) (hM:∀x,Mc.Sublist (Mf x)) (hR:∀x p,p∈Rc→p∈Rf x) (h:∀x,φ x→aN ops Q Mc Rc n rest ((d,vf x)::E) (Mf x) (Rf x)):aN ops Q Mc Rc n (⟨some d,op,ty,pos,aft,none⟩::rest) E M R:=
 ⟨fun w hw=>ah.m (he.h w hw) hd fun v w' ⟨x,h1,h2,h3⟩=>by subst h2;exact⟨h3.sub (hM x) (hR x),(h x h1).h w' h3⟩⟩
theorem aN.C4 (he:HE n op E M R φ vf Mf Rf) (hd:(!mn op && Nat.blt d n)=true) (h:∀x,φ x→ai Q n .normal ((d,vf x)::E) (Mf x) (Rf x)):aN ops Q Mc Rc n [⟨some d,op,ty,pos,aft,none⟩] E M R:=
 ⟨fun w hw=>ah.mz (he.h w hw) hd fun v w' ⟨x,h1,h2,h3⟩=>by subst h2;exact ah.xq ((h x h1).h w' h3)⟩
theorem aN.hG (he:gj n op E M R φ Mf Rf) (hd:mn op=false) (h:∀x,φ x→ai Q n .normal E (Mf x) (Rf x)):aN ops Q Mc Rc n [⟨none,op,ty,pos,aft,none⟩] E M R:=
 ⟨fun w hw=>ah.EV (he.h w hw) hd fun _v w' ⟨x,h1,h3⟩=>ah.xq ((h x h1).h w' h3)⟩
variable {gd:Option (Nat×Bool)} {dd:Option Nat} {t2:TypeId}
theorem aN.an {bo:BinOp} (h:aN ops Q Mc Rc n (⟨dd,.binOp bo t x y t2,ty,pos,aft,gd⟩::rest) E M R):aN ops Q Mc Rc n (⟨dd,.binOp bo t x y t2,ty,pos,aft,gd⟩::rest) E M R:=h
theorem aN.isField {f:Nat} (h:aN ops Q Mc Rc n (⟨dd,.fieldAddr t x f,ty,pos,aft,gd⟩::rest) E M R):aN ops Q Mc Rc n (⟨dd,.fieldAddr t x f,ty,pos,aft,gd⟩::rest) E M R:=h
theorem aN.bX (h:aN ops Q Mc Rc n (⟨dd,.load t x,ty,pos,aft,gd⟩::rest) E M R):aN ops Q Mc Rc n (⟨dd,.load t x,ty,pos,aft,gd⟩::rest) E M R:=h
end
theorem aQ.ef {id:Nat} {l:List Oper} (hB:Region.lexB .any l.toArray=true) (h:ah G l.toArray (.quiet (fun a'=>∀w',Ok M R w'→Q .normal a' w') (Ok M R)) n l E):aQ Q n (.region id l.toArray true) E M R:=
 ⟨fun _w hw=>Cd.AB (Ok M R) hB hw.drew h⟩
theorem aQ.kS {id:Nat} {l:List Oper} (_:(l.all fun o=>mn o.op)=true) (hB:Region.lexB .any l.toArray=true) (h:ah G l.toArray (.quiet (fun a'=>∀w',Ok M R w'→Q .normal a' w') (Ok M R)) n l E):aQ Q n (.region id l.toArray true) E M R:=aQ.ef hB h
theorem ah.DG (h:ai Q n .normal E M R):ah G ops (.quiet (fun a'=>∀w',Ok M R w'→Q .normal a' w') (Ok M R)) n [] E:=⟨fun a ha w' hw=>(h.h w' hw).h a ha⟩
theorem ah.AS {K:Act→Prop} {f:Nat} {args:List Operand} {tys:Array TypeId} {vs:List Value} (hf:G.fb[f]?=some true) (ha:ju E args=some vs) (hd:Nat.blt d n=true) (hc:∀w,Ok M R w→Calls G.P f vs.toArray w (fun e w'=>e=.returned v∧Ext w w'))
  (h:ah G ops (.quiet K (Ok M R)) n rest ((d,v)::E)):ah G ops (.quiet K (Ok M R)) n (⟨some d,.call ⟨.value (.func f),args.toArray,tys⟩,ty,pos,aft,none⟩::rest) E:=
 ah.Cy hf ha hd (fun w hw=>(hc w hw).mono fun _e _w' ⟨e1,hx⟩=>⟨e1,hw.ext hx⟩) h
theorem ah.ng {K:Act→Prop} {f j:Nat} {b:Bool} {args:List Operand} {tys:Array TypeId} {vs:List Value} (hg:mm ops E j=some b) (hf:G.fb[f]?=some true) (ha:ju E args=some vs) (hd:Nat.blt d n=true) (hc:∀w,Ok M R w→Calls G.P f vs.toArray w (fun e w'=>e=.returned v∧Ext w w'))
  (h:ah G ops (.quiet K (Ok M R)) n rest ((d,v)::E)):ah G ops (.quiet K (Ok M R)) n (⟨some d,.call ⟨.value (.func f),args.toArray,tys⟩,ty,pos,aft,some (j,b)⟩::rest) E:=
 ah.Bv hg hf ha hd (fun w hw=>(hc w hw).mono fun _e _w' ⟨e1,hx⟩=>⟨e1,hw.ext hx⟩) h
def vF {σ:Type} (n:Nat) (Ei:σ→Env) (Mi:σ→List aV) (Ri:σ→List (World→Prop)) (I:σ→Prop) (μ:σ→Nat) (s:σ):Act→World→Prop:=
 oD n Ei (fun s w=>I s∧Ok (Mi s) (Ri s) w) μ s
theorem aQ.loop {σ:Type} {c:Code} (Ei:σ→Env) (Mi:σ→List aV) (Ri:σ→List (World→Prop)) (I:σ→Prop) (μ:σ→Nat) (s0:σ) (hE:Sub E (Ei s0)) (hM:(Mi s0).Sublist M) (hR:∀p,p∈Ri s0→p∈R) (hI:I s0)
  (round:∀s,I s→aQ (Exit.then (vF n Ei Mi Ri I μ s) Q) n c (Ei s) (Mi s) (Ri s)):aQ Q n (.loop c) E M R:=
 ⟨fun _w hw=>Cd.loop Ei (fun s w=>I s∧Ok (Mi s) (Ri s) w) μ s0 hE ⟨hI,hw.sub hM hR⟩ fun s w ⟨h1,h2⟩=>(round s h1).h w h2⟩
theorem ai.next {σ:Type} {Ei:σ→Env} {Mi:σ→List aV} {Ri:σ→List (World→Prop)} {I:σ→Prop} {μ:σ→Nat} {s:σ} (s':σ) (hE:Sub E (Ei s')) (hM:(Mi s').Sublist M) (hR:∀p,p∈Ri s'→p∈R) (hI:I s') (hμ:μ s'<μ s):
  ai (Exit.then (vF n Ei Mi Ri I μ s) Q) n .normal E M R:=⟨fun _w hw=>Fin.next s' hE ⟨hI,hw.sub hM hR⟩ hμ⟩
end
section
variable {fn:Func} {Rp:Ending→World→Prop} {n:Nat} {E:Env} {M M':List aV} {R:List (World→Prop)} {v x:Value} {t u:Nat}
theorem ai.zm (hr:fn.results=#[]) (hR:∀w,Ok M R w→Rp (.returned (.tuple #[])) w):ai (bodyPost G.P fn Rp) n .ret E M R:=⟨fun w hw=>Fin.zm hr (hR w hw)⟩
theorem ai.kJ (hr:fn.results=#[]) (hR:∀w,Ok M R w→Rp (.returned (.tuple #[])) w):ai (bodyPost G.P fn Rp) n .normal E M R:=⟨fun w hw=>Fin.kJ hr (hR w hw)⟩
theorem ai.aA (hr:fn.results=#[.tmp t]) (hv:lk E t=some v) (hR:∀w,Ok M R w→Rp (.returned v) w):ai (bodyPost G.P fn Rp) n .ret E M R:=⟨fun w hw=>Fin.aA hr hv (hR w hw)⟩
theorem ai.iD (hr:fn.results=#[.tmp t,.tmp u]) (hv:lk E t=some v) (hx:lk E u=some x) (hR:∀w,Ok M R w→Rp (.returned (.tuple #[v,x])) w):ai (bodyPost G.P fn Rp) n .ret E M R:=⟨fun w hw=>Fin.iD hr hv hx (hR w hw)⟩
theorem ai.fG {e:Exit} {a T Tb b s:Nat} {ti:TI} {cs:List Value} (he:e=.ret∨e=.normal) (hr:fn.results=#[.cell a T]) (ha:lk E a=some (.pointer (some ⟨b,0,none⟩))) (hT:G.ty T=some ti) (hag:ti.agg=true) (hsz:ti.size=s) (hM:Up (.aJ b cs Tb) (.aJ b cs Tb) M M') (hl:cs.length=s) (hR:∀w,Ok M R w→Rp (.returned (.agg cs.toArray)) w):ai (bodyPost G.P fn Rp) n e E M R:=
 ⟨fun w hw=>Fin.fG he hr ha hT hag hsz (hw.m _ hM.mem).1 hl (hR w hw)⟩
theorem ai.bn {e:Exit} {a T Tb b s:Nat} {ti:TI} {cs:List Value} (he:e=.ret∨e=.normal) (hr:fn.results=#[.cell a T,.tmp t]) (ha:lk E a=some (.pointer (some ⟨b,0,none⟩))) (hT:G.ty T=some ti) (hag:ti.agg=true) (hsz:ti.size=s) (hM:Up (.aJ b cs Tb) (.aJ b cs Tb) M M') (hl:cs.length=s) (hv:lk E t=some v) (hR:∀w,Ok M R w→Rp (.returned (.tuple #[.agg cs.toArray,v])) w):ai (bodyPost G.P fn Rp) n e E M R:=
 ⟨fun w hw=>Fin.bn he hr ha hT hag hsz (hw.m _ hM.mem).1 hl hv (hR w hw)⟩
end
theorem aj {f:FuncId} {fn:Func} {c:Code} {n:Nat} {l:List Value} {w:World} {Rp:Ending→World→Prop} {M:List aV} {R:List (World→Prop)} (hf:G.P.funcs[f]?=some fn) (hb:fn.body=some c) (hn:fn.ntmps=n) (hl:Nat.ble l.length n=true) (hw:Ok M R w)
  (h:aQ (bodyPost G.P fn Rp) n c (uC 0 l) M R):Calls G.P f l.toArray w Rp:=enter (G:=G) hf hb hn hl (h.h w hw)
theorem pU {R:List (World→Prop)}:∀p,p∈([]:List (World→Prop))→p∈R:=fun _ h=>by cases h
theorem ns {p:World→Prop} {R R':List (World→Prop)} (h:p∈R) (hr:∀x,x∈R'→x∈R):∀x,x∈p::R'→x∈R:=fun x hx=>(List.mem_cons.1 hx).elim (fun e=>e ▸ h) (hr x)
section
variable {ops:Array Oper} {Q:Exit→Act→World→Prop} {n:Nat} {E:Env} {M M':List aV} {R:List (World→Prop)} {rest l:List Oper} {op:Op} {d:Option Nat} {ty:TypeId} {pos:String} {aft:Array Edge} {gd:Option (Nat×Bool)} {v:Value} {x y z:Operand} {t t2:TypeId} {C:World→Prop}
theorem Yl.iw {ti:TI} {f o bk:Nat} (ht:G.ty t=some ti) (ho:ti.ly[f]?=some o) (hx:ev E x=some (.pointer (some ⟨bk,0,none⟩))):Yl G n (.fieldAddr t x f) E C (.pointer (some ⟨bk,o,none⟩)):=by
 have:=Yl.field (G:=G) (n:=n) (E:=E) (C:=C) ht ho hx
 rwa[Nat.zero_add]at this
theorem aa.is (h:aa ops Q n l E M R):aa ops Q n l E M R:=h
theorem aQ.is {c:Code} (h:aQ Q n c E M R):aQ Q n c E M R:=h
theorem ai.is {e:Exit} (h:ai Q n e E M R):ai Q n e E M R:=h
theorem aa.wY {jb:Nat×Bool} (h:aa ops Q n (⟨d,op,ty,pos,aft,some jb⟩::rest) E M R):aa ops Q n (⟨d,op,ty,pos,aft,some jb⟩::rest) E M R:=h
theorem aa.an {bo:BinOp} (h:aa ops Q n (⟨d,.binOp bo t x y t2,ty,pos,aft,gd⟩::rest) E M R):aa ops Q n (⟨d,.binOp bo t x y t2,ty,pos,aft,gd⟩::rest) E M R:=h
theorem aa.dK (h:aa ops Q n (⟨d,.indexAddr t x y,ty,pos,aft,gd⟩::rest) E M R):aa ops Q n (⟨d,.indexAddr t x y,ty,pos,aft,gd⟩::rest) E M R:=h
theorem aa.isField {f:Nat} (h:aa ops Q n (⟨d,.fieldAddr t x f,ty,pos,aft,gd⟩::rest) E M R):aa ops Q n (⟨d,.fieldAddr t x f,ty,pos,aft,gd⟩::rest) E M R:=h
theorem aa.bX (h:aa ops Q n (⟨d,.load t x,ty,pos,aft,gd⟩::rest) E M R):aa ops Q n (⟨d,.load t x,ty,pos,aft,gd⟩::rest) E M R:=h
theorem aa.rT (h:aa ops Q n (⟨none,.store t x y,ty,pos,aft,gd⟩::rest) E M R):aa ops Q n (⟨none,.store t x y,ty,pos,aft,gd⟩::rest) E M R:=h
end
theorem Ok.start (w:World):Ok [] [Ext w] w:=
 ⟨fun q h=>absurd h Hc,List.Pairwise.nil,fun p hp w' hc=>by
  rw[List.mem_singleton]at hp;subst hp;exact hc.mono (fun k _ ⟨q,hq,_⟩=>absurd hq Hc)⟩
inductive App:List Value→List Value→List Value→Prop
 |nil {b:List Value}:App [] b b
 |cons {x:Value} {a b c:List Value}:App a b c→App (x::a) b (x::c)
inductive Cells:List Value→List Value→Prop
 |nil:Cells [] []
 |agg {l vs cs out:List Value}:Cells vs cs→App l cs out→Cells (.agg l.toArray::vs) out
 |one {v:Value} {vs cs:List Value}:Cells vs cs→Cells (v::vs) (v::cs)
def qK (s:Nat):List Value→List (Nat×Value)→Option (List Value)
 |cs,[]=>some cs
 |cs,(i,v)::r=>bif (Nat.beq v.cells.toList.length s && Nat.ble (i*s+v.cells.toList.length) cs.length)then qK s (xe cs (i*s) v.cells.toList) r else none
theorem tA {s:Nat}:∀{parts:List (Nat×Value)} {cs c:List Value},qK s cs parts=some c→Instr.fill (fun i=>some (i*s,s)) cs.toArray parts=some c.toArray
 |[],cs,c,h=>by simp only[qK,Option.some.injEq]at h;subst h;rfl
 |(i,v)::r,cs,c,h=>by
  simp only[qK]at h
  unfold Instr.fill
  dsimp only at h ⊢
  cases hb:(Nat.beq v.cells.toList.length s && Nat.ble (i*s+v.cells.toList.length) cs.length)with
  |false=>rw[hb]at h;cases h
  |true=>
   rw[hb]at h
   simp only[Bool.and_eq_true]at hb
   have h1:=Nat.eq_of_beq_eq_true hb.1
   have h2:=Nat.le_of_ble_eq_true hb.2
   have e1:v.cells.size=s:=by simpa using h1
   have e2:¬i*s+v.cells.size>cs.toArray.size:=by simpa using h2
   rw[if_neg (by simp[e1];rw[e1]at e2;simpa using e2)]
   have h3:=tA h
   rw[←h3]
   congr 1
   have:=rU v.cells.toList cs (i*s) 0
   rw[Nat.add_zero]at this
   rw[this,←Array.foldl_toList,Array.toList_zipIdx]
def xQ (len s:Nat) (zs:List Value):List Value:=(List.range (len*s)).map fun i=>zs.getD (i % zs.length) default
theorem vm {t e len s:Nat} {ti te:TI} {parts:List (Nat×Value)} {cs:List Value} (w:World) (ht:G.ty t=some ti) (he:ti.elem=some e) (hte:G.ty e=some te) (hs:te.size=s) (hlen:Nat.ble (len*s) 16777216=true) (hf:qK s (xQ len s te.zero.cells.toList) parts=some cs):
  (Instr.buildSlice t len parts.toArray).run G.P w=.ok (.slice (some ⟨w.heap.size,0,none⟩) len len) (w.alloc (.cells cs.toArray e)):=by
 have h1:=(G.eZ t ti ht).elem e he
 have h2:=(G.eZ e te hte).size w
 have h3:=(G.eZ e te hte).zeroV w
 rw[hs]at h2
 have h4:=tA hf
 have h5:¬len*s>2 ^ 24:=by have:=Nat.le_of_ble_eq_true hlen;omega
 by_cases h0:len*s=0
 ·have e0:(xQ len s te.zero.cells.toList).toArray=(Array.range (len*s)).map ((#[]:Array Value)[·% (#[]:Array Value).size]!):=by simp[xQ,h0]
  rw[e0]at h4
  simp[Instr.buildSlice,run_underlying h1,h2,h0,newRow]at h4 ⊢
  simp[h4]
 ·have e0:(xQ len s te.zero.cells.toList).toArray=(Array.range (len*s)).map (te.zero.cells[·% te.zero.cells.size]!):=by
   apply Array.ext'
   simp[xQ,List.getD_eq_getElem?_getD,Array.getElem!_eq_getD]
   skip
  rw[e0]at h4
  simp[Instr.buildSlice,run_underlying h1,h2,h0,h3,newRow,Nat.not_lt.2 (Nat.le_of_ble_eq_true hlen)]at h4 ⊢
  rw[h4];simp
section
variable {ops:Array Oper} {Q:Exit→Act→World→Prop} {n:Nat} {E:Env} {M M':List aV} {R:List (World→Prop)} {rest l:List Oper} {op:Op} {d:Nat} {ty:TypeId} {pos:String} {aft:Array Edge} {v:Value} {x y z:Operand} {t:TypeId} {C:World→Prop}
theorem Yl.gx {s bt:Nat} {el:Option Nat} {os:List Nat} {zs cs:List Value} {ik:Option IntKind} {parts:List (Nat×Operand)} {vs:List Value} (ht:G.ty t=some ⟨s,bt,true,el,os,.agg zs.toArray,ik⟩) (ho:os.isEmpty=false) (hv:ju E (parts.map (·.2))=some vs) (_hc:Cells vs cs) (hf:kr (mQ os s) zs ((parts.map (·.1)).zip vs)=some cs):
  Yl G n (.build t parts.toArray) E C (.agg cs.toArray):=by
 have:=Yl.eo (n:=n) (E:=E) (C:=C) (parts:=parts) ht ho hv (by rw[hf];rfl)
 rw[hf]at this;exact this
theorem Yl.gw {s bt:Nat} {el:Option Nat} {os:List Nat} {zs:List Value} {ik:Option IntKind} (ht:G.ty t=some ⟨s,bt,true,el,os,.agg zs.toArray,ik⟩) (ho:os.isEmpty=false):Yl G n (.build t #[]) E C (.agg zs.toArray):=
 Yl.eo (n:=n) (E:=E) (C:=C) (parts:=[]) (vs:=[]) ht ho rfl rfl
theorem Yl.Ah {k:IntKind} {p q:Int} {t2:TypeId} (hx:ev E x=some (.int k p)) (hy:ev E y=some (.int k q)):Yl G n (.binOp .gtr t x y t2) E C (.bool (decide (q<p))):=Yl.bin hx hy (fun w=>by simp[binOp,Op.intCmp])
theorem Yl.Ao {k:IntKind} {p q:Int} {t2:TypeId} (hx:ev E x=some (.int k p)) (hy:ev E y=some (.int k q)):Yl G n (.binOp .lss t x y t2) E C (.bool (decide (p<q))):=Yl.bin hx hy (fun w=>by simp[binOp,Op.intCmp])
theorem Yl.Al {k:IntKind} {p q:Int} {t2:TypeId} (hx:ev E x=some (.int k p)) (hy:ev E y=some (.int k q)):Yl G n (.binOp .leq t x y t2) E C (.bool (decide (p≤q))):=Yl.bin hx hy (fun w=>by simp[binOp,Op.intCmp])
theorem Yl.Af {k:IntKind} {p q:Int} {t2:TypeId} (hx:ev E x=some (.int k p)) (hy:ev E y=some (.int k q)):Yl G n (.binOp .geq t x y t2) E C (.bool (decide (q≤p))):=Yl.bin hx hy (fun w=>by simp[binOp,Op.intCmp])
inductive fz:List Value→Nat→List Value→Prop
 |zero {l:List Value}:fz l 0 []
 |succ {a:Value} {l out:List Value} {s:Nat}:fz l s out→fz (a::l) (s+1) (a::out)
inductive fy:List Value→Nat→Nat→List Value→Prop
 |here {l out:List Value} {s:Nat}:fz l s out→fy l 0 s out
 |drop {a:Value} {l out:List Value} {o s:Nat}:fy l o s out→fy (a::l) (o+1) s out
theorem fz.get {l out:List Value} {s:Nat} (h:fz l s out):out.length=s∧∀j,j<s→out[j]?=l[j]?∧j<l.length:=by
 induction h with
 |zero=>exact⟨rfl,fun j hj=>by omega⟩
 |succ _ ih=>
  refine⟨by simp[ih.1],fun j hj=>?_⟩
  cases j with
  |zero=>simp
  |succ j=>have:=ih.2 j Hb;simpa using this
theorem fy.get {l out:List Value} {o s:Nat} (h:fy l o s out):out.length=s∧∀j,j<s→out[j]?=l[o+j]?∧o+j<l.length:=by
 induction h with
 |here h=>simpa using h.get
 |drop _ ih=>
  refine⟨ih.1,fun j hj=>?_⟩
  have:=ih.2 j hj
  rw[show∀o:Nat,o+1+j=o+j+1 from fun o=>by omega]
  simpa using this
theorem Yl.jD {ti:TI} {b o T s:Nat} {cs out:List Value} (ht:G.ty t=some ti) (ha:ti.agg=true) (hx:ev E x=some (.pointer (some ⟨b,o,none⟩))) (hs:ti.size=s) (hM:Up (.aJ b cs T) (.aJ b cs T) M M') (hc:fy cs o s out):Yl G n (.load t x) E (Ok M R) (.agg out.toArray):=
 Yl.nE ht ha hs hx hc.get.1 fun w hw j hj=>by
  have hb:dZ w b cs T:=(hw.m _ hM.mem).1
  obtain⟨h1,h2⟩:=hc.get.2 j hj
  rw[h1,List.getElem?_eq_getElem h2]
  exact hb.cell (List.getElem?_eq_getElem h2)
theorem jv {pl:List (Nat×Nat)} {cs:List Value}:kr pl cs []=some cs:=rfl
theorem CM {cs:List Value} {o:Nat} {v:Value}:xe cs o [v]=cs.set o v:=rfl
theorem jw {os:List Nat} {s i o:Nat} {zs cs' out:List Value} {v:Value} {r:List (Nat×Value)} (_h:os[i]?=some o) (hp:(mQ os s)[i]?=some (o,1)) (hv:v.cells=#[v]) (hs:dR v zs o cs') (hr:kr (mQ os s) cs' r=some out):kr (mQ os s) zs ((i,v)::r)=some out:=by
 have:=hs.eq
 rw[kr,hp]
 simp only[hv]
 have hb:Nat.ble (o+1) zs.length=true:=Nat.ble_eq_true_of_le this.2
 simp[CM,this.1,hb,hr]
theorem Yl.gy {s bt:Nat} {el:Option Nat} {os:List Nat} {zs cs:List Value} {ik:Option IntKind} {parts:List (Nat×Operand)} {vs:List Value} (ht:G.ty t=some ⟨s,bt,true,el,os,.agg zs.toArray,ik⟩) (ho:os.isEmpty=false) (hv:ju E (parts.map (·.2))=some vs) (hf:kr (mQ os s) zs ((parts.map (·.1)).zip vs)=some cs):
  Yl G n (.build t parts.toArray) E C (.agg cs.toArray):=by
 have:=Yl.eo (n:=n) (E:=E) (C:=C) (parts:=parts) ht ho hv (by rw[hf];rfl)
 rw[hf]at this;exact this
theorem HE.ml {e len s:Nat} {ti te:TI} {parts:List (Nat×Operand)} {vs cs:List Value} (ht:G.ty t=some ti) (he:ti.elem=some e) (hte:G.ty e=some te) (hs:te.size=s) (hv:ju E (parts.map (·.2))=some vs) (_hc:Cells vs cs) (hlen:Nat.ble (len*s) 16777216=true) (hf:qK s (xQ len s te.zero.cells.toList) ((parts.map (·.1)).zip vs)=some cs):
  HE n (.buildSlice t len parts.toArray) E M R (fun _:Nat=>True) (fun b=>.slice (some ⟨b,0,none⟩) len len) (fun b=>.aJ b cs e::M) (fun _=>R):=
 HE.Bu cs hv fun w=>vm w ht he hte hs hlen hf
theorem HE.kp {f:Nat} {args:List Operand} {tys:Array TypeId} {vs:List Value} (hf:G.fb[f]?=some true) (ha:ju E args=some vs)
  (hc:∀w,Ok M R w→Calls G.P f vs.toArray w (fun e w'=>e=.returned v∧Ext w w')):HE n (.call ⟨.value (.func f),args.toArray,tys⟩) E M R (fun _:Unit=>True) (fun _=>v) (fun _=>M) (fun _=>R):=
 HE.call (fun _=>v) hf ha fun w hw=>(hc w hw).mono fun _e _w' ⟨e1,hx⟩=>⟨(),e1,trivial,hw.ext hx⟩
theorem Ok.iC {w:World} (h:Ok M R w) (B T s:Nat):Ok (.own B T s (.slice none 0 0) 0 []::M) R w:=
 h.push (bA.refl _ w) (World.ownsRow_nil w B T s) (fun k hk=>by cases(show(none:Option Nat)=some k from hk))
theorem aa.iC (B T s:Nat) (h:aa ops Q n l E (.own B T s (.slice none 0 0) 0 []::M) R):aa ops Q n l E M R:=⟨fun w hw=>h.h w (hw.iC B T s)⟩
theorem aQ.iC {c:Code} (B T s:Nat) (h:aQ Q n c E (.own B T s (.slice none 0 0) 0 []::M) R):aQ Q n c E M R:=⟨fun w hw=>h.h w (hw.iC B T s)⟩
theorem dL {w:World} {B T s m g cap:Nat} {xs:List Value} (h:w.ownsRow B T s (.slice (some ⟨g,0,none⟩) m cap) m xs) {j:Nat} {u:Value} (hj:xs[j]?=some u):w.cell? ⟨g,j,none⟩=some u:=by
 have:=World.ownsRow.cells h (g:=g) rfl j u hj
 have e:(⟨g,0,none⟩:Addr).add j=⟨g,j,none⟩:=by
  unfold Addr.add;split
  ·rename_i h0;rw[h0]
  ·simp
 rwa[e]at this
theorem HE.Cr {Mf:Value→List aV} {ti te:TI} {B T s m k c:Nat} {po:Option Addr} {xs:List Value} (ys:List Value) (hx:ev E x=some v) (hy:ev E y=some (.slice po k c)) (hM:∀v',Up (.own B T s v m xs) (.own B T s v' (m+k) (xs++ys)) M (Mf v'))
  (hrd:k=0∨∃bk o,po=some ⟨bk,o,none⟩∧∀w,Ok M R w→∀j u,ys[j]?=some u→w.cell? ⟨bk,o+j,none⟩=some u) (hys:ys.length=k*s)
  (ht:G.ty t=some ti) (he:ti.elem=some T) (hte:G.ty T=some te) (hs:te.size=s) (hzs:Nat.beq te.zero.cells.size te.size=true) (hsz:Nat.blt 0 te.size=true) (hbt:Nat.ble te.bytes 1000=true) (h1:∀u∈ys,u.oneCell'=true) (hlen:m+k≤100000000000) (hB:∀w,Ok M R w→B≤w.heap.size):
  HE n (.call ⟨.builtin .append,#[x,y],#[t,t]⟩) E M R (fun _:Value=>True) (fun v'=>v') Mf (fun _=>R):=
 ⟨fun w hw=>by
  subst hs
  have hm:=(hw.m _ (hM undef).mem)
  have ho:w.ownsRow B T te.size v m xs:=hm.1
  have hbt':=Nat.le_of_ble_eq_true hbt
  have hsz':0<te.size:=by simpa using hsz
  have key:∀v' w',w'.ownsRow B T te.size v' (m+k) (xs++ys)→bA (fun k=>v.ownBlock=some k) w w'→(v'.ownBlock=v.ownBlock∨v'.ownBlock=some w.heap.size)→∃x:Value,True∧v'=x∧Ok (Mf x) R w':=fun v' w' ho' hc hob=>
   ⟨v',trivial,rfl,hw.nL (hM v') hc ho' fun i hi=>⟨(ho'.lt i hi).2,fun hlt=>by
    rcases hob with e|e
    ·show v.ownBlock=some i
     rw[←e];exact hi
    ·have hk':v'.ownBlock=some i:=hi
     rw[e]at hk';cases hk';omega⟩⟩
  by_cases h0:k=0
  ·subst h0
   obtain⟨po,c,rfl,hc,_⟩:=av ho
   have hy0:ys=[]:=List.eq_nil_of_length_eq_zero (by simpa using hys)
   subst hy0
   refine(bB.vI (G:=G) ht he hte hx hc hy).mono ?_
   rintro _ _ ⟨rfl,rfl⟩
   exact key _ _ (by rw[List.append_nil];exact ho) (bA.refl _ _) (.inl rfl)
  ·obtain⟨bk,o,rfl,hr⟩:=hrd.resolve_left h0
   refine(bB.ou (G:=G) (news:=ys) ht he hte (Nat.eq_of_beq_eq_true hzs) hsz' hx ho hy hys (fun j u hj=>hr w hw j u hj) h1 G0 (by have:=Nat.mul_le_mul hlen hbt';omega) (hB w hw)).mono fun v' w' ⟨a,b,c⟩=>key v' w' a b c⟩
theorem vc {w:World} {b _e s len:Nat} {cs:List Value} {T:TypeId} (h:dZ w b cs T) (hs:cs.length=len*s) (hl:len≤maxLen) (B:Nat) (hB:B≤b):w.ownsRow B T s (.slice (some ⟨b,0,none⟩) len len) len cs:=
 ⟨hs,.inr ⟨b,len,cs.toArray,rfl,hB,h,Nat.le_refl _,hl,by simpa using hs,by simp[←hs]⟩⟩
theorem Ok.pV {w:World} {b s len:Nat} {cs:List Value} {T:TypeId} (h:Ok M R w) (hM:Up (.aJ b cs T) (.own 0 T s (.slice (some ⟨b,0,none⟩) len len) len cs) M M') (hs:cs.length=len*s) (hl:len≤maxLen):Ok M' R w:=
 h.nL hM (bA.refl _ w) (vc (_e:=0) (h.m _ hM.mem).1 hs hl 0 (Nat.zero_le _)) (fun k hk=>by
  have hk':some b=some k:=hk
  cases hk'
  exact⟨(h.m _ hM.mem).2 b rfl,fun _=>rfl⟩)
theorem aa.pV {b len:Nat} {cs:List Value} {T:TypeId} (s:Nat) (hM:Up (.aJ b cs T) (.own 0 T s (.slice (some ⟨b,0,none⟩) len len) len cs) M M') (hs:cs.length=len*s) (hl:len≤maxLen) (h:aa ops Q n l E M' R):aa ops Q n l E M R:=⟨fun w hw=>h.h w (hw.pV hM hs hl)⟩
theorem oA {B T s n n':Nat} {v v':Value} {xs xs':List Value} (h1:v'=v) (h2:n'=n) (h3:xs'=xs) (h:M'.Sublist M):(aV.own B T s v' n' xs'::M').Sublist (aV.own B T s v n xs::M):=by subst h1;subst h2;subst h3;exact h.cons_cons _
end
theorem AO {g g':Prop} (h:g') (hw:ek g'→g:=by(intro hk_;(refine ah.is ?_;(first|(refine ah.wY ?_;(first|refine ah.gs rfl rfl rfl ?_|refine ah.gu rfl rfl ?_|refine ah.yg rfl (Yl.move rfl) rfl ?_|refine ah.yg rfl (Yl.assign rfl) rfl ?_|(refine ah.an ?_;(first|(refine ah.an (bo:=.lss) ?_;(first|refine ah.yg rfl (Yl.iU rfl rfl Hb) rfl ?_|refine ah.yg rfl (Yl.iT rfl rfl Hb) rfl ?_))|(refine ah.an (bo:=.eql) ?_;(first|refine ah.yg rfl (Yl.iL rfl rfl Hb) rfl ?_|refine ah.yg rfl (Yl.iK rfl rfl Hb) rfl ?_))|(refine ah.an (bo:=.neq) ?_;(first|refine ah.yg rfl (Yl.iW rfl rfl Hb) rfl ?_|refine ah.yg rfl (Yl.iV rfl rfl Hb) rfl ?_))|(refine ah.an (bo:=.leq) ?_;(first|refine ah.yg rfl (Yl.iS rfl rfl Hb) rfl ?_|refine ah.yg rfl (Yl.iR rfl rfl Hb) rfl ?_))|(refine ah.an (bo:=.gtr) ?_;(first|refine ah.yg rfl (Yl.iQ rfl rfl Hb) rfl ?_|refine ah.yg rfl (Yl.iP rfl rfl Hb) rfl ?_))|(refine ah.an (bo:=.geq) ?_;(first|refine ah.yg rfl (Yl.iO rfl rfl Hb) rfl ?_|refine ah.yg rfl (Yl.iN rfl rfl Hb) rfl ?_))|refine ah.yg rfl (Yl.add rfl rfl Hb) rfl ?_|refine ah.yg rfl (Yl.sub rfl rfl Hb) rfl ?_|refine ah.yg rfl (Yl.fF rfl rfl rfl rfl) rfl ?_|refine ah.yg rfl (Yl.jr Tryz.underlying4 rfl rfl) rfl ?_|refine ah.yg rfl (Yl.qJ rfl rfl) rfl ?_|refine ah.yg rfl (Yl.kA rfl rfl) rfl ?_|refine ah.yg rfl (Yl.ky rfl rfl Hb) rfl ?_|fail))|(refine ah.isField ?_;(first|refine ah.yg rfl (Yl.iw rfl rfl rfl) rfl ?_|refine ah.yg rfl (Yl.ep rfl rfl rfl) rfl ?_|refine ah.yg rfl (Yl.field rfl rfl rfl) rfl ?_))|(refine ah.bX ?_;(first|refine ah.yg rfl (Yl.jC rfl rfl rfl GH) rfl ?_|refine ah.yg rfl (Yl.jA rfl rfl rfl rfl GQ) rfl ?_|refine ah.yg rfl (Yl.jD rfl rfl rfl rfl GQ GN) rfl ?_|refine ah.yg rfl (Yl.jB rfl rfl rfl GL rfl) rfl ?_))|(refine ah.dK ?_;(first|refine ah.yg rfl (Yl.fX rfl rfl rfl rfl rfl rfl Hb) rfl ?_|refine ah.yg rfl (Yl.idx rfl rfl rfl rfl rfl rfl Hb) rfl ?_))|refine ah.yg rfl (Yl.len rfl rfl rfl) rfl ?_|refine ah.yg rfl (Yl.extract rfl rfl) rfl ?_|refine ah.yg rfl (Yl.dP rfl rfl) rfl ?_|refine ah.yg rfl (Yl.dO rfl rfl) rfl ?_|refine ah.yg rfl (Yl.nilCheck rfl) rfl ?_|refine ah.yg rfl (Yl.not rfl) rfl ?_|refine ah.yg rfl (Yl.fp rfl rfl rfl rfl rfl Hb) rfl ?_|refine ah.yg rfl (Yl.makeFunc rfl rfl) rfl ?_|refine ah.yg rfl (Yl.gw rfl rfl) rfl ?_|refine ah.yg rfl (Yl.gx rfl rfl rfl GJ Hd) rfl ?_|refine ah.yg rfl (Yl.gy rfl rfl rfl GK) rfl ?_|refine ah.yg rfl (Yl.eo rfl rfl rfl rfl) rfl ?_|refine ah.yg rfl (Yl.cX Tryz.underlying9 rfl rfl rfl Hb) rfl ?_|refine ah.yg rfl (Yl.cq Tryz.underlying9 rfl rfl rfl Hb) rfl ?_|refine ah.yg rfl (Yl.cn rfl rfl rfl rfl rfl rfl Hb) rfl ?_|refine ah.yg rfl (Yl.kz Tryz.underlying9 rfl) rfl ?_))|refine ah.DG ?_|refine ah.y (Yl.move rfl) rfl ?_|refine ah.y (Yl.assign rfl) rfl ?_|(refine ah.an ?_;(first|(refine ah.an (bo:=.lss) ?_;(first|refine ah.y (Yl.iU rfl rfl Hb) rfl ?_|refine ah.y (Yl.iT rfl rfl Hb) rfl ?_))|(refine ah.an (bo:=.eql) ?_;(first|refine ah.y (Yl.iL rfl rfl Hb) rfl ?_|refine ah.y (Yl.iK rfl rfl Hb) rfl ?_))|(refine ah.an (bo:=.neq) ?_;(first|refine ah.y (Yl.iW rfl rfl Hb) rfl ?_|refine ah.y (Yl.iV rfl rfl Hb) rfl ?_))|(refine ah.an (bo:=.leq) ?_;(first|refine ah.y (Yl.iS rfl rfl Hb) rfl ?_|refine ah.y (Yl.iR rfl rfl Hb) rfl ?_))|(refine ah.an (bo:=.gtr) ?_;(first|refine ah.y (Yl.iQ rfl rfl Hb) rfl ?_|refine ah.y (Yl.iP rfl rfl Hb) rfl ?_))|(refine ah.an (bo:=.geq) ?_;(first|refine ah.y (Yl.iO rfl rfl Hb) rfl ?_|refine ah.y (Yl.iN rfl rfl Hb) rfl ?_))|refine ah.y (Yl.add rfl rfl Hb) rfl ?_|refine ah.y (Yl.sub rfl rfl Hb) rfl ?_|refine ah.y (Yl.fF rfl rfl rfl rfl) rfl ?_|refine ah.y (Yl.jr Tryz.underlying4 rfl rfl) rfl ?_|refine ah.y (Yl.qJ rfl rfl) rfl ?_|refine ah.y (Yl.kA rfl rfl) rfl ?_|refine ah.y (Yl.ky rfl rfl Hb) rfl ?_|fail))|(refine ah.isField ?_;(first|refine ah.y (Yl.iw rfl rfl rfl) rfl ?_|refine ah.y (Yl.ep rfl rfl rfl) rfl ?_|refine ah.y (Yl.field rfl rfl rfl) rfl ?_))|(refine ah.bX ?_;(first|refine ah.y (Yl.jC rfl rfl rfl GH) rfl ?_|refine ah.y (Yl.jA rfl rfl rfl rfl GQ) rfl ?_|refine ah.y (Yl.jD rfl rfl rfl rfl GQ GN) rfl ?_|refine ah.y (Yl.jB rfl rfl rfl GL rfl) rfl ?_))|(refine ah.dK ?_;(first|refine ah.y (Yl.fX rfl rfl rfl rfl rfl rfl Hb) rfl ?_|refine ah.y (Yl.idx rfl rfl rfl rfl rfl rfl Hb) rfl ?_))|refine ah.y (Yl.len rfl rfl rfl) rfl ?_|refine ah.y (Yl.extract rfl rfl) rfl ?_|refine ah.y (Yl.dP rfl rfl) rfl ?_|refine ah.y (Yl.dO rfl rfl) rfl ?_|refine ah.y (Yl.nilCheck rfl) rfl ?_|refine ah.y (Yl.not rfl) rfl ?_|refine ah.y (Yl.fp rfl rfl rfl rfl rfl Hb) rfl ?_|refine ah.y (Yl.makeFunc rfl rfl) rfl ?_|refine ah.y (Yl.gw rfl rfl) rfl ?_|refine ah.y (Yl.gx rfl rfl rfl GJ Hd) rfl ?_|refine ah.y (Yl.gy rfl rfl rfl GK) rfl ?_|refine ah.y (Yl.eo rfl rfl rfl rfl) rfl ?_|refine ah.y (Yl.cX Tryz.underlying9 rfl rfl rfl Hb) rfl ?_|refine ah.y (Yl.cq Tryz.underlying9 rfl rfl rfl Hb) rfl ?_|refine ah.y (Yl.cn rfl rfl rfl rfl rfl rfl Hb) rfl ?_|refine ah.y (Yl.kz Tryz.underlying9 rfl) rfl ?_));exact hk_.out)):g:=hw ⟨h⟩
set_option maxRecDepth 100000
theorem dy {g g':Prop} (h:g') (hw:ek g'→g:=by(intro hk_;(repeat(first|(refine aa.is ?_;(first|(refine aa.wY ?_;(first|refine aa.gs rfl rfl rfl ?_|refine aa.gu rfl rfl ?_|refine aa.yg rfl (Yl.move rfl) rfl ?_|refine aa.yg rfl (Yl.assign rfl) rfl ?_|(refine aa.an ?_;(first|(refine aa.an (bo:=.lss) ?_;(first|refine aa.yg rfl (Yl.iU rfl rfl Hb) rfl ?_|refine aa.yg rfl (Yl.iT rfl rfl Hb) rfl ?_))|(refine aa.an (bo:=.eql) ?_;(first|refine aa.yg rfl (Yl.iL rfl rfl Hb) rfl ?_|refine aa.yg rfl (Yl.iK rfl rfl Hb) rfl ?_))|(refine aa.an (bo:=.neq) ?_;(first|refine aa.yg rfl (Yl.iW rfl rfl Hb) rfl ?_|refine aa.yg rfl (Yl.iV rfl rfl Hb) rfl ?_))|(refine aa.an (bo:=.leq) ?_;(first|refine aa.yg rfl (Yl.iS rfl rfl Hb) rfl ?_|refine aa.yg rfl (Yl.iR rfl rfl Hb) rfl ?_))|(refine aa.an (bo:=.gtr) ?_;(first|refine aa.yg rfl (Yl.iQ rfl rfl Hb) rfl ?_|refine aa.yg rfl (Yl.iP rfl rfl Hb) rfl ?_))|(refine aa.an (bo:=.geq) ?_;(first|refine aa.yg rfl (Yl.iO rfl rfl Hb) rfl ?_|refine aa.yg rfl (Yl.iN rfl rfl Hb) rfl ?_))|refine aa.yg rfl (Yl.add rfl rfl Hb) rfl ?_|refine aa.yg rfl (Yl.sub rfl rfl Hb) rfl ?_|refine aa.yg rfl (Yl.fF rfl rfl rfl rfl) rfl ?_|refine aa.yg rfl (Yl.jr Tryz.underlying4 rfl rfl) rfl ?_|refine aa.yg rfl (Yl.qJ rfl rfl) rfl ?_|refine aa.yg rfl (Yl.kA rfl rfl) rfl ?_|refine aa.yg rfl (Yl.ky rfl rfl Hb) rfl ?_|fail))|(refine aa.isField ?_;(first|refine aa.yg rfl (Yl.iw rfl rfl rfl) rfl ?_|refine aa.yg rfl (Yl.ep rfl rfl rfl) rfl ?_|refine aa.yg rfl (Yl.field rfl rfl rfl) rfl ?_))|(refine aa.bX ?_;(first|refine aa.yg rfl (Yl.jC rfl rfl rfl GH) rfl ?_|refine aa.yg rfl (Yl.jA rfl rfl rfl rfl GQ) rfl ?_|refine aa.yg rfl (Yl.jD rfl rfl rfl rfl GQ GN) rfl ?_|refine aa.yg rfl (Yl.jB rfl rfl rfl GL rfl) rfl ?_))|(refine aa.dK ?_;(first|refine aa.yg rfl (Yl.fX rfl rfl rfl rfl rfl rfl Hb) rfl ?_|refine aa.yg rfl (Yl.idx rfl rfl rfl rfl rfl rfl Hb) rfl ?_))|refine aa.yg rfl (Yl.len rfl rfl rfl) rfl ?_|refine aa.yg rfl (Yl.extract rfl rfl) rfl ?_|refine aa.yg rfl (Yl.dP rfl rfl) rfl ?_|refine aa.yg rfl (Yl.dO rfl rfl) rfl ?_|refine aa.yg rfl (Yl.nilCheck rfl) rfl ?_|refine aa.yg rfl (Yl.not rfl) rfl ?_|refine aa.yg rfl (Yl.fp rfl rfl rfl rfl rfl Hb) rfl ?_|refine aa.yg rfl (Yl.makeFunc rfl rfl) rfl ?_|refine aa.yg rfl (Yl.gw rfl rfl) rfl ?_|refine aa.yg rfl (Yl.gx rfl rfl rfl GJ Hd) rfl ?_|refine aa.yg rfl (Yl.gy rfl rfl rfl GK) rfl ?_|refine aa.yg rfl (Yl.eo rfl rfl rfl rfl) rfl ?_|refine aa.yg rfl (Yl.cX Tryz.underlying9 rfl rfl rfl Hb) rfl ?_|refine aa.yg rfl (Yl.cq Tryz.underlying9 rfl rfl rfl Hb) rfl ?_|refine aa.yg rfl (Yl.cn rfl rfl rfl rfl rfl rfl Hb) rfl ?_|refine aa.yg rfl (Yl.kz Tryz.underlying9 rfl) rfl ?_))|refine aa.nil ?_|(refine aa.rT ?_;(first|refine aa.aM _ rfl rfl rfl rfl rfl rfl GQ rfl ?_|refine aa.er rfl rfl rfl rfl rfl GQ GT ?_))|refine aa.y_ (Yl.move rfl) rfl ?_|refine aa.y_ (Yl.assign rfl) rfl ?_|(refine aa.an ?_;(first|(refine aa.an (bo:=.lss) ?_;(first|refine aa.y_ (Yl.iU rfl rfl Hb) rfl ?_|refine aa.y_ (Yl.iT rfl rfl Hb) rfl ?_))|(refine aa.an (bo:=.eql) ?_;(first|refine aa.y_ (Yl.iL rfl rfl Hb) rfl ?_|refine aa.y_ (Yl.iK rfl rfl Hb) rfl ?_))|(refine aa.an (bo:=.neq) ?_;(first|refine aa.y_ (Yl.iW rfl rfl Hb) rfl ?_|refine aa.y_ (Yl.iV rfl rfl Hb) rfl ?_))|(refine aa.an (bo:=.leq) ?_;(first|refine aa.y_ (Yl.iS rfl rfl Hb) rfl ?_|refine aa.y_ (Yl.iR rfl rfl Hb) rfl ?_))|(refine aa.an (bo:=.gtr) ?_;(first|refine aa.y_ (Yl.iQ rfl rfl Hb) rfl ?_|refine aa.y_ (Yl.iP rfl rfl Hb) rfl ?_))|(refine aa.an (bo:=.geq) ?_;(first|refine aa.y_ (Yl.iO rfl rfl Hb) rfl ?_|refine aa.y_ (Yl.iN rfl rfl Hb) rfl ?_))|refine aa.y_ (Yl.add rfl rfl Hb) rfl ?_|refine aa.y_ (Yl.sub rfl rfl Hb) rfl ?_|refine aa.y_ (Yl.fF rfl rfl rfl rfl) rfl ?_|refine aa.y_ (Yl.jr Tryz.underlying4 rfl rfl) rfl ?_|refine aa.y_ (Yl.qJ rfl rfl) rfl ?_|refine aa.y_ (Yl.kA rfl rfl) rfl ?_|refine aa.y_ (Yl.ky rfl rfl Hb) rfl ?_|fail))|(refine aa.isField ?_;(first|refine aa.y_ (Yl.iw rfl rfl rfl) rfl ?_|refine aa.y_ (Yl.ep rfl rfl rfl) rfl ?_|refine aa.y_ (Yl.field rfl rfl rfl) rfl ?_))|(refine aa.bX ?_;(first|refine aa.y_ (Yl.jC rfl rfl rfl GH) rfl ?_|refine aa.y_ (Yl.jA rfl rfl rfl rfl GQ) rfl ?_|refine aa.y_ (Yl.jD rfl rfl rfl rfl GQ GN) rfl ?_|refine aa.y_ (Yl.jB rfl rfl rfl GL rfl) rfl ?_))|(refine aa.dK ?_;(first|refine aa.y_ (Yl.fX rfl rfl rfl rfl rfl rfl Hb) rfl ?_|refine aa.y_ (Yl.idx rfl rfl rfl rfl rfl rfl Hb) rfl ?_))|refine aa.y_ (Yl.len rfl rfl rfl) rfl ?_|refine aa.y_ (Yl.extract rfl rfl) rfl ?_|refine aa.y_ (Yl.dP rfl rfl) rfl ?_|refine aa.y_ (Yl.dO rfl rfl) rfl ?_|refine aa.y_ (Yl.nilCheck rfl) rfl ?_|refine aa.y_ (Yl.not rfl) rfl ?_|refine aa.y_ (Yl.fp rfl rfl rfl rfl rfl Hb) rfl ?_|refine aa.y_ (Yl.makeFunc rfl rfl) rfl ?_|refine aa.y_ (Yl.gw rfl rfl) rfl ?_|refine aa.y_ (Yl.gx rfl rfl rfl GJ Hd) rfl ?_|refine aa.y_ (Yl.gy rfl rfl rfl GK) rfl ?_|refine aa.y_ (Yl.eo rfl rfl rfl rfl) rfl ?_|refine aa.y_ (Yl.cX Tryz.underlying9 rfl rfl rfl Hb) rfl ?_|refine aa.y_ (Yl.cq Tryz.underlying9 rfl rfl rfl Hb) rfl ?_|refine aa.y_ (Yl.cn rfl rfl rfl rfl rfl rfl Hb) rfl ?_|refine aa.y_ (Yl.kz Tryz.underlying9 rfl) rfl ?_))|(refine aQ.is ?_;(first|refine aQ.seq ?_|refine aQ.region ?_|refine aQ.kS rfl G7 ?_|refine aQ.block ?_|refine aQ.fC rfl ?_|refine aQ.fB rfl ?_|refine aQ.skip ?_|refine aQ.ret ?_|refine aQ.exit ?_|fail))|(refine ai.is ?_;(first|refine ai.iG ?_|refine ai.lT ?_|refine ai.iH ?_|refine ai.lU ?_|refine ai.iI ?_|refine ai.lV ?_|refine ai.rE rfl ?_|fail))|refine AO ?_));exact hk_.out)):g:=hw ⟨h⟩
theorem jM {g g':Prop} (h:g') (hw:ek g'→g:=by(intro hk_;(repeat(first|refine aN.y_ (Yl.move rfl) rfl ?_|refine aN.y_ (Yl.assign rfl) rfl ?_|(refine aN.an ?_;(first|(refine aN.an (bo:=.lss) ?_;(first|refine aN.y_ (Yl.iU rfl rfl Hb) rfl ?_|refine aN.y_ (Yl.iT rfl rfl Hb) rfl ?_))|(refine aN.an (bo:=.eql) ?_;(first|refine aN.y_ (Yl.iL rfl rfl Hb) rfl ?_|refine aN.y_ (Yl.iK rfl rfl Hb) rfl ?_))|(refine aN.an (bo:=.neq) ?_;(first|refine aN.y_ (Yl.iW rfl rfl Hb) rfl ?_|refine aN.y_ (Yl.iV rfl rfl Hb) rfl ?_))|(refine aN.an (bo:=.leq) ?_;(first|refine aN.y_ (Yl.iS rfl rfl Hb) rfl ?_|refine aN.y_ (Yl.iR rfl rfl Hb) rfl ?_))|(refine aN.an (bo:=.gtr) ?_;(first|refine aN.y_ (Yl.iQ rfl rfl Hb) rfl ?_|refine aN.y_ (Yl.iP rfl rfl Hb) rfl ?_))|(refine aN.an (bo:=.geq) ?_;(first|refine aN.y_ (Yl.iO rfl rfl Hb) rfl ?_|refine aN.y_ (Yl.iN rfl rfl Hb) rfl ?_))|refine aN.y_ (Yl.add rfl rfl Hb) rfl ?_|refine aN.y_ (Yl.sub rfl rfl Hb) rfl ?_|refine aN.y_ (Yl.fF rfl rfl rfl rfl) rfl ?_|refine aN.y_ (Yl.jr Tryz.underlying4 rfl rfl) rfl ?_|refine aN.y_ (Yl.qJ rfl rfl) rfl ?_|refine aN.y_ (Yl.kA rfl rfl) rfl ?_|refine aN.y_ (Yl.ky rfl rfl Hb) rfl ?_|fail))|(refine aN.isField ?_;(first|refine aN.y_ (Yl.iw rfl rfl rfl) rfl ?_|refine aN.y_ (Yl.ep rfl rfl rfl) rfl ?_|refine aN.y_ (Yl.field rfl rfl rfl) rfl ?_))|(refine aN.bX ?_;(first|refine aN.y_ (Yl.jC rfl rfl rfl GH) rfl ?_|refine aN.y_ (Yl.jA rfl rfl rfl rfl GQ) rfl ?_|refine aN.y_ (Yl.jD rfl rfl rfl rfl GQ GN) rfl ?_|refine aN.y_ (Yl.jB rfl rfl rfl GL rfl) rfl ?_))|refine aN.y_ (Yl.len rfl rfl rfl) rfl ?_|refine aN.y_ (Yl.extract rfl rfl) rfl ?_|refine aN.y_ (Yl.dP rfl rfl) rfl ?_|refine aN.y_ (Yl.dO rfl rfl) rfl ?_|refine aN.y_ (Yl.nilCheck rfl) rfl ?_|refine aN.y_ (Yl.not rfl) rfl ?_|refine aN.y_ (Yl.fp rfl rfl rfl rfl rfl Hb) rfl ?_|refine aN.y_ (Yl.makeFunc rfl rfl) rfl ?_|refine aN.y_ (Yl.gw rfl rfl) rfl ?_|refine aN.y_ (Yl.gx rfl rfl rfl GJ Hd) rfl ?_|refine aN.y_ (Yl.gy rfl rfl rfl GK) rfl ?_|refine aN.y_ (Yl.eo rfl rfl rfl rfl) rfl ?_|refine aN.y_ (Yl.cX Tryz.underlying9 rfl rfl rfl Hb) rfl ?_|refine aN.y_ (Yl.cq Tryz.underlying9 rfl rfl rfl Hb) rfl ?_|refine aN.y_ (Yl.cn rfl rfl rfl rfl rfl rfl Hb) rfl ?_|refine aN.y_ (Yl.kz Tryz.underlying9 rfl) rfl ?_));exact hk_.out)):g:=hw ⟨h⟩
theorem fT {vs cs:List Value} (h:Cells vs cs:=by repeat(first|exact Cells.nil|exact App.nil|(with_reducible apply Cells.agg)|apply Cells.one|apply App.cons)):Cells vs cs:=h
theorem mi {v:Value} {l l':List Value} {j:Nat} (h:dR v l j l':=by(repeat(first|exact dR.zero|apply dR.succ))):dR v l j l':=h
theorem bJ {q q':aV} {M M':List aV} (h:Up q q' M M':=by repeat(first|with_reducible exact Up.head|apply Up.tail)):Up q q' M M':=h
theorem bN {M M':List aV} (h:M'.Sublist M:=by repeat(first|with_reducible exact List.Sublist.refl _|exact List.nil_sublist _|(with_reducible refine List.Sublist.cons_cons _ ?_)|((with_reducible refine oA ?_ ?_ ?_ ?_);rfl;(first|rfl|simp);(first|rfl|simp))|refine List.Sublist.cons _ ?_)):M'.Sublist M:=h
theorem aY {R R':List (World→Prop)} (h:∀p,p∈R'→p∈R:=by repeat(first|exact pU|refine ns GL ?_)):∀p,p∈R'→p∈R:=h
theorem ao {R:List (World→Prop)} {p:World→Prop} (h:p∈R:=by repeat(first|with_reducible exact List.mem_cons_self|apply List.mem_cons_of_mem)):p∈R:=h
theorem xJ {M:List aV} {R:List (World→Prop)} {w:World} (h:Ext w∈R:=by repeat(first|with_reducible exact List.mem_cons_self|apply List.mem_cons_of_mem)):∀w',Ok M R w'→w.heap.size≤w'.heap.size:=fun w' hw=>(show Ext w w' from hw.get h).size
theorem Ok.own {M:List aV} {R:List (World→Prop)} {w:World} {B T s n:Nat} {v:Value} {xs:List Value} (h:Ok M R w) (hm:aV.own B T s v n xs∈M:=by repeat(first|with_reducible exact List.mem_cons_self|apply List.mem_cons_of_mem)):w.ownsRow B T s v n xs:=(h.m _ hm).1
theorem Ok.at {M:List aV} {R:List (World→Prop)} {w:World} {p:World→Prop} (h:Ok M R w) (hm:p∈R:=by repeat(first|with_reducible exact List.mem_cons_self|apply List.mem_cons_of_mem)):p w:=h.get hm
theorem yd {R:List (World→Prop)} {w:World} {p:World→Prop} (h:∀r,r∈R→r w) (hm:p∈R:=by repeat(first|with_reducible exact List.mem_cons_self|apply List.mem_cons_of_mem)):p w:=h p hm
theorem gi {q:aV} {M:List aV} (h:q∈M:=by repeat(first|with_reducible exact List.mem_cons_self|apply List.mem_cons_of_mem)):q∈M:=h
theorem hU {q:aV} {M M':List aV} (h:Rm q M M':=by(repeat(first|with_reducible exact Rm.head|apply Rm.tail))):Rm q M M':=h
section
variable {P:Program} {md:Region.Mode} {C:World→Prop}
theorem DI {l:List Oper} {listed:Array Bool}:l.length ∉ Region.ready md l.toArray listed:=by
 intro h
 obtain⟨_,o2,ho2,_⟩:=mem_ready.1 h
 have:=(Array.getElem?_eq_some_iff.1 ho2).1
 simp at this
end
section
variable {G:sR} {Q:Exit→Act→World→Prop} {n:Nat} {E:Env} {w:World}
end
end Go.Proofs.YtceedealggognaaGreatDoor
