/- The symbolic heap: what is mutable (M: each thing with its blocks) and what holds from now on (R), with the world itself out of sight. -/
import Derived.Test.YtdkcljdfbemnbaaGreatDoorJRa
import Derived.Test.YtdkcljdfbemnbaaGreatDoorJTy
import Derived.Test.YtdkcljdfbemnbaaGreatDoorJM2
namespace Go.Proofs.YtdkcljdfbemnbaaGreatDoor
open Go.RowKit _root_.Go.Proofs.Tryz
open List renaming Sublist→Pp,all_eq_true→Pv,eq_nil_of_length_eq_zero→P6,getElem?_eq_getElem→Pq,getElem?_eq_some_iff→PL,getElem?_map→PK,mem_append→PE,mem_cons→Pz,mem_cons_of_mem→PJ,mem_cons_self→PN,mem_iff_getElem?→Qg,mem_of_getElem?→Qb,mem_singleton→PI,pairwise_cons→PV
open Nat renaming beq→PC,ble→PF,blt→Pn,eq_of_beq_eq_true→PP,le_of_ble_eq_true→PQ,lt_of_lt_of_le→Pw,zero_add→Pm
structure bu where
 F:Nat→Prop
 P:World→Prop
 st:∀{S:Nat→Prop} {w w':World},P w→bX S w w'→(∀k,k<w.heap.size→F k→¬S k)→P w'
def Mb (M:List bu) (k:Nat):Prop:=∃q,q∈M∧q.F k
structure Ok (M:List bu) (R:List (World→Prop)) (w:World):Prop where
 m:∀q,q∈M→q.P w∧∀k,q.F k→k<w.heap.size
 d:M.Pairwise fun a b=>∀k,a.F k→¬b.F k
 r:∀p,p∈R→∀w',bX (Mb M) w w'→p w'
section
variable {M M':List bu} {R R':List (World→Prop)} {w w':World} {q q':bu} {p:World→Prop}
theorem Ok.step (h:Ok M R w) (hc:bX (Mb M) w w') (hm:∀q,q∈M'→q.P w'∧∀k,q.F k→k<w'.heap.size) (hd:M'.Pairwise fun a b=>∀k,a.F k→¬b.F k) (hs:∀k,Mb M' k→k<w.heap.size→Mb M k):Ok M' R w':=
 ⟨hm,hd,fun p hp w2 h2=>h.r p hp w2 (hc.trans' h2 fun i hi hm=>hs i hm hi)⟩
theorem Ok.ext (h:Ok M R w) (hx:Ext w w'):Ok M R w':=
 h.step hx.any (fun q hq=>⟨q.st (h.m q hq).1 hx (fun _ _ _ e=>e),fun k hk=>Pw ((h.m q hq).2 k hk) hx.size⟩) h.d (fun _ hk _=>hk)
theorem Ok.drew (h:Ok M R w):Ok M R w.drew:=h.ext ((bX.refl _ w).drew)
theorem Ok.get (h:Ok M R w) (hp:p∈R):p w:=h.r p hp w (bX.refl _ _)
theorem Ok.add (h:Ok M R w) (hp:∀w',bX (Mb M) w w'→p w'):Ok M (p::R) w:=
 ⟨h.m,h.d,fun x hx=>by exact(Pz.1 hx).elim (fun e=>e ▸ hp) (h.r x)⟩
theorem Ok.lj (h:Ok M R w) (hp:∀w',(∀r,r∈R→r w')→p w'):Ok M (p::R) w:=h.add fun w' hc=>hp w' fun r hr=>h.r r hr w' hc
theorem Ok.push (h:Ok M R w) (hx:Ext w w') (hq:q.P w') (hl:∀k,q.F k→w.heap.size≤k∧k<w'.heap.size):Ok (q::M) R w':=by
 refine h.step hx.any (fun x hx'=>?_) (PV.2 ⟨fun x hx' k hk hk'=>?_,h.d⟩) (fun k hk hlt=>?_)
 ·rcases Pz.1 hx' with rfl|hx'
  ·exact⟨hq,fun k hk=>(hl k hk).2⟩
  ·exact⟨x.st (h.m x hx').1 hx (fun _ _ _ e=>e),fun k hk=>Pw ((h.m x hx').2 k hk) hx.size⟩
 ·have:=(h.m x hx').2 k hk';have:=(hl k hk).1;omega
 ·obtain⟨x,hx',hk⟩:=hk
  rcases Pz.1 hx' with rfl|hx'
  ·have:=(hl k hk).1;omega
  ·exact⟨x,hx',hk⟩
theorem Ok.sub (h:Ok M R w) (hM:M'.Sublist M) (hR:∀p,p∈R'→p∈R):Ok M' R' w:=by
 have h1:Ok M' R w:=h.step (bX.refl _ w) (fun q hq=>h.m q (hM.subset hq)) (h.d.sublist hM) (fun k ⟨q,hq,hk⟩ _=>⟨q,hM.subset hq,hk⟩)
 exact⟨h1.m,h1.d,fun p hp=>h1.r p (hR p hp)⟩
end
inductive Up (q q':bu):List bu→List bu→Prop
 |head {l:List bu}:Up q q' (q::l) (q'::l)
 |tail {a:bu} {l l':List bu}:Up q q' l l'→Up q q' (a::l) (a::l')
inductive Rm (q:bu):List bu→List bu→Prop
 |head {l:List bu}:Rm q (q::l) l
 |tail {a:bu} {l l':List bu}:Rm q l l'→Rm q (a::l) (a::l')
section
variable {M M':List bu} {R R':List (World→Prop)} {w w':World} {q q':bu} {p:World→Prop}
theorem Up.mem (h:Up q q' M M'):q∈M:=by induction h with|head=>simp|tail _ ih=>simp[ih]
theorem Ok.qd (h:Ok M R w) (hu:Up q q' M M') (hc:bX q.F w w') (hq:q'.P w') (hl:∀k,q'.F k→k<w'.heap.size∧(k<w.heap.size→q.F k)):Ok M' R w':=by
  have hqm:=h.m q hu.mem
 -- footprint kept within the old one or new
  have key:∀x:bu,(∀k,x.F k→k<w.heap.size)→(∀k,q.F k→¬x.F k)→∀k,q'.F k→¬x.F k:=fun x hx hd k hk hk'=>hd k ((hl k hk).2 (hx k hk')) hk'
  have hd2:M.Pairwise fun a b=>((∀k,a.F k→k<w.heap.size)∨a=q')∧True:=by
    exact List.pairwise_of_forall_mem_list (fun a ha b hb=>⟨.inl (h.m a ha).2,trivial⟩)
  have hpw:M'.Pairwise (fun a b=>∀k,a.F k→¬b.F k)∧∀x,x∈M'→x=q'∨(x∈M∧∀k,q.F k→¬x.F k):=by
    have:=hu
    clear hd2
    have hm:=h.m
    have hd:=h.d
    clear h hqm
    induction hu with
    |head=>
      rw[PV]at hd ⊢
      refine⟨⟨fun x hx=>key x (hm x (by simp[hx])).2 (hd.1 x hx),hd.2⟩,fun x hx=>?_⟩
      rcases Pz.1 hx with rfl|hx
      · exact .inl rfl
      · exact .inr ⟨by simp[hx],hd.1 x hx⟩
    |@tail a l l' hu ih=>
      rw[PV]at hd ⊢
      obtain⟨h1,h2⟩:=ih hu (fun q hq=>hm q (by simp[hq])) hd.2
      have haq:∀k,q.F k→¬a.F k:=fun k h1 h2=>hd.1 q hu.mem k h2 h1
      refine⟨⟨fun x hx=>?_,h1⟩,fun x hx=>?_⟩
      · rcases h2 x hx with rfl|⟨hx,_⟩
        · exact fun k h1 h2=>key a (hm a Pd).2 haq k h2 h1
        · exact hd.1 x hx
      · rcases Pz.1 hx with rfl|hx
        · exact .inr ⟨by simp,haq⟩
        · rcases h2 x hx with rfl|⟨hx,hr⟩
          · exact .inl rfl
          · exact .inr ⟨by simp[hx],hr⟩
  refine h.step (hc.mono fun k _ hk=>⟨q,hu.mem,hk⟩) (fun x hx=>?_) hpw.1 (fun k ⟨x,hx,hk⟩ hlt=>?_)
  · rcases hpw.2 x hx with rfl|⟨hx,hd⟩
    · exact⟨hq,fun k hk=>(hl k hk).1⟩
    · exact⟨x.st (h.m x hx).1 hc (fun k _ h1 h2=>hd k h2 h1),fun k hk=>Pw ((h.m x hx).2 k hk) hc.size⟩
  · rcases hpw.2 x hx with rfl|⟨hx,_⟩
    · exact⟨q,hu.mem,(hl k hk).2 hlt⟩
    · exact⟨x,hx,hk⟩
theorem Rm.sub (h:Rm q M M'):M'.Sublist M:=by
 induction h with
 |head=>exact List.sublist_cons_self _ _
 |tail _ ih=>exact ih.cons_cons _
theorem Rm.mem (h:Rm q M M'):q∈M:=by induction h with|head=>simp|tail _ ih=>simp[ih]
theorem Rm.Km (h:Rm q M M') (hd:M.Pairwise fun a b=>∀k,a.F k→¬b.F k):∀x,x∈M'→∀k,q.F k→¬x.F k:=by
 induction h with
 |head=>exact(PV.1 hd).1
 |tail hr ih=>
  rw[PV]at hd
  intro x hx k h1 h2
  rcases Pz.1 hx with rfl|hx
  ·exact hd.1 q hr.mem k h2 h1
  ·exact ih hd.2 x hx k h1 h2
theorem Ok.freeze (h:Ok M R w) (hr:Rm q M M') (hp:∀w',q.P w'→p w'):Ok M' (p::R) w:=by
 have h1:=h.sub hr.sub (fun p hp=>hp)
 refine h1.add fun w' hc=>hp w' (q.st (h.m q hr.mem).1 hc fun k _ hk ⟨x,hx,hk'⟩=>hr.Km h.d x hx k hk hk')
theorem Ok.nc (h:Ok M R w) (hr:Rm q M M') (hp:∀w',q.P w'→(∀r,r∈R→r w')→p w'):Ok M' (p::R) w:=by
 have h1:=h.freeze hr (p:=q.P) (fun _ h=>h)
 have h2:=h1.lj (p:=p) (fun w' hw=>hp w' (hw _ Pd) (fun r hr=>hw r (by simp[hr])))
 exact h2.sub (Pp.refl _) (fun x hx=>by rcases Pz.1 hx with rfl|hx<;>simp[*])
end
def bu.aV (b:Nat) (cs:List Value) (T:TypeId):bu:=⟨fun k=>k=b,fun w=>gO w b cs T,fun h hc hd=>h.aP hc (hd b h.lt rfl)⟩
def bu.own (B T s:Nat) (v:Value) (n:Nat) (cs:List Value):bu:=⟨fun k=>v.ownBlock=some k,fun w=>w.ownsRow B T s v n cs,fun h hc hd=>cm h hc (fun k hk=>hd k (h.lt k hk).2 hk)⟩
def cl (b o:Nat) (v:Value):World→Prop:=fun w=>w.cell? ⟨b,o,none⟩=some v
def Cs (b o:Nat) (cs:List Value):World→Prop:=fun w=>∀j,j<cs.length→w.cell? ⟨b,o+j,none⟩=cs[j]?
inductive Ld (w:World) (b o:Nat) (v:Value):List bu→List (World→Prop)→Prop
 |aV {cs:List Value} {T:TypeId} {M:List bu} {R:List (World→Prop)} (h:cs[o]?=some v):Ld w b o v (.aV b cs T::M) R
 |mg {a:bu} {M:List bu} {R:List (World→Prop)}:Ld w b o v M R→Ld w b o v (a::M) R
 |cl {R:List (World→Prop)}:Ld w b o v [] (cl b o v::R)
 |cs {o':Nat} {cs:List Value} {R:List (World→Prop)} (j:Nat) (e:o'+j=o) (h:cs[j]?=some v):Ld w b o v [] (Cs b o' cs::R)
 |Cx {w0:World} {R:List (World→Prop)} (h:w0.cell? ⟨b,o,none⟩=some v):Ld w b o v [] (Ext w0::R)
 |mh {p:World→Prop} {R:List (World→Prop)}:Ld w b o v [] R→Ld w b o v [] (p::R)
variable {v:Value} {l l':List Value} {j:Nat} {R:List (World→Prop)} {w:World} {p:World→Prop}
theorem Ld.ok {b o:Nat} {v:Value} {M:List bu} {R:List (World→Prop)} (h:Ld w b o v M R) (hM:∀q,q∈M→q.P w) (hR:∀p,p∈R→p w):w.cell? ⟨b,o,none⟩=some v:=by
 induction h with
 |@aV cs T M R h=>exact gO.cell (hM (.aV b cs T) Pd) h
 |mg _ ih=>exact ih (fun q hq=>hM q (by simp[hq])) hR
 |cl=>exact hR (Go.Proofs.YtdkcljdfbemnbaaGreatDoor.cl b o v) Pd
 |@cs o' cs R j e h=>
  have:=hR (Cs b o' cs) Pd
  rw[←e,←h];exact this j (PL.1 h).1
 |@Cx w0 _ h=>exact(show Ext w0 w from hR (Ext w0) Pd).cell h
 |mh _ ih=>exact ih hM (fun q hq=>hR q (by simp[hq]))
inductive fW (v:Value):List Value→Nat→List Value→Prop
 |zero {a:Value} {l:List Value}:fW v (a::l) 0 (v::l)
 |succ {a:Value} {l l':List Value} {j:Nat}:fW v l j l'→fW v (a::l) (j+1) (a::l')
theorem fW.eq (h:fW v l j l'):l.set j v=l'∧j<l.length:=by
 induction h with
 |zero=>simp
 |succ _ ih=>simp[ih.1,ih.2]
structure aa (ops:Array Oper) (Q:Exit→Act→World→Prop) (n:Nat) (l:List Oper) (E:Env) (M:List bu) (R:List (World→Prop)):Prop where
 h:∀w,Ok M R w→aq G ops (.list Q w) n l E
structure bh (Q:Exit→Act→World→Prop) (n:Nat) (c:Code) (E:Env) (M:List bu) (R:List (World→Prop)):Prop where
 h:∀w,Ok M R w→Cd G Q n c E w
structure ah (Q:Exit→Act→World→Prop) (n:Nat) (e:Exit) (E:Env) (M:List bu) (R:List (World→Prop)):Prop where
 h:∀w,Ok M R w→Fin Q n e E w
theorem Yl.mono {n:Nat} {op:Op} {E:Env} {C C':World→Prop} {v:Value} (h:Yl G n op E C v) (hc:∀w,C' w→C w):Yl G n op E C' v:=⟨fun w hw=>h.h w (hc w hw)⟩
section
variable {ops:Array Oper} {Q:Exit→Act→World→Prop} {n:Nat} {E:Env} {M M':List bu} {R R':List (World→Prop)} {rest l:List Oper} {op:Op} {d:Nat} {ty:TypeId} {pos:String} {aft:Array Edge} {v:Value} {x y z:Operand} {t:TypeId}
theorem bh.seq {x y:Code} (h:bh (Exit.then (y.wp G.P Q) Q) n x E M R):bh Q n (.seq x y) E M R:=⟨fun w hw=>Cd.seq (h.h w hw)⟩
theorem bh.block {id:Nat} {c:Code} (h:bh (Exit.inBlock id Q) n c E M R):bh Q n (.block id c) E M R:=⟨fun w hw=>Cd.block (h.h w hw)⟩
theorem bh.skip (h:ah Q n .normal E M R):bh Q n .skip E M R:=⟨fun w hw=>Cd.skip (h.h w hw)⟩
theorem bh.exit {id:Nat} (h:ah Q n (.exit id) E M R):bh Q n (.exit id) E M R:=⟨fun w hw=>Cd.exit (h.h w hw)⟩
theorem bh.ret (h:ah Q n .ret E M R):bh Q n .ret E M R:=⟨fun w hw=>Cd.ret (h.h w hw)⟩
theorem bh.region {id:Nat} {l:List Oper} (h:aa l.toArray Q n l E M R):bh Q n (.region id l.toArray false) E M R:=⟨fun w hw=>Cd.region (h.h w hw)⟩
theorem bh.jf {c:Operand} {x y:Code} (hc:ev E c=some (.bool true)) (h:bh Q n x E M R):bh Q n (.cond c x y) E M R:=⟨fun w hw=>Cd.jf hc (h.h w hw)⟩
theorem bh.je {c:Operand} {x y:Code} (hc:ev E c=some (.bool false)) (h:bh Q n y E M R):bh Q n (.cond c x y) E M R:=⟨fun w hw=>Cd.je hc (h.h w hw)⟩
theorem bh.Cu {b:Bool} {c:Operand} {x y:Code} (hc:ev E c=some (.bool b)) (hx:b=true→bh Q n x E M R) (hy:b=false→bh Q n y E M R):bh Q n (.cond c x y) E M R:=by
 cases b with
 |true=>exact bh.jf hc (hx rfl)
 |false=>exact bh.je hc (hy rfl)
theorem ah.lf {y:Code} (h:bh Q n y E M R):ah (Exit.then (y.wp G.P Q) Q) n .normal E M R:=⟨fun w hw=>Fin.lf (h.h w hw)⟩
theorem ah.lg {K:Act→World→Prop} (h:ah Q n .ret E M R):ah (Exit.then K Q) n .ret E M R:=⟨fun w hw=>Fin.lg (h.h w hw)⟩
theorem ah.lh {K:Act→World→Prop} {id:Nat} (h:ah Q n (.exit id) E M R):ah (Exit.then K Q) n (.exit id) E M R:=⟨fun w hw=>Fin.lh (h.h w hw)⟩
theorem ah.pK {id:Nat} (h:ah Q n .normal E M R):ah (Exit.inBlock id Q) n .normal E M R:=⟨fun w hw=>Fin.pK (h.h w hw)⟩
theorem ah.pM {id:Nat} (h:ah Q n .ret E M R):ah (Exit.inBlock id Q) n .ret E M R:=⟨fun w hw=>Fin.pM (h.h w hw)⟩
theorem ah.pN {id:Nat} (h:ah Q n .normal E M R):ah (Exit.inBlock id Q) n (.exit id) E M R:=⟨fun w hw=>Fin.pN (h.h w hw)⟩
theorem ah.xQ {id id':Nat} (hne:PC id' id=false) (h:ah Q n (.exit id') E M R):ah (Exit.inBlock id Q) n (.exit id') E M R:=⟨fun w hw=>Fin.xQ hne (h.h w hw)⟩
theorem aa.nil (h:ah Q n .normal E M R):aa ops Q n [] E M R:=⟨fun w hw=>aq.nil (h.h w hw)⟩
theorem aa.y_ (hy:Yl G n op E (Ok M R) v) (hd:(qi op && Pn d n)=true) (h:aa ops Q n rest ((d,v)::E) M R):aa ops Q n (⟨some d,op,ty,pos,aft,none⟩::rest) E M R:=
 ⟨fun w hw=>aq.y (M:=.list Q w) (hy.mono (by rintro _ rfl;exact hw)) hd (h.h w hw)⟩
theorem aa.yg {j:Nat} {b:Bool} (hg:qh ops E j=some b) (hy:Yl G n op E (Ok M R) v) (hd:(qi op && Pn d n)=true) (h:aa ops Q n rest ((d,v)::E) M R):aa ops Q n (⟨some d,op,ty,pos,aft,some (j,b)⟩::rest) E M R:=
 ⟨fun w hw=>aq.yg (M:=.list Q w) hg (hy.mono (by rintro _ rfl;exact hw)) hd (h.h w hw)⟩
theorem aa.gs {j:Nat} {b b':Bool} (hg:qh ops E j=some b') (hb:b'=!b) (hd:Pn d n=true) (h:aa ops Q n rest ((d,undef)::E) M R):aa ops Q n (⟨some d,op,ty,pos,aft,some (j,b)⟩::rest) E M R:=⟨fun w hw=>aq.gs hg hb hd (h.h w hw)⟩
theorem aa.gu {j:Nat} {b:Bool} (hg:Jz ops E j=true) (hd:Pn d n=true) (h:aa ops Q n rest ((d,undef)::E) M R):aa ops Q n (⟨some d,op,ty,pos,aft,some (j,b)⟩::rest) E M R:=⟨fun w hw=>aq.gu hg hd (h.h w hw)⟩
theorem aa.e {K:World→Value→World→Prop} (he:∀w,Ok M R w→bU G n op E w (K w)) (hd:Pn d n=true) (h:∀w v w',Ok M R w→K w v w'→aq G ops (.list Q w') n rest ((d,v)::E)):aa ops Q n (⟨some d,op,ty,pos,aft,none⟩::rest) E M R:=⟨fun w hw=>aq.e (he w hw) hd fun v w' hk=>h w v w' hw hk⟩
theorem aa.e0 {K:World→Value→World→Prop} (he:∀w,Ok M R w→bU G n op E w (K w)) (h:∀w v w',Ok M R w→K w v w'→aq G ops (.list Q w') n rest E):aa ops Q n (⟨none,op,ty,pos,aft,none⟩::rest) E M R:=⟨fun w hw=>aq.e0 (he w hw) fun v w' hk=>h w v w' hw hk⟩
theorem aa.lj (p:World→Prop) (hp:∀w',(∀r,r∈R→r w')→p w') (h:aa ops Q n l E M (p::R)):aa ops Q n l E M R:=⟨fun w hw=>h.h w (hw.lj hp)⟩
theorem bh.lj {c:Code} (p:World→Prop) (hp:∀w',(∀r,r∈R→r w')→p w') (h:bh Q n c E M (p::R)):bh Q n c E M R:=⟨fun w hw=>h.h w (hw.lj hp)⟩
theorem aa.sub {E':Env} (hE:Sub E E') (hM:M'.Sublist M) (hR:∀p,p∈R'→p∈R) (h:aa ops Q n l E' M' R'):aa ops Q n l E M R:=⟨fun w hw=>aq.sub hE (h.h w (hw.sub hM hR))⟩
structure HE {β:Type} (n:Nat) (op:Op) (E:Env) (M:List bu) (R:List (World→Prop)) (φ:β→Prop) (vf:β→Value) (Mf:β→List bu) (Rf:β→List (World→Prop)):Prop where
 h:∀w,Ok M R w→bU G n op E w (fun v w'=>∃x,φ x∧v=vf x∧Ok (Mf x) (Rf x) w')
structure gj {β:Type} (n:Nat) (op:Op) (E:Env) (M:List bu) (R:List (World→Prop)) (φ:β→Prop) (Mf:β→List bu) (Rf:β→List (World→Prop)):Prop where
 h:∀w,Ok M R w→bU G n op E w (fun _ w'=>∃x,φ x∧Ok (Mf x) (Rf x) w')
section
variable {β:Type} {φ:β→Prop} {vf:β→Value} {Mf:β→List bu} {Rf:β→List (World→Prop)}
theorem aa.he (he:HE n op E M R φ vf Mf Rf) (hd:Pn d n=true) (h:∀x,φ x→aa ops Q n rest ((d,vf x)::E) (Mf x) (Rf x)):aa ops Q n (⟨some d,op,ty,pos,aft,none⟩::rest) E M R:=
 aa.e (fun w hw=>he.h w hw) hd fun w v w' hw ⟨x,h1,h2,h3⟩=>by subst h2;exact(h x h1).h w' h3
theorem aa.jQ (he:gj n op E M R φ Mf Rf) (h:∀x,φ x→aa ops Q n rest E (Mf x) (Rf x)):aa ops Q n (⟨none,op,ty,pos,aft,none⟩::rest) E M R:=
 aa.e0 (fun w hw=>he.h w hw) fun _w _v w' _hw ⟨x,h1,h3⟩=>(h x h1).h w' h3
theorem aa.JT {j:Nat} {b:Bool} (hg:qh ops E j=some b) (he:HE n op E M R φ vf Mf Rf) (hd:Pn d n=true) (h:∀x,φ x→aa ops Q n rest ((d,vf x)::E) (Mf x) (Rf x)):aa ops Q n (⟨some d,op,ty,pos,aft,some (j,b)⟩::rest) E M R:=
 ⟨fun w hw=>aq.eg hg (he.h w hw) hd fun v w' ⟨x,h1,h2,h3⟩=>by subst h2;exact(h x h1).h w' h3⟩
end
theorem tp {w w':World} {cs:List Value} {T:TypeId} (hn:zf w w' cs T):∀k,(bu.aV w.heap.size cs T).F k→w.heap.size≤k∧k<w'.heap.size:=fun k hk=>by
 have:k=w.heap.size:=hk
 have:=hn.size;omega
theorem HE.alloc {ti:TI} (cs:List Value) (ht:G.ty t=some ti) (hz:ti.zero.cells.toList=cs):HE n (.alloc t) E M R (fun _:Nat=>True) (fun b=>.pointer (some ⟨b,0,none⟩)) (fun b=>.aV b cs t::M) (fun _=>R):=
 ⟨fun w hw=>(bU.alloc ht).mono fun v w' ⟨e,hn⟩=>by rw[hz]at hn;exact⟨w.heap.size,trivial,e,hw.push hn.ext hn.aV (tp hn)⟩⟩
theorem HE.box (cs:List Value) (hx:ev E x=some v) (hcs:v.cells=cs.toArray):HE n (.box t x) E M R (fun _:Nat=>True) (fun b=>.pointer (some ⟨b,0,none⟩)) (fun b=>.aV b cs t::M) (fun _=>R):=
 ⟨fun w hw=>(bU.box hx hcs).mono fun _v _w' ⟨e,hn⟩=>⟨w.heap.size,trivial,e,hw.push hn.ext hn.aV (tp hn)⟩⟩
theorem HE.HQ {e len:Nat} {parts:List (Nat×Operand)} {vs:List Value} (cs:List Value) (hv:kI E (parts.map (·.2))=some vs)
  (hr:∀w,(Instr.buildSlice t len ((parts.map (·.1)).zip vs).toArray).run G.P w=.ok (.slice (some ⟨w.heap.size,0,none⟩) len len) (w.alloc (.cells cs.toArray e))):
  HE n (.buildSlice t len parts.toArray) E M R (fun _:Nat=>True) (fun b=>.slice (some ⟨b,0,none⟩) len len) (fun b=>.aV b cs e::M) (fun _=>R):=
 ⟨fun w hw=>(bU.buildSlice hv (hr w)).mono fun _v _w' ⟨e1,hn⟩=>⟨w.heap.size,trivial,e1,hw.push hn.ext hn.aV (tp hn)⟩⟩
theorem aa.alloc {ti:TI} (cs:List Value) (ht:G.ty t=some ti) (hz:ti.zero.cells.toList=cs) (hd:Pn d n=true) (h:∀b,aa ops Q n rest ((d,.pointer (some ⟨b,0,none⟩))::E) (.aV b cs t::M) R):aa ops Q n (⟨some d,.alloc t,ty,pos,aft,none⟩::rest) E M R:=
 aa.he (HE.alloc cs ht hz) hd fun b _=>h b
theorem aa.box (cs:List Value) (hx:ev E x=some v) (hcs:v.cells=cs.toArray) (hd:Pn d n=true) (h:∀b,aa ops Q n rest ((d,.pointer (some ⟨b,0,none⟩))::E) (.aV b cs t::M) R):aa ops Q n (⟨some d,.box t x,ty,pos,aft,none⟩::rest) E M R:=
 aa.he (HE.box cs hx hcs) hd fun b _=>h b
theorem xR {w w':World} {b T:Nat} {old cs:List Value} (hw:Ok M R w) (hM:Up (.aV b old T) (.aV b cs T) M M') (hb:gO w' b cs T) (hc:bX (fun k=>k=b) w w'):Ok M' R w':=
 hw.qd hM hc hb (fun k hk=>by
  have:k=b:=hk
  have:=(hw.m _ hM.mem).2 b rfl
  have:=hc.size
  exact⟨by omega,fun _=>hk⟩)
theorem gj.bn {ti:TI} {b T:Nat} {old:List Value} (cs:List Value) (ht:G.ty t=some ti) (hx:ev E x=some (.pointer (some ⟨b,0,none⟩))) (hy:ev E y=some v) (hcs:v.cells=cs.toArray) (hs:ti.size=cs.length) (hv:(cs.all fun u=>u.oneCell')=true)
  (hM:Up (.aV b old T) (.aV b cs T) M M') (hl:PC old.length cs.length=true):gj n (.store t x y) E M R (fun _:Unit=>True) (fun _=>M') (fun _=>R):=
 ⟨fun _w hw=>(bU.bn ht hx hy hcs hs (fun u hu=>Pv.1 hv u hu) (hw.m _ hM.mem).1 (PP hl)).mono fun _ _w' ⟨hb,hc,_⟩=>⟨(),trivial,xR hw hM hb hc⟩⟩
theorem aa.bn {ti:TI} {b T:Nat} {old:List Value} (cs:List Value) (ht:G.ty t=some ti) (hx:ev E x=some (.pointer (some ⟨b,0,none⟩))) (hy:ev E y=some v) (hcs:v.cells=cs.toArray) (hs:ti.size=cs.length) (hv:(cs.all fun u=>u.oneCell')=true)
  (hM:Up (.aV b old T) (.aV b cs T) M M') (hl:PC old.length cs.length=true) (h:aa ops Q n rest E M' R):aa ops Q n (⟨none,.store t x y,ty,pos,aft,none⟩::rest) E M R:=
 aa.jQ (gj.bn cs ht hx hy hcs hs hv hM hl) fun _ _=>h
theorem gj.gz {ti:TI} {b j T:Nat} {old cs:List Value} (ht:G.ty t=some ti) (hs:ti.size=1) (hx:ev E x=some (.pointer (some ⟨b,j,none⟩))) (hy:ev E y=some v) (hv:v.oneCell'=true)
  (hM:Up (.aV b old T) (.aV b cs T) M M') (hcs:fW v old j cs):gj n (.store t x y) E M R (fun _:Unit=>True) (fun _=>M') (fun _=>R):=
 ⟨fun w hw=>(bU.B6 ht hs hx hy hv (hw.m _ hM.mem).1 hcs.eq.2).mono fun _ w' ⟨hb,hc,_⟩=>by
  rw[hcs.eq.1]at hb;exact⟨(),trivial,xR hw hM hb hc⟩⟩
theorem aa.gz {ti:TI} {b j T:Nat} {old cs:List Value} (ht:G.ty t=some ti) (hs:ti.size=1) (hx:ev E x=some (.pointer (some ⟨b,j,none⟩))) (hy:ev E y=some v) (hv:v.oneCell'=true)
  (hM:Up (.aV b old T) (.aV b cs T) M M') (hcs:fW v old j cs) (h:aa ops Q n rest E M' R):aa ops Q n (⟨none,.store t x y,ty,pos,aft,none⟩::rest) E M R:=
 aa.jQ (gj.gz ht hs hx hy hv hM hcs) fun _ _=>h
theorem HE.app {Mf:Value→List bu} {ti te:TI} {B T s m bk Tb:Nat} {xs cs:List Value} (hx:ev E x=some v) (hy:ev E y=some (.slice (some ⟨bk,0,none⟩) 1 1)) (hM:∀v',Up (.own B T s v m xs) (.own B T s v' (m+1) (xs++cs)) M (Mf v')) (hb:Up (.aV bk cs Tb) (.aV bk cs Tb) M M')
  (ht:G.ty t=some ti) (he:ti.elem=some T) (hte:G.ty T=some te) (hs:te.size=s) (hzs:PC te.zero.cells.size te.size=true) (hsz:Pn 0 te.size=true) (hbt:PF te.bytes 1000=true) (hcl:PC cs.length s=true) (h1:(cs.all fun u=>u.oneCell')=true) (hlen:m≤100000000000) (hB:∀w,Ok M R w→B≤w.heap.size):
  HE n (.call ⟨.builtin .append,#[x,y],#[t,t]⟩) E M R (fun _:Value=>True) (fun v'=>v') Mf (fun _=>R):=
 ⟨fun w hw=>by
  subst hs
  have hm:=(hw.m _ (hM undef).mem)
  have hbk:gO w bk cs Tb:=(hw.m _ hb.mem).1
  have hcl':=PP hcl
  have hbt':=PQ hbt
  refine(bU.oL (G:=G) (news:=cs) ht he hte (PP hzs) (by simpa using hsz) hx hm.1 hy (by rw[hcl'];omega) (fun j u hj=>by rw[Pm];exact hbk.cell hj) (fun u hu=>Pv.1 h1 u hu) OY (by have:=Nat.mul_le_mul (show m+1≤100000000001 by omega) hbt';omega) (hB w hw)).mono
   fun v' w' ⟨ho,hc,hob⟩=>⟨v',trivial,rfl,hw.qd (hM v') hc ho fun k hk=>⟨(ho.lt k hk).2,fun hlt=>?_⟩⟩
  rcases hob with e|e
  ·show v.ownBlock=some k
   rw[←e];exact hk
  ·have hk':v'.ownBlock=some k:=hk
   rw[e]at hk';cases hk';omega⟩
theorem Yl.mK {ti:TI} {b o:Nat} (ht:G.ty t=some ti) (ha:ti.agg=false) (hx:ev E x=some (.pointer (some ⟨b,o,none⟩))) (h:∀w,Ld w b o v M R):Yl G n (.load t x) E (Ok M R) v:=
 Yl.load ht ha hx fun w hw=>(h w).ok (fun q hq=>(hw.m q hq).1) (fun _p hp=>hw.get hp)
theorem Yl.mI {ti:TI} {b T:Nat} {cs:List Value} (ht:G.ty t=some ti) (ha:ti.agg=true) (hx:ev E x=some (.pointer (some ⟨b,0,none⟩))) (hs:PC cs.length ti.size=true) (hM:Up (.aV b cs T) (.aV b cs T) M M'):Yl G n (.load t x) E (Ok M R) (.agg cs.toArray):=
 Yl.rY ht ha rfl hx (PP hs) fun w hw j hj=>by
  have hb:gO w b cs T:=(hw.m _ hM.mem).1
  have hl:j<cs.length:=by rw[PP hs];exact hj
  rw[Pm,Pq hl]
  exact hb.cell (Pq hl)
theorem Yl.mJ {ti:TI} {b o:Nat} {cs:List Value} (ht:G.ty t=some ti) (ha:ti.agg=true) (hx:ev E x=some (.pointer (some ⟨b,o,none⟩))) (hR:Cs b o cs∈R) (hs:PC cs.length ti.size=true):Yl G n (.load t x) E (Ok M R) (.agg cs.toArray):=
 Yl.rY ht ha rfl hx (PP hs) fun w hw j hj=>hw.get hR j (by rw[PP hs];exact hj)
theorem Yl.ji {ti:TI} {b o s:Nat} {cs:List Value} {w0:World} (ht:G.ty t=some ti) (ha:ti.agg=true) (hx:ev E x=some (.pointer (some ⟨b,o,none⟩))) (hR:Ext w0∈R) (hs:ti.size=s) (hl:cs.length=s) (hc:∀j,j<s→w0.cell? ⟨b,o+j,none⟩=cs[j]?):Yl G n (.load t x) E (Ok M R) (.agg cs.toArray):=
 Yl.rY ht ha hs hx hl fun w hw j hj=>by
  have h1:=hc j hj
  rw[Pq Pc]at h1 ⊢
  exact(show Ext w0 w from hw.get hR).cell h1
theorem aa.au {f:Nat} {args:List Operand} {tys:Array TypeId} {vs:List Value} (hf:G.fb[f]?=some true) (ha:kI E args=some vs) (hd:Pn d n=true)
  (hc:∀w,Ok M R w→Calls G.P f vs.toArray w (fun e w'=>e=.returned v∧Ext w w'))
  (h:aa ops Q n rest ((d,v)::E) M R):aa ops Q n (⟨some d,.call ⟨.value (.func f),args.toArray,tys⟩,ty,pos,aft,none⟩::rest) E M R:=
 ⟨fun w hw=>aq.call hf ha hd (hc w hw) fun _e w' ⟨e1,hx⟩=>⟨v,e1,h.h w' (hw.ext hx)⟩⟩
theorem aa.cH {f j:Nat} {b:Bool} {args:List Operand} {tys:Array TypeId} {vs:List Value} (hg:qh ops E j=some b) (hf:G.fb[f]?=some true) (ha:kI E args=some vs) (hd:Pn d n=true)
  (hc:∀w,Ok M R w→Calls G.P f vs.toArray w (fun e w'=>e=.returned v∧Ext w w'))
  (h:aa ops Q n rest ((d,v)::E) M R):aa ops Q n (⟨some d,.call ⟨.value (.func f),args.toArray,tys⟩,ty,pos,aft,some (j,b)⟩::rest) E M R:=
 ⟨fun w hw=>aq.xa hg hf ha hd (hc w hw) fun _e w' ⟨e1,hx⟩=>⟨v,e1,h.h w' (hw.ext hx)⟩⟩
def Hn {β:Type} (V:Nat→World→β→Prop):Prop:=∀{lo:Nat} {x:β} {S:Nat→Prop} {w w':World},V lo w x→bX S w w'→(∀k,k<w.heap.size→lo≤k→¬S k)→V lo w' x
theorem HE.IN {β:Type} {V:Nat→World→β→Prop} (tf:β→Value) {f:Nat} {args:List Operand} {tys:Array TypeId} {vs:List Value} (hV:Hn V) (hf:G.fb[f]?=some true) (ha:kI E args=some vs)
  (hc:∀w,Ok M R w→Calls G.P f vs.toArray w (fun e w'=>(∃x,e=.returned (tf x)∧V w.heap.size w' x)∧Ext w w')):
  HE n (.call ⟨.value (.func f),args.toArray,tys⟩) E M R (fun x:Nat×β=>∃w,Ok M R w∧x.1=w.heap.size) (fun x=>tf x.2) (fun _=>M) (fun x=>(fun w=>V x.1 w x.2)::R):=
 ⟨fun w hw=>(bU.call hf ha (hc w hw) (fun e w' h=>by obtain⟨⟨x,e1,_⟩,_⟩:=h;exact⟨_,e1⟩)).mono fun v w' ⟨⟨x,e1,hv⟩,hx⟩=>by
  cases e1
  refine⟨(w.heap.size,x),⟨w,hw,rfl⟩,rfl,(hw.ext hx).add fun w2 h2=>hV hv h2 fun k _ hk ⟨q,hq,hk'⟩=>?_⟩
  have:=(hw.m q hq).2 k hk';omega⟩
theorem HE.call {β:Type} {φ:β→Prop} {Mf:β→List bu} {Rf:β→List (World→Prop)} (tf:β→Value) {f:Nat} {args:List Operand} {tys:Array TypeId} {vs:List Value} (hf:G.fb[f]?=some true) (ha:kI E args=some vs)
  (hc:∀w,Ok M R w→Calls G.P f vs.toArray w (fun e w'=>∃x,e=.returned (tf x)∧φ x∧Ok (Mf x) (Rf x) w')):HE n (.call ⟨.value (.func f),args.toArray,tys⟩) E M R φ tf Mf Rf:=
 ⟨fun w hw=>(bU.call hf ha (hc w hw) (fun e w' h=>by obtain⟨x,e1,_⟩:=h;exact⟨_,e1⟩)).mono fun v w' ⟨x,e1,h1,h2⟩=>by cases e1;exact⟨x,h1,rfl,h2⟩⟩
theorem aa.pure {φ:Prop} (hp:∀w,Ok M R w→φ) (h:φ→aa ops Q n l E M R):aa ops Q n l E M R:=⟨fun w hw=>(h (hp w hw)).h w hw⟩
theorem bh.pure {φ:Prop} {c:Code} (hp:∀w,Ok M R w→φ) (h:φ→bh Q n c E M R):bh Q n c E M R:=⟨fun w hw=>(h (hp w hw)).h w hw⟩
theorem aa.freeze {q:bu} (p:World→Prop) (hr:Rm q M M') (hp:∀w',q.P w'→(∀r,r∈R→r w')→p w') (h:aa ops Q n l E M' (p::R)):aa ops Q n l E M R:=⟨fun w hw=>h.h w (hw.nc hr hp)⟩
theorem bh.freeze {q:bu} {c:Code} (p:World→Prop) (hr:Rm q M M') (hp:∀w',q.P w'→(∀r,r∈R→r w')→p w') (h:bh Q n c E M' (p::R)):bh Q n c E M R:=⟨fun w hw=>h.h w (hw.nc hr hp)⟩
/-! a region that draws its order and holds effects, the last one of which waits for all others -/
structure bF (ops:Array Oper) (Q:Exit→Act→World→Prop) (Mc:List bu) (Rc:List (World→Prop)) (n:Nat) (l:List Oper) (E:Env) (M:List bu) (R:List (World→Prop)):Prop where
 h:∀w,Ok M R w→aq G ops (.mix true Q (Ok Mc Rc) w) n l E
theorem bh.dP {id:Nat} {l:List Oper} (ord:List Nat) (z:Nat) (Mc:List bu) (Rc:List (World→Prop)) (hB:CF l ord z=true) (hM:Mc.Sublist M) (hR:∀p,p∈Rc→p∈R) (h:bF l.toArray Q Mc Rc n (pick l (ord++[z])) E M R):bh Q n (.region id l.toArray true) E M R:=
 ⟨fun w hw=>Cd.dP ord z (Ok Mc Rc) hB (hw.drew.sub hM hR) (h.h w.drew hw.drew)⟩
section
variable {Mc:List bu} {Rc:List (World→Prop)} {β:Type} {φ:β→Prop} {vf:β→Value} {Mf:β→List bu} {Rf:β→List (World→Prop)}
theorem bF.y_ (hy:Yl G n op E (Ok Mc Rc) v) (hd:(qi op && Pn d n)=true) (h:bF ops Q Mc Rc n rest ((d,v)::E) M R):bF ops Q Mc Rc n (⟨some d,op,ty,pos,aft,none⟩::rest) E M R:=
 ⟨fun w hw=>aq.y (M:=.mix true Q (Ok Mc Rc) w) hy hd (h.h w hw)⟩
theorem bF.he (he:HE n op E M R φ vf Mf Rf) (hd:(!qi op && Pn d n)=true) (hM:∀x,Mc.Sublist (Mf x)) (hR:∀x p,p∈Rc→p∈Rf x) (h:∀x,φ x→bF ops Q Mc Rc n rest ((d,vf x)::E) (Mf x) (Rf x)):bF ops Q Mc Rc n (⟨some d,op,ty,pos,aft,none⟩::rest) E M R:=
 ⟨fun w hw=>aq.m (he.h w hw) hd fun v w' ⟨x,h1,h2,h3⟩=>by subst h2;exact⟨h3.sub (hM x) (hR x),(h x h1).h w' h3⟩⟩
theorem bF.JA (he:HE n op E M R φ vf Mf Rf) (hd:(!qi op && Pn d n)=true) (h:∀x,φ x→ah Q n .normal ((d,vf x)::E) (Mf x) (Rf x)):bF ops Q Mc Rc n [⟨some d,op,ty,pos,aft,none⟩] E M R:=
 ⟨fun w hw=>aq.mz (he.h w hw) hd fun v w' ⟨x,h1,h2,h3⟩=>by subst h2;exact aq.DN ((h x h1).h w' h3)⟩
theorem bF.iM (he:gj n op E M R φ Mf Rf) (hd:qi op=false) (h:∀x,φ x→ah Q n .normal E (Mf x) (Rf x)):bF ops Q Mc Rc n [⟨none,op,ty,pos,aft,none⟩] E M R:=
 ⟨fun w hw=>aq.Lb (he.h w hw) hd fun _v w' ⟨x,h1,h3⟩=>aq.DN ((h x h1).h w' h3)⟩
variable {gd:Option (Nat×Bool)} {dd:Option Nat} {t2:TypeId}
theorem bF.aG {bo:BinOp} (h:bF ops Q Mc Rc n (⟨dd,.binOp bo t x y t2,ty,pos,aft,gd⟩::rest) E M R):bF ops Q Mc Rc n (⟨dd,.binOp bo t x y t2,ty,pos,aft,gd⟩::rest) E M R:=h
theorem bF.isField {f:Nat} (h:bF ops Q Mc Rc n (⟨dd,.fieldAddr t x f,ty,pos,aft,gd⟩::rest) E M R):bF ops Q Mc Rc n (⟨dd,.fieldAddr t x f,ty,pos,aft,gd⟩::rest) E M R:=h
theorem bF.dn (h:bF ops Q Mc Rc n (⟨dd,.load t x,ty,pos,aft,gd⟩::rest) E M R):bF ops Q Mc Rc n (⟨dd,.load t x,ty,pos,aft,gd⟩::rest) E M R:=h
end
theorem bh.cY {id:Nat} {l:List Oper} (hB:Region.lexB .any l.toArray=true) (h:aq G l.toArray (.quiet (fun a'=>∀w',Ok M R w'→Q .normal a' w') (Ok M R)) n l E):bh Q n (.region id l.toArray true) E M R:=
 ⟨fun _w hw=>Cd.G4 (Ok M R) hB hw.drew h⟩
theorem bh.oA {id:Nat} {l:List Oper} (_:(l.all fun o=>qi o.op)=true) (hB:Region.lexB .any l.toArray=true) (h:aq G l.toArray (.quiet (fun a'=>∀w',Ok M R w'→Q .normal a' w') (Ok M R)) n l E):bh Q n (.region id l.toArray true) E M R:=bh.cY hB h
theorem aq.J5 (h:ah Q n .normal E M R):aq G ops (.quiet (fun a'=>∀w',Ok M R w'→Q .normal a' w') (Ok M R)) n [] E:=⟨fun a ha w' hw=>(h.h w' hw).h a ha⟩
theorem aq.nW {K:Act→Prop} {f:Nat} {args:List Operand} {tys:Array TypeId} {vs:List Value} (hf:G.fb[f]?=some true) (ha:kI E args=some vs) (hd:Pn d n=true) (hc:∀w,Ok M R w→Calls G.P f vs.toArray w (fun e w'=>e=.returned v∧Ext w w'))
  (h:aq G ops (.quiet K (Ok M R)) n rest ((d,v)::E)):aq G ops (.quiet K (Ok M R)) n (⟨some d,.call ⟨.value (.func f),args.toArray,tys⟩,ty,pos,aft,none⟩::rest) E:=
 aq.IP hf ha hd (fun w hw=>(hc w hw).mono fun _e _w' ⟨e1,hx⟩=>⟨e1,hw.ext hx⟩) h
theorem aq.kP {K:Act→Prop} {f j:Nat} {b:Bool} {args:List Operand} {tys:Array TypeId} {vs:List Value} (hg:qh ops E j=some b) (hf:G.fb[f]?=some true) (ha:kI E args=some vs) (hd:Pn d n=true) (hc:∀w,Ok M R w→Calls G.P f vs.toArray w (fun e w'=>e=.returned v∧Ext w w'))
  (h:aq G ops (.quiet K (Ok M R)) n rest ((d,v)::E)):aq G ops (.quiet K (Ok M R)) n (⟨some d,.call ⟨.value (.func f),args.toArray,tys⟩,ty,pos,aft,some (j,b)⟩::rest) E:=
 aq.HS hg hf ha hd (fun w hw=>(hc w hw).mono fun _e _w' ⟨e1,hx⟩=>⟨e1,hw.ext hx⟩) h
def Cn {σ:Type} (n:Nat) (Ei:σ→Env) (Mi:σ→List bu) (Ri:σ→List (World→Prop)) (I:σ→Prop) (μ:σ→Nat) (s:σ):Act→World→Prop:=
 th n Ei (fun s w=>I s∧Ok (Mi s) (Ri s) w) μ s
theorem bh.loop {σ:Type} {c:Code} (Ei:σ→Env) (Mi:σ→List bu) (Ri:σ→List (World→Prop)) (I:σ→Prop) (μ:σ→Nat) (s0:σ) (hE:Sub E (Ei s0)) (hM:(Mi s0).Sublist M) (hR:∀p,p∈Ri s0→p∈R) (hI:I s0)
  (round:∀s,I s→bh (Exit.then (Cn n Ei Mi Ri I μ s) Q) n c (Ei s) (Mi s) (Ri s)):bh Q n (.loop c) E M R:=
 ⟨fun _w hw=>Cd.loop Ei (fun s w=>I s∧Ok (Mi s) (Ri s) w) μ s0 hE ⟨hI,hw.sub hM hR⟩ fun s w ⟨h1,h2⟩=>(round s h1).h w h2⟩
theorem ah.next {σ:Type} {Ei:σ→Env} {Mi:σ→List bu} {Ri:σ→List (World→Prop)} {I:σ→Prop} {μ:σ→Nat} {s:σ} (s':σ) (hE:Sub E (Ei s')) (hM:(Mi s').Sublist M) (hR:∀p,p∈Ri s'→p∈R) (hI:I s') (hμ:μ s'<μ s):
  ah (Exit.then (Cn n Ei Mi Ri I μ s) Q) n .normal E M R:=⟨fun _w hw=>Fin.next s' hE ⟨hI,hw.sub hM hR⟩ hμ⟩
end
section
variable {fn:Func} {Rp:Ending→World→Prop} {n:Nat} {E:Env} {M M':List bu} {R:List (World→Prop)} {v x:Value} {t u:Nat}
theorem ah.FX (hr:fn.results=#[]) (hR:∀w,Ok M R w→Rp (.returned (.tuple #[])) w):ah (bodyPost G.P fn Rp) n .ret E M R:=⟨fun w hw=>Fin.FX hr (hR w hw)⟩
theorem ah.nY (hr:fn.results=#[]) (hR:∀w,Ok M R w→Rp (.returned (.tuple #[])) w):ah (bodyPost G.P fn Rp) n .normal E M R:=⟨fun w hw=>Fin.nY hr (hR w hw)⟩
theorem ah.aF (hr:fn.results=#[.tmp t]) (hv:lk E t=some v) (hR:∀w,Ok M R w→Rp (.returned v) w):ah (bodyPost G.P fn Rp) n .ret E M R:=⟨fun w hw=>Fin.aF hr hv (hR w hw)⟩
theorem ah.iq (hr:fn.results=#[.tmp t,.tmp u]) (hv:lk E t=some v) (hx:lk E u=some x) (hR:∀w,Ok M R w→Rp (.returned (.tuple #[v,x])) w):ah (bodyPost G.P fn Rp) n .ret E M R:=⟨fun w hw=>Fin.iq hr hv hx (hR w hw)⟩
theorem ah.bB {e:Exit} {a T Tb b s:Nat} {ti:TI} {cs:List Value} (he:e=.ret∨e=.normal) (hr:fn.results=#[.cell a T]) (ha:lk E a=some (.pointer (some ⟨b,0,none⟩))) (hT:G.ty T=some ti) (hag:ti.agg=true) (hsz:ti.size=s) (hM:Up (.aV b cs Tb) (.aV b cs Tb) M M') (hl:cs.length=s) (hR:∀w,Ok M R w→Rp (.returned (.agg cs.toArray)) w):ah (bodyPost G.P fn Rp) n e E M R:=
 ⟨fun w hw=>Fin.bB he hr ha hT hag hsz (hw.m _ hM.mem).1 hl (hR w hw)⟩
theorem ah.aM {e:Exit} {a T Tb b s:Nat} {ti:TI} {cs:List Value} (he:e=.ret∨e=.normal) (hr:fn.results=#[.cell a T,.tmp t]) (ha:lk E a=some (.pointer (some ⟨b,0,none⟩))) (hT:G.ty T=some ti) (hag:ti.agg=true) (hsz:ti.size=s) (hM:Up (.aV b cs Tb) (.aV b cs Tb) M M') (hl:cs.length=s) (hv:lk E t=some v) (hR:∀w,Ok M R w→Rp (.returned (.tuple #[.agg cs.toArray,v])) w):ah (bodyPost G.P fn Rp) n e E M R:=
 ⟨fun w hw=>Fin.aM he hr ha hT hag hsz (hw.m _ hM.mem).1 hl hv (hR w hw)⟩
end
theorem ae {f:FuncId} {fn:Func} {c:Code} {n:Nat} {l:List Value} {w:World} {Rp:Ending→World→Prop} {M:List bu} {R:List (World→Prop)} (hf:G.P.funcs[f]?=some fn) (hb:fn.body=some c) (hn:fn.ntmps=n) (hl:PF l.length n=true) (hw:Ok M R w)
  (h:bh (bodyPost G.P fn Rp) n c (A1 0 l) M R):Calls G.P f l.toArray w Rp:=enter (G:=G) hf hb hn hl (h.h w hw)
theorem vt:∀p,p∈([]:List (World→Prop))→p∈R:=fun _ h=>by cases h
theorem rK {R R':List (World→Prop)} (h:p∈R) (hr:∀x,x∈R'→x∈R):∀x,x∈p::R'→x∈R:=fun x hx=>(Pz.1 hx).elim (fun e=>e ▸ h) (hr x)
section
variable {ops:Array Oper} {Q:Exit→Act→World→Prop} {n:Nat} {E:Env} {M M':List bu} {R:List (World→Prop)} {rest l:List Oper} {op:Op} {d:Option Nat} {ty:TypeId} {pos:String} {aft:Array Edge} {gd:Option (Nat×Bool)} {v:Value} {x y z:Operand} {t t2:TypeId} {C:World→Prop}
theorem Yl.kR {ti:TI} {f o bk:Nat} (ht:G.ty t=some ti) (ho:ti.oW[f]?=some o) (hx:ev E x=some (.pointer (some ⟨bk,0,none⟩))):Yl G n (.fieldAddr t x f) E C (.pointer (some ⟨bk,o,none⟩)):=by
 have:=Yl.field (G:=G) (n:=n) (E:=E) (C:=C) ht ho hx
 rwa[Pm]at this
theorem aa.is (h:aa ops Q n l E M R):aa ops Q n l E M R:=h
theorem bh.is {c:Code} (h:bh Q n c E M R):bh Q n c E M R:=h
theorem ah.is {e:Exit} (h:ah Q n e E M R):ah Q n e E M R:=h
theorem aa.CC {jb:Nat×Bool} (h:aa ops Q n (⟨d,op,ty,pos,aft,some jb⟩::rest) E M R):aa ops Q n (⟨d,op,ty,pos,aft,some jb⟩::rest) E M R:=h
theorem aa.aG {bo:BinOp} (h:aa ops Q n (⟨d,.binOp bo t x y t2,ty,pos,aft,gd⟩::rest) E M R):aa ops Q n (⟨d,.binOp bo t x y t2,ty,pos,aft,gd⟩::rest) E M R:=h
theorem aa.eM (h:aa ops Q n (⟨d,.indexAddr t x y,ty,pos,aft,gd⟩::rest) E M R):aa ops Q n (⟨d,.indexAddr t x y,ty,pos,aft,gd⟩::rest) E M R:=h
theorem aa.isField {f:Nat} (h:aa ops Q n (⟨d,.fieldAddr t x f,ty,pos,aft,gd⟩::rest) E M R):aa ops Q n (⟨d,.fieldAddr t x f,ty,pos,aft,gd⟩::rest) E M R:=h
theorem aa.dn (h:aa ops Q n (⟨d,.load t x,ty,pos,aft,gd⟩::rest) E M R):aa ops Q n (⟨d,.load t x,ty,pos,aft,gd⟩::rest) E M R:=h
theorem aa.yc (h:aa ops Q n (⟨none,.store t x y,ty,pos,aft,gd⟩::rest) E M R):aa ops Q n (⟨none,.store t x y,ty,pos,aft,gd⟩::rest) E M R:=h
end
theorem Ok.start (w:World):Ok [] [Ext w] w:=
 ⟨fun q h=>absurd h Pd,List.Pairwise.nil,fun p hp w' hc=>by
  rw[PI]at hp;subst hp;exact hc.mono (fun k _ ⟨q,hq,_⟩=>absurd hq Pd)⟩
inductive App:List Value→List Value→List Value→Prop
 |nil {b:List Value}:App [] b b
 |cons {x:Value} {a b c:List Value}:App a b c→App (x::a) b (x::c)
inductive Cells:List Value→List Value→Prop
 |nil:Cells [] []
 |agg {l vs cs out:List Value}:Cells vs cs→App l cs out→Cells (.agg l.toArray::vs) out
 |one {v:Value} {vs cs:List Value}:Cells vs cs→Cells (v::vs) (v::cs)
def tx (s:Nat):List Value→List (Nat×Value)→Option (List Value)
 |cs,[]=>some cs
 |cs,(i,v)::r=>bif (PC v.cells.toList.length s && PF (i*s+v.cells.toList.length) cs.length)then tx s (Dy cs (i*s) v.cells.toList) r else none
theorem zF {s:Nat}:∀{parts:List (Nat×Value)} {cs c:List Value},tx s cs parts=some c→Instr.fill (fun i=>some (i*s,s)) cs.toArray parts=some c.toArray
 |[],cs,c,h=>by simp only[tx,Option.some.injEq]at h;subst h;rfl
 |(i,v)::r,cs,c,h=>by
  simp only[tx]at h
  unfold Instr.fill
  dsimp only at h ⊢
  cases hb:(PC v.cells.toList.length s && PF (i*s+v.cells.toList.length) cs.length)with
  |false=>rw[hb]at h;cases h
  |true=>
   rw[hb]at h
   simp only[Bool.and_eq_true]at hb
   have h1:=PP hb.1
   have h2:=PQ hb.2
   have e1:v.cells.size=s:=by simpa using h1
   have e2:¬i*s+v.cells.size>cs.toArray.size:=by simpa using h2
   rw[if_neg (by simp[e1];rw[e1]at e2;simpa using e2)]
   have h3:=zF h
   rw[←h3]
   congr 1
   have:=yh v.cells.toList cs (i*s) 0
   rw[Nat.add_zero]at this
   rw[this,←Array.foldl_toList,Array.toList_zipIdx]
def Cj (len s:Nat) (zs:List Value):List Value:=(List.range (len*s)).map fun i=>zs.getD (i % zs.length) default
theorem vi {t e len s:Nat} {ti te:TI} {parts:List (Nat×Value)} {cs:List Value} (w:World) (ht:G.ty t=some ti) (he:ti.elem=some e) (hte:G.ty e=some te) (hs:te.size=s) (hlen:PF (len*s) 16777216=true) (hf:tx s (Cj len s te.zero.cells.toList) parts=some cs):
  (Instr.buildSlice t len parts.toArray).run G.P w=.ok (.slice (some ⟨w.heap.size,0,none⟩) len len) (w.alloc (.cells cs.toArray e)):=by
 have h1:=(G.iR t ti ht).elem e he
 have h2:=(G.iR e te hte).size w
 have h3:=(G.iR e te hte).zeroV w
 rw[hs]at h2
 have h4:=zF hf
 have h5:¬len*s>2 ^ 24:=by have:=PQ hlen;omega
 by_cases h0:len*s=0
 ·have e0:(Cj len s te.zero.cells.toList).toArray=(Array.range (len*s)).map ((#[]:Array Value)[·% (#[]:Array Value).size]!):=by simp[Cj,h0]
  rw[e0]at h4
  simp[Instr.buildSlice,run_underlying h1,h2,h0,newRow]at h4 ⊢
  simp[h4]
 ·have e0:(Cj len s te.zero.cells.toList).toArray=(Array.range (len*s)).map (te.zero.cells[·% te.zero.cells.size]!):=by
   apply Array.ext'
   simp[Cj,List.getD_eq_getElem?_getD,Array.getElem!_eq_getD]
   skip
  rw[e0]at h4
  simp[Instr.buildSlice,run_underlying h1,h2,h0,h3,newRow,Nat.not_lt.2 (PQ hlen)]at h4 ⊢
  rw[h4];simp
section
variable {ops:Array Oper} {Q:Exit→Act→World→Prop} {n:Nat} {E:Env} {M M':List bu} {R:List (World→Prop)} {rest l:List Oper} {op:Op} {d:Nat} {ty:TypeId} {pos:String} {aft:Array Edge} {v:Value} {x y z:Operand} {t:TypeId} {C:World→Prop}
theorem Yl.jZ {s bt:Nat} {el:Option Nat} {os:List Nat} {zs cs:List Value} {ik:Option IntKind} {parts:List (Nat×Operand)} {vs:List Value} (ht:G.ty t=some ⟨s,bt,true,el,os,.agg zs.toArray,ik⟩) (ho:os.isEmpty=false) (hv:kI E (parts.map (·.2))=some vs) (_hc:Cells vs cs) (hf:nG (qJ os s) zs ((parts.map (·.1)).zip vs)=some cs):
  Yl G n (.build t parts.toArray) E C (.agg cs.toArray):=by
 have:=Yl.gD (n:=n) (E:=E) (C:=C) (parts:=parts) ht ho hv (by rw[hf];rfl)
 rw[hf]at this;exact this
theorem Yl.jY {s bt:Nat} {el:Option Nat} {os:List Nat} {zs:List Value} {ik:Option IntKind} (ht:G.ty t=some ⟨s,bt,true,el,os,.agg zs.toArray,ik⟩) (ho:os.isEmpty=false):Yl G n (.build t #[]) E C (.agg zs.toArray):=
 Yl.gD (n:=n) (E:=E) (C:=C) (parts:=[]) (vs:=[]) ht ho rfl rfl
theorem Yl.GK {k:IntKind} {p q:Int} {t2:TypeId} (hx:ev E x=some (.int k p)) (hy:ev E y=some (.int k q)):Yl G n (.binOp .gtr t x y t2) E C (.bool (decide (q<p))):=Yl.bin hx hy (fun w=>by simp[binOp,Op.intCmp])
theorem Yl.GR {k:IntKind} {p q:Int} {t2:TypeId} (hx:ev E x=some (.int k p)) (hy:ev E y=some (.int k q)):Yl G n (.binOp .lss t x y t2) E C (.bool (decide (p<q))):=Yl.bin hx hy (fun w=>by simp[binOp,Op.intCmp])
theorem Yl.GN {k:IntKind} {p q:Int} {t2:TypeId} (hx:ev E x=some (.int k p)) (hy:ev E y=some (.int k q)):Yl G n (.binOp .leq t x y t2) E C (.bool (decide (p≤q))):=Yl.bin hx hy (fun w=>by simp[binOp,Op.intCmp])
theorem Yl.GJ {k:IntKind} {p q:Int} {t2:TypeId} (hx:ev E x=some (.int k p)) (hy:ev E y=some (.int k q)):Yl G n (.binOp .geq t x y t2) E C (.bool (decide (q≤p))):=Yl.bin hx hy (fun w=>by simp[binOp,Op.intCmp])
inductive jc:List Value→Nat→List Value→Prop
 |zero {l:List Value}:jc l 0 []
 |succ {a:Value} {l out:List Value} {s:Nat}:jc l s out→jc (a::l) (s+1) (a::out)
inductive ja:List Value→Nat→Nat→List Value→Prop
 |here {l out:List Value} {s:Nat}:jc l s out→ja l 0 s out
 |drop {a:Value} {l out:List Value} {o s:Nat}:ja l o s out→ja (a::l) (o+1) s out
theorem jc.get {l out:List Value} {s:Nat} (h:jc l s out):out.length=s∧∀j,j<s→out[j]?=l[j]?∧j<l.length:=by
 induction h with
 |zero=>exact⟨rfl,fun j hj=>by omega⟩
 |succ _ ih=>
  refine⟨by simp[ih.1],fun j hj=>?_⟩
  cases j with
  |zero=>simp
  |succ j=>have:=ih.2 j Pc;simpa using this
theorem ja.get {l out:List Value} {o s:Nat} (h:ja l o s out):out.length=s∧∀j,j<s→out[j]?=l[o+j]?∧o+j<l.length:=by
 induction h with
 |here h=>simpa using h.get
 |drop _ ih=>
  refine⟨ih.1,fun j hj=>?_⟩
  have:=ih.2 j hj
  rw[show∀o:Nat,o+1+j=o+j+1 from fun o=>by omega]
  simpa using this
theorem Yl.mL {ti:TI} {b o T s:Nat} {cs out:List Value} (ht:G.ty t=some ti) (ha:ti.agg=true) (hx:ev E x=some (.pointer (some ⟨b,o,none⟩))) (hs:ti.size=s) (hM:Up (.aV b cs T) (.aV b cs T) M M') (hc:ja cs o s out):Yl G n (.load t x) E (Ok M R) (.agg out.toArray):=
 Yl.rY ht ha hs hx hc.get.1 fun w hw j hj=>by
  have hb:gO w b cs T:=(hw.m _ hM.mem).1
  obtain⟨h1,h2⟩:=hc.get.2 j hj
  rw[h1,Pq h2]
  exact hb.cell (Pq h2)
theorem mD {pl:List (Nat×Nat)} {cs:List Value}:nG pl cs []=some cs:=rfl
theorem I3 {cs:List Value} {o:Nat} {v:Value}:Dy cs o [v]=cs.set o v:=rfl
theorem mE {os:List Nat} {s i o:Nat} {zs cs' out:List Value} {v:Value} {r:List (Nat×Value)} (_h:os[i]?=some o) (hp:(qJ os s)[i]?=some (o,1)) (hv:v.cells=#[v]) (hs:fW v zs o cs') (hr:nG (qJ os s) cs' r=some out):nG (qJ os s) zs ((i,v)::r)=some out:=by
 have:=hs.eq
 rw[nG,hp]
 simp only[hv]
 have hb:PF (o+1) zs.length=true:=Nat.ble_eq_true_of_le this.2
 simp[I3,this.1,hb,hr]
theorem Yl.ka {s bt:Nat} {el:Option Nat} {os:List Nat} {zs cs:List Value} {ik:Option IntKind} {parts:List (Nat×Operand)} {vs:List Value} (ht:G.ty t=some ⟨s,bt,true,el,os,.agg zs.toArray,ik⟩) (ho:os.isEmpty=false) (hv:kI E (parts.map (·.2))=some vs) (hf:nG (qJ os s) zs ((parts.map (·.1)).zip vs)=some cs):
  Yl G n (.build t parts.toArray) E C (.agg cs.toArray):=by
 have:=Yl.gD (n:=n) (E:=E) (C:=C) (parts:=parts) ht ho hv (by rw[hf];rfl)
 rw[hf]at this;exact this
theorem HE.jJ {e len s:Nat} {ti te:TI} {parts:List (Nat×Operand)} {vs cs:List Value} (ht:G.ty t=some ti) (he:ti.elem=some e) (hte:G.ty e=some te) (hs:te.size=s) (hv:kI E (parts.map (·.2))=some vs) (_hc:Cells vs cs) (hlen:PF (len*s) 16777216=true) (hf:tx s (Cj len s te.zero.cells.toList) ((parts.map (·.1)).zip vs)=some cs):
  HE n (.buildSlice t len parts.toArray) E M R (fun _:Nat=>True) (fun b=>.slice (some ⟨b,0,none⟩) len len) (fun b=>.aV b cs e::M) (fun _=>R):=
 HE.HQ cs hv fun w=>vi w ht he hte hs hlen hf
theorem HE.eK {f:Nat} {args:List Operand} {tys:Array TypeId} {vs:List Value} (hf:G.fb[f]?=some true) (ha:kI E args=some vs)
  (hc:∀w,Ok M R w→Calls G.P f vs.toArray w (fun e w'=>e=.returned v∧Ext w w')):HE n (.call ⟨.value (.func f),args.toArray,tys⟩) E M R (fun _:Unit=>True) (fun _=>v) (fun _=>M) (fun _=>R):=
 HE.call (fun _=>v) hf ha fun w hw=>(hc w hw).mono fun _e _w' ⟨e1,hx⟩=>⟨(),e1,trivial,hw.ext hx⟩
theorem Ok.iN {w:World} (h:Ok M R w) (B T s:Nat):Ok (.own B T s (.slice none 0 0) 0 []::M) R w:=
 h.push (bX.refl _ w) (World.ownsRow_nil w B T s) (fun k hk=>by cases(show(none:Option Nat)=some k from hk))
theorem aa.iN (B T s:Nat) (h:aa ops Q n l E (.own B T s (.slice none 0 0) 0 []::M) R):aa ops Q n l E M R:=⟨fun w hw=>h.h w (hw.iN B T s)⟩
theorem bh.iN {c:Code} (B T s:Nat) (h:bh Q n c E (.own B T s (.slice none 0 0) 0 []::M) R):bh Q n c E M R:=⟨fun w hw=>h.h w (hw.iN B T s)⟩
theorem HE.lQ {B T s m f:Nat} {xs:List Value} {args:List Operand} {tys:Array TypeId} {vs:List Value} (hf:G.fb[f]?=some true) (ha:kI E args=some vs) (hB:∀w,Ok M R w→B≤w.heap.size)
  (hc:∀w,Ok M R w→Calls G.P f vs.toArray w (fun e w'=>(∃v,e=.returned v∧w'.ownsRow w.heap.size T s v m xs)∧Ext w w')):
  HE n (.call ⟨.value (.func f),args.toArray,tys⟩) E M R (fun _:Value=>True) (fun u=>u) (fun u=>.own B T s u m xs::M) (fun _=>R):=
 ⟨fun w hw=>(bU.call hf ha (hc w hw) (fun e w' h=>by obtain⟨⟨x,e1,_⟩,_⟩:=h;exact⟨_,e1⟩)).mono fun v w' ⟨⟨x,e1,hv⟩,hx⟩=>by
  cases e1
  exact⟨_,trivial,rfl,hw.push hx (oc hv fun k hk=>Nat.le_trans (hB w hw) (hv.lt k hk).1) (fun k hk=>hv.lt k hk)⟩⟩
theorem dO {w:World} {B T s m g cap:Nat} {xs:List Value} (h:w.ownsRow B T s (.slice (some ⟨g,0,none⟩) m cap) m xs) {j:Nat} {u:Value} (hj:xs[j]?=some u):w.cell? ⟨g,j,none⟩=some u:=by
 have:=World.ownsRow.cells h (g:=g) rfl j u hj
 have e:(⟨g,0,none⟩:Addr).add j=⟨g,j,none⟩:=by
  unfold Addr.add;split
  ·rename_i h0;rw[h0]
  ·simp
 rwa[e]at this
theorem HE.m8 {Mf:Value→List bu} {ti te:TI} {B B2 T s m k:Nat} {xs ys:List Value} {u:Value} (hx:ev E x=some v) (hy:ev E y=some u) (hM:∀v',Up (.own B T s v m xs) (.own B T s v' (m+k) (xs++ys)) M (Mf v')) (hb:Up (.own B2 T s u k ys) (.own B2 T s u k ys) M M')
  (ht:G.ty t=some ti) (he:ti.elem=some T) (hte:G.ty T=some te) (hs:te.size=s) (hzs:PC te.zero.cells.size te.size=true) (hsz:Pn 0 te.size=true) (hbt:PF te.bytes 1000=true) (h1:∀u∈ys,u.oneCell'=true) (hlen:m+k≤100000000000) (hB:∀w,Ok M R w→B≤w.heap.size):
  HE n (.call ⟨.builtin .append,#[x,y],#[t,t]⟩) E M R (fun _:Value=>True) (fun v'=>v') Mf (fun _=>R):=
 ⟨fun w hw=>by
  subst hs
  have hm:=(hw.m _ (hM undef).mem)
  have hu:w.ownsRow B2 T te.size u k ys:=(hw.m _ hb.mem).1
  have ho:w.ownsRow B T te.size v m xs:=hm.1
  have hbt':=PQ hbt
  have hsz':0<te.size:=by simpa using hsz
  obtain⟨p2,c2,rfl,_,_,hg⟩:=aw hu
  have key:∀v' w',w'.ownsRow B T te.size v' (m+k) (xs++ys)→bX (fun k=>v.ownBlock=some k) w w'→(v'.ownBlock=v.ownBlock∨v'.ownBlock=some w.heap.size)→∃x:Value,True∧v'=x∧Ok (Mf x) R w':=fun v' w' ho' hc hob=>
   ⟨v',trivial,rfl,hw.qd (hM v') hc ho' fun i hi=>⟨(ho'.lt i hi).2,fun hlt=>by
    rcases hob with e|e
    ·show v.ownBlock=some i
     rw[←e];exact hi
    ·have hk':v'.ownBlock=some i:=hi
     rw[e]at hk';cases hk';omega⟩⟩
  by_cases h0:k=0
  ·subst h0
   obtain⟨po,c,rfl,hc,_⟩:=aw ho
   have hy0:ys=[]:=P6 (by have:=hu.1;simpa using this)
   subst hy0
   refine(bU.xO (G:=G) ht he hte hx hc hy).mono ?_
   rintro _ _ ⟨rfl,rfl⟩
   exact ip
  ·obtain⟨g,rfl,_,_⟩:=hg (Nat.pos_of_ne_zero h0)
   have hfull:w.ownsRow B2 T te.size (.slice (some ⟨g,0,none⟩) k c2) k ys:=hu
   refine(bU.oL (G:=G) (news:=ys) ht he hte (PP hzs) hsz' hx ho hy hu.1 (fun j u hj=>by rw[Pm];exact dO hfull hj) h1 OY (by have:=Nat.mul_le_mul hlen hbt';omega) (hB w hw)).mono fun v' w' ⟨a,b,c⟩=>key v' w' a b c⟩
theorem HE.IG {Mf:Value→List bu} {ti te:TI} {B T s m k c:Nat} {po:Option Addr} {xs:List Value} (ys:List Value) (hx:ev E x=some v) (hy:ev E y=some (.slice po k c)) (hM:∀v',Up (.own B T s v m xs) (.own B T s v' (m+k) (xs++ys)) M (Mf v'))
  (hrd:k=0∨∃bk o,po=some ⟨bk,o,none⟩∧∀w,Ok M R w→∀j u,ys[j]?=some u→w.cell? ⟨bk,o+j,none⟩=some u) (hys:ys.length=k*s)
  (ht:G.ty t=some ti) (he:ti.elem=some T) (hte:G.ty T=some te) (hs:te.size=s) (hzs:PC te.zero.cells.size te.size=true) (hsz:Pn 0 te.size=true) (hbt:PF te.bytes 1000=true) (h1:∀u∈ys,u.oneCell'=true) (hlen:m+k≤100000000000) (hB:∀w,Ok M R w→B≤w.heap.size):
  HE n (.call ⟨.builtin .append,#[x,y],#[t,t]⟩) E M R (fun _:Value=>True) (fun v'=>v') Mf (fun _=>R):=
 ⟨fun w hw=>by
  subst hs
  have hm:=(hw.m _ (hM undef).mem)
  have ho:w.ownsRow B T te.size v m xs:=hm.1
  have hbt':=PQ hbt
  have hsz':0<te.size:=by simpa using hsz
  have key:∀v' w',w'.ownsRow B T te.size v' (m+k) (xs++ys)→bX (fun k=>v.ownBlock=some k) w w'→(v'.ownBlock=v.ownBlock∨v'.ownBlock=some w.heap.size)→∃x:Value,True∧v'=x∧Ok (Mf x) R w':=fun v' w' ho' hc hob=>
   ⟨v',trivial,rfl,hw.qd (hM v') hc ho' fun i hi=>⟨(ho'.lt i hi).2,fun hlt=>by
    rcases hob with e|e
    ·show v.ownBlock=some i
     rw[←e];exact hi
    ·have hk':v'.ownBlock=some i:=hi
     rw[e]at hk';cases hk';omega⟩⟩
  by_cases h0:k=0
  ·subst h0
   obtain⟨po,c,rfl,hc,_⟩:=aw ho
   have hy0:ys=[]:=P6 (by simpa using hys)
   subst hy0
   refine(bU.xO (G:=G) ht he hte hx hc hy).mono ?_
   rintro _ _ ⟨rfl,rfl⟩
   exact ip
  ·obtain⟨bk,o,rfl,hr⟩:=hrd.resolve_left h0
   refine(bU.oL (G:=G) (news:=ys) ht he hte (PP hzs) hsz' hx ho hy hys (fun j u hj=>hr w hw j u hj) h1 OY (by have:=Nat.mul_le_mul hlen hbt';omega) (hB w hw)).mono fun v' w' ⟨a,b,c⟩=>key v' w' a b c⟩
theorem By {w:World} {b _e s len:Nat} {cs:List Value} {T:TypeId} (h:gO w b cs T) (hs:cs.length=len*s) (hl:len≤maxLen) (B:Nat) (hB:B≤b):w.ownsRow B T s (.slice (some ⟨b,0,none⟩) len len) len cs:=
 ⟨hs,.inr ⟨b,len,cs.toArray,rfl,hB,h,Nat.le_refl _,hl,by simpa using hs,by simp[←hs]⟩⟩
theorem Ok.jP {w:World} {b s len:Nat} {cs:List Value} {T:TypeId} (h:Ok M R w) (hM:Up (.aV b cs T) (.own 0 T s (.slice (some ⟨b,0,none⟩) len len) len cs) M M') (hs:cs.length=len*s) (hl:len≤maxLen):Ok M' R w:=
 h.qd hM (bX.refl _ w) (By (_e:=0) (h.m _ hM.mem).1 hs hl 0 (Nat.zero_le _)) (fun k hk=>by
  have hk':some b=some k:=hk
  cases hk'
  exact⟨(h.m _ hM.mem).2 b rfl,fun _=>rfl⟩)
theorem aa.jP {b len:Nat} {cs:List Value} {T:TypeId} (s:Nat) (hM:Up (.aV b cs T) (.own 0 T s (.slice (some ⟨b,0,none⟩) len len) len cs) M M') (hs:cs.length=len*s) (hl:len≤maxLen) (h:aa ops Q n l E M' R):aa ops Q n l E M R:=⟨fun w hw=>h.h w (hw.jP hM hs hl)⟩
theorem nw {B T s n n':Nat} {v v':Value} {xs xs':List Value} (h1:v'=v) (h2:n'=n) (h3:xs'=xs) (h:M'.Sublist M):(bu.own B T s v' n' xs'::M').Sublist (bu.own B T s v n xs::M):=by subst h1;subst h2;subst h3;exact h.cons_cons _
end
theorem Hl {g g':Prop} (h:g') (hw:eI g'→g:=by(intro hk_;(refine aq.is ?_;(first|(refine aq.CC ?_;(first|refine aq.gs rfl rfl rfl ?_|refine aq.gu rfl rfl ?_|refine aq.yg rfl (Yl.move rfl) rfl ?_|refine aq.yg rfl (Yl.assign rfl) rfl ?_|(refine aq.aG ?_;(first|(refine aq.aG (bo:=.lss) ?_;(first|refine aq.yg rfl (Yl.lH rfl rfl Pc) rfl ?_|refine aq.yg rfl (Yl.lG rfl rfl Pc) rfl ?_))|(refine aq.aG (bo:=.eql) ?_;(first|refine aq.yg rfl (Yl.ly rfl rfl Pc) rfl ?_|refine aq.yg rfl (Yl.lx rfl rfl Pc) rfl ?_))|(refine aq.aG (bo:=.neq) ?_;(first|refine aq.yg rfl (Yl.lK rfl rfl Pc) rfl ?_|refine aq.yg rfl (Yl.lJ rfl rfl Pc) rfl ?_))|(refine aq.aG (bo:=.leq) ?_;(first|refine aq.yg rfl (Yl.lF rfl rfl Pc) rfl ?_|refine aq.yg rfl (Yl.lE rfl rfl Pc) rfl ?_))|(refine aq.aG (bo:=.gtr) ?_;(first|refine aq.yg rfl (Yl.lC rfl rfl Pc) rfl ?_|refine aq.yg rfl (Yl.lB rfl rfl Pc) rfl ?_))|(refine aq.aG (bo:=.geq) ?_;(first|refine aq.yg rfl (Yl.lA rfl rfl Pc) rfl ?_|refine aq.yg rfl (Yl.lz rfl rfl Pc) rfl ?_))|refine aq.yg rfl (Yl.add rfl rfl Pc) rfl ?_|refine aq.yg rfl (Yl.sub rfl rfl Pc) rfl ?_|refine aq.yg rfl (Yl.jh rfl rfl rfl rfl) rfl ?_|refine aq.yg rfl (Yl.mn Tryz.underlying4 rfl rfl) rfl ?_|refine aq.yg rfl (Yl.xe rfl rfl) rfl ?_|refine aq.yg rfl (Yl.nO rfl rfl) rfl ?_|refine aq.yg rfl (Yl.nM rfl rfl Pc) rfl ?_|fail))|(refine aq.isField ?_;(first|refine aq.yg rfl (Yl.kR rfl rfl rfl) rfl ?_|refine aq.yg rfl (Yl.gG rfl rfl rfl) rfl ?_|refine aq.yg rfl (Yl.field rfl rfl rfl) rfl ?_))|(refine aq.dn ?_;(first|refine aq.yg rfl (Yl.mK rfl rfl rfl Oz) rfl ?_|refine aq.yg rfl (Yl.mI rfl rfl rfl rfl OI) rfl ?_|refine aq.yg rfl (Yl.mL rfl rfl rfl rfl OI OF) rfl ?_|refine aq.yg rfl (Yl.mJ rfl rfl rfl OD rfl) rfl ?_))|(refine aq.eM ?_;(first|refine aq.yg rfl (Yl.gn rfl rfl rfl rfl rfl rfl Pc) rfl ?_|refine aq.yg rfl (Yl.idx rfl rfl rfl rfl rfl rfl Pc) rfl ?_))|refine aq.yg rfl (Yl.len rfl rfl rfl) rfl ?_|refine aq.yg rfl (Yl.extract rfl rfl) rfl ?_|refine aq.yg rfl (Yl.fR rfl rfl) rfl ?_|refine aq.yg rfl (Yl.fQ rfl rfl) rfl ?_|refine aq.yg rfl (Yl.nilCheck rfl) rfl ?_|refine aq.yg rfl (Yl.not rfl) rfl ?_|refine aq.yg rfl (Yl.makeFunc rfl rfl) rfl ?_|refine aq.yg rfl (Yl.jY rfl rfl) rfl ?_|refine aq.yg rfl (Yl.jZ rfl rfl rfl OB Pe) rfl ?_|refine aq.yg rfl (Yl.ka rfl rfl rfl OC) rfl ?_|refine aq.yg rfl (Yl.gD rfl rfl rfl rfl) rfl ?_|refine aq.yg rfl (Yl.ec Tryz.underlying9 rfl rfl rfl Pc) rfl ?_|refine aq.yg rfl (Yl.dC Tryz.underlying9 rfl rfl rfl Pc) rfl ?_|refine aq.yg rfl (Yl.eV Tryz.underlying9 rfl rfl rfl rfl rfl Pc Pc) rfl ?_|refine aq.yg rfl (Yl.cZ rfl rfl rfl rfl rfl rfl Pc) rfl ?_|refine aq.yg rfl (Yl.nN Tryz.underlying9 rfl) rfl ?_))|refine aq.J5 ?_|refine aq.y (Yl.move rfl) rfl ?_|refine aq.y (Yl.assign rfl) rfl ?_|(refine aq.aG ?_;(first|(refine aq.aG (bo:=.lss) ?_;(first|refine aq.y (Yl.lH rfl rfl Pc) rfl ?_|refine aq.y (Yl.lG rfl rfl Pc) rfl ?_))|(refine aq.aG (bo:=.eql) ?_;(first|refine aq.y (Yl.ly rfl rfl Pc) rfl ?_|refine aq.y (Yl.lx rfl rfl Pc) rfl ?_))|(refine aq.aG (bo:=.neq) ?_;(first|refine aq.y (Yl.lK rfl rfl Pc) rfl ?_|refine aq.y (Yl.lJ rfl rfl Pc) rfl ?_))|(refine aq.aG (bo:=.leq) ?_;(first|refine aq.y (Yl.lF rfl rfl Pc) rfl ?_|refine aq.y (Yl.lE rfl rfl Pc) rfl ?_))|(refine aq.aG (bo:=.gtr) ?_;(first|refine aq.y (Yl.lC rfl rfl Pc) rfl ?_|refine aq.y (Yl.lB rfl rfl Pc) rfl ?_))|(refine aq.aG (bo:=.geq) ?_;(first|refine aq.y (Yl.lA rfl rfl Pc) rfl ?_|refine aq.y (Yl.lz rfl rfl Pc) rfl ?_))|refine aq.y (Yl.add rfl rfl Pc) rfl ?_|refine aq.y (Yl.sub rfl rfl Pc) rfl ?_|refine aq.y (Yl.jh rfl rfl rfl rfl) rfl ?_|refine aq.y (Yl.mn Tryz.underlying4 rfl rfl) rfl ?_|refine aq.y (Yl.xe rfl rfl) rfl ?_|refine aq.y (Yl.nO rfl rfl) rfl ?_|refine aq.y (Yl.nM rfl rfl Pc) rfl ?_|fail))|(refine aq.isField ?_;(first|refine aq.y (Yl.kR rfl rfl rfl) rfl ?_|refine aq.y (Yl.gG rfl rfl rfl) rfl ?_|refine aq.y (Yl.field rfl rfl rfl) rfl ?_))|(refine aq.dn ?_;(first|refine aq.y (Yl.mK rfl rfl rfl Oz) rfl ?_|refine aq.y (Yl.mI rfl rfl rfl rfl OI) rfl ?_|refine aq.y (Yl.mL rfl rfl rfl rfl OI OF) rfl ?_|refine aq.y (Yl.mJ rfl rfl rfl OD rfl) rfl ?_))|(refine aq.eM ?_;(first|refine aq.y (Yl.gn rfl rfl rfl rfl rfl rfl Pc) rfl ?_|refine aq.y (Yl.idx rfl rfl rfl rfl rfl rfl Pc) rfl ?_))|refine aq.y (Yl.len rfl rfl rfl) rfl ?_|refine aq.y (Yl.extract rfl rfl) rfl ?_|refine aq.y (Yl.fR rfl rfl) rfl ?_|refine aq.y (Yl.fQ rfl rfl) rfl ?_|refine aq.y (Yl.nilCheck rfl) rfl ?_|refine aq.y (Yl.not rfl) rfl ?_|refine aq.y (Yl.makeFunc rfl rfl) rfl ?_|refine aq.y (Yl.jY rfl rfl) rfl ?_|refine aq.y (Yl.jZ rfl rfl rfl OB Pe) rfl ?_|refine aq.y (Yl.ka rfl rfl rfl OC) rfl ?_|refine aq.y (Yl.gD rfl rfl rfl rfl) rfl ?_|refine aq.y (Yl.ec Tryz.underlying9 rfl rfl rfl Pc) rfl ?_|refine aq.y (Yl.dC Tryz.underlying9 rfl rfl rfl Pc) rfl ?_|refine aq.y (Yl.eV Tryz.underlying9 rfl rfl rfl rfl rfl Pc Pc) rfl ?_|refine aq.y (Yl.cZ rfl rfl rfl rfl rfl rfl Pc) rfl ?_|refine aq.y (Yl.nN Tryz.underlying9 rfl) rfl ?_));exact hk_.out)):g:=hw ⟨h⟩
set_option maxRecDepth 100000
theorem cq {g g':Prop} (h:g') (hw:eI g'→g:=by(intro hk_;(repeat(first|(refine aa.is ?_;(first|(refine aa.CC ?_;(first|refine aa.gs rfl rfl rfl ?_|refine aa.gu rfl rfl ?_|refine aa.yg rfl (Yl.move rfl) rfl ?_|refine aa.yg rfl (Yl.assign rfl) rfl ?_|(refine aa.aG ?_;(first|(refine aa.aG (bo:=.lss) ?_;(first|refine aa.yg rfl (Yl.lH rfl rfl Pc) rfl ?_|refine aa.yg rfl (Yl.lG rfl rfl Pc) rfl ?_))|(refine aa.aG (bo:=.eql) ?_;(first|refine aa.yg rfl (Yl.ly rfl rfl Pc) rfl ?_|refine aa.yg rfl (Yl.lx rfl rfl Pc) rfl ?_))|(refine aa.aG (bo:=.neq) ?_;(first|refine aa.yg rfl (Yl.lK rfl rfl Pc) rfl ?_|refine aa.yg rfl (Yl.lJ rfl rfl Pc) rfl ?_))|(refine aa.aG (bo:=.leq) ?_;(first|refine aa.yg rfl (Yl.lF rfl rfl Pc) rfl ?_|refine aa.yg rfl (Yl.lE rfl rfl Pc) rfl ?_))|(refine aa.aG (bo:=.gtr) ?_;(first|refine aa.yg rfl (Yl.lC rfl rfl Pc) rfl ?_|refine aa.yg rfl (Yl.lB rfl rfl Pc) rfl ?_))|(refine aa.aG (bo:=.geq) ?_;(first|refine aa.yg rfl (Yl.lA rfl rfl Pc) rfl ?_|refine aa.yg rfl (Yl.lz rfl rfl Pc) rfl ?_))|refine aa.yg rfl (Yl.add rfl rfl Pc) rfl ?_|refine aa.yg rfl (Yl.sub rfl rfl Pc) rfl ?_|refine aa.yg rfl (Yl.jh rfl rfl rfl rfl) rfl ?_|refine aa.yg rfl (Yl.mn Tryz.underlying4 rfl rfl) rfl ?_|refine aa.yg rfl (Yl.xe rfl rfl) rfl ?_|refine aa.yg rfl (Yl.nO rfl rfl) rfl ?_|refine aa.yg rfl (Yl.nM rfl rfl Pc) rfl ?_|fail))|(refine aa.isField ?_;(first|refine aa.yg rfl (Yl.kR rfl rfl rfl) rfl ?_|refine aa.yg rfl (Yl.gG rfl rfl rfl) rfl ?_|refine aa.yg rfl (Yl.field rfl rfl rfl) rfl ?_))|(refine aa.dn ?_;(first|refine aa.yg rfl (Yl.mK rfl rfl rfl Oz) rfl ?_|refine aa.yg rfl (Yl.mI rfl rfl rfl rfl OI) rfl ?_|refine aa.yg rfl (Yl.mL rfl rfl rfl rfl OI OF) rfl ?_|refine aa.yg rfl (Yl.mJ rfl rfl rfl OD rfl) rfl ?_))|(refine aa.eM ?_;(first|refine aa.yg rfl (Yl.gn rfl rfl rfl rfl rfl rfl Pc) rfl ?_|refine aa.yg rfl (Yl.idx rfl rfl rfl rfl rfl rfl Pc) rfl ?_))|refine aa.yg rfl (Yl.len rfl rfl rfl) rfl ?_|refine aa.yg rfl (Yl.extract rfl rfl) rfl ?_|refine aa.yg rfl (Yl.fR rfl rfl) rfl ?_|refine aa.yg rfl (Yl.fQ rfl rfl) rfl ?_|refine aa.yg rfl (Yl.nilCheck rfl) rfl ?_|refine aa.yg rfl (Yl.not rfl) rfl ?_|refine aa.yg rfl (Yl.makeFunc rfl rfl) rfl ?_|refine aa.yg rfl (Yl.jY rfl rfl) rfl ?_|refine aa.yg rfl (Yl.jZ rfl rfl rfl OB Pe) rfl ?_|refine aa.yg rfl (Yl.ka rfl rfl rfl OC) rfl ?_|refine aa.yg rfl (Yl.gD rfl rfl rfl rfl) rfl ?_|refine aa.yg rfl (Yl.ec Tryz.underlying9 rfl rfl rfl Pc) rfl ?_|refine aa.yg rfl (Yl.dC Tryz.underlying9 rfl rfl rfl Pc) rfl ?_|refine aa.yg rfl (Yl.eV Tryz.underlying9 rfl rfl rfl rfl rfl Pc Pc) rfl ?_|refine aa.yg rfl (Yl.cZ rfl rfl rfl rfl rfl rfl Pc) rfl ?_|refine aa.yg rfl (Yl.nN Tryz.underlying9 rfl) rfl ?_))|refine aa.nil ?_|(refine aa.yc ?_;(first|refine aa.bn _ rfl rfl rfl rfl rfl rfl OI rfl ?_|refine aa.gz rfl rfl rfl rfl rfl OI OM ?_))|refine aa.y_ (Yl.move rfl) rfl ?_|refine aa.y_ (Yl.assign rfl) rfl ?_|(refine aa.aG ?_;(first|(refine aa.aG (bo:=.lss) ?_;(first|refine aa.y_ (Yl.lH rfl rfl Pc) rfl ?_|refine aa.y_ (Yl.lG rfl rfl Pc) rfl ?_))|(refine aa.aG (bo:=.eql) ?_;(first|refine aa.y_ (Yl.ly rfl rfl Pc) rfl ?_|refine aa.y_ (Yl.lx rfl rfl Pc) rfl ?_))|(refine aa.aG (bo:=.neq) ?_;(first|refine aa.y_ (Yl.lK rfl rfl Pc) rfl ?_|refine aa.y_ (Yl.lJ rfl rfl Pc) rfl ?_))|(refine aa.aG (bo:=.leq) ?_;(first|refine aa.y_ (Yl.lF rfl rfl Pc) rfl ?_|refine aa.y_ (Yl.lE rfl rfl Pc) rfl ?_))|(refine aa.aG (bo:=.gtr) ?_;(first|refine aa.y_ (Yl.lC rfl rfl Pc) rfl ?_|refine aa.y_ (Yl.lB rfl rfl Pc) rfl ?_))|(refine aa.aG (bo:=.geq) ?_;(first|refine aa.y_ (Yl.lA rfl rfl Pc) rfl ?_|refine aa.y_ (Yl.lz rfl rfl Pc) rfl ?_))|refine aa.y_ (Yl.add rfl rfl Pc) rfl ?_|refine aa.y_ (Yl.sub rfl rfl Pc) rfl ?_|refine aa.y_ (Yl.jh rfl rfl rfl rfl) rfl ?_|refine aa.y_ (Yl.mn Tryz.underlying4 rfl rfl) rfl ?_|refine aa.y_ (Yl.xe rfl rfl) rfl ?_|refine aa.y_ (Yl.nO rfl rfl) rfl ?_|refine aa.y_ (Yl.nM rfl rfl Pc) rfl ?_|fail))|(refine aa.isField ?_;(first|refine aa.y_ (Yl.kR rfl rfl rfl) rfl ?_|refine aa.y_ (Yl.gG rfl rfl rfl) rfl ?_|refine aa.y_ (Yl.field rfl rfl rfl) rfl ?_))|(refine aa.dn ?_;(first|refine aa.y_ (Yl.mK rfl rfl rfl Oz) rfl ?_|refine aa.y_ (Yl.mI rfl rfl rfl rfl OI) rfl ?_|refine aa.y_ (Yl.mL rfl rfl rfl rfl OI OF) rfl ?_|refine aa.y_ (Yl.mJ rfl rfl rfl OD rfl) rfl ?_))|(refine aa.eM ?_;(first|refine aa.y_ (Yl.gn rfl rfl rfl rfl rfl rfl Pc) rfl ?_|refine aa.y_ (Yl.idx rfl rfl rfl rfl rfl rfl Pc) rfl ?_))|refine aa.y_ (Yl.len rfl rfl rfl) rfl ?_|refine aa.y_ (Yl.extract rfl rfl) rfl ?_|refine aa.y_ (Yl.fR rfl rfl) rfl ?_|refine aa.y_ (Yl.fQ rfl rfl) rfl ?_|refine aa.y_ (Yl.nilCheck rfl) rfl ?_|refine aa.y_ (Yl.not rfl) rfl ?_|refine aa.y_ (Yl.makeFunc rfl rfl) rfl ?_|refine aa.y_ (Yl.jY rfl rfl) rfl ?_|refine aa.y_ (Yl.jZ rfl rfl rfl OB Pe) rfl ?_|refine aa.y_ (Yl.ka rfl rfl rfl OC) rfl ?_|refine aa.y_ (Yl.gD rfl rfl rfl rfl) rfl ?_|refine aa.y_ (Yl.ec Tryz.underlying9 rfl rfl rfl Pc) rfl ?_|refine aa.y_ (Yl.dC Tryz.underlying9 rfl rfl rfl Pc) rfl ?_|refine aa.y_ (Yl.eV Tryz.underlying9 rfl rfl rfl rfl rfl Pc Pc) rfl ?_|refine aa.y_ (Yl.cZ rfl rfl rfl rfl rfl rfl Pc) rfl ?_|refine aa.y_ (Yl.nN Tryz.underlying9 rfl) rfl ?_))|(refine bh.is ?_;(first|refine bh.seq ?_|refine bh.region ?_|refine bh.oA rfl O5 ?_|refine bh.block ?_|refine bh.jf rfl ?_|refine bh.je rfl ?_|refine bh.skip ?_|refine bh.ret ?_|refine bh.exit ?_|fail))|(refine ah.is ?_;(first|refine ah.lf ?_|refine ah.pK ?_|refine ah.lg ?_|refine ah.pM ?_|refine ah.lh ?_|refine ah.pN ?_|refine ah.xQ rfl ?_|fail))|refine Hl ?_));exact hk_.out)):g:=hw ⟨h⟩
theorem mX {g g':Prop} (h:g') (hw:eI g'→g:=by(intro hk_;(repeat(first|refine bF.y_ (Yl.move rfl) rfl ?_|refine bF.y_ (Yl.assign rfl) rfl ?_|(refine bF.aG ?_;(first|(refine bF.aG (bo:=.lss) ?_;(first|refine bF.y_ (Yl.lH rfl rfl Pc) rfl ?_|refine bF.y_ (Yl.lG rfl rfl Pc) rfl ?_))|(refine bF.aG (bo:=.eql) ?_;(first|refine bF.y_ (Yl.ly rfl rfl Pc) rfl ?_|refine bF.y_ (Yl.lx rfl rfl Pc) rfl ?_))|(refine bF.aG (bo:=.neq) ?_;(first|refine bF.y_ (Yl.lK rfl rfl Pc) rfl ?_|refine bF.y_ (Yl.lJ rfl rfl Pc) rfl ?_))|(refine bF.aG (bo:=.leq) ?_;(first|refine bF.y_ (Yl.lF rfl rfl Pc) rfl ?_|refine bF.y_ (Yl.lE rfl rfl Pc) rfl ?_))|(refine bF.aG (bo:=.gtr) ?_;(first|refine bF.y_ (Yl.lC rfl rfl Pc) rfl ?_|refine bF.y_ (Yl.lB rfl rfl Pc) rfl ?_))|(refine bF.aG (bo:=.geq) ?_;(first|refine bF.y_ (Yl.lA rfl rfl Pc) rfl ?_|refine bF.y_ (Yl.lz rfl rfl Pc) rfl ?_))|refine bF.y_ (Yl.add rfl rfl Pc) rfl ?_|refine bF.y_ (Yl.sub rfl rfl Pc) rfl ?_|refine bF.y_ (Yl.jh rfl rfl rfl rfl) rfl ?_|refine bF.y_ (Yl.mn Tryz.underlying4 rfl rfl) rfl ?_|refine bF.y_ (Yl.xe rfl rfl) rfl ?_|refine bF.y_ (Yl.nO rfl rfl) rfl ?_|refine bF.y_ (Yl.nM rfl rfl Pc) rfl ?_|fail))|(refine bF.isField ?_;(first|refine bF.y_ (Yl.kR rfl rfl rfl) rfl ?_|refine bF.y_ (Yl.gG rfl rfl rfl) rfl ?_|refine bF.y_ (Yl.field rfl rfl rfl) rfl ?_))|(refine bF.dn ?_;(first|refine bF.y_ (Yl.mK rfl rfl rfl Oz) rfl ?_|refine bF.y_ (Yl.mI rfl rfl rfl rfl OI) rfl ?_|refine bF.y_ (Yl.mL rfl rfl rfl rfl OI OF) rfl ?_|refine bF.y_ (Yl.mJ rfl rfl rfl OD rfl) rfl ?_))|refine bF.y_ (Yl.len rfl rfl rfl) rfl ?_|refine bF.y_ (Yl.extract rfl rfl) rfl ?_|refine bF.y_ (Yl.fR rfl rfl) rfl ?_|refine bF.y_ (Yl.fQ rfl rfl) rfl ?_|refine bF.y_ (Yl.nilCheck rfl) rfl ?_|refine bF.y_ (Yl.not rfl) rfl ?_|refine bF.y_ (Yl.makeFunc rfl rfl) rfl ?_|refine bF.y_ (Yl.jY rfl rfl) rfl ?_|refine bF.y_ (Yl.jZ rfl rfl rfl OB Pe) rfl ?_|refine bF.y_ (Yl.ka rfl rfl rfl OC) rfl ?_|refine bF.y_ (Yl.gD rfl rfl rfl rfl) rfl ?_|refine bF.y_ (Yl.ec Tryz.underlying9 rfl rfl rfl Pc) rfl ?_|refine bF.y_ (Yl.dC Tryz.underlying9 rfl rfl rfl Pc) rfl ?_|refine bF.y_ (Yl.eV Tryz.underlying9 rfl rfl rfl rfl rfl Pc Pc) rfl ?_|refine bF.y_ (Yl.cZ rfl rfl rfl rfl rfl rfl Pc) rfl ?_|refine bF.y_ (Yl.nN Tryz.underlying9 rfl) rfl ?_));exact hk_.out)):g:=hw ⟨h⟩
theorem ep {vs cs:List Value} (h:Cells vs cs:=by repeat(first|exact Cells.nil|exact App.nil|(with_reducible apply Cells.agg)|apply Cells.one|apply App.cons)):Cells vs cs:=h
theorem oZ (h:fW v l j l':=by(repeat(first|exact fW.zero|apply fW.succ))):fW v l j l':=h
theorem aH {q q':bu} {M M':List bu} (h:Up q q' M M':=by repeat(first|with_reducible exact Up.head|apply Up.tail)):Up q q' M M':=h
theorem bw {M M':List bu} (h:M'.Sublist M:=by repeat(first|with_reducible exact List.Sublist.refl _|exact List.nil_sublist _|(with_reducible refine List.Sublist.cons_cons _ ?_)|((with_reducible refine nw ?_ ?_ ?_ ?_);rfl;(first|rfl|simp);(first|rfl|simp))|refine List.Sublist.cons _ ?_)):M'.Sublist M:=h
theorem aU {R R':List (World→Prop)} (h:∀p,p∈R'→p∈R:=by repeat(first|exact vt|refine rK OD ?_)):∀p,p∈R'→p∈R:=h
theorem ak (h:p∈R:=by repeat(first|with_reducible exact List.mem_cons_self|apply List.mem_cons_of_mem)):p∈R:=h
theorem nP {M:List bu} {R:List (World→Prop)} {w:World} (h:Ext w∈R:=by repeat(first|with_reducible exact List.mem_cons_self|apply List.mem_cons_of_mem)):∀w',Ok M R w'→w.heap.size≤w'.heap.size:=fun w' hw=>(show Ext w w' from hw.get h).size
theorem Ok.own {M:List bu} {R:List (World→Prop)} {w:World} {B T s n:Nat} {v:Value} {xs:List Value} (h:Ok M R w) (hm:bu.own B T s v n xs∈M:=by repeat(first|with_reducible exact List.mem_cons_self|apply List.mem_cons_of_mem)):w.ownsRow B T s v n xs:=(h.m _ hm).1
theorem Ok.at {M:List bu} {R:List (World→Prop)} {w:World} {p:World→Prop} (h:Ok M R w) (hm:p∈R:=by repeat(first|with_reducible exact List.mem_cons_self|apply List.mem_cons_of_mem)):p w:=h.get hm
theorem A0 (h:∀r,r∈R→r w) (hm:p∈R:=by repeat(first|with_reducible exact List.mem_cons_self|apply List.mem_cons_of_mem)):p w:=h p hm
theorem bO {q:bu} {M:List bu} (h:q∈M:=by repeat(first|with_reducible exact List.mem_cons_self|apply List.mem_cons_of_mem)):q∈M:=h
theorem jK {q:bu} {M M':List bu} (h:Rm q M M':=by(repeat(first|with_reducible exact Rm.head|apply Rm.tail))):Rm q M M':=h
open Go.ChangeMaps (setBlock)
open Go.MapKept (Stamped)
theorem AX {a:Int} (h:eO a):(Lit.int .i64 a).wf=true:=by
 have e1:IntKind.i64.min=-9223372036854775808:=by decide
 have e2:IntKind.i64.max=9223372036854775807:=by decide
 simp only[Lit.wf,e1,e2,Bool.and_eq_true,decide_eq_true_eq]
 exact h
def IV (w:World) (bm:Nat) (g:Int→Option Value):Prop:=∃es clock,w.heap[bm]?=some (.map es clock)∧(∀e∈es.toList,∃b,e.key=.int .i64 b∧(Lit.int .i64 b).wf=true)∧(∀a u,g a=some u↔∃e∈es.toList,e.key=.int .i64 a∧e.val=u)∧Stamped es clock
theorem IV.lt {bm:Nat} {g:Int→Option Value} (h:IV w bm g):bm<w.heap.size:=by
 obtain⟨es,clock,hb,_⟩:=h
 exact(Array.getElem?_eq_some_iff.1 hb).1
theorem IV.aP {S:Nat→Prop} {w w':World} {bm:Nat} {g:Int→Option Value} (h:IV w bm g) (hc:bX S w w') (hS:¬S bm):IV w' bm g:=by
 have hl:=h.lt
 obtain⟨es,clock,hb,h2⟩:=h
 exact⟨es,clock,by rw[hc.block bm hl hS];exact hb,h2⟩
def bu.iv (bm:Nat) (g:Int→Option Value):bu:=⟨fun k=>k=bm,fun w=>IV w bm g,fun h hc hd=>h.aP hc (hd bm h.lt rfl)⟩
def put (g:Int→Option Value) (a:Int) (v:Value):Int→Option Value:=fun b=>if b=a then some v else g b
section
variable {n:Nat} {E:Env} {w:World} {t:TypeId} {x y z:Operand} {C:World→Prop}
theorem Du {k e:TypeId} (ht:G.P.underlying t=some (.map k e)) (hk:G.P.underlying k=some (.int .i64)) {bm:Nat} {g:Int→Option Value} (h:IV w bm g) {a:Int} (ha:(Lit.int .i64 a).wf=true) (val:Value):
  ∃w',(Instr.mapUpdate t (.map (some bm)) (.int .i64 a) val).run G.P w=.ok () w'∧IV w' bm (put g a val)∧bX (fun k=>k=bm) w w'∧w'.heap.size=w.heap.size:=by
 obtain⟨es,clock,hb,hkeys,hg,hst⟩:=h
 have hlt:bm<w.heap.size:=(Array.getElem?_eq_some_iff.1 hb).1
 have K:=Maps.int_keyed (P:=G.P) (k:=k) hk
 have hkey:=Maps.keyOf_int_mk hk ha
 have hall:∀e∈es.toList,∃l,keyOf G.P k e.key=some l:=fun e he=>by
  obtain⟨b,e1,hw⟩:=hkeys e he
  exact⟨_,by rw[e1];exact Maps.keyOf_int_mk hk hw⟩
 have hset:∀o,(setBlock w bm o).heap[bm]?=some o:=fun o=>by simp[ChangeMaps.setBlock,hlt]
 have hsz:∀o,(setBlock w bm o).heap.size=w.heap.size:=fun o=>by simp[ChangeMaps.setBlock]
 rcases K.find w hkey es.toList hall with⟨h1,h2⟩|⟨j,e0,h1,h2,h3⟩
 ·refine⟨setBlock w bm (.map (es.push ⟨.int .i64 a,val,clock⟩) (clock+1)),?_,⟨_,_,hset _,?_,?_,MapKept.stamped_push hst h2⟩,bX.setBlock _ _ _,hsz _⟩
  ·simp[Instr.mapUpdate,run_underlying ht,MapKept.run_getObj_map hb,K.check w false hkey,h1,MapKept.run_setObj_map _ hb,Result.andThen,ChangeMaps.setBlock]
  ·intro e he
   rw[Array.toList_push,PE,PI]at he
   rcases he with he|rfl
   ·exact hkeys e he
   ·exact⟨a,rfl,ha⟩
  ·intro b u
   unfold put
   rw[Array.toList_push]
   simp only[PE,PI]
   by_cases e:b=a
   ·subst e
    rw[if_pos rfl]
    constructor
    ·intro hu;cases hu;exact⟨_,.inr rfl,rfl,rfl⟩
    ·rintro⟨e',he|rfl,e1,e2⟩
     ·exact absurd e1 (h2 e' he)
     ·exact congrArg some e2
   ·rw[if_neg e,hg]
    constructor
    ·rintro⟨e',he,e1,e2⟩;exact⟨e',.inl he,e1,e2⟩
    ·rintro⟨e',he|rfl,e1,e2⟩
     ·exact⟨e',he,e1,e2⟩
     ·cases e1;exact absurd rfl e
 ·have hj:es[j]?=some e0:=by simpa using h2
  have hmod:∀i:Nat,(es.modify j (fun e'=>{e' with key:=Value.int .i64 a,val:=val})).toList[i]?=if j=i then(es.toList[i]?).map (fun e'=>{e' with key:=Value.int .i64 a,val:=val})else es.toList[i]?:=fun i=>by
   rw[Array.toList_modify,List.getElem?_modify]
   by_cases e:j=i<;>simp[e]
  have huniq:∀i e',es.toList[i]?=some e'→e'.key=.int .i64 a→i=j:=fun i e' hi he=>by
   have hnd:=hst.2.2
   have q1:(es.toList.map (·.key))[i]?=some (.int .i64 a):=by rw[PK,hi];exact congrArg some he
   have q2:(es.toList.map (·.key))[j]?=some (.int .i64 a):=by rw[PK,h2];exact congrArg some h3
   obtain⟨l1,l2⟩:=PL.1 q1
   obtain⟨l3,l4⟩:=PL.1 q2
   have hpw:=List.pairwise_iff_getElem.1 hnd
   rcases Nat.lt_trichotomy i j with h|h|h
   ·exact absurd (l2.trans l4.symm) (hpw i j l1 l3 h)
   ·exact h
   ·exact absurd (l4.trans l2.symm) (hpw j i l3 l1 h)
  refine⟨setBlock w bm (.map (es.modify j (fun e'=>{e' with key:=.int .i64 a,val:=val})) clock),?_,⟨_,_,hset _,?_,?_,MapKept.stamped_modify hst _ _ (fun _ _=>rfl) (fun e' _ he'=>by rw[hj]at he';cases he';exact h3.symm)⟩,bX.setBlock _ _ _,hsz _⟩
  ·simp[Instr.mapUpdate,run_underlying ht,MapKept.run_getObj_map hb,K.check w false hkey,h1,hj,h3,K.stays w hkey,MapKept.run_setObj_map _ hb,Result.andThen,ChangeMaps.setBlock]
  ·intro e he
   obtain⟨i,hi⟩:=Qg.1 he
   rw[hmod]at hi
   by_cases ei:j=i
   ·subst ei
    rw[if_pos rfl,h2,Option.map_some]at hi
    cases hi;exact⟨a,rfl,ha⟩
   ·rw[if_neg ei]at hi
    exact hkeys e (Qb hi)
  ·intro b u
   unfold put
   by_cases e:b=a
   ·subst e
    rw[if_pos rfl]
    constructor
    ·intro hu;cases hu
     exact⟨_,Qb (by rw[hmod,if_pos rfl,h2];rfl),rfl,rfl⟩
    ·rintro⟨e',he,e1,e2⟩
     obtain⟨i,hi⟩:=Qg.1 he
     rw[hmod]at hi
     by_cases ei:j=i
     ·subst ei
      rw[if_pos rfl,h2,Option.map_some]at hi
      cases hi;exact congrArg some e2
     ·rw[if_neg ei]at hi
      exact absurd (huniq i e' hi e1) (fun h=>ei h.symm)
   ·rw[if_neg e,hg]
    constructor
    ·rintro⟨e',he,e1,e2⟩
     obtain⟨i,hi⟩:=Qg.1 he
     have ei:¬j=i:=fun ei=>by
      subst ei;rw[h2]at hi;cases hi;rw[h3]at e1;cases e1;exact e rfl
     exact⟨e',Qb (by rw[hmod,if_neg ei];exact hi),e1,e2⟩
    ·rintro⟨e',he,e1,e2⟩
     obtain⟨i,hi⟩:=Qg.1 he
     rw[hmod]at hi
     by_cases ei:j=i
     ·subst ei
      rw[if_pos rfl,h2,Option.map_some]at hi
      cases hi;cases e1;exact absurd rfl e
     ·rw[if_neg ei]at hi
      exact⟨e',Qb hi,e1,e2⟩
theorem xm {k e:TypeId} {zv:Value} (ht:G.P.underlying t=some (.map k e)) (hk:G.P.underlying k=some (.int .i64)) (hz:∀w,(zeroValue e).run G.P w=.ok zv w) {bm:Nat} {g:Int→Option Value} (h:IV w bm g) {a:Int} (ha:(Lit.int .i64 a).wf=true):
  (Instr.lookup t (.map (some bm)) (.int .i64 a) false).run G.P w=.ok ((g a).getD zv) w:=by
 obtain⟨es,clock,hb,hkeys,hg,hst⟩:=h
 have K:=Maps.int_keyed (P:=G.P) (k:=k) hk
 have hkey:=Maps.keyOf_int_mk hk ha
 have hall:∀e∈es.toList,∃l,keyOf G.P k e.key=some l:=fun e he=>by
  obtain⟨b,e1,hw⟩:=hkeys e he
  exact⟨_,by rw[e1];exact Maps.keyOf_int_mk hk hw⟩
 rcases K.find w hkey es.toList hall with⟨h1,h2⟩|⟨j,e0,h1,h2,h3⟩
 ·have hn:g a=none:=by
   cases hga:g a with
   |none=>rfl
   |some u=>
    obtain⟨e',he,e1,_⟩:=(hg a u).1 hga
    exact absurd e1 (h2 e' he)
  simp[Instr.lookup,run_underlying ht,MapKept.run_getObj_map hb,K.check w _ hkey,h1,hz,hn]
 ·have hs:g a=some e0.val:=(hg a e0.val).2 ⟨e0,Qb h2,h3,rfl⟩
  simp[Instr.lookup,run_underlying ht,MapKept.run_getObj_map hb,K.check w _ hkey,h1,hs]
end
section
variable {ops:Array Oper} {Q:Exit→Act→World→Prop} {n:Nat} {E:Env} {M M':List bu} {R:List (World→Prop)} {rest l:List Oper} {op:Op} {d:Nat} {ty:TypeId} {pos:String} {aft:Array Edge} {v:Value} {x y z:Operand} {t:TypeId}
theorem HE.makeMap:HE n (.makeMap t none) E M R (fun _:Nat=>True) (fun b=>.map (some b)) (fun b=>.iv b (fun _=>none)::M) (fun _=>R):=
 ⟨fun w hw=>⟨fun a ha d ty pos aft gd=>by
  have hr:(execOp a.eval ⟨d,.makeMap t none,ty,pos,aft,gd⟩).run G.P w=.ok (.value (.map (some w.heap.size))) (w.alloc (.map #[] 0)):=by simp[execOp,Instr.makeMap]
  rw[hr]
  refine⟨w.heap.size,trivial,rfl,hw.push (q:=.iv w.heap.size (fun _=>none)) ((bX.refl _ _).alloc _) ⟨#[],0,heap_alloc_new w _,by simp,by simp,by simp[Stamped]⟩ (fun k hk=>?_)⟩
  have:k=w.heap.size:=hk
  simp;omega⟩⟩
theorem gj.mapUpdate {k e:TypeId} {bm:Nat} {g:Int→Option Value} {a:Int} {val:Value} (ht:G.P.underlying t=some (.map k e)) (hk:G.P.underlying k=some (.int .i64)) (hx:ev E x=some (.map (some bm))) (hy:ev E y=some (.int .i64 a)) (hz:ev E z=some val) (ha:eO a)
  (hM:Up (.iv bm g) (.iv bm (put g a val)) M M'):gj n (.mapUpdate t x y z) E M R (fun _:Unit=>True) (fun _=>M') (fun _=>R):=
 ⟨fun w hw=>by
  have hiv:IV w bm g:=(hw.m _ hM.mem).1
  obtain⟨w',hr,h1,h2,h3⟩:=Du ht hk hiv (AX ha) val
  refine bU.jm (w':=w') (fun ac hac d ty pos aft gd=>?_) ⟨(),trivial,hw.qd hM h2 h1 (fun k hk=>?_)⟩
  ·simp[execOp,hac.eval hx,hac.eval hy,hac.eval hz,hr]
  ·have:k=bm:=hk
   have:=hiv.lt
   exact⟨by omega,fun _=>hk⟩⟩
theorem Yl.GQ {k e:TypeId} {zv:Value} {bm:Nat} {g:Int→Option Value} {a:Int} (ht:G.P.underlying t=some (.map k e)) (hk:G.P.underlying k=some (.int .i64)) (hzv:∀w,(zeroValue e).run G.P w=.ok zv w) (hx:ev E x=some (.map (some bm))) (hy:ev E y=some (.int .i64 a)) (ha:eO a)
  (hM:bu.iv bm g∈M):Yl G n (.lookup t x y false) E (Ok M R) ((g a).getD zv):=
 ⟨fun w hw ac hac d ty pos aft gd=>by
  have:=xm (t:=t) ht hk hzv (hw.m _ hM).1 (AX ha)
  simp[execOp,hac.eval hx,hac.eval hy,this]⟩
theorem bF.pure {Mc:List bu} {Rc:List (World→Prop)} {φ:Prop} (hp:∀w,Ok M R w→φ) (h:φ→bF ops Q Mc Rc n l E M R):bF ops Q Mc Rc n l E M R:=⟨fun w hw=>(h (hp w hw)).h w hw⟩
theorem jN {w:World} {B T s m:Nat} {v:Value} {xs:List Value} (h:w.ownsRow B T s v m xs):v.oneCell'=true:=by obtain⟨p,c,rfl,_⟩:=aw h;rfl
theorem Ok.front {w:World} {q:bu} (h:Ok M R w) (hr:Rm q M M'):Ok (q::M') R w:=by
 refine h.step (bX.refl _ w) (fun x hx=>?_) (PV.2 ⟨hr.Km h.d,h.d.sublist hr.sub⟩) (fun k ⟨x,hx,hk⟩ _=>?_)
 ·rcases Pz.1 hx with rfl|hx
  ·exact h.m _ hr.mem
  ·exact h.m x (hr.sub.subset hx)
 ·rcases Pz.1 hx with rfl|hx
  ·exact⟨_,hr.mem,hk⟩
  ·exact⟨x,hr.sub.subset hx,hk⟩
theorem bh.front {c:Code} {q:bu} (hr:Rm q M M') (h:bh Q n c E (q::M') R):bh Q n c E M R:=⟨fun w hw=>h.h w (hw.front hr)⟩
theorem Ok.frame {M0 M1 Mr:List bu} {w w':World} (h:Ok (M0++Mr) R w) (h1:Ok M1 [] w') (hc:bX (Mb M0) w w') (ho:∀k,Mb M1 k→k<w.heap.size→Mb M0 k):Ok (M1++Mr) R w':=by
 have hd:=List.pairwise_append.1 h.d
 have hmr:∀q,q∈Mr→∀k,q.F k→¬Mb M0 k:=fun q hq k hk ⟨q0,hq0,hk0⟩=>hd.2.2 q0 hq0 q hq k hk0 hk
 refine h.step (hc.mono fun k _ ⟨q,hq,hk⟩=>⟨q,List.mem_append_left _ hq,hk⟩) (fun q hq=>?_) (List.pairwise_append.2 ⟨h1.d,hd.2.1,fun a ha b hb k hk hk'=>?_⟩) (fun k ⟨q,hq,hk⟩ hlt=>?_)
 ·rcases PE.1 hq with hq|hq
  ·exact h1.m q hq
  ·have:=h.m q (List.mem_append_right _ hq)
   exact⟨q.st this.1 hc (fun k _ hk=>hmr q hq k hk),fun k hk=>Pw (this.2 k hk) hc.size⟩
 ·have hlt:=(h.m b (List.mem_append_right _ hb)).2 k hk'
  exact hmr b hb k hk' (ho k ⟨a,ha,hk⟩ hlt)
 ·rcases PE.1 hq with hq|hq
  ·obtain⟨q0,hq0,hk0⟩:=ho k ⟨q,hq,hk⟩ hlt
   exact⟨q0,List.mem_append_left _ hq0,hk0⟩
  ·exact⟨q,List.mem_append_right _ hq,hk⟩
theorem Ok.origin {S:Nat→Prop} {w0 w:World} (h:Ok M R w) (hS:bX S w0∈R):∀k,Mb M k→k<w0.heap.size→S k:=by
 intro k hk hlt
 by_cases hs:S k
 ·exact hs
 ·exfalso
  have h1:bX S w0 w:=h.get hS
  have hkw:k<w.heap.size:=Pw hlt h1.size
  have key:∀o:Obj,w.heap[k]?=some o:=fun o=>by
   have hc:bX (Mb M) w (setBlock w k o):=(bX.setBlock w k o).mono (fun i _ e=>by subst e;exact hk)
   have h2:bX S w0 (setBlock w k o):=h.r _ hS _ hc
   have e1:=h2.block k hlt hs
   have e2:=h1.block k hlt hs
   rw[e2,←e1];simp[ChangeMaps.setBlock,hkw]
  have a:=key (.map #[] 0)
  have b:=key (.map #[] 1)
  rw[a]at b;cases b
def aC {β:Type} (M0:List bu) (w:World) (tf:β→Value) (φ:β→Prop) (M1:β→List bu) (e:Ending) (w':World):Prop:=
 ∃x,e=.returned (tf x)∧φ x∧Ok (M1 x) [] w'∧bX (Mb M0) w w'∧∀k,Mb (M1 x) k→k<w.heap.size→Mb M0 k
theorem aC.of {β:Type} {M0:List bu} {w w':World} {tf:β→Value} {φ:β→Prop} {M1:β→List bu} (x:β) (hφ:φ x) (h:Ok M R w') (hM:M1 x=M) (hR:bX (Mb M0) w∈R):aC M0 w tf φ M1 (.returned (tf x)) w':=by
 subst hM
 exact⟨x,rfl,hφ,h.sub (Pp.refl _) (fun p hp=>absurd hp Pd),h.get hR,h.origin hR⟩
theorem HE.tu {β:Type} {M0 Mr:List bu} {tf:β→Value} {φ:β→Prop} {M1:β→List bu} {f:Nat} {args:List Operand} {tys:Array TypeId} {vs:List Value} (hf:G.fb[f]?=some true) (ha:kI E args=some vs)
  (hc:∀w,Ok M0 R w→Calls G.P f vs.toArray w (aC M0 w tf φ M1)):HE n (.call ⟨.value (.func f),args.toArray,tys⟩) E (M0++Mr) R φ tf (fun x=>M1 x++Mr) (fun _=>R):=
 HE.call tf hf ha fun w hw=>(hc w (hw.sub (List.sublist_append_left _ _) (fun _ h=>h))).mono fun _e _w' ⟨x,e1,h1,h2,h3,h4⟩=>⟨x,e1,h1,hw.frame h2 h3 h4⟩
theorem Ok.dk {w:World} (h:Ok M R w):Ok M (bX (Mb M) w::R) w:=h.add fun _ hc=>hc
end
end Go.Proofs.YtdkcljdfbemnbaaGreatDoor
