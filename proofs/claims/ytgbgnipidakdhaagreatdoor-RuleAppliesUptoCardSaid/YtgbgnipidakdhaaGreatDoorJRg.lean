/- A region that draws its order, gone through as a tree: what only reads is taken first; where several effects can come, each of them. -/
import Derived.Test.YtgbgnipidakdhaaGreatDoorJSf
import Derived.Test.YtgbgnipidakdhaaGreatDoorJAw
namespace Go.Proofs.YtgbgnipidakdhaaGreatDoor
open Go.RowKit
set_option maxRecDepth 100000
structure aP (l:List Oper) (Q:Exit→Act→World→Prop) (Mc:List a8) (Rc:List (World→Prop)) (n fuel:Nat) (listed:Array Bool) (E:Env) (M:List a8) (R:List (World→Prop)):Prop where
 h:∀w,Ok M R w→Ok Mc Rc w→wJ .any l.toArray listed→∀a,Ag n a E→lW G.P .any l.toArray (Ok Mc Rc) l.length (Q .normal) fuel listed a w
structure av (l:List Oper) (Q:Exit→Act→World→Prop) (Mc:List a8) (Rc:List (World→Prop)) (n fuel:Nat) (listed:Array Bool) (i:Nat) (E:Env) (M:List a8) (R:List (World→Prop)):Prop where
 h:∀w,Ok M R w→Ok Mc Rc w→wJ .any l.toArray listed→i∈Region.ready .any l.toArray listed→∀a,Ag n a E→tq G.P l.toArray (Ok Mc Rc) l.length i (lW G.P .any l.toArray (Ok Mc Rc) l.length (Q .normal) fuel (listed.setIfInBounds i true)) a w
section
variable {l:List Oper} {Q:Exit→Act→World→Prop} {Mc:List a8} {Rc:List (World→Prop)} {n fuel:Nat} {listed:Array Bool} {E:Env} {M:List a8} {R:List (World→Prop)} {d:Nat} {op:Op} {ty:TypeId} {pos:String} {aft:Array Edge} {v:Value} {β:Type} {φ:β→Prop} {vf:β→Value} {Mf:β→List a8} {Rf:β→List (World→Prop)}
theorem aZ.cT {id:Nat} (Mc:List a8) (Rc:List (World→Prop)) (hM:Mc.Sublist M) (hR:∀p,p∈Rc→p∈R) (h:aP l Q Mc Rc n l.length (Array.replicate l.length false) E M R):aZ Q n (.region id l.toArray true) E M R:=
 ⟨fun w hw=>⟨fun a ha=>wp_region_any G.mixed (lU (C:=Ok Mc Rc) (z:=l.length) (K:=Q .normal) (fun _ _ h=>h) _ _ _ _ (by
  have:=h.h w.drew hw.drew (hw.drew.sub hM hR) (wJ.start _) a ha
  simpa using this))⟩⟩
theorem aP.q (k:Nat) (hk:l[k]?=some ⟨some d,op,ty,pos,aft,none⟩) (hc:(Region.noSelect l.toArray && (Region.ready .any l.toArray listed).contains k && Region.free .any l.toArray listed k && nL op && Nat.blt d n)=true) (hy:Yl G n op E (Ok Mc Rc) v)
  (h:aP l Q Mc Rc n fuel (listed.setIfInBounds k true) ((d,v)::E) M R):aP l Q Mc Rc n (fuel+1) listed E M R:=⟨fun w hw hC hcl a ha=>by
 simp only[Bool.and_eq_true]at hc
 obtain⟨⟨⟨⟨h1,h2⟩,h3⟩,h4⟩,h5⟩:=hc
 have hkl:k<l.length:=(List.getElem?_eq_some_iff.1 hk).1
 have ho:l.toArray[k]?=some ⟨some d,op,ty,pos,aft,none⟩:=by simpa using hk
 have hkr:k∈Region.ready .any l.toArray listed:=by simpa using h2
 exact jP ho (Region.noSelect_spec h1) (fun _ _ _ _=>F7) Mj fuel listed a w hC hcl (Region.free_spec ho h3) hkr (.inl ⟨by simp[Region.wanted],fun w hw=>hy.h w hw a ha _ _ _ _ _⟩) (h.h w hw hC (hcl.set hkr) _ (ha.put (by simpa using h5) v))⟩
theorem aP.nil (hr:Region.ready .any l.toArray listed=[]) (h:ah Q n .normal E M R):aP l Q Mc Rc n fuel listed E M R:=⟨fun w hw hC hcl a ha=>by
 cases fuel with
 |zero=>exact⟨hr,(h.h w hw).h a ha⟩
 |succ f=>exact⟨fun _=>(h.h w hw).h a ha,fun i hi=>by rw[hr]at hi;cases hi⟩⟩
theorem av.he {i:Nat} (hi:l[i]?=some ⟨some d,op,ty,pos,aft,none⟩) (hd:Nat.blt d n=true) (he:HE n op E M R φ vf Mf Rf) (hM:∀x,Mc.Sublist (Mf x)) (hR:∀x p,p∈Rc→p∈Rf x) (h:∀x,φ x→aP l Q Mc Rc n fuel (listed.setIfInBounds i true) ((d,vf x)::E) (Mf x) (Rf x)):av l Q Mc Rc n fuel listed i E M R:=⟨fun w hw hC hcl hr a ha=>by
 have ho:l.toArray[i]?=some ⟨some d,op,ty,pos,aft,none⟩:=by simpa using hi
 unfold tq
 simp only[ho]
 have hw':Region.wanted ⟨some d,op,ty,pos,aft,none⟩ (yielded l.toArray a.tmps)=true:=by simp[Region.wanted]
 simp only[hw',if_true]
 exact cQ ((he.h w hw).h a ha _ _ _ _ _) fun v w2 ⟨x,h1,h2,h3⟩=>by
  subst h2
  exact⟨.inr (h3.sub (hM x) (hR x)),(h x h1).h w2 h3 (h3.sub (hM x) (hR x)) (hcl.set hr) _ (ha.put LW _)⟩⟩
theorem av.jf {i:Nat} (hi:l[i]?=some ⟨none,op,ty,pos,aft,none⟩) (he:fQ n op E M R φ Mf Rf) (hM:∀x,Mc.Sublist (Mf x)) (hR:∀x p,p∈Rc→p∈Rf x) (h:∀x,φ x→aP l Q Mc Rc n fuel (listed.setIfInBounds i true) E (Mf x) (Rf x)):av l Q Mc Rc n fuel listed i E M R:=⟨fun w hw hC hcl hr a ha=>by
 have ho:l.toArray[i]?=some ⟨none,op,ty,pos,aft,none⟩:=by simpa using hi
 unfold tq
 simp only[ho]
 have hw':Region.wanted ⟨none,op,ty,pos,aft,none⟩ (yielded l.toArray a.tmps)=true:=by simp[Region.wanted]
 simp only[hw',if_true]
 exact cQ ((he.h w hw).h a ha _ _ _ _ _) fun v w2 ⟨x,h1,h3⟩=>
  ⟨.inr (h3.sub (hM x) (hR x)),(h x h1).h w2 h3 (h3.sub (hM x) (hR x)) (hcl.set hr) _ ha⟩⟩
end
section
variable {n:Nat} {E:Env} {op:Op} {v:Value} {x y:Operand} {t t2:TypeId} {C:World→Prop}
theorem Yl.aK {bo:BinOp} (h:Yl G n (.binOp bo t x y t2) E C v):Yl G n (.binOp bo t x y t2) E C v:=h
theorem Yl.ek (h:Yl G n (.indexAddr t x y) E C v):Yl G n (.indexAddr t x y) E C v:=h
theorem Yl.isField {f:Nat} (h:Yl G n (.fieldAddr t x f) E C v):Yl G n (.fieldAddr t x f) E C v:=h
theorem Yl.dk (h:Yl G n (.load t x) E C v):Yl G n (.load t x) E C v:=h
end
section
variable {l:List Oper} {Q:Exit→Act→World→Prop} {Mc:List a8} {Rc:List (World→Prop)} {n fuel:Nat} {listed:Array Bool} {E:Env} {M M':List a8} {R:List (World→Prop)} {d:Nat} {op:Op} {ty:TypeId} {pos:String} {aft:Array Edge} {v:Value} {β:Type} {φ:β→Prop} {vf:β→Value} {Mf:β→List a8} {Rf:β→List (World→Prop)}
theorem aP.qa (k:Nat) (hk:l[k]?=some ⟨some d,op,ty,pos,aft,none⟩)
  (h:aP l Q Mc Rc n fuel (listed.setIfInBounds k true) ((d,v)::E) M R) (hc:(Region.noSelect l.toArray && (Region.ready .any l.toArray listed).contains k && Region.free .any l.toArray listed k && nL op && Nat.blt d n)=true:=by decide+kernel) (hy:Yl G n op E (Ok Mc Rc) v:=by(first|exact Yl.move rfl|exact Yl.assign rfl|(apply Yl.aK;(first|(apply Yl.aK (bo:=.lss);(first|exact Yl.mj rfl rfl Mj|exact Yl.lQ rfl rfl Mj))|(apply Yl.aK (bo:=.eql);(first|exact Yl.lH rfl rfl Mj|exact Yl.lY rfl rfl Mj))|(apply Yl.aK (bo:=.neq);(first|exact Yl.lN rfl rfl Mj|exact Yl.lJ rfl rfl Mj))|(apply Yl.aK (bo:=.leq);(first|exact Yl.me rfl rfl Mj|exact Yl.lV rfl rfl Mj))|(apply Yl.aK (bo:=.gtr);(first|exact Yl.lR rfl rfl Mj|exact Yl.mc rfl rfl Mj))|(apply Yl.aK (bo:=.geq);(first|exact Yl.mq rfl rfl Mj|exact Yl.lO rfl rfl Mj))|exact Yl.add rfl rfl Mj|exact Yl.sub rfl rfl Mj|exact Yl.jg rfl rfl rfl rfl|exact Yl.tH rfl rfl|exact Yl.ml rfl rfl|exact Yl.mn rfl rfl Mj|fail))|(apply Yl.isField;(first|exact Yl.jF rfl rfl rfl|exact Yl.gP rfl rfl rfl|exact Yl.field rfl rfl rfl))|(apply Yl.dk;(first|exact Yl.kI rfl rfl rfl Lu|exact Yl.ko rfl rfl rfl rfl LE|exact Yl.kv rfl rfl rfl rfl LE LA|exact Yl.ku rfl rfl rfl Ly rfl))|(apply Yl.ek;(first|exact Yl.gh rfl rfl rfl rfl rfl rfl Mj|exact Yl.idx rfl rfl rfl rfl rfl rfl Mj))|exact Yl.len rfl rfl rfl|exact Yl.extract rfl rfl|exact Yl.fZ rfl rfl|exact Yl.fW rfl rfl|exact Yl.nilCheck rfl|exact Yl.not rfl|exact Yl.makeFunc rfl rfl|exact Yl.iV rfl rfl|exact Yl.jc rfl rfl rfl Lw Ml|exact Yl.iQ rfl rfl rfl Lx|exact Yl.fM rfl rfl rfl rfl|exact Yl.dw Tryz.underlying9 rfl rfl rfl Mj|exact Yl.de Tryz.underlying9 rfl rfl rfl Mj|exact Yl.dR Tryz.underlying9 rfl rfl rfl rfl rfl Mj Mj|exact Yl.cO rfl rfl rfl rfl rfl rfl Mj|exact Yl.lT Tryz.underlying9 rfl)):aP l Q Mc Rc n (fuel+1) listed E M R:=aP.q k hk hc hy h
theorem aP.qy (k:Nat) (hk:l[k]?=some ⟨some d,op,ty,pos,aft,none⟩) (hy:Yl G n op E (Ok Mc Rc) v)
  (h:aP l Q Mc Rc n fuel (listed.setIfInBounds k true) ((d,v)::E) M R) (hc:(Region.noSelect l.toArray && (Region.ready .any l.toArray listed).contains k && Region.free .any l.toArray listed k && nL op && Nat.blt d n)=true:=by decide+kernel):aP l Q Mc Rc n (fuel+1) listed E M R:=aP.q k hk hc hy h
structure aN (l:List Oper) (Q:Exit→Act→World→Prop) (Mc:List a8) (Rc:List (World→Prop)) (n fuel:Nat) (listed:Array Bool) (k:Nat) (E:Env) (M:List a8) (R:List (World→Prop)):Prop where
 h:∀i,k≤i→i∈Region.ready .any l.toArray listed→av l Q Mc Rc n fuel listed i E M R
theorem yd {i:Nat} (h:i∈Region.ready .any l.toArray listed):i<l.length:=by
 obtain⟨-,o,ho,-⟩:=mem_ready.1 h
 exact(Array.getElem?_eq_some_iff.1 ho).1
theorem aN.fin {k:Nat} (hk:Nat.ble l.length k=true):aN l Q Mc Rc n fuel listed k E M R:=⟨fun i hi hr=>by have:=yd hr;have:=Nat.le_of_ble_eq_true hk;omega⟩
theorem aN.skip {k:Nat} (hk:(Region.ready .any l.toArray listed).contains k=false) (h:aN l Q Mc Rc n fuel listed (k+1) E M R):aN l Q Mc Rc n fuel listed k E M R:=⟨fun i hi hr=>by
 rcases Nat.eq_or_lt_of_le hi with rfl|hlt
 ·have:(Region.ready .any l.toArray listed).contains k=true:=by simpa using hr
  rw[hk]at this;cases this
 ·exact h.h i hlt hr⟩
theorem aN.go {k:Nat} (h1:av l Q Mc Rc n fuel listed k E M R) (h:aN l Q Mc Rc n fuel listed (k+1) E M R):aN l Q Mc Rc n fuel listed k E M R:=⟨fun i hi hr=>by
 rcases Nat.eq_or_lt_of_le hi with rfl|hlt
 ·exact h1
 ·exact h.h i hlt hr⟩
theorem aP.any (hr:(Region.ready .any l.toArray listed).isEmpty=false) (h:aN l Q Mc Rc n fuel listed 0 E M R):aP l Q Mc Rc n (fuel+1) listed E M R:=⟨fun w hw hC hcl a ha=>
 ⟨fun h0=>(by rw[h0]at hr;cases hr),fun k hk=>(h.h k (Nat.zero_le _) hk).h w hw hC hcl hk a ha⟩⟩
theorem aP.pure {φ:Prop} (hp:∀w,Ok M R w→φ) (h:φ→aP l Q Mc Rc n fuel listed E M R):aP l Q Mc Rc n fuel listed E M R:=⟨fun w hw=>(h (hp w hw)).h w hw⟩
theorem aP.xW {α:Type} (E0:α→Env) (M0:α→List a8) (R0:α→List (World→Prop))
  (rest:∀x,ah Q n .normal (E0 x) (M0 x) (R0 x)) (h:(∀x,ah Q n .normal (E0 x) (M0 x) (R0 x))→aP l Q Mc Rc n fuel listed E M R):aP l Q Mc Rc n fuel listed E M R:=h rest
end
def F9 (l:List Oper) (i t:Nat):Bool:=match l[i]? with|some ⟨some _,.alloc t',_,_,_,none⟩=>Nat.beq t' t|_=>false
def EP (l:List Oper) (i f:Nat):Bool:=match l[i]? with|some ⟨some _,.call ⟨.value (.func f'),_,_⟩,_,_,_,none⟩=>Nat.beq f' f|_=>false
def Gj (l:List Oper) (i:Nat):Bool:=match l[i]? with|some ⟨none,.store _ _ _,_,_,_,none⟩=>true|_=>false
def EN (l:List Oper) (i:Nat):Bool:=match l[i]? with|some ⟨some _,.buildSlice _ _ _,_,_,_,none⟩=>true|_=>false
def F6 (l:List Oper) (i:Nat):Bool:=match l[i]? with|some ⟨some _,.call ⟨.builtin .append,_,_⟩,_,_,_,none⟩=>true|_=>false
section
variable {l:List Oper} {Q:Exit→Act→World→Prop} {Mc:List a8} {Rc:List (World→Prop)} {n fuel i:Nat} {listed:Array Bool} {E:Env} {M:List a8} {R:List (World→Prop)}
theorem av.zM (t:Nat) (h:av l Q Mc Rc n fuel listed i E M R) (_:F9 l i t=true:=by decide+kernel):av l Q Mc Rc n fuel listed i E M R:=h
theorem av.ep (f:Nat) (h:av l Q Mc Rc n fuel listed i E M R) (_:EP l i f=true:=by decide+kernel):av l Q Mc Rc n fuel listed i E M R:=h
theorem av.nw (h:av l Q Mc Rc n fuel listed i E M R) (_:Gj l i=true:=by decide+kernel):av l Q Mc Rc n fuel listed i E M R:=h
theorem av.kZ (h:av l Q Mc Rc n fuel listed i E M R) (_:EN l i=true:=by decide+kernel):av l Q Mc Rc n fuel listed i E M R:=h
theorem av.ug (h:av l Q Mc Rc n fuel listed i E M R) (_:F6 l i=true:=by decide+kernel):av l Q Mc Rc n fuel listed i E M R:=h
end
inductive js:List a8→List a8→Prop
 |nil {M:List a8}:js [] M
 |cons {q:a8} {M M1 M':List a8} (h:Rm q M M1) (hs:js M' M1):js (q::M') M
theorem Rm.perm {q:a8} {M M':List a8} (h:Rm q M M'):M.Perm (q::M'):=by
 induction h with
 |head=>exact List.Perm.refl _
 |tail _ ih=>exact(ih.cons _).trans (List.Perm.swap _ _ _)
theorem js.perm {M M':List a8} (h:js M' M):∃M2,M.Perm (M'++M2):=by
 induction h with
 |nil=>exact⟨_,List.Perm.refl _⟩
 |cons hr _ ih=>
  obtain⟨M2,hp⟩:=ih
  exact⟨M2,hr.perm.trans (hp.cons _)⟩
theorem Ok.cF {M M':List a8} {R R':List (World→Prop)} {w:World} (h:Ok M R w) (hM:js M' M) (hR:∀p,p∈R'→p∈R):Ok M' R' w:=by
 obtain⟨M2,hp⟩:=hM.perm
 exact(h.perm hp).sub (List.sublist_append_left _ _) hR
theorem dM {M M':List a8} (h:js M' M:=by(repeat(first|exact js.nil|refine js.cons je ?_))):js M' M:=h
theorem ah.cF {Q:Exit→Act→World→Prop} {n:Nat} {e:Exit} {E E':Env} {M M':List a8} {R R':List (World→Prop)} (h:ah Q n e E' M' R') (hE:Sub E E') (hM:js M' M) (hR:∀p,p∈R'→p∈R):ah Q n e E M R:=⟨fun w hw=>⟨fun a ha=>(h.h w (hw.cF hM hR)).h a (ha.sub hE)⟩⟩
theorem Gy {g g':Prop} (h:g') (hw:dS g'→g:=by(intro hk_;(first|refine aP.qa 0 rfl ?_|refine aP.qa 1 rfl ?_|refine aP.qa 2 rfl ?_|refine aP.qa 3 rfl ?_|refine aP.qa 4 rfl ?_|refine aP.qa 5 rfl ?_|refine aP.qa 6 rfl ?_|refine aP.qa 7 rfl ?_|refine aP.qa 8 rfl ?_|refine aP.qa 9 rfl ?_|refine aP.qa 10 rfl ?_|refine aP.qa 11 rfl ?_|refine aP.qa 12 rfl ?_|refine aP.qa 13 rfl ?_|refine aP.qa 14 rfl ?_|refine aP.qa 15 rfl ?_|refine aP.qa 16 rfl ?_|refine aP.qa 17 rfl ?_|refine aP.qa 18 rfl ?_|refine aP.qa 19 rfl ?_|refine aP.qa 20 rfl ?_|refine aP.qa 21 rfl ?_|refine aP.qa 22 rfl ?_|refine aP.qa 23 rfl ?_|refine aP.qa 24 rfl ?_|refine aP.qa 25 rfl ?_|refine aP.qa 26 rfl ?_|refine aP.qa 27 rfl ?_|refine aP.qa 28 rfl ?_|refine aP.qa 29 rfl ?_);exact hk_.out)):g:=hw ⟨h⟩
theorem og {g g':Prop} (h:g') (hw:dS g'→g:=by(intro hk_;refine Gy ?_;(repeat refine Gy ?_);exact hk_.out)):g:=hw ⟨h⟩
structure cK (z:Nat) (l:List Oper) (Q:Exit→Act→World→Prop) (Mc:List a8) (Rc:List (World→Prop)) (n fuel:Nat) (listed:Array Bool) (E:Env) (M:List a8) (R:List (World→Prop)):Prop where
 h:∀w,Ok M R w→Ok Mc Rc w→wJ .any l.toArray listed→∀a,Ag n a E→lW G.P .any l.toArray (Ok Mc Rc) z (Q .normal) fuel listed a w
structure bu (z:Nat) (l:List Oper) (Q:Exit→Act→World→Prop) (Mc:List a8) (Rc:List (World→Prop)) (n fuel:Nat) (listed:Array Bool) (i:Nat) (E:Env) (M:List a8) (R:List (World→Prop)):Prop where
 h:∀w,Ok M R w→Ok Mc Rc w→wJ .any l.toArray listed→i∈Region.ready .any l.toArray listed→∀a,Ag n a E→tq G.P l.toArray (Ok Mc Rc) z i (lW G.P .any l.toArray (Ok Mc Rc) z (Q .normal) fuel (listed.setIfInBounds i true)) a w
structure bZ (z:Nat) (l:List Oper) (Q:Exit→Act→World→Prop) (Mc:List a8) (Rc:List (World→Prop)) (n fuel:Nat) (listed:Array Bool) (k:Nat) (E:Env) (M:List a8) (R:List (World→Prop)):Prop where
 h:∀i,k≤i→i∈Region.ready .any l.toArray listed→bu z l Q Mc Rc n fuel listed i E M R
section
variable {z:Nat} {l:List Oper} {Q:Exit→Act→World→Prop} {Mc:List a8} {Rc:List (World→Prop)} {n fuel i:Nat} {listed:Array Bool} {E:Env} {M:List a8} {R:List (World→Prop)} {d:Nat} {op:Op} {ty:TypeId} {pos:String} {aft:Array Edge} {v:Value} {β:Type} {φ:β→Prop} {vf:β→Value} {Mf:β→List a8} {Rf:β→List (World→Prop)}
theorem aZ.hH {id:Nat} (z:Nat) (Mc:List a8) (Rc:List (World→Prop)) (hM:Mc.Sublist M) (hR:∀p,p∈Rc→p∈R) (h:cK z l Q Mc Rc n l.length (Array.replicate l.length false) E M R):aZ Q n (.region id l.toArray true) E M R:=
 ⟨fun w hw=>⟨fun a ha=>wp_region_any G.mixed (lU (C:=Ok Mc Rc) (z:=z) (K:=Q .normal) (fun _ _ h=>h) _ _ _ _ (by
  have:=h.h w.drew hw.drew (hw.drew.sub hM hR) (wJ.start _) a ha
  simpa using this))⟩⟩
theorem cK.q (k:Nat) (hk:l[k]?=some ⟨some d,op,ty,pos,aft,none⟩) (hc:(Region.noSelect l.toArray && (Region.ready .any l.toArray listed).contains k && Region.free .any l.toArray listed k && nL op && Nat.blt d n && sinkB .any l.toArray z && !(Nat.beq k z))=true) (hy:Yl G n op E (Ok Mc Rc) v)
  (h:cK z l Q Mc Rc n fuel (listed.setIfInBounds k true) ((d,v)::E) M R):cK z l Q Mc Rc n (fuel+1) listed E M R:=⟨fun w hw hC hcl a ha=>by
 simp only[Bool.and_eq_true,Bool.not_eq_true']at hc
 obtain⟨⟨⟨⟨⟨⟨h1,h2⟩,h3⟩,h4⟩,h5⟩,h6⟩,h7⟩:=hc
 have hne:k≠z:=fun e=>by subst e;simp at h7
 have ho:l.toArray[k]?=some ⟨some d,op,ty,pos,aft,none⟩:=by simpa using hk
 have hkl:k<l.toArray.size:=(Array.getElem?_eq_some_iff.1 ho).1
 have hkr:k∈Region.ready .any l.toArray listed:=by simpa using h2
 exact jP ho (Region.noSelect_spec h1) (fun _ hcl' hl _=>sM h6 hkl hne hcl' hl) hne fuel listed a w hC hcl (Region.free_spec ho h3) hkr (.inl ⟨by simp[Region.wanted],fun w hw=>hy.h w hw a ha _ _ _ _ _⟩) (h.h w hw hC (hcl.set hkr) _ (ha.put (by simpa using h5) v))⟩
theorem cK.qa (k:Nat) (hk:l[k]?=some ⟨some d,op,ty,pos,aft,none⟩)
  (h:cK z l Q Mc Rc n fuel (listed.setIfInBounds k true) ((d,v)::E) M R) (hc:(Region.noSelect l.toArray && (Region.ready .any l.toArray listed).contains k && Region.free .any l.toArray listed k && nL op && Nat.blt d n && sinkB .any l.toArray z && !(Nat.beq k z))=true:=by decide+kernel) (hy:Yl G n op E (Ok Mc Rc) v:=by(first|exact Yl.move rfl|exact Yl.assign rfl|(apply Yl.aK;(first|(apply Yl.aK (bo:=.lss);(first|exact Yl.mj rfl rfl Mj|exact Yl.lQ rfl rfl Mj))|(apply Yl.aK (bo:=.eql);(first|exact Yl.lH rfl rfl Mj|exact Yl.lY rfl rfl Mj))|(apply Yl.aK (bo:=.neq);(first|exact Yl.lN rfl rfl Mj|exact Yl.lJ rfl rfl Mj))|(apply Yl.aK (bo:=.leq);(first|exact Yl.me rfl rfl Mj|exact Yl.lV rfl rfl Mj))|(apply Yl.aK (bo:=.gtr);(first|exact Yl.lR rfl rfl Mj|exact Yl.mc rfl rfl Mj))|(apply Yl.aK (bo:=.geq);(first|exact Yl.mq rfl rfl Mj|exact Yl.lO rfl rfl Mj))|exact Yl.add rfl rfl Mj|exact Yl.sub rfl rfl Mj|exact Yl.jg rfl rfl rfl rfl|exact Yl.tH rfl rfl|exact Yl.ml rfl rfl|exact Yl.mn rfl rfl Mj|fail))|(apply Yl.isField;(first|exact Yl.jF rfl rfl rfl|exact Yl.gP rfl rfl rfl|exact Yl.field rfl rfl rfl))|(apply Yl.dk;(first|exact Yl.kI rfl rfl rfl Lu|exact Yl.ko rfl rfl rfl rfl LE|exact Yl.kv rfl rfl rfl rfl LE LA|exact Yl.ku rfl rfl rfl Ly rfl))|(apply Yl.ek;(first|exact Yl.gh rfl rfl rfl rfl rfl rfl Mj|exact Yl.idx rfl rfl rfl rfl rfl rfl Mj))|exact Yl.len rfl rfl rfl|exact Yl.extract rfl rfl|exact Yl.fZ rfl rfl|exact Yl.fW rfl rfl|exact Yl.nilCheck rfl|exact Yl.not rfl|exact Yl.makeFunc rfl rfl|exact Yl.iV rfl rfl|exact Yl.jc rfl rfl rfl Lw Ml|exact Yl.iQ rfl rfl rfl Lx|exact Yl.fM rfl rfl rfl rfl|exact Yl.dw Tryz.underlying9 rfl rfl rfl Mj|exact Yl.de Tryz.underlying9 rfl rfl rfl Mj|exact Yl.dR Tryz.underlying9 rfl rfl rfl rfl rfl Mj Mj|exact Yl.cO rfl rfl rfl rfl rfl rfl Mj|exact Yl.lT Tryz.underlying9 rfl)):cK z l Q Mc Rc n (fuel+1) listed E M R:=cK.q k hk hc hy h
theorem bZ.fin {k:Nat} (hk:Nat.ble l.length k=true):bZ z l Q Mc Rc n fuel listed k E M R:=⟨fun i hi hr=>by have:=yd hr;have:=Nat.le_of_ble_eq_true hk;omega⟩
theorem bZ.skip {k:Nat} (hk:(Region.ready .any l.toArray listed).contains k=false) (h:bZ z l Q Mc Rc n fuel listed (k+1) E M R):bZ z l Q Mc Rc n fuel listed k E M R:=⟨fun i hi hr=>by
 rcases Nat.eq_or_lt_of_le hi with rfl|hlt
 ·have:(Region.ready .any l.toArray listed).contains k=true:=by simpa using hr
  rw[hk]at this;cases this
 ·exact h.h i hlt hr⟩
theorem bZ.go {k:Nat} (h1:bu z l Q Mc Rc n fuel listed k E M R) (h:bZ z l Q Mc Rc n fuel listed (k+1) E M R):bZ z l Q Mc Rc n fuel listed k E M R:=⟨fun i hi hr=>by
 rcases Nat.eq_or_lt_of_le hi with rfl|hlt
 ·exact h1
 ·exact h.h i hlt hr⟩
theorem cK.any (hr:(Region.ready .any l.toArray listed).isEmpty=false) (h:bZ z l Q Mc Rc n fuel listed 0 E M R):cK z l Q Mc Rc n (fuel+1) listed E M R:=⟨fun w hw hC hcl a ha=>
 ⟨fun h0=>(by rw[h0]at hr;cases hr),fun k hk=>(h.h k (Nat.zero_le _) hk).h w hw hC hcl hk a ha⟩⟩
theorem cK.pure {φ:Prop} (hp:∀w,Ok M R w→φ) (h:φ→cK z l Q Mc Rc n fuel listed E M R):cK z l Q Mc Rc n fuel listed E M R:=⟨fun w hw=>(h (hp w hw)).h w hw⟩
theorem bu.he (hi:l[i]?=some ⟨some d,op,ty,pos,aft,none⟩) (hd:Nat.blt d n=true) (he:HE n op E M R φ vf Mf Rf) (hM:∀x,Mc.Sublist (Mf x)) (hR:∀x p,p∈Rc→p∈Rf x) (h:∀x,φ x→cK z l Q Mc Rc n fuel (listed.setIfInBounds i true) ((d,vf x)::E) (Mf x) (Rf x)):bu z l Q Mc Rc n fuel listed i E M R:=⟨fun w hw hC hcl hr a ha=>by
 have ho:l.toArray[i]?=some ⟨some d,op,ty,pos,aft,none⟩:=by simpa using hi
 unfold tq
 simp only[ho]
 have hw':Region.wanted ⟨some d,op,ty,pos,aft,none⟩ (yielded l.toArray a.tmps)=true:=by simp[Region.wanted]
 simp only[hw',if_true]
 exact cQ ((he.h w hw).h a ha _ _ _ _ _) fun v w2 ⟨x,h1,h2,h3⟩=>by
  subst h2
  exact⟨.inr (h3.sub (hM x) (hR x)),(h x h1).h w2 h3 (h3.sub (hM x) (hR x)) (hcl.set hr) _ (ha.put LW _)⟩⟩
theorem bu.iq (hi:l[z]?=some ⟨none,op,ty,pos,aft,none⟩) (he:fQ n op E M R φ Mf Rf) (h:∀x,φ x→ah Q n .normal E (Mf x) (Rf x)) (hr:(Region.ready .any l.toArray (listed.setIfInBounds z true)).isEmpty=true:=by decide+kernel):bu z l Q Mc Rc n fuel listed z E M R:=⟨fun w hw hC hcl hrd a ha=>by
 have ho:l.toArray[z]?=some ⟨none,op,ty,pos,aft,none⟩:=by simpa using hi
 have hr':Region.ready .any l.toArray (listed.setIfInBounds z true)=[]:=by simpa using hr
 unfold tq
 simp only[ho]
 have hw':Region.wanted ⟨none,op,ty,pos,aft,none⟩ (yielded l.toArray a.tmps)=true:=by simp[Region.wanted]
 simp only[hw',if_true]
 exact cQ ((he.h w hw).h a ha _ _ _ _ _) fun v w2 ⟨x,h1,h3⟩=>
  ⟨.inl trivial,by
   cases fuel with
   |zero=>exact⟨hr',((h x h1).h w2 h3).h _ ha⟩
   |succ f=>exact⟨fun _=>((h x h1).h w2 h3).h _ ha,fun i hi=>by rw[hr']at hi;cases hi⟩⟩⟩
theorem bu.ep (f:Nat) (h:bu z l Q Mc Rc n fuel listed i E M R) (_:EP l i f=true:=by decide+kernel):bu z l Q Mc Rc n fuel listed i E M R:=h
theorem bu.kZ (h:bu z l Q Mc Rc n fuel listed i E M R) (_:EN l i=true:=by decide+kernel):bu z l Q Mc Rc n fuel listed i E M R:=h
end
theorem F1 {g g':Prop} (h:g') (hw:dS g'→g:=by(intro hk_;(first|refine cK.qa 0 rfl ?_|refine cK.qa 1 rfl ?_|refine cK.qa 2 rfl ?_|refine cK.qa 3 rfl ?_|refine cK.qa 4 rfl ?_|refine cK.qa 5 rfl ?_|refine cK.qa 6 rfl ?_|refine cK.qa 7 rfl ?_|refine cK.qa 8 rfl ?_|refine cK.qa 9 rfl ?_|refine cK.qa 10 rfl ?_|refine cK.qa 11 rfl ?_|refine cK.qa 12 rfl ?_|refine cK.qa 13 rfl ?_|refine cK.qa 14 rfl ?_|refine cK.qa 15 rfl ?_|refine cK.qa 16 rfl ?_|refine cK.qa 17 rfl ?_|refine cK.qa 18 rfl ?_|refine cK.qa 19 rfl ?_|refine cK.qa 20 rfl ?_|refine cK.qa 21 rfl ?_|refine cK.qa 22 rfl ?_|refine cK.qa 23 rfl ?_|refine cK.qa 24 rfl ?_|refine cK.qa 25 rfl ?_|refine cK.qa 26 rfl ?_|refine cK.qa 27 rfl ?_|refine cK.qa 28 rfl ?_|refine cK.qa 29 rfl ?_);exact hk_.out)):g:=hw ⟨h⟩
theorem Bl {g g':Prop} (h:g') (hw:dS g'→g:=by(intro hk_;refine F1 ?_;(repeat refine F1 ?_);exact hk_.out)):g:=hw ⟨h⟩
section
variable {l:List Oper} {Q:Exit→Act→World→Prop} {Mc:List a8} {Rc:List (World→Prop)} {n fuel:Nat} {listed:Array Bool} {E:Env} {M:List a8} {R:List (World→Prop)} {d:Nat} {op:Op} {ty:TypeId} {pos:String} {aft:Array Edge} {v:Value} {β:Type} {φ:β→Prop} {vf:β→Value} {Mf:β→List a8} {Rf:β→List (World→Prop)}
theorem aP.qG (k:Nat) {j:Nat} {b:Bool} (hk:l[k]?=some ⟨some d,op,ty,pos,aft,some (j,b)⟩) (hc:(Region.noSelect l.toArray && (Region.ready .any l.toArray listed).contains k && Region.free .any l.toArray listed k && nL op && Nat.blt d n)=true) (hg:nH l.toArray E j=some b) (hy:Yl G n op E (Ok Mc Rc) v)
  (h:aP l Q Mc Rc n fuel (listed.setIfInBounds k true) ((d,v)::E) M R):aP l Q Mc Rc n (fuel+1) listed E M R:=⟨fun w hw hC hcl a ha=>by
 simp only[Bool.and_eq_true]at hc
 obtain⟨⟨⟨⟨h1,h2⟩,h3⟩,-⟩,h5⟩:=hc
 have hkl:k<l.length:=(List.getElem?_eq_some_iff.1 hk).1
 have ho:l.toArray[k]?=some ⟨some d,op,ty,pos,aft,some (j,b)⟩:=by simpa using hk
 have hkr:k∈Region.ready .any l.toArray listed:=by simpa using h2
 exact jP ho (Region.noSelect_spec h1) (fun _ _ _ _=>F7) Mj fuel listed a w hC hcl (Region.free_spec ho h3) hkr (.inl ⟨by simp[Region.wanted,jn ha hg],fun w hw=>hy.h w hw a ha _ _ _ _ _⟩) (h.h w hw hC (hcl.set hkr) _ (ha.put (by simpa using h5) v))⟩
theorem av.FN {i j:Nat} {b:Bool} (hi:l[i]?=some ⟨some d,op,ty,pos,aft,some (j,b)⟩) (hd:Nat.blt d n=true) (hg:nH l.toArray E j=some b) (he:HE n op E M R φ vf Mf Rf) (hM:∀x,Mc.Sublist (Mf x)) (hR:∀x p,p∈Rc→p∈Rf x) (h:∀x,φ x→aP l Q Mc Rc n fuel (listed.setIfInBounds i true) ((d,vf x)::E) (Mf x) (Rf x)):av l Q Mc Rc n fuel listed i E M R:=⟨fun w hw hC hcl hr a ha=>by
 have ho:l.toArray[i]?=some ⟨some d,op,ty,pos,aft,some (j,b)⟩:=by simpa using hi
 unfold tq
 simp only[ho]
 have hw':Region.wanted ⟨some d,op,ty,pos,aft,some (j,b)⟩ (yielded l.toArray a.tmps)=true:=by simp[Region.wanted,jn ha hg]
 simp only[hw',if_true]
 exact cQ ((he.h w hw).h a ha _ _ _ _ _) fun v w2 ⟨x,h1,h2,h3⟩=>by
  subst h2
  exact⟨.inr (h3.sub (hM x) (hR x)),(h x h1).h w2 h3 (h3.sub (hM x) (hR x)) (hcl.set hr) _ (ha.put LW _)⟩⟩
theorem aP.wW (k:Nat) {j:Nat} {b:Bool} (hk:l[k]?=some ⟨some d,op,ty,pos,aft,some (j,b)⟩)
  (h:aP l Q Mc Rc n fuel (listed.setIfInBounds k true) ((d,v)::E) M R) (hc:(Region.noSelect l.toArray && (Region.ready .any l.toArray listed).contains k && Region.free .any l.toArray listed k && nL op && Nat.blt d n)=true:=by decide+kernel) (hg:nH l.toArray E j=some b:=by rfl) (hy:Yl G n op E (Ok Mc Rc) v:=by(first|exact Yl.move rfl|exact Yl.assign rfl|(apply Yl.aK;(first|(apply Yl.aK (bo:=.lss);(first|exact Yl.mj rfl rfl Mj|exact Yl.lQ rfl rfl Mj))|(apply Yl.aK (bo:=.eql);(first|exact Yl.lH rfl rfl Mj|exact Yl.lY rfl rfl Mj))|(apply Yl.aK (bo:=.neq);(first|exact Yl.lN rfl rfl Mj|exact Yl.lJ rfl rfl Mj))|(apply Yl.aK (bo:=.leq);(first|exact Yl.me rfl rfl Mj|exact Yl.lV rfl rfl Mj))|(apply Yl.aK (bo:=.gtr);(first|exact Yl.lR rfl rfl Mj|exact Yl.mc rfl rfl Mj))|(apply Yl.aK (bo:=.geq);(first|exact Yl.mq rfl rfl Mj|exact Yl.lO rfl rfl Mj))|exact Yl.add rfl rfl Mj|exact Yl.sub rfl rfl Mj|exact Yl.jg rfl rfl rfl rfl|exact Yl.tH rfl rfl|exact Yl.ml rfl rfl|exact Yl.mn rfl rfl Mj|fail))|(apply Yl.isField;(first|exact Yl.jF rfl rfl rfl|exact Yl.gP rfl rfl rfl|exact Yl.field rfl rfl rfl))|(apply Yl.dk;(first|exact Yl.kI rfl rfl rfl Lu|exact Yl.ko rfl rfl rfl rfl LE|exact Yl.kv rfl rfl rfl rfl LE LA|exact Yl.ku rfl rfl rfl Ly rfl))|(apply Yl.ek;(first|exact Yl.gh rfl rfl rfl rfl rfl rfl Mj|exact Yl.idx rfl rfl rfl rfl rfl rfl Mj))|exact Yl.len rfl rfl rfl|exact Yl.extract rfl rfl|exact Yl.fZ rfl rfl|exact Yl.fW rfl rfl|exact Yl.nilCheck rfl|exact Yl.not rfl|exact Yl.makeFunc rfl rfl|exact Yl.iV rfl rfl|exact Yl.jc rfl rfl rfl Lw Ml|exact Yl.iQ rfl rfl rfl Lx|exact Yl.fM rfl rfl rfl rfl|exact Yl.dw Tryz.underlying9 rfl rfl rfl Mj|exact Yl.de Tryz.underlying9 rfl rfl rfl Mj|exact Yl.dR Tryz.underlying9 rfl rfl rfl rfl rfl Mj Mj|exact Yl.cO rfl rfl rfl rfl rfl rfl Mj|exact Yl.lT Tryz.underlying9 rfl)):aP l Q Mc Rc n (fuel+1) listed E M R:=aP.qG k hk hc hg hy h
def Fa (l:List Oper) (i f:Nat):Bool:=match l[i]? with|some ⟨some _,.call ⟨.value (.func f'),_,_⟩,_,_,_,some _⟩=>Nat.beq f' f|_=>false
theorem av.uR {i:Nat} (f:Nat) (h:av l Q Mc Rc n fuel listed i E M R) (_:Fa l i f=true:=by decide+kernel):av l Q Mc Rc n fuel listed i E M R:=h
end
theorem EE {g g':Prop} (h:g') (hw:dS g'→g:=by(intro hk_;(first|refine aP.wW 0 rfl ?_|refine aP.wW 1 rfl ?_|refine aP.wW 2 rfl ?_|refine aP.wW 3 rfl ?_|refine aP.wW 4 rfl ?_|refine aP.wW 5 rfl ?_|refine aP.wW 6 rfl ?_|refine aP.wW 7 rfl ?_|refine aP.wW 8 rfl ?_|refine aP.wW 9 rfl ?_|refine aP.wW 10 rfl ?_|refine aP.wW 11 rfl ?_|refine aP.wW 12 rfl ?_|refine aP.wW 13 rfl ?_|refine aP.wW 14 rfl ?_|refine aP.wW 15 rfl ?_|refine aP.wW 16 rfl ?_|refine aP.wW 17 rfl ?_|refine aP.wW 18 rfl ?_|refine aP.wW 19 rfl ?_|refine aP.wW 20 rfl ?_|refine aP.wW 21 rfl ?_|refine aP.wW 22 rfl ?_|refine aP.wW 23 rfl ?_);exact hk_.out)):g:=hw ⟨h⟩
theorem G4 {g g':Prop} (h:g') (hw:dS g'→g:=by(intro hk_;refine EE ?_;(repeat refine EE ?_);exact hk_.out)):g:=hw ⟨h⟩
end Go.Proofs.YtgbgnipidakdhaaGreatDoor
