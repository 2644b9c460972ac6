/- The walker for regions gone through as a tree. -/
import Derived.Test.YtceedealggognaaGreatDoorJRt
import Derived.Test.YtceedealggognaaGreatDoorJAw
import Derived.Test.YtceedealggognaaGreatDoorJT1
import Derived.Test.YtceedealggognaaGreatDoorJN3
import Derived.Test.YtceedealggognaaGreatDoorJR7
import Derived.Test.YtceedealggognaaGreatDoorJM2
namespace Go.Proofs.YtceedealggognaaGreatDoor
open Go.RowKit
set_option maxRecDepth 100000
section
variable {n:Nat} {E:Env} {op:Op} {v:Value} {x y:Operand} {t t2:TypeId} {C:World→Prop}
theorem Yl.an {bo:BinOp} (h:Yl G n (.binOp bo t x y t2) E C v):Yl G n (.binOp bo t x y t2) E C v:=h
theorem Yl.dX (h:Yl G n (.indexAddr t x y) E C v):Yl G n (.indexAddr t x y) E C v:=h
theorem Yl.isField {f:Nat} (h:Yl G n (.fieldAddr t x f) E C v):Yl G n (.fieldAddr t x f) E C v:=h
theorem Yl.bW (h:Yl G n (.load t x) E C v):Yl G n (.load t x) E C v:=h
end
section
variable {l:List Oper} {Q:Exit→Act→World→Prop} {Mc:List aU} {Rc:List (World→Prop)} {n fuel:Nat} {listed:Array Bool} {E:Env} {M M':List aU} {R:List (World→Prop)} {d:Nat} {op:Op} {ty:TypeId} {pos:String} {aft:Array Edge} {v:Value} {β:Type} {φ:β→Prop} {vf:β→Value} {Mf:β→List aU} {Rf:β→List (World→Prop)}
theorem aN.qa (k:Nat) (hk:l[k]?=some ⟨some d,op,ty,pos,aft,none⟩)
  (h:aN l Q Mc Rc n fuel (listed.setIfInBounds k true) ((d,v)::E) M R) (hc:(Region.noSelect l.toArray && (Region.ready .any l.toArray listed).contains k && Region.free .any l.toArray listed k && lH op && Nat.blt d n)=true:=by decide+kernel) (hy:Yl G n op E (Ok Mc Rc) v:=by(first|exact Yl.move rfl|exact Yl.assign rfl|(apply Yl.an;(first|(apply Yl.an (bo:=.lss);(first|exact Yl.iG rfl rfl FY|exact Yl.iF rfl rfl FY))|(apply Yl.an (bo:=.eql);(first|exact Yl.iw rfl rfl FY|exact Yl.iu rfl rfl FY))|(apply Yl.an (bo:=.neq);(first|exact Yl.iI rfl rfl FY|exact Yl.iH rfl rfl FY))|(apply Yl.an (bo:=.leq);(first|exact Yl.iE rfl rfl FY|exact Yl.iD rfl rfl FY))|(apply Yl.an (bo:=.gtr);(first|exact Yl.iC rfl rfl FY|exact Yl.iB rfl rfl FY))|(apply Yl.an (bo:=.geq);(first|exact Yl.iA rfl rfl FY|exact Yl.iz rfl rfl FY))|exact Yl.add rfl rfl FY|exact Yl.sub rfl rfl FY|exact Yl.fu rfl rfl rfl rfl|exact Yl.je Tryz.underlying4 rfl rfl|exact Yl.pY rfl rfl|exact Yl.kf rfl rfl|exact Yl.kc rfl rfl FY|fail))|(apply Yl.isField;(first|exact Yl.hU rfl rfl rfl|exact Yl.dW rfl rfl rfl|exact Yl.field rfl rfl rfl))|(apply Yl.bW;(first|exact Yl.jr rfl rfl rfl Fu|exact Yl.jo rfl rfl rfl rfl FD|exact Yl.js rfl rfl rfl rfl FD FA|exact Yl.jq rfl rfl rfl Fy rfl))|(apply Yl.dX;(first|exact Yl.fL rfl rfl rfl rfl rfl rfl FY|exact Yl.idx rfl rfl rfl rfl rfl rfl FY))|exact Yl.len rfl rfl rfl|exact Yl.extract rfl rfl|exact Yl.dF rfl rfl|exact Yl.dE rfl rfl|exact Yl.nilCheck rfl|exact Yl.not rfl|exact Yl.makeFunc rfl rfl|exact Yl.fW rfl rfl|exact Yl.fX rfl rfl rfl Fw F0|exact Yl.fY rfl rfl rfl Fx|exact Yl.dU rfl rfl rfl rfl|exact Yl.cR Tryz.underlying9 rfl rfl rfl FY|exact Yl.cm Tryz.underlying9 rfl rfl rfl FY|exact Yl.ck rfl rfl rfl rfl rfl rfl FY|exact Yl.ke Tryz.underlying9 rfl)):aN l Q Mc Rc n (fuel+1) listed E M R:=aN.q k hk hc hy h
theorem aN.qy (k:Nat) (hk:l[k]?=some ⟨some d,op,ty,pos,aft,none⟩) (hy:Yl G n op E (Ok Mc Rc) v)
  (h:aN l Q Mc Rc n fuel (listed.setIfInBounds k true) ((d,v)::E) M R) (hc:(Region.noSelect l.toArray && (Region.ready .any l.toArray listed).contains k && Region.free .any l.toArray listed k && lH op && Nat.blt d n)=true:=by decide+kernel):aN l Q Mc Rc n (fuel+1) listed E M R:=aN.q k hk hc hy h
structure aE (l:List Oper) (Q:Exit→Act→World→Prop) (Mc:List aU) (Rc:List (World→Prop)) (n fuel:Nat) (listed:Array Bool) (k:Nat) (E:Env) (M:List aU) (R:List (World→Prop)):Prop where
 h:∀i,k≤i→i∈Region.ready .any l.toArray listed→aK l Q Mc Rc n fuel listed i E M R
theorem sM {i:Nat} (h:i∈Region.ready .any l.toArray listed):i<l.length:=by
 obtain⟨-,o,ho,-⟩:=mem_ready.1 h
 exact(Array.getElem?_eq_some_iff.1 ho).1
theorem aE.fin {k:Nat} (hk:Nat.ble l.length k=true):aE l Q Mc Rc n fuel listed k E M R:=⟨fun i hi hr=>by have:=sM hr;have:=Nat.le_of_ble_eq_true hk;omega⟩
theorem aE.skip {k:Nat} (hk:(Region.ready .any l.toArray listed).contains k=false) (h:aE l Q Mc Rc n fuel listed (k+1) E M R):aE l Q Mc Rc n fuel listed k E M R:=⟨fun i hi hr=>by
 rcases Nat.eq_or_lt_of_le hi with rfl|hlt
 ·have:(Region.ready .any l.toArray listed).contains k=true:=by simpa using hr
  rw[hk]at this;cases this
 ·exact h.h i hlt hr⟩
theorem aE.go {k:Nat} (h1:aK l Q Mc Rc n fuel listed k E M R) (h:aE l Q Mc Rc n fuel listed (k+1) E M R):aE l Q Mc Rc n fuel listed k E M R:=⟨fun i hi hr=>by
 rcases Nat.eq_or_lt_of_le hi with rfl|hlt
 ·exact h1
 ·exact h.h i hlt hr⟩
theorem aN.any (hr:(Region.ready .any l.toArray listed).isEmpty=false) (h:aE l Q Mc Rc n fuel listed 0 E M R):aN l Q Mc Rc n (fuel+1) listed E M R:=⟨fun w hw hC hcl a ha=>
 ⟨fun h0=>(by rw[h0]at hr;cases hr),fun k hk=>(h.h k (Nat.zero_le _) hk).h w hw hC hcl hk a ha⟩⟩
theorem aN.pure {φ:Prop} (hp:∀w,Ok M R w→φ) (h:φ→aN l Q Mc Rc n fuel listed E M R):aN l Q Mc Rc n fuel listed E M R:=⟨fun w hw=>(h (hp w hw)).h w hw⟩
theorem aN.zS {α:Type} (E0:α→Env) (M0:α→List aU) (R0:α→List (World→Prop))
  (rest:∀x,ai Q n .normal (E0 x) (M0 x) (R0 x)) (h:(∀x,ai Q n .normal (E0 x) (M0 x) (R0 x))→aN l Q Mc Rc n fuel listed E M R):aN l Q Mc Rc n fuel listed E M R:=h rest
end
def Bp (l:List Oper) (i t:Nat):Bool:=match l[i]? with|some ⟨some _,.alloc t',_,_,_,none⟩=>Nat.beq t' t|_=>false
def zR (l:List Oper) (i f:Nat):Bool:=match l[i]? with|some ⟨some _,.call ⟨.value (.func f'),_,_⟩,_,_,_,none⟩=>Nat.beq f' f|_=>false
def Bs (l:List Oper) (i:Nat):Bool:=match l[i]? with|some ⟨none,.store _ _ _,_,_,_,none⟩=>true|_=>false
def zQ (l:List Oper) (i:Nat):Bool:=match l[i]? with|some ⟨some _,.buildSlice _ _ _,_,_,_,none⟩=>true|_=>false
def zP (l:List Oper) (i:Nat):Bool:=match l[i]? with|some ⟨some _,.call ⟨.builtin .append,_,_⟩,_,_,_,none⟩=>true|_=>false
section
variable {l:List Oper} {Q:Exit→Act→World→Prop} {Mc:List aU} {Rc:List (World→Prop)} {n fuel i:Nat} {listed:Array Bool} {E:Env} {M:List aU} {R:List (World→Prop)}
theorem aK.AH (t:Nat) (h:aK l Q Mc Rc n fuel listed i E M R) (_:Bp l i t=true:=by decide+kernel):aK l Q Mc Rc n fuel listed i E M R:=h
theorem aK.fe (f:Nat) (h:aK l Q Mc Rc n fuel listed i E M R) (_:zR l i f=true:=by decide+kernel):aK l Q Mc Rc n fuel listed i E M R:=h
theorem aK.yX (h:aK l Q Mc Rc n fuel listed i E M R) (_:Bs l i=true:=by decide+kernel):aK l Q Mc Rc n fuel listed i E M R:=h
theorem aK.vL (h:aK l Q Mc Rc n fuel listed i E M R) (_:zQ l i=true:=by decide+kernel):aK l Q Mc Rc n fuel listed i E M R:=h
theorem aK.vK (h:aK l Q Mc Rc n fuel listed i E M R) (_:zP l i=true:=by decide+kernel):aK l Q Mc Rc n fuel listed i E M R:=h
end
inductive gz:List aU→List aU→Prop
 |nil {M:List aU}:gz [] M
 |cons {q:aU} {M M1 M':List aU} (h:Rm q M M1) (hs:gz M' M1):gz (q::M') M
theorem Rm.perm {q:aU} {M M':List aU} (h:Rm q M M'):M.Perm (q::M'):=by
 induction h with
 |head=>exact List.Perm.refl _
 |tail _ ih=>exact(ih.cons _).trans (List.Perm.swap _ _ _)
theorem gz.perm {M M':List aU} (h:gz M' M):∃M2,M.Perm (M'++M2):=by
 induction h with
 |nil=>exact⟨_,List.Perm.refl _⟩
 |cons hr _ ih=>
  obtain⟨M2,hp⟩:=ih
  exact⟨M2,hr.perm.trans (hp.cons _)⟩
theorem Ok.bT {M M':List aU} {R R':List (World→Prop)} {w:World} (h:Ok M R w) (hM:gz M' M) (hR:∀p,p∈R'→p∈R):Ok M' R' w:=by
 obtain⟨M2,hp⟩:=hM.perm
 exact(h.perm hp).sub (List.sublist_append_left _ _) hR
theorem cM {M M':List aU} (h:gz M' M:=by(repeat(first|exact gz.nil|refine gz.cons gV ?_))):gz M' M:=h
theorem ai.bT {Q:Exit→Act→World→Prop} {n:Nat} {e:Exit} {E E':Env} {M M':List aU} {R R':List (World→Prop)} (h:ai Q n e E' M' R') (hE:Sub E E') (hM:gz M' M) (hR:∀p,p∈R'→p∈R):ai Q n e E M R:=⟨fun w hw=>⟨fun a ha=>(h.h w (hw.bT hM hR)).h a (ha.sub hE)⟩⟩
theorem BN {g g':Prop} (h:g') (hw:dP g'→g:=by(intro hk_;(first|refine aN.qa 0 rfl ?_|refine aN.qa 1 rfl ?_|refine aN.qa 2 rfl ?_|refine aN.qa 3 rfl ?_|refine aN.qa 4 rfl ?_|refine aN.qa 5 rfl ?_|refine aN.qa 6 rfl ?_|refine aN.qa 7 rfl ?_|refine aN.qa 8 rfl ?_|refine aN.qa 9 rfl ?_|refine aN.qa 10 rfl ?_|refine aN.qa 11 rfl ?_|refine aN.qa 12 rfl ?_|refine aN.qa 13 rfl ?_|refine aN.qa 14 rfl ?_|refine aN.qa 15 rfl ?_|refine aN.qa 16 rfl ?_|refine aN.qa 17 rfl ?_|refine aN.qa 18 rfl ?_|refine aN.qa 19 rfl ?_|refine aN.qa 20 rfl ?_|refine aN.qa 21 rfl ?_|refine aN.qa 22 rfl ?_|refine aN.qa 23 rfl ?_|refine aN.qa 24 rfl ?_|refine aN.qa 25 rfl ?_|refine aN.qa 26 rfl ?_|refine aN.qa 27 rfl ?_|refine aN.qa 28 rfl ?_|refine aN.qa 29 rfl ?_);exact hk_.out)):g:=hw ⟨h⟩
theorem tx {g g':Prop} (h:g') (hw:dP g'→g:=by(intro hk_;refine BN ?_;(repeat refine BN ?_);exact hk_.out)):g:=hw ⟨h⟩
structure cX (z:Nat) (l:List Oper) (Q:Exit→Act→World→Prop) (Mc:List aU) (Rc:List (World→Prop)) (n fuel:Nat) (listed:Array Bool) (E:Env) (M:List aU) (R:List (World→Prop)):Prop where
 h:∀w,Ok M R w→Ok Mc Rc w→rK .any l.toArray listed→∀a,Ag n a E→jR G.P .any l.toArray (Ok Mc Rc) z (Q .normal) fuel listed a w
structure cD (z:Nat) (l:List Oper) (Q:Exit→Act→World→Prop) (Mc:List aU) (Rc:List (World→Prop)) (n fuel:Nat) (listed:Array Bool) (i:Nat) (E:Env) (M:List aU) (R:List (World→Prop)):Prop where
 h:∀w,Ok M R w→Ok Mc Rc w→rK .any l.toArray listed→i∈Region.ready .any l.toArray listed→∀a,Ag n a E→pz G.P l.toArray (Ok Mc Rc) z i (jR G.P .any l.toArray (Ok Mc Rc) z (Q .normal) fuel (listed.setIfInBounds i true)) a w
structure dK (z:Nat) (l:List Oper) (Q:Exit→Act→World→Prop) (Mc:List aU) (Rc:List (World→Prop)) (n fuel:Nat) (listed:Array Bool) (k:Nat) (E:Env) (M:List aU) (R:List (World→Prop)):Prop where
 h:∀i,k≤i→i∈Region.ready .any l.toArray listed→cD z l Q Mc Rc n fuel listed i E M R
section
variable {z:Nat} {l:List Oper} {Q:Exit→Act→World→Prop} {Mc:List aU} {Rc:List (World→Prop)} {n fuel i:Nat} {listed:Array Bool} {E:Env} {M:List aU} {R:List (World→Prop)} {d:Nat} {op:Op} {ty:TypeId} {pos:String} {aft:Array Edge} {v:Value} {β:Type} {φ:β→Prop} {vf:β→Value} {Mf:β→List aU} {Rf:β→List (World→Prop)}
theorem aP.nI {id:Nat} (z:Nat) (Mc:List aU) (Rc:List (World→Prop)) (hM:Mc.Sublist M) (hR:∀p,p∈Rc→p∈R) (h:cX z l Q Mc Rc n l.length (Array.replicate l.length false) E M R):aP Q n (.region id l.toArray true) E M R:=
 ⟨fun w hw=>⟨fun a ha=>wp_region_any G.mixed (jU (C:=Ok Mc Rc) (z:=z) (K:=Q .normal) (fun _ _ h=>h) _ _ _ _ (by
  have:=h.h w.drew hw.drew (hw.drew.sub hM hR) (rK.start _) a ha
  simpa using this))⟩⟩
theorem cX.q (k:Nat) (hk:l[k]?=some ⟨some d,op,ty,pos,aft,none⟩) (hc:(Region.noSelect l.toArray && (Region.ready .any l.toArray listed).contains k && Region.free .any l.toArray listed k && lH op && Nat.blt d n && sinkB .any l.toArray z && !(Nat.beq k z))=true) (hy:Yl G n op E (Ok Mc Rc) v)
  (h:cX z l Q Mc Rc n fuel (listed.setIfInBounds k true) ((d,v)::E) M R):cX z l Q Mc Rc n (fuel+1) listed E M R:=⟨fun w hw hC hcl a ha=>by
 simp only[Bool.and_eq_true,Bool.not_eq_true']at hc
 obtain⟨⟨⟨⟨⟨⟨h1,h2⟩,h3⟩,h4⟩,h5⟩,h6⟩,h7⟩:=hc
 have hne:k≠z:=fun e=>by subst e;simp at h7
 have ho:l.toArray[k]?=some ⟨some d,op,ty,pos,aft,none⟩:=by simpa using hk
 have hkl:k<l.toArray.size:=(Array.getElem?_eq_some_iff.1 ho).1
 have hkr:k∈Region.ready .any l.toArray listed:=by simpa using h2
 exact jS ho (Region.noSelect_spec h1) (fun _ hcl' hl _=>oU h6 hkl hne hcl' hl) hne fuel listed a w hC hcl (Region.free_spec ho h3) hkr (.inl ⟨by simp[Region.wanted],fun w hw=>hy.h w hw a ha _ _ _ _ _⟩) (h.h w hw hC (hcl.set hkr) _ (ha.put (by simpa using h5) v))⟩
theorem cX.qa (k:Nat) (hk:l[k]?=some ⟨some d,op,ty,pos,aft,none⟩)
  (h:cX z l Q Mc Rc n fuel (listed.setIfInBounds k true) ((d,v)::E) M R) (hc:(Region.noSelect l.toArray && (Region.ready .any l.toArray listed).contains k && Region.free .any l.toArray listed k && lH op && Nat.blt d n && sinkB .any l.toArray z && !(Nat.beq k z))=true:=by decide+kernel) (hy:Yl G n op E (Ok Mc Rc) v:=by(first|exact Yl.move rfl|exact Yl.assign rfl|(apply Yl.an;(first|(apply Yl.an (bo:=.lss);(first|exact Yl.iG rfl rfl FY|exact Yl.iF rfl rfl FY))|(apply Yl.an (bo:=.eql);(first|exact Yl.iw rfl rfl FY|exact Yl.iu rfl rfl FY))|(apply Yl.an (bo:=.neq);(first|exact Yl.iI rfl rfl FY|exact Yl.iH rfl rfl FY))|(apply Yl.an (bo:=.leq);(first|exact Yl.iE rfl rfl FY|exact Yl.iD rfl rfl FY))|(apply Yl.an (bo:=.gtr);(first|exact Yl.iC rfl rfl FY|exact Yl.iB rfl rfl FY))|(apply Yl.an (bo:=.geq);(first|exact Yl.iA rfl rfl FY|exact Yl.iz rfl rfl FY))|exact Yl.add rfl rfl FY|exact Yl.sub rfl rfl FY|exact Yl.fu rfl rfl rfl rfl|exact Yl.je Tryz.underlying4 rfl rfl|exact Yl.pY rfl rfl|exact Yl.kf rfl rfl|exact Yl.kc rfl rfl FY|fail))|(apply Yl.isField;(first|exact Yl.hU rfl rfl rfl|exact Yl.dW rfl rfl rfl|exact Yl.field rfl rfl rfl))|(apply Yl.bW;(first|exact Yl.jr rfl rfl rfl Fu|exact Yl.jo rfl rfl rfl rfl FD|exact Yl.js rfl rfl rfl rfl FD FA|exact Yl.jq rfl rfl rfl Fy rfl))|(apply Yl.dX;(first|exact Yl.fL rfl rfl rfl rfl rfl rfl FY|exact Yl.idx rfl rfl rfl rfl rfl rfl FY))|exact Yl.len rfl rfl rfl|exact Yl.extract rfl rfl|exact Yl.dF rfl rfl|exact Yl.dE rfl rfl|exact Yl.nilCheck rfl|exact Yl.not rfl|exact Yl.makeFunc rfl rfl|exact Yl.fW rfl rfl|exact Yl.fX rfl rfl rfl Fw F0|exact Yl.fY rfl rfl rfl Fx|exact Yl.dU rfl rfl rfl rfl|exact Yl.cR Tryz.underlying9 rfl rfl rfl FY|exact Yl.cm Tryz.underlying9 rfl rfl rfl FY|exact Yl.ck rfl rfl rfl rfl rfl rfl FY|exact Yl.ke Tryz.underlying9 rfl)):cX z l Q Mc Rc n (fuel+1) listed E M R:=cX.q k hk hc hy h
theorem dK.fin {k:Nat} (hk:Nat.ble l.length k=true):dK z l Q Mc Rc n fuel listed k E M R:=⟨fun i hi hr=>by have:=sM hr;have:=Nat.le_of_ble_eq_true hk;omega⟩
theorem dK.skip {k:Nat} (hk:(Region.ready .any l.toArray listed).contains k=false) (h:dK z l Q Mc Rc n fuel listed (k+1) E M R):dK z l Q Mc Rc n fuel listed k E M R:=⟨fun i hi hr=>by
 rcases Nat.eq_or_lt_of_le hi with rfl|hlt
 ·have:(Region.ready .any l.toArray listed).contains k=true:=by simpa using hr
  rw[hk]at this;cases this
 ·exact h.h i hlt hr⟩
theorem dK.go {k:Nat} (h1:cD z l Q Mc Rc n fuel listed k E M R) (h:dK z l Q Mc Rc n fuel listed (k+1) E M R):dK z l Q Mc Rc n fuel listed k E M R:=⟨fun i hi hr=>by
 rcases Nat.eq_or_lt_of_le hi with rfl|hlt
 ·exact h1
 ·exact h.h i hlt hr⟩
theorem cX.any (hr:(Region.ready .any l.toArray listed).isEmpty=false) (h:dK z l Q Mc Rc n fuel listed 0 E M R):cX z l Q Mc Rc n (fuel+1) listed E M R:=⟨fun w hw hC hcl a ha=>
 ⟨fun h0=>(by rw[h0]at hr;cases hr),fun k hk=>(h.h k (Nat.zero_le _) hk).h w hw hC hcl hk a ha⟩⟩
theorem cX.pure {φ:Prop} (hp:∀w,Ok M R w→φ) (h:φ→cX z l Q Mc Rc n fuel listed E M R):cX z l Q Mc Rc n fuel listed E M R:=⟨fun w hw=>(h (hp w hw)).h w hw⟩
theorem cD.he (hi:l[i]?=some ⟨some d,op,ty,pos,aft,none⟩) (hd:Nat.blt d n=true) (he:HE n op E M R φ vf Mf Rf) (hM:∀x,Mc.Sublist (Mf x)) (hR:∀x p,p∈Rc→p∈Rf x) (h:∀x,φ x→cX z l Q Mc Rc n fuel (listed.setIfInBounds i true) ((d,vf x)::E) (Mf x) (Rf x)):cD z l Q Mc Rc n fuel listed i E M R:=⟨fun w hw hC hcl hr a ha=>by
 have ho:l.toArray[i]?=some ⟨some d,op,ty,pos,aft,none⟩:=by simpa using hi
 unfold pz
 simp only[ho]
 have hw':Region.wanted ⟨some d,op,ty,pos,aft,none⟩ (yielded l.toArray a.tmps)=true:=by simp[Region.wanted]
 simp only[hw',if_true]
 exact bY ((he.h w hw).h a ha _ _ _ _ _) fun v w2 ⟨x,h1,h2,h3⟩=>by
  subst h2
  exact⟨.inr (h3.sub (hM x) (hR x)),(h x h1).h w2 h3 (h3.sub (hM x) (hR x)) (hcl.set hr) _ (ha.put (by simpa using hd) _)⟩⟩
theorem cD.gR (hi:l[z]?=some ⟨none,op,ty,pos,aft,none⟩) (he:gI n op E M R φ Mf Rf) (h:∀x,φ x→ai Q n .normal E (Mf x) (Rf x)) (hr:(Region.ready .any l.toArray (listed.setIfInBounds z true)).isEmpty=true:=by decide+kernel):cD z l Q Mc Rc n fuel listed z E M R:=⟨fun w hw hC hcl hrd a ha=>by
 have ho:l.toArray[z]?=some ⟨none,op,ty,pos,aft,none⟩:=by simpa using hi
 have hr':Region.ready .any l.toArray (listed.setIfInBounds z true)=[]:=by simpa using hr
 unfold pz
 simp only[ho]
 have hw':Region.wanted ⟨none,op,ty,pos,aft,none⟩ (yielded l.toArray a.tmps)=true:=by simp[Region.wanted]
 simp only[hw',if_true]
 exact bY ((he.h w hw).h a ha _ _ _ _ _) fun v w2 ⟨x,h1,h3⟩=>
  ⟨.inl trivial,by
   cases fuel with
   |zero=>exact⟨hr',((h x h1).h w2 h3).h _ ha⟩
   |succ f=>exact⟨fun _=>((h x h1).h w2 h3).h _ ha,fun i hi=>by rw[hr']at hi;cases hi⟩⟩⟩
theorem cD.fe (f:Nat) (h:cD z l Q Mc Rc n fuel listed i E M R) (_:zR l i f=true:=by decide+kernel):cD z l Q Mc Rc n fuel listed i E M R:=h
theorem cD.vL (h:cD z l Q Mc Rc n fuel listed i E M R) (_:zQ l i=true:=by decide+kernel):cD z l Q Mc Rc n fuel listed i E M R:=h
theorem cD.vK (h:cD z l Q Mc Rc n fuel listed i E M R) (_:zP l i=true:=by decide+kernel):cD z l Q Mc Rc n fuel listed i E M R:=h
end
theorem BO {g g':Prop} (h:g') (hw:dP g'→g:=by(intro hk_;(first|refine cX.qa 0 rfl ?_|refine cX.qa 1 rfl ?_|refine cX.qa 2 rfl ?_|refine cX.qa 3 rfl ?_|refine cX.qa 4 rfl ?_|refine cX.qa 5 rfl ?_|refine cX.qa 6 rfl ?_|refine cX.qa 7 rfl ?_|refine cX.qa 8 rfl ?_|refine cX.qa 9 rfl ?_|refine cX.qa 10 rfl ?_|refine cX.qa 11 rfl ?_|refine cX.qa 12 rfl ?_|refine cX.qa 13 rfl ?_|refine cX.qa 14 rfl ?_|refine cX.qa 15 rfl ?_|refine cX.qa 16 rfl ?_|refine cX.qa 17 rfl ?_|refine cX.qa 18 rfl ?_|refine cX.qa 19 rfl ?_|refine cX.qa 20 rfl ?_|refine cX.qa 21 rfl ?_|refine cX.qa 22 rfl ?_|refine cX.qa 23 rfl ?_|refine cX.qa 24 rfl ?_|refine cX.qa 25 rfl ?_|refine cX.qa 26 rfl ?_|refine cX.qa 27 rfl ?_|refine cX.qa 28 rfl ?_|refine cX.qa 29 rfl ?_);exact hk_.out)):g:=hw ⟨h⟩
theorem BX {g g':Prop} (h:g') (hw:dP g'→g:=by(intro hk_;refine BO ?_;(repeat refine BO ?_);exact hk_.out)):g:=hw ⟨h⟩
section parts
variable {xs:List bZ}
end parts
theorem AI {α:Type} [Inhabited α] {l:List α} {i:Nat} (h:i<l.length):ix l i∈l:=by rw[cI h];exact List.getElem_mem h
end Go.Proofs.YtceedealggognaaGreatDoor
