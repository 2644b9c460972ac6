/- Space.whole, Space.Imported. -/
import Derived.Test.YtgbgnipidakdhaaGreatDoorJSf
import Derived.Test.YtgbgnipidakdhaaGreatDoorJSb
namespace Go.Proofs.YtgbgnipidakdhaaGreatDoor
open Go.RowKit
set_option maxRecDepth 100000
section
variable {ops:Array Oper} {Q:Exit→Act→World→Prop} {n:Nat} {E:Env} {M M':List a8} {R R':List (World→Prop)} {v:Value} {x y z:Operand} {t t2:TypeId} {C:World→Prop}
theorem Yl.uk {ti:TypeId} {ad:Addr} (ht:G.P.underlying t=some (.pointer ti)) (hx:ev E x=some (.pointer (some ad))) (hy:ev E y=some (.pointer none)):Yl G n (.binOp .eql t x y t2) E C (.bool false):=
 ⟨fun w _ a ha d ty pos aft gd=>by
  have h2:∀m,(Op.equalIn (m+1) t (.pointer (some ad)) (.pointer none)).run G.P w=.ok false w:=by
   intro m;simp[Op.equalIn,run_underlying ht]
  have h3:(Op.equal t (.pointer (some ad)) (.pointer none)).run G.P w=.ok false w:=h2 9999
  simp[execOp,ha.eval hx,ha.eval hy,eqGuard,binOp,h3]⟩
theorem Yl.DO {k e:TypeId} {zv:Value} {bm:Nat} {g:Int→Option Value} {a:Int} {w0:World} (ht:G.P.underlying t=some (.map k e)) (hk:G.P.underlying k=some (.int .i64)) (hzv:∀w,(zeroValue e).run G.P w=.ok zv w) (hx:ev E x=some (.map (some bm))) (hy:ev E y=some (.int .i64 a)) (ha:dV a)
  (hM:IV w0 bm g) (hR:Ext w0∈R):Yl G n (.lookup t x y false) E (Ok M R) ((g a).getD zv):=
 ⟨fun w hw ac hac d ty pos aft gd=>by
  have:=uZ (t:=t) ht hk hzv (hM.aO (show Ext w0 w from hw.get hR) (fun h=>h)) (yQ ha)
  simp[execOp,hac.eval hx,hac.eval hy,this]⟩
end
theorem kH (bS sp:Nat) (w:World) (hb:gO w bS [.pointer (some ⟨sp,0,none⟩)] vE):Calls G.P 155 #[.pointer (some ⟨bS,0,none⟩)] w fun e w'=>e=.returned (.pointer (some ⟨sp,0,none⟩))∧Ext w w':=by
 have c0:w.cell? ⟨bS,0,none⟩=some (.pointer (some ⟨sp,0,none⟩)):=hb.cell rfl
 refine ae (l:=[.pointer (some ⟨bS,0,none⟩)]) Tryz.func155 rfl Tryz.ntmps155 rfl (Ok.start w) ?_
 refine bQ ?_
 refine aa.y_ (Yl.uk Tryz.underlying51 rfl rfl) rfl ?_
 refine bQ ?_
 refine aa.yg rfl (Yl.uk Tryz.underlying58 rfl rfl) rfl ?_
 refine bQ ?_
 exact am
theorem bP.Gr {s:bP} {a:Int} {b:Bool} {r:List (Int×Bool)} (h:s.ps=r++[(a,b)]):s.at_=a∧s.loose=b:=by
 have e:ix s.ps (s.ps.length - 1)=(a,b):=by rw[h,List.length_append,List.length_singleton,Nat.add_sub_cancel,gD (Nat.le_refl _),Nat.sub_self];rfl
 unfold bP.at_ bP.loose;rw[e];exact⟨rfl,rfl⟩
theorem bP.Ok.at_ {s:bP} (h:s.Ok):0≤s.at_∧s.at_≤s.ts.length:=by
 have:=h.some
 exact h.le _ Mj
structure bP.Wf (s:bP):Prop where
 some:0<s.ps.length
 pos:∀i,i<s.ps.length→0≤(ix s.ps i).1
 mono:∀i j,i≤j→j<s.ps.length→(ix s.ps i).1≤(ix s.ps j).1
 top:s.at_≤s.ts.length
theorem bP.Wf.ok {s:bP} (h:s.Wf):s.Ok:=⟨h.some,fun i hi=>⟨h.pos i hi,by
 have:=h.mono i (s.ps.length - 1) Mj Mj
 have h2:(ix s.ps (s.ps.length - 1)).1≤s.ts.length:=h.top
 omega⟩⟩
theorem bP.Wf.at_ {s:bP} (h:s.Wf):0≤s.at_∧s.at_≤s.ts.length:=h.ok.at_
theorem mZ {s:bP} (h:s.Wf) (l:List Int):(aJ s l).Wf:=⟨h.some,h.pos,h.mono,by have:=h.top;show s.at_≤((s.ts++l).length:Int);rw[List.length_append];omega⟩
theorem BV {s:bP} (h:s.Wf):(aR s).Wf:=by
 have e:(aR s).at_=(s.ts.length:Int):=(bP.Gr (s:=aR s) (a:=(s.ts.length:Int)) (b:=false) (r:=s.ps) rfl).1
 have e2:∀i,i<s.ps.length→ix (aR s).ps i=ix s.ps i:=fun i hi=>iy hi
 have e3:(ix (aR s).ps s.ps.length).1=(s.ts.length:Int):=by show(ix (s.ps++[((s.ts.length:Int),false)]) s.ps.length).1=_;rw[gD (Nat.le_refl _),Nat.sub_self];rfl
 have hl:(aR s).ps.length=s.ps.length+1:=by simp[aR]
 refine⟨by rw[hl];omega,fun i hi=>?_,fun i j hij hj=>?_,by rw[e];exact Int.le_refl _⟩
 ·by_cases hlt:i<s.ps.length
  ·rw[e2 i hlt];exact h.pos i hlt
  ·have:i=s.ps.length:=by omega
   subst this;rw[e3];omega
 ·by_cases hlt:j<s.ps.length
  ·rw[e2 i Mj,e2 j hlt];exact h.mono i j hij hlt
  ·have:j=s.ps.length:=by omega
   subst this
   rw[e3]
   by_cases hi:i<s.ps.length
   ·rw[e2 i hi];exact(h.ok.le i hi).2
   ·have:i=s.ps.length:=by omega
    subst this;rw[e3];exact Int.le_refl _
theorem Ac {s:bP} (h:s.Wf) {n:Nat} (hn:s.at_≤n) (hl:n≤s.ts.length):({s with ts:=s.ts.take n}:bP).Wf:=⟨h.some,h.pos,h.mono,by show s.at_≤((s.ts.take n).length:Int);rw[List.length_take];omega⟩
theorem dn {s:bP} (h:s.Wf) (l:List Int):(aE s l).1.Wf:=by
 unfold aE
 dsimp only
 split
 ·rename_i h0
  have:=iX l.reverse s.ts.length h.top h0
  exact Ac h this.1 this.2
 ·exact h
theorem eM (s:bP) (l:List Int):(aE s l).1.ps=s.ps:=by unfold aE;dsimp only;split<;>rfl
theorem iC {s:bP} (h:s.Wf):(aU s).1.Wf:=by
 unfold aU
 split
 ·exact Ac h Mj Mj
 ·split<;>exact h
theorem AQ {s:bP} (h:s.Wf):(dq s).Wf:=by
 have h0:=h.some
 have e:∀i,i<s.ps.length→(ix (s.ps.set (s.ps.length - 1) (s.at_,true)) i).1=(ix s.ps i).1:=fun i hi=>by
  rw[cD (by simpa using hi),List.getElem_set,cD hi]
  split
  ·rename_i e;subst e
   show s.at_=_
   unfold bP.at_;rw[cD Mj]
  ·rfl
 have ea:(dq s).at_=s.at_:=by
  show(ix (s.ps.set (s.ps.length - 1) (s.at_,true)) ((s.ps.set (s.ps.length - 1) (s.at_,true)).length - 1)).1=_
  rw[List.length_set,e _ Mj];rfl
 have hl:(dq s).ps.length=s.ps.length:=List.length_set
 have h2:=h.at_
 refine⟨by rw[hl];exact h0,fun i hi=>?_,fun i j hij hj=>?_,?_⟩
 ·rw[hl]at hi
  show 0≤(ix (s.ps.set (s.ps.length - 1) (s.at_,true)) i).1
  rw[e i hi];exact h.pos i hi
 ·rw[hl]at hj
  show(ix (s.ps.set (s.ps.length - 1) (s.at_,true)) i).1≤(ix (s.ps.set (s.ps.length - 1) (s.at_,true)) j).1
  rw[e i Mj,e j hj];exact h.mono i j hij hj
 ·rw[ea]
  show s.at_≤((s.ts.take s.at_.toNat).length:Int)
  rw[List.length_take];omega
theorem iB {α:Type} [Inhabited α] {l:List α} {n i:Nat} (hi:i<n) (hl:n≤l.length):ix (l.take n) i=ix l i:=by
 rw[cD LN,cD Mj];simp
theorem sQ {s:bP} (h:s.Wf) (l:List Int):(cw s l).1.Wf:=by
 unfold cw
 dsimp only
 split
 ·exact h
 ·rename_i h0
  split
  ·exact h
  ·rename_i h1
   have h2:=iX l.reverse s.ts.length h.top Mj
   have h3:=h.at_
   have h4:=h.some
   by_cases h5:s.ps.length=1
   ·rw[if_pos h5]
    refine⟨by simp,fun i hi=>?_,fun i j hij hj=>?_,?_⟩
    ·have:i=0:=by simpa using hi
     subst this;exact Int.le_refl _
    ·have:j=0:=by simpa using hj
     subst this
     have:i=0:=by omega
     subst this;exact Int.le_refl _
    ·show(0:Int)≤((s.ts.take _).length:Int);omega
   ·rw[if_neg h5]
    have hl:(s.ps.take (s.ps.length - 1)).length=s.ps.length - 1:=by rw[List.length_take];omega
    refine⟨by dsimp only;rw[hl];omega,fun i hi=>?_,fun i j hij hj=>?_,?_⟩
    ·dsimp only at hi ⊢;rw[hl]at hi;rw[iB hi Mj];exact h.pos i Mj
    ·dsimp only at hj ⊢;rw[hl]at hj;rw[iB hj Mj,iB Mj Mj];exact h.mono i j hij Mj
    ·show(ix (s.ps.take (s.ps.length - 1)) ((s.ps.take (s.ps.length - 1)).length - 1)).1≤((s.ts.take (ew s l.reverse s.ts.length).1).length:Int)
     rw[hl,iB Mj Mj]
     have h6:=h.mono (s.ps.length - 1 - 1) (s.ps.length - 1) Mj Mj
     have h7:(ix s.ps (s.ps.length - 1)).1=s.at_:=rfl
     rw[List.length_take];omega
theorem sP {s:bP} {l:List Int} (h:(cw s l).2=0):(cw s l).1.ps=if s.ps.length=1 then[(0,false)]else s.ps.take (s.ps.length - 1):=by
 unfold cw at h ⊢
 dsimp only at h ⊢
 split at h
 ·contradiction
 ·rename_i h0
  rw[if_neg h0]
  split at h
  ·cases h
  ·rename_i h1
   rw[if_neg h1]
structure w9 (fs:List mK):Prop where
 kinds:∀i,i<fs.length→(ix fs i).kind=0∨(ix fs i).kind=2∨(ix fs i).kind=3∨(ix fs i).kind=4
 other:∀i,i<fs.length→(ix fs i).other=true→(ix fs i).kind=4
 first:0<fs.length→(ix fs 0).kf=true∧(ix fs 0).kind=0
theorem w9.snoc {fs:List mK} {f:mK} (h:w9 fs) (hk:f.kind=0∨f.kind=2∨f.kind=3∨f.kind=4) (ho:f.other=true→f.kind=4) (hw:0<fs.length):w9 (fs++[f]):=by
 have hl:(fs++[f]).length=fs.length+1:=by simp
 have e:∀i,i<fs.length→ix (fs++[f]) i=ix fs i:=fun i hi=>iy hi
 have e2:ix (fs++[f]) fs.length=f:=by rw[gD (Nat.le_refl _),Nat.sub_self];rfl
 refine⟨fun i hi=>?_,fun i hi=>?_,fun _=>by rw[e 0 hw];exact h.first hw⟩
 ·by_cases hlt:i<fs.length
  ·rw[e i hlt];exact h.kinds i hlt
  ·have:i=fs.length:=by omega
   subst this;rw[e2];exact hk
 ·by_cases hlt:i<fs.length
  ·rw[e i hlt];exact h.other i hlt
  ·have:i=fs.length:=by omega
   subst this;rw[e2];exact ho
theorem w9.take {fs:List mK} (h:w9 fs) {n:Nat} (hn:n≤fs.length):w9 (fs.take n):=by
 have hl:(fs.take n).length=n:=by rw[List.length_take];omega
 refine⟨fun i hi=>?_,fun i hi=>?_,fun h0=>?_⟩
 ·rw[hl]at hi;rw[iB hi hn];exact h.kinds i Mj
 ·rw[hl]at hi;rw[iB hi hn];exact h.other i Mj
 ·rw[hl]at h0;rw[iB h0 hn];exact h.first Mj
structure di.Wf (c:di):Prop where
 ao:c.ao.Wf
 many:c.ao.ps.length=c.fs.length+1
 fr:w9 c.fs
 ended:c.fs.length=0→c.live=true
theorem oP (r:List Int):(jd r).Wf:=by
 refine⟨⟨by simp[jd],fun i hi=>?_,fun i j hij hj=>?_,show(0:Int)≤0 from Int.le_refl _⟩,rfl,⟨fun i hi=>?_,fun i hi h=>?_,fun _=>⟨rfl,rfl⟩⟩,fun h=>by simp[jd]at h⟩
 ·have:i=0∨i=1:=by simp[jd]at hi;omega
  rcases this with rfl|rfl<;>simp[jd,ix]
 ·have:(i=0∨i=1)∧(j=0∨j=1):=by simp[jd]at hj;omega
  obtain⟨rfl|rfl,rfl|rfl⟩:=this<;>simp[jd,ix]
 ·have:i=0:=by simp[jd]at hi;exact hi
  subst this;exact .inl rfl
 ·have:i=0:=by simp[jd]at hi;exact hi
  subst this;cases h
theorem vo {c:di} {s:bP} {fs:List mK} {f:mK} (hs:s.Wf) (hm:s.ps.length=fs.length+1) (hf:w9 (fs++[f])):(gw c s fs f).Wf:=
 ⟨mZ (BV hs) _,by show(s.ps++[((s.ts.length:Int),false)]).length=(fs++[f]).length+1;simp[hm],hf,fun h=>by have h':(fs++[f]).length=0:=h;simp at h'⟩
theorem uP {c:di} (h:c.Wf) (op:Int) (par res:List Int):(fL c op par res).1.Wf:=by
 unfold fL
 split
 ·exact h
 ·split
  ·exact h
  ·rename_i hop
   split
   ·exact h
   ·rename_i hn
    have ha:(if op=4 then aE c.ao [1]else(c.ao,0)).1.Wf∧(if op=4 then aE c.ao [1]else(c.ao,0)).1.ps=c.ao.ps:=by
     split
     ·exact⟨dn h.ao _,eM _ _⟩
     ·exact⟨h.ao,rfl⟩
    revert ha
    generalize (if op=4 then aE c.ao [1]else(c.ao,0))=a
    intro ha
    dsimp only
    split
    ·exact⟨h.ao,h.many,h.fr,h.ended⟩
    ·split
     ·exact⟨ha.1,by show a.1.ps.length=_;rw[ha.2];exact h.many,h.fr,h.ended⟩
     ·exact vo (dn ha.1 _) (by rw[eM,ha.2];exact h.many) (h.fr.snoc LT (fun h=>by cases h) Mj)
theorem CD {c:di} (h:c.Wf):(lF c).1.Wf:=by
 unfold lF
 split
 ·exact h
 ·split
  ·exact h
  ·rename_i hb hn
   simp only[not_or,Bool.not_eq_true]at hn
   obtain⟨h0,h4,h5⟩:=hn
   have h4':c.top.kind=4:=by omega
   dsimp only
   split
   ·exact⟨h.ao,h.many,h.fr,h.ended⟩
   ·rename_i he
    have hl:1<c.fs.length:=by
     rcases Nat.lt_or_ge 1 c.fs.length with h1|h1
     ·exact h1
     ·have h6:c.fs.length - 1=0:=by omega
      have:=(h.fr.first Mj).2
      have h7:(ix c.fs (c.fs.length - 1)).kind=4:=h4'
      rw[h6]at h7;omega
    refine vo (sQ h.ao _) ?_ ?_
    ·have hm:=h.many
     rw[sP Mj,if_neg Mj,List.length_take,List.length_take];omega
    ·exact(h.fr.take Mj).snoc (.inr (.inr (.inr h4'))) (fun _=>h4') LN
theorem AD {c:di} (h:c.Wf):(jj c).1.Wf:=by
 unfold jj
 split
 ·exact h
 ·split
  ·exact h
  ·rename_i hb h0
   dsimp only
   have hm:=h.many
   split
   ·exact⟨h.ao,h.many,h.fr,h.ended⟩
   ·rename_i he
    have hps:(cw c.ao c.top.res).1.ps.length=c.fs.length:=by
     rw[sP Mj,if_neg Mj,List.length_take];omega
    have hfl:(c.fs.take (c.fs.length - 1)).length=c.fs.length - 1:=by rw[List.length_take];omega
    split
    ·rename_i hk
     refine⟨sQ h.ao _,by show(cw c.ao c.top.res).1.ps.length=(c.fs.take (c.fs.length - 1)).length+1;omega,h.fr.take Mj,fun hz=>?_⟩
     have hz':(c.fs.take (c.fs.length - 1)).length=0:=hz
     have h6:c.fs.length - 1=0:=by omega
     have h7:(ix c.fs (c.fs.length - 1)).kind=4:=hk.1
     rw[h6]at h7
     have:=(h.fr.first Mj).2
     omega
    ·refine⟨mZ (sQ h.ao _) _,by show(cw c.ao c.top.res).1.ps.length=(c.fs.take (c.fs.length - 1)).length+1;omega,h.fr.take Mj,fun hz=>?_⟩
     have hz':(c.fs.take (c.fs.length - 1)).length=0:=hz
     have h6:c.fs.length - 1=0:=by omega
     show(ix c.fs (c.fs.length - 1)).kf=true
     rw[h6];exact(h.fr.first Mj).1
theorem Cp {c:di} (h:c.Wf):(gi c).Wf:=by
 unfold gi
 split
 ·exact h
 ·rename_i hn
  simp only[not_or]at hn
  exact⟨AQ h.ao,by show(c.ao.ps.set _ _).length=_;rw[List.length_set];exact h.many,h.fr,fun hz=>absurd hz hn.2⟩
end Go.Proofs.YtgbgnipidakdhaaGreatDoor
