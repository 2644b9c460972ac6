/- The control frames (layer 22): Return, Label, Dead, broke; callees that change some of what is mutable. -/
import Derived.Test.YtgbgnipidakdhaaGreatDoorJCt
import Derived.Laws.CopyOwn
import Derived.Test.YtgbgnipidakdhaaGreatDoorJRg
import Derived.Test.YtgbgnipidakdhaaGreatDoorJWb
namespace Go.Proofs.YtgbgnipidakdhaaGreatDoor
open Go.RowKit
set_option maxRecDepth 100000
inductive ox:List a8→List a8→List a8→Prop
 |nil {M:List a8}:ox [] M M
 |cons {q:a8} {M M1 M0 Mr:List a8} (hr:Rm q M M1) (h:ox M0 M1 Mr):ox (q::M0) M Mr
theorem ox.perm {M0 M Mr:List a8} (h:ox M0 M Mr):M.Perm (M0++Mr):=by
 induction h with
 |nil=>exact List.Perm.refl _
 |cons hr _ ih=>exact hr.perm.trans (ih.cons _)
theorem dt {M0 M Mr:List a8} (h:ox M0 M Mr:=by(repeat(first|exact ox.nil|(apply ox.cons;·(repeat(first|with_reducible exact Rm.head|apply Rm.tail)))))):ox M0 M Mr:=h
section
variable {n:Nat} {E:Env} {M M0 Mr:List a8} {R:List (World→Prop)} {β:Type} {tf:β→Value} {φ:β→Prop} {M1:β→List a8} {f:Nat} {args:List Operand} {tys:Array TypeId} {vs:List Value}
theorem HE.bC (hr:ox M0 M Mr) (hf:G.fb[f]?=some true) (ha:jQ E args=some vs)
  (hc:∀w,Ok M R w→Calls G.P f vs.toArray w (aM M0 w tf φ M1)):HE n (.call ⟨.value (.func f),args.toArray,tys⟩) E M R φ tf (fun x=>M1 x++Mr) (fun _=>R):=
 HE.call tf hf ha fun w hw=>(hc w hw).mono fun _e _w' ⟨x,e1,h1,h2,h3,h4⟩=>⟨x,e1,h1,(hw.perm hr.perm).frame h2 h3 h4⟩
end
theorem C6 {D:Nat→Prop} {w:World} {p:Option Addr} {n c:Nat} {xs:List Int} (h:af D w (.slice p n c) xs):xs.length=0∨∃bk o,p=some ⟨bk,o,none⟩∧∀j u,(aX xs)[j]?=some u→w.cell? ⟨bk,o+j,none⟩=some u:=by
 obtain⟨p',c',e,hl,h⟩:=h
 cases e
 rcases h with h|⟨b,o,rfl,hF,h⟩
 ·exact .inl (by rw[h];rfl)
 ·refine .inr ⟨b,o,rfl,fun j u hj=>?_⟩
  have hj':j<xs.length:=by have:=(List.getElem?_eq_some_iff.1 hj).1;simpa[aX]using this
  rw[h j hj',←hj]
  unfold aX
  rw[List.getElem?_map,gZ hj'];rfl
theorem dO {D:Nat→Prop} (xs:List Int) (v:Value) (w:World) (h:af D w v xs):
  Calls G.P 50 #[v] w (aM [] w (fun u:Value=>u) (fun _=>True) (fun u=>[.own 0 fY 1 u xs.length (aX xs)])):=by
 obtain⟨p,c,rfl,hl⟩:=h.slice
 exact nI xs p c w (C6 h) hl
def qt {β:Type} (w:World) (tf:β→Value) (M1:β→List a8):Ending→World→Prop:=aM [] w tf (fun _=>True) M1
theorem kC (cp:Nat) (c:di) (v:iY) (w:World) (h:vh cp c v w) (hg:v.Good c) (hb:c.broken=0):Calls G.P 110 #[.pointer (some ⟨cp,0,none⟩)] w (qt w (fun u:Value=>u) (fun u=>[.own 0 fY 1 u c.results.length (aX c.results)])):=by
 have k0:=h.b.cell (j:=0) rfl
 have k2:=h.b.cell (j:=2) rfl
 have k4:=h.b.cell (j:=4) rfl
 have hI:=(h.l _ hg.rs).2
 dsimp only at hI
 unfold qt
 refine ae (l:=[_]) Tryz.func110 rfl Tryz.ntmps110 rfl (Ok.start w) ?_
 repeat'(first|refine ar ?_|refine KU ?_|fail)
 all_goals first|omega|skip
 refine aa.he (HE.sA (M0:=[]) rfl rfl (fun w' hw'=>dO c.results v.rv w' (hI.aO (show Ext w w' from hw'.at) (fun _ _ _ h=>h)))) rfl ?_
 intro u _
 refine bQ ?_
 exact ah.aB rfl rfl fun w' hw'=>aM.BI (x:=u) trivial hw' (List.Sublist.refl _) ak
set_option maxHeartbeats 8000000 in
theorem oe (cp:Nat) (c:di) (v:iY) (n:Int) (w:World) (h:vh cp c v w) (hg:v.Good c) (hb:c.broken=0):Calls G.P 111 #[.pointer (some ⟨cp,0,none⟩),.int .i64 n] w (qt w (fun u:Value=>.tuple #[u,.int .i64 (cy c n).2]) (fun u=>[.own 0 fY 1 u (cy c n).1.length (aX (cy c n).1)])):=by
 have k0:=h.b.cell (j:=0) rfl
 have k1:=h.b.cell (j:=1) rfl
 have k4:=h.b.cell (j:=4) rfl
 obtain⟨p,cc,e,hcp,hmx,hgg⟩:=ax h.o
 unfold maxLen at hmx
 have ho:=h.o
 rw[e]at k1 ho
 unfold qt cy
 rw[if_neg Mj]
 by_cases hr:n<0∨c.fs.length≤n
 ·rw[if_pos hr]
  refine ae (l:=[_,_]) Tryz.func111 rfl Tryz.ntmps111 rfl (Ok.start w) ?_
  repeat'(first|refine ar ?_|refine KU ?_|(refine a7 ?_ ?_<;>intro hc_))
  all_goals first|omega|exact ah.nz rfl rfl rfl fun w' hw'=>aM.BI (x:=Value.slice none 0 0) trivial (hw'.ji 0 fY 1) (List.Sublist.refl _) ak
 ·rw[if_neg hr]
  dsimp only
  obtain⟨k,rfl⟩:=Int.eq_ofNat_of_zero_le (show 0≤n by omega)
  obtain⟨g,rfl,-⟩:=hgg Mj
  have hi:c.fs.length - 1 - k<c.fs.length:=by omega
  rw[Int.toNat_natCast]
  obtain⟨i,hie⟩:∃i,i=c.fs.length - 1 - k:=⟨_,rfl⟩
  rw[←hie]at hi ⊢
  have hfr:=h.l _ (hg.fr i hi)
  have hc5:∀j,j<5→w.cell? ⟨g,0+i*5+j,none⟩=(gN (ix c.fs i) (ix v.fv i))[j]?:=fun j hj=>by
   have h5:=kX c.fs v.fv i j hg.len hi hj
   have hlt:j<(gN (ix c.fs i) (ix v.fv i)).length:=hj
   rw[List.getElem?_eq_getElem hlt]at h5 ⊢
   rw[Nat.zero_add]
   exact dP ho h5
  generalize ix c.fs i=f at*
  generalize ix v.fv i=x at*
  obtain⟨x1,x2⟩:=x
  obtain⟨q1,q2⟩:=hfr
  dsimp only[mK.fn]at q1 q2
  obtain⟨u1,d1,rfl,-⟩:=q1.slice
  obtain⟨u2,d2,rfl,-⟩:=q2.slice
  dsimp only[gN]at hc5
  refine ae (l:=[_,_]) Tryz.func111 rfl Tryz.ntmps111 rfl (Ok.start w) ?_
  repeat'(first|refine ar ?_|refine KU ?_|(refine a7 ?_ ?_<;>intro hc_))
  refine aZ.cT [] [Ext w] bc aV ?_
  repeat'(first|refine og ?_|(refine aP.qy 12 rfl (Yl.idx (i:=i) rfl rfl rfl rfl rfl Mj Mj) ?_)|(refine aP.qy 13 rfl (Yl.nO rfl rfl rfl ak Ml Ml hc5) ?_)|(refine av.zM ym ?_;refine av.he rfl rfl (HE.alloc (t:=ym) [.int .i64 0,.slice none 0 0,.slice none 0 0,.bool false,.bool false] rfl rfl) (fun _=>bc) (fun _=>aV) ?_;intro b_ _)|(refine av.nw ?_;refine av.jf rfl (fQ.bn _ rfl rfl rfl rfl rfl rfl aA rfl) (fun _=>bc) (fun _=>aV) ?_;rintro⟨⟩ _)|refine aP.nil LX ?_|refine aP.any LX ?_|exact aN.fin rfl|refine aN.skip LX ?_|refine aN.go ?_ ?_)
  have hq1:=q1
  have hq2:=q2
  repeat'(first|refine ar ?_|(refine a7 ?_ ?_<;>intro hc_))
  ·rw[if_pos hc_]
   refine aa.he (HE.sA (M0:=[]) rfl rfl (fun w' hw'=>dO f.par _ w' (q1.aO (show Ext w w' from hw'.at) (fun _ _ _ h=>h)))) rfl ?_
   intro u _
   dsimp only[List.cons_append,List.nil_append]
   refine bQ ?_
   exact ah.nz rfl rfl rfl fun w' hw'=>aM.BI (x:=u) trivial hw' bc ak
  ·rw[if_neg hc_]
   refine aa.he (HE.sA (M0:=[]) rfl rfl (fun w' hw'=>dO f.res _ w' (q2.aO (show Ext w w' from hw'.at) (fun _ _ _ h=>h)))) rfl ?_
   intro u _
   dsimp only[List.cons_append,List.nil_append]
   refine bQ ?_
   exact ah.nz rfl rfl rfl fun w' hw'=>aM.BI (x:=u) trivial hw' bc ak
theorem aM.oY {β:Type} {M0 M:List a8} {R:List (World→Prop)} {w w':World} {S0:Nat→Prop} {tf:β→Value} {φ:β→Prop} {M1:β→List a8} (x:β) (hφ:φ x) (hS:Mb M0=S0) (h:Ok M R w') (hM:js (M1 x) M) (hR:cg S0 w∈R):aM M0 w tf φ M1 (.returned (tf x)) w':=by
 obtain⟨M2,hp⟩:=hM.perm
 exact aM.iI x hφ hS (h.perm hp) (List.sublist_append_left _ _) hR
theorem Ok.merge {q1 q2 q:a8} {M:List a8} {R:List (World→Prop)} {w:World} (h:Ok (q1::q2::M) R w) (hF:∀k,q.F k→q1.F k∨q2.F k) (hP:q1.P w→q2.P w→q.P w):Ok (q::M) R w:=by
 have h1:=h.m q1 Mk
 have h2:=h.m q2 Mk
 have hd:=h.d
 rw[List.pairwise_cons,List.pairwise_cons]at hd
 refine h.step (cg.refl _ w) (fun x hx=>?_) (List.pairwise_cons.2 ⟨fun x hx k hk hk'=>?_,hd.2.2⟩) (fun k ⟨x,hx,hk⟩ _=>?_)
 ·rcases List.mem_cons.1 hx with rfl|hx
  ·exact⟨hP h1.1 h2.1,fun k hk=>(hF k hk).elim (h1.2 k) (h2.2 k)⟩
  ·exact h.m x (by simp[hx])
 ·rcases hF k hk with h|h
  ·exact hd.1 x (by simp[hx]) k h hk'
  ·exact hd.2.1 x hx k h hk'
 ·rcases List.mem_cons.1 hx with rfl|hx
  ·rcases hF k hk with h|h
   ·exact⟨q1,by simp,h⟩
   ·exact⟨q2,by simp,h⟩
  ·exact⟨x,by simp[hx],hk⟩
def qx (M0:List a8) (cp:Nat) (r:Value) (c':di) (w:World):Ending→World→Prop:=aM M0 w (fun _:iY=>r) (fun v'=>v'.Good c') (aQ cp c')
theorem iY.Good.mono {v v':iY} {c c':di} (h:v.Good c) (hfs:c'.fs=c.fs) (hrs:c'.results=c.results) (hfv:v'.fv=v.fv) (hrv:v'.rv=v.rv) (hL:∀y,y∈v.L→y∈v'.L):v'.Good c':=
 ⟨by rw[hfs,hfv];exact h.len,fun i hi=>by rw[hfs]at hi ⊢;rw[hfv];exact hL _ (h.fr i hi),by rw[hrs,hrv];exact hL _ h.rs⟩
theorem Ay {g g':Prop} (h:g') (hw:dS g'→g:=by(intro hk_;(first|refine KX ?_);exact hk_.out)):g:=hw ⟨h⟩
set_option maxHeartbeats 8000000 in
theorem lC (cp:Nat) (c:di) (v:iY) (w:World) (hw:Ok (aQ cp c v) [] w) (hg:v.Good c) (hb:c.broken=0) (hwf:c.Wf):Calls G.P 21 #[.pointer (some ⟨cp,0,none⟩)] w (qx (aQ cp c v) cp (.tuple #[]) (gi c) w):=by
 obtain⟨sp,tv,pv,bv,rv,fv,D,L⟩:=v
 have hrd:=hw.zS (List.Sublist.refl _)
 obtain⟨p,cc,e,hcp,hmx,-⟩:=ax hrd.o
 dsimp only at e
 subst e
 have hat:=hwf.ao.at_
 have hps:=hwf.ao.some
 refine ae (l:=[_]) Tryz.func21 rfl Tryz.ntmps21 rfl (Ok.dj hw) ?_
 unfold qx
 generalize hS:Mb (aQ cp c ⟨sp,tv,pv,.slice p c.fs.length cc,rv,fv,D,L⟩)=S0
 dsimp only[aQ,aS,List.cons_append,List.nil_append]
 by_cases h0:c.fs.length=0
 ·have e:gi c=c:=if_pos (.inr h0)
  rw[e]
  repeat'(first|refine ar ?_|refine Ay ?_|fail)
  all_goals first|omega|exact ah.Ck rfl fun w' hw'=>aM.oY (x:=⟨sp,tv,pv,.slice p c.fs.length cc,rv,fv,D,L⟩) hg hS hw' LD ak
 ·have e:gi c={c with ao:=dq c.ao,live:=false}:=if_neg (by rintro(h|h)<;>omega)
  rw[e]
  repeat'(first|refine ar ?_|refine Ay ?_|fail)
  all_goals first|omega|skip
  refine aa.he (HE.bC (M0:=[.aT sp [tv,pv,.bool (eN c.ao)] iN,.own 0 fY 1 tv c.ao.ts.length (aX c.ao.ts),.own 0 iO 2 pv c.ao.ps.length (bO c.ao.ps)]) dt rfl rfl (fun w' hw'=>wH sp c.ao (tv,pv) w' (hw'.cF dM (fun p h=>by cases h)) hps hat.1 hat.2)) rfl ?_
  rintro⟨tv2,pv2⟩ _
  dsimp only[aQ,aS,List.cons_append,List.nil_append]
  repeat'(first|refine ar ?_|fail)
  exact ah.n8 rfl fun w' hw'=>aM.oY (x:=⟨sp,tv2,pv2,.slice p c.fs.length cc,rv,fv,D,L⟩) (hg.mono rfl rfl rfl rfl (fun _ h=>h)) hS hw' LD ak
theorem iF (cp:Nat) (a b r l e0:Value) (e:Int) (w:World) (hw:Ok [.aT cp [a,b,r,l,e0] iz] [] w):Calls G.P 56 #[.pointer (some ⟨cp,0,none⟩),.int .i64 e] w (aM [.aT cp [a,b,r,l,e0] iz] w (fun _:Unit=>.int .i64 e) (fun _=>True) (fun _=>[.aT cp [a,b,r,l,.int .i64 e] iz])):=by
 refine ae (l:=[_,_]) Tryz.func56 rfl Tryz.ntmps56 rfl (Ok.dj hw) ?_
 repeat'(first|refine ar ?_|fail)
 exact ah.aB rfl rfl fun w' hw'=>aM.oY (x:=()) trivial rfl hw' dM ak
theorem tx {P:Program} (w:World) (dT sT ty elem:TypeId) (g dLen dCap s:Nat) (a:Addr) (sLen sCap:Nat) (cur:Array Value) (t:TypeId) (cs:List Value)
  (hu:P.underlying dT=some (.slice elem)) (hs:∀w,(sizeOf elem).run P w=.ok s w) (hg:w.heap[g]?=some (.cells cur t (0,0))) (hle:dLen≤sLen) (hn:cs.length=dLen*s)
  (hsrc:∀j v,cs[j]?=some v→w.cell? (a.add j)=some v) (hfit:cs.length≤cur.size) (h1:∀v∈cs,v.oneCell'=true):
  (Builtin.copy_ #[dT,sT] ty #[.slice (some ⟨g,0,none⟩) dLen dCap,.slice (some a) sLen sCap]).run P w=.ok (goInt dLen) (w.setRow g (cs++cur.toList.drop cs.length).toArray):=by
 have hl:=run_loadCells_list (P:=P) w a cs hsrc
 have hst:=run_storeCells_at P g 0 t cs 0 cur w hg (by simpa using hfit) h1
 have hmin:Nat.min sLen dLen=dLen:=Nat.min_eq_right hle
 have hmul:dLen*s=cs.length:=hn.symm
 simp[Builtin.copy_,run_underlying hu,Builtin.lenOf,Builtin.firstCells,hs,hmin,hmul,hl,hst]
section
variable {n:Nat} {E:Env} {M M' M'':List a8} {R:List (World→Prop)} {t:TypeId} {x y:Operand}
theorem HE.HR {ti te:TI} {e len B s:Nat} (ht:G.ty t=some ti) (he:ti.elem=some e) (hte:G.ty e=some te) (hs:te.size=s) (hx:ev E x=some (.int .i64 (len:Int))) (hbt:Nat.ble te.bytes 1000=true) (hml:len≤100000000000) (hB:∀w,Ok M R w→B≤w.heap.size):
  HE n (.makeSlice t x x) E M R (fun _:Nat=>True) (fun g=>.slice (some ⟨g,0,none⟩) len len) (fun g=>.own B e s (.slice (some ⟨g,0,none⟩) len len) len (madeCells te.zero.cells (len*te.size)).toList::M) (fun _=>R):=
 ⟨fun w hw=>(ck.make ht he hte hx (by have:=Nat.mul_le_mul (Nat.le_of_ble_eq_true hbt) hml;omega) LR (hB w hw)).mono fun v w' ⟨h1,h2,h3,h4⟩=>by
  subst h1 hs
  refine⟨w.heap.size,trivial,rfl,hw.push h3 h2 (fun k hk=>?_)⟩
  have hk':some w.heap.size=some k:=hk
  cases hk';exact⟨Nat.le_refl _,h4⟩⟩
theorem HE.Gp {ti te:TI} {B B2 T T2 s m cd sLen cS g gS e:Nat} {zs ys:List Value} (hx:ev E x=some (.slice (some ⟨g,0,none⟩) m cd)) (hy:ev E y=some (.slice (some ⟨gS,0,none⟩) sLen cS)) (hM:Up (.own B T s (.slice (some ⟨g,0,none⟩) m cd) m zs) (.own B T s (.slice (some ⟨g,0,none⟩) m cd) m (ys.take (m*s))) M M')
  (hb:Up (.own B2 T2 s (.slice (some ⟨gS,0,none⟩) sLen cS) sLen ys) (.own B2 T2 s (.slice (some ⟨gS,0,none⟩) sLen cS) sLen ys) M M'') (hle:m≤sLen) (ht:G.ty t=some ti) (he:ti.elem=some e) (hte:G.ty e=some te) (hs:te.size=s) (h1:∀u∈ys,u.oneCell'=true):
  HE n (.call ⟨.builtin .copy,#[x,y],#[t,t]⟩) E M R (fun _:Unit=>True) (fun _=>.int .i64 m) (fun _=>M') (fun _=>R):=
 ⟨fun w hw=>by
  subst hs
  have hou:=(hw.m _ hM.mem)
  have hos:w.ownsRow B2 T2 te.size (.slice (some ⟨gS,0,none⟩) sLen cS) sLen ys:=(hw.m _ hb.mem).1
  obtain⟨⟨hl,ho⟩,hlt⟩:=hou
  rcases ho with⟨e1,_⟩|⟨g',cap,cur,e1,hg,hh,hn,hc,hsz,htk⟩
  ·cases e1
  cases e1
  have hly:(ys.take (m*te.size)).length=m*te.size:=by
   rw[List.length_take,hos.1];have:=Nat.mul_le_mul_right te.size hle;omega
  have hfit:(ys.take (m*te.size)).length≤cur.size:=by rw[hly,hsz];exact Nat.mul_le_mul_right _ hn
  have hsrc:∀j v,(ys.take (m*te.size))[j]?=some v→w.cell? ((⟨gS,0,none⟩:Addr).add j)=some v:=fun j v hj=>by
   have hj':ys[j]?=some v:=by
    have hlt:=(List.getElem?_eq_some_iff.1 hj).1
    rw[hly]at hlt
    rw[List.getElem?_take]at hj
    rw[if_pos hlt]at hj;exact hj
   have:=dP hos hj'
   have e:(⟨gS,0,none⟩:Addr).add j=⟨gS,j,none⟩:=by
    unfold Addr.add;split
    ·rename_i h0;rw[h0]
    ·simp
   rw[e];exact this
  have hrun:=fun ty=>tx (P:=G.P) w t t ty e g m cd te.size ⟨gS,0,none⟩ sLen cS cur T (ys.take (m*te.size)) ((G.iw t ti ht).elem e he) ((G.iw e te hte).size) hh hle hly hsrc hfit (fun u hu=>h1 u (List.mem_of_mem_take hu))
  refine ck.of (v:=.int .i64 m) (w':=w.setRow g (ys.take (m*te.size)++cur.toList.drop (ys.take (m*te.size)).length).toArray) (fun ac hac d ty pos aft gd=>?_) ⟨(),trivial,rfl,hw.yu hM (w':=w.setRow g _) ⟨rfl,rfl,rfl,by simp[World.setRow],fun k hk hne=>setRow_other _ _ _ _ (fun e=>hne (by subst e;rfl))⟩ ⟨hly,.inr ⟨g,cd,_,rfl,hg,setRow_heap w g cur _ T _ hh,hn,hc,?_,?_⟩⟩ (fun k hk=>⟨?_,fun _=>hk⟩)⟩
  ·simp[execOp,resolve,invoke,builtin,hac.eval hx,hac.eval hy,hrun,goInt]
  ·have:=hfit
   simp only[List.size_toArray,List.length_append,List.length_drop,Array.length_toList]
   omega
  ·show(ys.take (m*te.size)++_).take (m*te.size)=_
   rw[List.take_append_of_le_length Mj,List.take_take,Nat.min_self]
  ·have:=hlt k hk
   simpa[World.setRow]using this⟩
end
theorem dr.fP {f:aL} {D:Nat→Prop} {w:World} {x:Value×Value} (h:dr f D w x):∃p c p' c',x=(.slice p f.params.length c,.slice p' f.results.length c'):=by
 obtain⟨p,c,e,_⟩:=h.1.slice
 obtain⟨p2,c2,e2,_⟩:=h.2.slice
 exact⟨p,c,p2,c2,by rw[←e,←e2]⟩
theorem uJ:∀(fs:List mK) (fv:List (Value×Value)),(∀x∈fv,x.1.oneCell'=true∧x.2.oneCell'=true)→∀u∈dL fs fv,u.oneCell'=true
 |[],[],_,u,h=>by simp[dL]at h
 |[],y::s,_,u,h=>by simp[dL]at h
 |f::r,[],_,u,h=>by simp[dL]at h
 |f::r,x::s,hv,u,h=>by
  have ih:=uJ r s (fun y hy=>hv y (by simp[hy]))
  have h':u∈gN f x++dL r s:=h
  rcases List.mem_append.1 h' with h|h
  ·have hx:=hv x Mk
   simp only[gN,List.mem_cons,List.not_mem_nil,or_false]at h
   rcases h with rfl|rfl|rfl|rfl|rfl
   ·rfl
   ·exact hx.1
   ·exact hx.2
   ·rfl
   ·rfl
  ·exact ih u h
theorem iY.Good.one {v:iY} {c:di} {w:World} (h:v.Good c) (hl:iu v.D w v.L):∀x∈v.fv,x.1.oneCell'=true∧x.2.oneCell'=true:=fun x hx=>by
 obtain⟨i,hi,e⟩:=List.mem_iff_getElem.1 hx
 have hi':i<c.fs.length:=by rw[←h.len];exact hi
 have hf:=hl _ (h.fr i hi')
 rw[cD hi,e]at hf
 obtain⟨p,c1,p',c1',e1⟩:=hf.fP
 dsimp only at e1
 rw[e1];exact⟨rfl,rfl⟩
set_option maxHeartbeats 16000000 in
theorem mi (cp:Nat) (c:di) (v:iY) (f:mK) (x:Value×Value) (w:World) (hw:Ok (aQ cp c v) [] w) (hg:v.Good c) (hin:(f.fn,x)∈v.L) (hps:0<c.ao.ps.length) (hpl:c.ao.ps.length≤1000000) (hfl:c.fs.length≤1000000) (hts:(c.ao.ts.length+f.par.length)*8≤140737488355328):
  Calls G.P 57 #[.pointer (some ⟨cp,0,none⟩),.agg (gN f x).toArray] w (qx (aQ cp c v) cp (.tuple #[]) (gw c c.ao c.fs f) w):=by
 obtain⟨sp,tv,pv,bv,rv,fv,D,L⟩:=v
 have hrd:vh cp c ⟨sp,tv,pv,bv,rv,fv,D,L⟩ w:=hw.zS (List.Sublist.refl _)
 obtain⟨p,cc,e,hcp,hmx,-⟩:=ax hrd.o
 dsimp only at e hin
 subst e
 obtain⟨p1,c1,p2,c2,hx⟩:=dr.fP (hrd.l _ hin)
 dsimp only at hx
 subst hx
 refine ae (l:=[.pointer (some ⟨cp,0,none⟩),.agg (gN f _).toArray]) Tryz.func57 rfl Tryz.ntmps57 rfl (Ok.dj hw) ?_
 unfold qx
 generalize hS:Mb (aQ cp c ⟨sp,tv,pv,.slice p c.fs.length cc,rv,fv,D,L⟩)=S0
 dsimp only[aQ,aS,List.cons_append,List.nil_append]
 repeat'(first|refine ar ?_|fail)
 refine aa.box (gN f (.slice p1 f.par.length c1,.slice p2 f.res.length c2)) rfl rfl rfl fun b3=>?_
 dsimp only[gN]
 repeat'(first|refine ar ?_|fail)
 refine aa.he (HE.bC (M0:=[.aT sp [tv,pv,.bool (eN c.ao)] iN,.own 0 fY 1 tv c.ao.ts.length (aX c.ao.ts),.own 0 iO 2 pv c.ao.ps.length (bO c.ao.ps)]) dt rfl rfl (fun w' hw'=>rK sp c.ao (tv,pv) w' (hw'.cF dM (fun p h=>by cases h)) hps hpl)) rfl ?_
 rintro⟨tv2,pv2⟩ _
 dsimp only[aQ,aS,List.cons_append,List.nil_append]
 repeat'(first|refine ar ?_|fail)
 refine aZ.dB [0,1,2,3,4,5,6] 7 _ _ L9 (List.Sublist.refl _) (fun _ h=>h) ?_
 refine pO ?_
 refine bq.GQ (HE.bC (M0:=[.aT sp [tv2,pv2,.bool (eN (aR c.ao))] iN,.own 0 fY 1 tv2 (aR c.ao).ts.length (aX (aR c.ao).ts),.own 0 iO 2 pv2 (aR c.ao).ps.length (bO (aR c.ao).ps)]) dt rfl rfl (fun w' hw'=>fH D sp (aR c.ao) (tv2,pv2) _ f.par w' ((hw'.freeze (q:=.j8 iu iu.fr D L) (p:=fun w=>af D w (.slice p1 f.par.length c1) f.par) je (fun _ h=>(h _ hin).1)).cF dM aV) (by simp[aR]) hts)) rfl ?_
 rintro⟨tv3,pv3⟩ _
 dsimp only[aQ,aS,List.cons_append,List.nil_append]
 repeat'(first|refine ar ?_|fail)
 refine aZ.dB [0,1,2,3,4,5,6,7,8,9] 10 [.aT b3 [.int .i64 f.kind,.slice p1 f.par.length c1,.slice p2 f.res.length c2,.bool f.other,.bool f.kf] ym,.aT cp [.pointer (some ⟨sp,0,none⟩),.slice p c.fs.length cc,rv,.bool c.live,.int .i64 c.broken] iz] [] L9 bc aV ?_
 refine pO ?_
 refine JP ?_
 intro b5 _
 refine J1 ?_
 intro bv2 _
 refine bq.pure (φ:=∃p c',bv2=.slice p (c.fs.length+1) c') (fun w' hw'=>?_) ?_
 ·obtain⟨p,c,e,_⟩:=ax (hw'.own (v:=bv2));exact⟨p,c,e⟩
 rintro⟨p3,c3,rfl⟩
 refine pO ?_
 refine bq.iq (fQ.gg rfl rfl rfl rfl rfl aA nZ) rfl ?_
 rintro⟨⟩ _
 repeat'(first|refine ar ?_|fail)
 refine ah.n8 rfl fun w' hw'=>?_
 refine aM.oY (x:=(⟨sp,tv3,pv3,.slice p3 (c.fs.length+1) c3,rv,fv++[(.slice p1 f.par.length c1,.slice p2 f.res.length c2)],D,L⟩:iY)) ⟨?_,fun i hi=>?_,hg.rs⟩ hS hw' (by unfold gw;dsimp only[aQ,aS,List.cons_append,List.nil_append];rw[DU _ _ _ _ hg.len,List.length_append];dsimp only[gN,List.length_cons,List.length_nil];exact dM) ak
 ·show(fv++[_]).length=(c.fs++[f]).length
  have:=hg.len
  simp at this ⊢;exact this
 ·have hlen:=hg.len
  dsimp only at hlen
  have hi':i<(c.fs++[f]).length:=hi
  show((ix (c.fs++[f]) i).fn,ix (fv++[_]) i)∈L
  by_cases hlt:i<c.fs.length
  ·rw[iy hlt,iy (show i<fv.length by omega)];exact hg.fr i hlt
  ·have:i=c.fs.length:=by rw[List.length_append,List.length_singleton]at hi';omega
   subst this
   rw[gD (Nat.le_refl _),gD (show fv.length≤c.fs.length by omega),hlen,Nat.sub_self]
   exact hin
theorem Yl.Fw {n:Nat} {E:Env} {M:List a8} {R:List (World→Prop)} {t:TypeId} {x:Operand} {ti:TI} {B T s s' m g cap o:Nat} {xs cs:List Value} (ht:G.ty t=some ti) (ha:ti.agg=true) (hx:ev E x=some (.pointer (some ⟨g,o,none⟩))) (hs:ti.size=s') (hl:cs.length=s') (hc:∀j,j<s'→xs[o+j]?=cs[j]?) (hM:a8.own B T s (.slice (some ⟨g,0,none⟩) m cap) m xs∈M):Yl G n (.load t x) E (Ok M R) (.agg cs.toArray):=
 Yl.uY ht ha hs hx hl fun w hw j hj=>by
  have h1:=hc j hj
  obtain⟨u,hu⟩:∃u,cs[j]?=some u:=⟨_,List.getElem?_eq_getElem (show j<cs.length by omega)⟩
  rw[hu]at h1 ⊢
  exact dP (hw.m _ hM).1 h1
set_option maxHeartbeats 16000000 in
theorem w7 (cp:Nat) (c:di) (v:iY) (w:World) (hw:Ok (aQ cp c v) [] w) (hg:v.Good c) (h0:0<c.fs.length) (hfl:c.fs.length≤1000000):
  Calls G.P 108 #[.pointer (some ⟨cp,0,none⟩)] w (aM (aQ cp c v) w (fun _:Value=>.agg (gN c.top (ix v.fv (c.fs.length - 1))).toArray) (fun _=>True) (fun bv'=>aQ cp {c with fs:=c.fs.take (c.fs.length - 1)} {v with bv:=bv',fv:=v.fv.take (c.fs.length - 1)})):=by
 obtain⟨sp,tv,pv,bv,rv,fv,D,L⟩:=v
 have hrd:vh cp c ⟨sp,tv,pv,bv,rv,fv,D,L⟩ w:=hw.zS (List.Sublist.refl _)
 obtain⟨p,cc,e,hcp,hmx,hgg⟩:=ax hrd.o
 dsimp only at e
 subst e
 obtain⟨g,rfl,-⟩:=hgg h0
 have hone:=uJ c.fs fv (hg.one hrd.l)
 obtain⟨q1,d1,q2,d2,hx⟩:=(hrd.l _ (hg.fr (c.fs.length - 1) Mj)).fP
 have hc5:∀j,j<5→(dL c.fs fv)[0+(c.fs.length - 1)*5+j]?=(gN (ix c.fs (c.fs.length - 1)) (ix fv (c.fs.length - 1)))[j]?:=fun j hj=>by rw[Nat.zero_add];exact kX c.fs fv (c.fs.length - 1) j hg.len Mj hj
 dsimp only at hx hc5 ⊢
 rw[hx]at hc5 ⊢
 rw[show c.top=ix c.fs (c.fs.length - 1)from rfl]
 generalize ix c.fs (c.fs.length - 1)=f at*
 dsimp only[gN]at hc5 ⊢
 have e1:(c.fs.length:Int) - 1=((c.fs.length - 1:Nat):Int):=by omega
 refine ae (l:=[_]) Tryz.func108 rfl Tryz.ntmps108 rfl (Ok.dj hw) ?_
 generalize hS:Mb (aQ cp c ⟨sp,tv,pv,.slice (some ⟨g,0,none⟩) c.fs.length cc,rv,fv,D,L⟩)=S0
 dsimp only[aQ,aS,List.cons_append,List.nil_append]
 repeat'(first|refine ar ?_|(refine aa.fj (t:=ym) ?_;refine aa.alloc (t:=ym) [.int .i64 0,.slice none 0 0,.slice none 0 0,.bool false,.bool false] rfl rfl rfl fun b_=>?_)|fail)
 rw[e1]
 repeat'(first|refine ar ?_|(refine aa.ek ?_;refine aa.y_ (Yl.idx (i:=c.fs.length - 1) rfl rfl rfl rfl rfl Mj Mj) rfl ?_)|(refine aa.dk ?_;refine aa.y_ (Yl.Fw rfl rfl rfl Ml Ml hc5 bG) rfl ?_)|(refine aa.fj (t:=ym) ?_;refine aa.alloc (t:=ym) [.int .i64 0,.slice none 0 0,.slice none 0 0,.bool false,.bool false] rfl rfl rfl fun b_=>?_)|fail)
 refine aa.he (HE.HR (s:=5) (len:=c.fs.length - 1) rfl rfl rfl Ml rfl Ml Mj (fun _ _=>Nat.zero_le _)) rfl ?_
 intro g3 _
 repeat'(first|refine ar ?_|fail)
 refine aa.he (HE.Gp rfl rfl aA aA Mj rfl rfl rfl Ml hone) rfl ?_
 rintro⟨⟩ _
 rw[rF _ _ _ hg.len]
 repeat'(first|refine ar ?_|fail)
 exact ah.a6 (.inl rfl) rfl rfl rfl rfl rfl aA rfl fun w' hw'=>aM.oY (x:=Value.slice (some ⟨g3,0,none⟩) (c.fs.length - 1) (c.fs.length - 1)) trivial hS hw' (by dsimp only[aQ,aS,List.cons_append,List.nil_append];rw[List.length_take,Nat.min_eq_left Mj];exact dM) ak
abbrev FM:Nat:=47
theorem eQ {w:World} {B T:Nat} {v:Value} {xs:List Int} (h:w.ownsRow B T 1 v xs.length (aX xs)) (hl:xs.length≤17592186044416):af (fun k=>v.ownBlock=some k) w v xs:=by
 obtain⟨p,c,rfl,hn,hc,hg⟩:=ax h
 refine⟨p,c,rfl,hl,?_⟩
 by_cases h0:xs.length=0
 ·exact .inl (List.eq_nil_of_length_eq_zero h0)
 ·obtain⟨g,rfl,-⟩:=hg Mj
  exact .inr ⟨g,0,rfl,rfl,fun i hi=>dP h (ng hi)⟩
theorem Ok.swap {q q':a8} {M M':List a8} {R:List (World→Prop)} {w:World} (h:Ok M R w) (hM:Up q q' M M') (hF:∀k,q'.F k→q.F k) (hP:q.P w→q'.P w):Ok M' R w:=
 h.yu hM (cg.refl _ w) (hP (h.m _ hM.mem).1) fun k hk=>⟨(h.m _ hM.mem).2 k (hF k hk),fun _=>hF k hk⟩
theorem aa.swap {ops:Array Oper} {Q:Exit→Act→World→Prop} {n:Nat} {l:List Oper} {E:Env} {q q':a8} {M M':List a8} {R:List (World→Prop)} (hM:Up q q' M M') (hF:∀k,q'.F k→q.F k) (hP:∀w,q.P w→q'.P w) (h:aa ops Q n l E M' R):aa ops Q n l E M R:=⟨fun w hw=>h.h w (hw.swap hM hF (hP w))⟩
theorem aM.GX {β:Type} {M:List a8} {R:List (World→Prop)} {w w':World} {tf:β→Value} {φ:β→Prop} {M1:β→List a8} (x:β) (hφ:φ x) (h:Ok M R w') (hM:js (M1 x) M) (hR:Ext w∈R):aM [] w tf φ M1 (.returned (tf x)) w':=by
 obtain⟨M2,hp⟩:=hM.perm
 exact aM.BI x hφ (h.perm hp) (List.sublist_append_left _ _) hR
set_option maxHeartbeats 16000000 in
theorem sx (D0:Nat→Prop) (results:List Int) (v:Value) (w:World) (hI:af D0 w v results):Calls G.P 17 #[v] w (aM [] w (fun y:Nat×iY=>.pointer (some ⟨y.1,0,none⟩)) (fun y=>y.2.Good (jd results)) (fun y=>aQ y.1 (jd results) y.2)):=by
 obtain⟨p,cc,rfl,hl⟩:=hI.slice
 refine ae (l:=[_]) Tryz.func17 rfl Tryz.ntmps17 rfl (Ok.start w) ?_
 repeat'(first|refine ar ?_|fail)
 refine aa.he (HE.bC (M0:=[]) ox.nil rfl rfl (fun w' hw'=>Bz w')) rfl ?_
 rintro⟨sp,tv,pv⟩ _
 dsimp only[aS,List.cons_append,List.nil_append]
 repeat'(first|refine ar ?_|fail)
 refine aa.he (HE.bC (M0:=[]) ox.nil rfl rfl (fun w' hw'=>dO results _ w' (hI.aO (show Ext w w' from hw'.at) (fun _ _ _ h=>h)))) rfl ?_
 intro u _
 dsimp only[List.cons_append,List.nil_append]
 refine aa.pure (φ:=∃p c,u=.slice p results.length c) (fun w' hw'=>?_) ?_
 ·obtain⟨p,c,e,_⟩:=ax (hw'.own (v:=u));exact⟨p,c,e⟩
 rintro⟨p3,c3,rfl⟩
 repeat'(first|refine ar ?_|fail)
 refine aa.box [.pointer (some ⟨sp,0,none⟩),.slice none 0 0,.slice p3 results.length c3,.bool true,.int .i64 0] rfl rfl rfl fun cp=>?_
 repeat'(first|refine ar ?_|fail)
 refine aa.he (HE.bC (M0:=[.aT sp [tv,pv,.bool (eN ⟨[],[(0,false)],0⟩)] iN,.own 0 fY 1 tv (([]:List Int).length) (aX []),.own 0 iO 2 pv ([((0:Int),false)].length) (bO [(0,false)])]) dt rfl rfl (fun w' hw'=>rK sp ⟨[],[(0,false)],0⟩ (tv,pv) w' (hw'.cF dM (fun p h=>by cases h)) Mh Mh)) rfl ?_
 rintro⟨tv2,pv2⟩ _
 dsimp only[aS,List.cons_append,List.nil_append]
 repeat'(first|refine ar ?_|fail)
 refine JM ?_
 intro b6 _
 repeat'(first|refine ar ?_|fail)
 refine ah.aB rfl rfl fun w' hw'=>?_
 have h1:=hw'.swap (q:=.own 0 fY 1 (.slice p3 results.length c3) results.length (aX results)) (q':=.j8 iu iu.fr (fun k=>(Value.slice p3 results.length c3).ownBlock=some k) [(⟨[],results⟩,.slice none 0 0,.slice p3 results.length c3)]) aA (fun k h=>h) (fun h y hy=>by
  rw[List.mem_singleton]at hy;subst hy
  exact⟨af.bR _ _,eQ h hl⟩)
 have h2:=h1.iS (s:=5) (len:=1) aA rfl LR
 refine aM.GX (x:=(cp,(⟨sp,tv2,pv2,.slice (some ⟨b6,0,none⟩) 1 1,.slice p3 results.length c3,[(.slice none 0 0,.slice p3 results.length c3)],_,[(⟨[],results⟩,.slice none 0 0,.slice p3 results.length c3)]⟩:iY))) ⟨rfl,fun i hi=>?_,List.mem_cons_self⟩ h2 (by
  show js [.aT cp [.pointer (some ⟨sp,0,none⟩),.slice (some ⟨b6,0,none⟩) 1 1,.slice p3 results.length c3,.bool true,.int .i64 0] iz,.aT sp [tv2,pv2,.bool (eN (aR ⟨[],[(0,false)],0⟩))] iN,.own 0 fY 1 tv2 (aR ⟨[],[(0,false)],0⟩).ts.length (aX (aR ⟨[],[(0,false)],0⟩).ts),.own 0 iO 2 pv2 (aR ⟨[],[(0,false)],0⟩).ps.length (bO (aR ⟨[],[(0,false)],0⟩).ps),.own 0 ym 5 (.slice (some ⟨b6,0,none⟩) 1 1) 1 [.int .i64 0,.slice none 0 0,.slice p3 results.length c3,.bool false,.bool true],.j8 iu iu.fr _ _] _
  exact dM) ak
 have:i=0:=by simp[jd]at hi;exact hi
 subst this
 exact List.mem_cons_self
def aD (M0:List a8) (cp:Nat) (r:di×Int) (w:World):Ending→World→Prop:=aM M0 w (fun _:iY=>.int .i64 r.2) (fun v'=>r.2=0→v'.Good r.1) (fun v'=>if r.2=0 then aQ cp r.1 v' else[])
theorem aD.err {M0 M:List a8} {cp:Nat} {r:di×Int} {w w':World} {S0:Nat→Prop} {R:List (World→Prop)} (e:Int) (hr:r.2=e) (he:e≠0) (hS:Mb M0=S0) (h:Ok M R w') (hR:cg S0 w∈R):aD M0 cp r w (.returned (.int .i64 e)) w':=by
 subst hr
 exact aM.oY (x:=(⟨0,undef,undef,undef,undef,[],fun _=>False,[]⟩:iY)) (fun h=>absurd h he) hS h (by rw[if_neg he];exact js.nil) hR
theorem aD.ok {M0 M:List a8} {cp:Nat} {r:di×Int} {w w':World} {S0:Nat→Prop} {R:List (World→Prop)} (v':iY) (hr:r.2=0) (hg:v'.Good r.1) (hS:Mb M0=S0) (h:Ok M R w') (hM:js (aQ cp r.1 v') M) (hR:cg S0 w∈R):aD M0 cp r w (.returned (.int .i64 0)) w':=by
 have:=aM.oY (M0:=M0) (tf:=fun _:iY=>.int .i64 r.2) (φ:=fun v'=>r.2=0→v'.Good r.1) (M1:=fun v'=>if r.2=0 then aQ cp r.1 v' else[]) v' (fun _=>hg) hS h (by rw[if_pos hr];exact hM) hR
 unfold aD
 rw[hr]at this ⊢
 exact this
theorem js.app (M:List a8):∀M':List a8,js M (M++M'):=by
 induction M with
 |nil=>exact fun M'=>js.nil
 |cons q M ih=>exact fun M'=>js.cons Rm.head (ih M')
theorem iu.cons {D D0:Nat→Prop} {w:World} {L:List (aL×Value×Value)} {f:aL} {x:Value×Value} (h1:iu D w L) (h2:dr f D0 w x):iu (fun k=>D k∨D0 k) w ((f,x)::L):=fun y hy=>by
 rcases List.mem_cons.1 hy with rfl|hy
 ·exact dr.mono h2 (fun k h=>.inr h)
 ·exact dr.mono (h1 y hy) (fun k h=>.inl h)
theorem dp (s:bP) (l:List Int):(aE s l).1.ts.length≤s.ts.length:=by
 unfold aE;dsimp only;split
 ·rw[List.length_take];omega
 ·exact Nat.le_refl _
theorem cZ {w:World} {b T:Nat} {a:Int} (h:gO w b [.int .i64 a] T):af (fun k=>k=b) w (.slice (some ⟨b,0,none⟩) 1 1) [a]:=
 ⟨_,1,rfl,by simp,.inr ⟨b,0,rfl,rfl,fun i hi=>by
  have:i=0:=by simp at hi;exact hi
  subst this
  exact h.cell rfl⟩⟩
theorem aZ.mg {Q:Exit→Act→World→Prop} {n:Nat} {cd:Code} {E:Env} {q1 q2 q:a8} {M M1 M2:List a8} {R:List (World→Prop)} (h1:Rm q1 M M1) (h2:Rm q2 M1 M2) (hF:∀k,q.F k→q1.F k∨q2.F k) (hP:∀w,q1.P w→q2.P w→q.P w) (h:aZ Q n cd E (q::M2) R):aZ Q n cd E M R:=
 ⟨fun w hw=>h.h w (((hw.front h1).front (Rm.tail h2)).merge (fun k hk=>(hF k hk).symm) (fun a b=>hP w b a))⟩
theorem Cy (c:di) (hb:c.broken=0):lF c=if c.fs.length=0∨c.top.kind≠4∨c.top.other=true then(c,16)else if(cw c.ao c.top.res).2≠0 then({c with broken:=(cw c.ao c.top.res).2},(cw c.ao c.top.res).2)else(gw c (cw c.ao c.top.res).1 (c.fs.take (c.fs.length - 1)) {c.top with other:=true},0):=by
 unfold lF;rw[if_neg Mj]
theorem kW (s:bP) (l:List Int):(cw s l).1.ts.length≤s.ts.length:=by
 unfold cw;dsimp only;split
 ·exact Nat.le_refl _
 ·split
  ·exact Nat.le_refl _
  ·dsimp only;rw[List.length_take];omega
theorem rk (s:bP) (l:List Int) (h:2≤s.ps.length) (h0:(cw s l).2=0):0<(cw s l).1.ps.length∧(cw s l).1.ps.length≤s.ps.length:=by
 rw[sP h0,if_neg Mj,List.length_take];omega
theorem iY.Good.pop {v:iY} {c:di} (h:v.Good c) (s:bP) (tv pv bv:Value) (k:Nat):(iY.mk v.sp tv pv bv v.rv (v.fv.take k) v.D v.L).Good {c with ao:=s,fs:=c.fs.take k}:=by
 have hl:=h.len
 refine⟨by dsimp only;rw[List.length_take,List.length_take,hl],fun i hi=>?_,h.rs⟩
 dsimp only at hi ⊢
 have hi2:i<k∧i<c.fs.length:=by rw[List.length_take]at hi;omega
 rw[cD hi,cD LN,List.getElem_take,List.getElem_take,←cD hi2.2,←cD (show i<v.fv.length by omega)]
 exact h.fr i hi2.2
set_option maxHeartbeats 32000000 in
theorem AJ (cp:Nat) (c:di) (v:iY) (w:World) (hw:Ok (aQ cp c v) [] w) (hg:v.Good c) (hb:c.broken=0) (hwf:c.Wf) (hfl:c.fs.length≤1000) (hts:(c.ao.ts.length+c.top.par.length)*8≤140737488355328):
  Calls G.P 44 #[.pointer (some ⟨cp,0,none⟩)] w (aD (aQ cp c v) cp (lF c) w):=by
 obtain⟨sp,tv,pv,bv,rv,fv,D,L⟩:=v
 have hrd:=hw.zS (List.Sublist.refl _)
 obtain⟨p,cc,e,hcp,hmx,hgg⟩:=ax hrd.o
 dsimp only at e
 subst e
 unfold maxLen at hmx
 have hat:=hwf.ao.at_
 have hps:=hwf.ao.some
 have hmany:=hwf.many
 rw[Cy c hb]
 refine ae (l:=[_]) Tryz.func44 rfl Tryz.ntmps44 rfl (Ok.dj hw) ?_
 by_cases h0:c.fs.length=0
 ·rw[if_pos (.inl h0)]
  generalize hS:Mb (aQ cp c ⟨sp,tv,pv,.slice p c.fs.length cc,rv,fv,D,L⟩)=S0
  dsimp only[aQ,aS,List.cons_append,List.nil_append]
  repeat'(first|refine ar ?_|refine Ay ?_|(refine a7 ?_ ?_<;>intro hc_))
  all_goals exact i6
 ·obtain⟨g,rfl,-⟩:=hgg Mj
  have hi:c.fs.length - 1<c.fs.length:=by omega
  have hin:((ix c.fs (c.fs.length - 1)).fn,ix fv (c.fs.length - 1))∈L:=hg.fr _ hi
  obtain⟨q1,d1,q2,d2,hx⟩:=(hrd.l _ hin).fP
  have hc5:∀j,j<5→(dL c.fs fv)[0+(c.fs.length - 1)*5+j]?=(gN (ix c.fs (c.fs.length - 1)) (ix fv (c.fs.length - 1)))[j]?:=fun j hj=>by rw[Nat.zero_add];exact kX c.fs fv (c.fs.length - 1) j hg.len hi hj
  dsimp only at hx hin
  rw[hx]at hc5 hin
  have htop:c.top=ix c.fs (c.fs.length - 1):=rfl
  rw[←htop]at hc5 hin hx
  have hpe:(ix fv (c.fs.length - 1))=(.slice q1 c.top.par.length d1,.slice q2 c.top.res.length d2):=hx
  generalize hf:c.top=f at*
  dsimp only[gN]at hc5
  obtain⟨o5,hoff⟩:∃o5,0+(c.fs.length - 1)*5=o5:=⟨_,rfl⟩
  rw[hoff]at hc5
  have f0:(dL c.fs fv)[o5]?=some (.int .i64 f.kind):=hc5 0 Mj
  have f2:(dL c.fs fv)[o5+1+1]?=some (.slice q2 f.res.length d2):=hc5 2 Mj
  have f3:(dL c.fs fv)[o5+3]?=some (.bool f.other):=hc5 3 Mj
  generalize hS:Mb (aQ cp c ⟨sp,tv,pv,.slice (some ⟨g,0,none⟩) c.fs.length cc,rv,fv,D,L⟩)=S0
  dsimp only[aQ,aS,List.cons_append,List.nil_append]
  by_cases hk:f.kind≠4∨f.other=true
  ·rw[if_pos (.inr hk)]
   repeat'(first|refine ar ?_|refine Ay ?_|(refine aa.ek ?_;refine aa.yg LH (Yl.idx (i:=c.fs.length - 1) rfl rfl rfl rfl rfl Mj Mj) rfl ?_;rw[hoff])|(refine aa.dk ?_;refine aa.yg LH (Yl.iD rfl rfl rfl rfl f0 bG) rfl ?_)|(refine aa.dk ?_;refine aa.yg LH (Yl.iD rfl rfl rfl rfl f3 bG) rfl ?_)|(refine a7 ?_ ?_<;>intro hc_))
   all_goals first|omega|skip
   all_goals first|(exfalso;simp_all;done)|skip
   all_goals exact ah.aB rfl rfl fun w' hw'=>aD.err 16 rfl Mh hS hw' ak
  ·rw[if_neg (by rintro(h|h);exact h0 h;exact hk h)]
   have hk4:f.kind=4:=by omega
   have hot:f.other=false:=by cases hb2:f.other<;>simp_all
   obtain⟨r,hr⟩:∃r,cw c.ao f.res=r:=⟨_,rfl⟩
   obtain⟨s2,e2⟩:=r
   have hs2p:=rk c.ao f.res Mj
   have hs2t:=kW c.ao f.res
   rw[hr]at hs2p hs2t ⊢
   dsimp only at hs2p hs2t ⊢
   repeat'(first|refine ar ?_|refine Ay ?_|(refine aa.ek ?_;refine aa.yg LH (Yl.idx (i:=c.fs.length - 1) rfl rfl rfl rfl rfl Mj Mj) rfl ?_;rw[hoff])|(refine aa.dk ?_;refine aa.yg LH (Yl.iD rfl rfl rfl rfl f0 bG) rfl ?_)|(refine aa.dk ?_;refine aa.yg LH (Yl.iD rfl rfl rfl rfl f3 bG) rfl ?_)|(refine a7 ?_ ?_<;>intro hc_))
   all_goals first|omega|skip
   refine JK ?_
   repeat'(first|refine og ?_|(refine aP.qy 10 rfl (Yl.idx (i:=c.fs.length - 1) rfl rfl rfl rfl rfl Mj Mj) ?_;rw[hoff])|refine aP.qy 13 rfl (Yl.iD rfl rfl rfl rfl f2 bG) ?_|(refine av.ep 107 ?_;refine av.he rfl rfl (HE.bC (M0:=[.aT sp [tv,pv,.bool (eN c.ao)] iN,.own 0 fY 1 tv c.ao.ts.length (aX c.ao.ts),.own 0 iO 2 pv c.ao.ps.length (bO c.ao.ps)]) dt rfl rfl (fun w' hw'=>by have:=sO D sp c.ao (tv,pv) (.slice q2 f.res.length d2) f.res w' ((hw'.kB (q:=.j8 iu iu.fr D L) (p:=fun w=>af D w (.slice q2 f.res.length d2) f.res) je (fun w' h _=>(h _ hin).2)).cF dM aV) Mj hat.1 hat.2;rw[hr]at this;exact this)) (fun _=>by dsimp only[aS,List.cons_append,List.nil_append];exact bc) (fun _=>aV) ?_;rintro⟨tvb,pvb⟩ _;dsimp only[aS,List.cons_append,List.nil_append])|refine aP.nil LX ?_|refine aP.any LX ?_|exact aN.fin rfl|refine aN.skip LX ?_|refine aN.go ?_ ?_)
   by_cases he2:e2=0
   ·subst he2
    obtain⟨hs2p,hs2q⟩:=hs2p rfl
    rw[if_neg Mh]
    repeat'(first|refine ar ?_|(refine a7 ?_ ?_<;>intro hc_))
    refine aa.he (HE.bC (M0:=[.aT cp [.pointer (some ⟨sp,0,none⟩),.slice (some ⟨g,0,none⟩) c.fs.length cc,rv,.bool c.live,.int .i64 c.broken] iz,.aT sp [tvb,pvb,.bool (eN s2)] iN,.own 0 fY 1 tvb s2.ts.length (aX s2.ts),.own 0 iO 2 pvb s2.ps.length (bO s2.ps),.own 0 ym 5 (.slice (some ⟨g,0,none⟩) c.fs.length cc) c.fs.length (dL c.fs fv),.j8 iu iu.fr D L]) dt rfl rfl (fun w' hw'=>w7 cp {c with ao:=s2} ⟨sp,tvb,pvb,.slice (some ⟨g,0,none⟩) c.fs.length cc,rv,fv,D,L⟩ w' (hw'.cF dM (fun p h=>by cases h)) (hg.mono rfl rfl rfl rfl (fun _ h=>h)) LT LT)) rfl ?_
    intro bv2 _
    dsimp only[aQ,aS,List.cons_append,List.nil_append]
    rw[show di.top {c with ao:=s2}=f from hf,hpe]
    dsimp only[gN]
    rw[hk4,hot]
    repeat'(first|refine ar ?_|(refine aa.fj (t:=ym) ?_;refine aa.alloc (t:=ym) [.int .i64 0,.slice none 0 0,.slice none 0 0,.bool false,.bool false] rfl rfl rfl fun b_=>?_)|(refine a7 ?_ ?_<;>intro hc_))
    refine aa.he (HE.bC (M0:=[.aT cp [.pointer (some ⟨sp,0,none⟩),bv2,rv,.bool c.live,.int .i64 c.broken] iz,.aT sp [tvb,pvb,.bool (eN s2)] iN,.own 0 fY 1 tvb s2.ts.length (aX s2.ts),.own 0 iO 2 pvb s2.ps.length (bO s2.ps),.own 0 ym 5 bv2 (c.fs.take (c.fs.length - 1)).length (dL (c.fs.take (c.fs.length - 1)) (fv.take (c.fs.length - 1))),.j8 iu iu.fr D L]) dt rfl rfl (fun w' hw'=>by
     have:=mi cp {c with ao:=s2,fs:=c.fs.take (c.fs.length - 1)} ⟨sp,tvb,pvb,bv2,rv,fv.take (c.fs.length - 1),D,L⟩ {f with other:=true} (.slice q1 f.par.length d1,.slice q2 f.res.length d2) w' (hw'.cF dM (fun p h=>by cases h)) (hg.pop s2 _ _ _ _) hin LT LT (by dsimp only;rw[List.length_take];omega) LT
     dsimp only[gN]at this
     rw[hk4]at this
     exact this)) rfl ?_
    intro y hy
    repeat'(first|refine ar ?_|(refine a7 ?_ ?_<;>intro hc_))
    exact pp
   ·rw[if_pos he2]
    repeat'(first|refine ar ?_|(refine a7 ?_ ?_<;>intro hc_))
    refine JL ?_
    rintro⟨⟩ _
    dsimp only[List.cons_append,List.nil_append]
    repeat'(first|refine ar ?_|(refine a7 ?_ ?_<;>intro hc_))
    exact i8
abbrev mJ:Nat:=70
theorem dc {ops:Array Oper} {Q:Exit→Act→World→Prop} {n:Nat} {rest:List Oper} {E:Env} {M:List a8} {R:List (World→Prop)} {d:Nat} {ty:TypeId} {pos:String} {aft:Array Edge} (h:∀b:Nat,aa ops Q n rest ((d,.pointer (some ⟨b,0,none⟩))::E) (.aT b [.slice none 0 0,.slice none 0 0,.slice none 0 0,.int .i64 0] mJ::M) R) (hd:Nat.blt d n=true:=by rfl):aa ops Q n (⟨some d,.alloc mJ,ty,pos,aft,none⟩::rest) E M R:=aa.alloc (t:=mJ) [.slice none 0 0,.slice none 0 0,.slice none 0 0,.int .i64 0] rfl rfl hd h
abbrev iG:(Nat→Prop)→World→Value→List Bool→Prop:=gy 1 17592186044416 kb
theorem iG.aO {F S:Nat→Prop} {w w':World} {v:Value} {xs:List Bool} (h:iG F w v xs) (hc:cg S w w') (hd:∀k,k<w.heap.size→F k→¬S k):iG F w' v xs:=gy.aO kb.fr kb.ce h hc hd
theorem iG.mono {F H:Nat→Prop} {w:World} {v:Value} {xs:List Bool} (h:iG F w v xs) (hd:∀k,k<w.heap.size→F k→H k):iG H w v xs:=gy.mono kb.mo kb.ce h hd
structure jq where
 l:Value
 m:Value
 o:Value
def bP.marks (s:bP):List Int:=s.ps.map Prod.fst
def bP.eB (s:bP):List Bool:=s.ps.map Prod.snd
def DP:Value→Prop
 |.slice _ n c=>n≤c
 |_=>False
def aY (s:bP) (D:Nat→Prop) (w:World) (y:jq):Prop:=af D w y.l s.ts∧af D w y.m s.marks∧iG D w y.o s.eB∧DP y.l∧DP y.m∧DP y.o
theorem aY.fr (s:bP):tp (aY s):=fun h hc hd=>⟨h.1.aO hc hd,h.2.1.aO hc hd,iG.aO h.2.2.1 hc hd,h.2.2.2⟩
theorem aY.mono {s:bP} {D H:Nat→Prop} {w:World} {y:jq} (h:aY s D w y) (hd:∀k,D k→H k):aY s H w y:=⟨h.1.mono fun k _=>hd k,h.2.1.mono fun k _=>hd k,iG.mono h.2.2.1 fun k _=>hd k,h.2.2.2⟩
def fI (s:bP) (y:jq):List Value:=[y.l,y.m,y.o,.int .i64 s.bH]
theorem aY.fP {s:bP} {D:Nat→Prop} {w:World} {y:jq} (h:aY s D w y):∃p1 c1 p2 c2 p3 c3,y=⟨.slice p1 s.ts.length c1,.slice p2 s.ps.length c2,.slice p3 s.ps.length c3⟩∧s.ts.length≤c1∧s.ps.length≤c2∧s.ps.length≤c3:=by
 obtain⟨l,m,o⟩:=y
 obtain⟨p1,c1,e1,-⟩:=h.1.slice
 obtain⟨p2,c2,e2,-⟩:=h.2.1.slice
 obtain⟨p3,c3,e3,-⟩:=gy.slice h.2.2.1
 obtain⟨k1,k2,k3⟩:=h.2.2.2
 dsimp only at e1 e2 e3 k1 k2 k3
 subst e1 e2 e3
 simp only[bP.marks,bP.eB,List.length_map]at k2 k3
 exact⟨p1,c1,p2,c2,p3,c3,by simp[bP.marks,bP.eB],k1,k2,k3⟩
theorem bP.Ar (s:bP) (h:0<s.ps.length):ix s.marks (s.ps.length - 1)=s.at_∧ix s.eB (s.ps.length - 1)=s.loose:=by
 unfold bP.marks bP.eB bP.at_ bP.loose
 exact⟨pz Mj,pz Mj⟩
theorem od (D:Nat→Prop) (s:bP) (y:jq) (w:World) (h:aY s D w y) (hp:0<s.ps.length):Calls G.P 118 #[.agg (fI s y).toArray] w fun e w'=>e=.returned (.int .i64 s.at_)∧Ext w w':=by
 obtain⟨p1,c1,p2,c2,p3,c3,rfl,k1,k2,k3⟩:=h.fP
 obtain⟨h1,h2,h3,-⟩:=h
 have hml:s.marks.length=s.ps.length:=by simp[bP.marks]
 dsimp only at h2
 rw[←hml]at h2
 obtain⟨b,o,rfl,-,hc⟩:=h2.at (i:=s.ps.length - 1) Mj
 have hcj:=hc (s.ps.length - 1) Mj
 rw[(s.Ar hp).1]at hcj
 have hb:=(h2.slice).choose_spec.choose_spec.2
 rw[hml]at hb
 refine ae (l:=[_]) Tryz.func118 rfl Tryz.ntmps118 rfl (Ok.start w) ?_
 repeat'(first|refine ar ?_|(refine aC fun b_=>?_)|(refine aa.ek ?_;refine aa.y_ (Yl.gh (i:=s.ps.length - 1) rfl rfl rfl rfl rfl Mj Mj) rfl ?_)|fail)
 all_goals exact dl
theorem xC (D:Nat→Prop) (s:bP) (y:jq) (w:World) (h:aY s D w y) (hp:0<s.ps.length):Calls G.P 158 #[.agg (fI s y).toArray] w fun e w'=>e=.returned (.bool s.loose)∧Ext w w':=by
 obtain⟨p1,c1,p2,c2,p3,c3,rfl,k1,k2,k3⟩:=h.fP
 obtain⟨h1,h2,h3,-⟩:=h
 have hml:s.eB.length=s.ps.length:=by simp[bP.eB]
 dsimp only at h3
 rw[←hml]at h3
 obtain⟨b,o,rfl,-,hc⟩:=gy.at h3 (i:=s.ps.length - 1) Mj
 have hcj:w.cell? ⟨b,o+(s.ps.length - 1)*1,none⟩=some (.bool (ix s.eB (s.ps.length - 1))):=hc (s.ps.length - 1) Mj
 rw[(s.Ar hp).2,Nat.mul_one]at hcj
 have hb:=(gy.slice h3).choose_spec.choose_spec.2
 rw[hml]at hb
 refine ae (l:=[_]) Tryz.func158 rfl Tryz.ntmps158 rfl (Ok.start w) ?_
 repeat'(first|refine ar ?_|(refine aC fun b_=>?_)|(refine aa.ek ?_;refine aa.y_ (Yl.gh (i:=s.ps.length - 1) rfl rfl rfl rfl rfl Mj Mj) rfl ?_)|fail)
 all_goals exact dl
theorem mX {F:Nat→Prop} {w w':World} {M:List a8} {R:List (World→Prop)} {B T n:Nat} {v:Value} {cs:List Value} (xs:List Int) (hw:Ok M R w') (hR:Ext w∈R) (hm:a8.own B T 1 v n cs∈M) (hn:n=xs.length) (hcs:cs=aX xs) (hl:xs.length≤17592186044416):af (fun k=>F k∨w.heap.size≤k) w' v xs:=by
 subst hn hcs
 have ho:w'.ownsRow B T 1 v xs.length (aX xs):=(hw.m _ hm).1
 refine(eQ ho hl).mono fun k _ hk=>.inr ?_
 rcases Nat.lt_or_ge k w.heap.size with h|h
 ·exact(hw.origin (S:=fun _=>False) hR k ⟨_,hm,hk⟩ h).elim
 ·exact h
theorem af.ki {F:Nat→Prop} {w w':World} {M:List a8} {R:List (World→Prop)} {v:Value} {xs:List Int} (h:af F w v xs) (hw:Ok M R w') (hR:Ext w∈R):af (fun k=>F k∨w.heap.size≤k) w' v xs:=
 (h.aO (show Ext w w' from hw.get hR) (fun _ _ _ h=>h)).mono fun _ _ h=>.inl h
theorem iG.ki {F:Nat→Prop} {w w':World} {M:List a8} {R:List (World→Prop)} {v:Value} {xs:List Bool} (h:iG F w v xs) (hw:Ok M R w') (hR:Ext w∈R):iG (fun k=>F k∨w.heap.size≤k) w' v xs:=
 (iG.aO h (show Ext w w' from hw.get hR) (fun _ _ _ h=>h)).mono fun _ _ h=>.inl h
theorem af.take {F:Nat→Prop} {w:World} {p:Option Addr} {n c:Nat} {xs:List Int} (h:af F w (.slice p n c) xs) (k:Nat) (hk:k≤xs.length):af F w (.slice p k c) (xs.take k):=by
 obtain⟨p',c',e,hl,h⟩:=h
 cases e
 have ht:(xs.take k).length=k:=by rw[List.length_take];omega
 refine⟨p,c,by rw[ht],by omega,?_⟩
 rcases h with h|⟨b,o,rfl,hF,h⟩
 ·exact .inl (by rw[h];simp)
 ·refine .inr ⟨b,o,rfl,hF,fun i hi=>?_⟩
  rw[ht]at hi
  rw[cD Mj,List.getElem_take,←cD Mj]
  exact h i Mj
def GJ (s:bP) (F:Nat→Prop) (w:World):Ending→World→Prop:=bg (aY s) (fun y=>.agg (fI s y).toArray) F w
section
variable {n:Nat} {E:Env} {C:World→Prop} {x y:Operand} {t t2:TypeId}
theorem Yl.FT {p q:Int} (hx:ev E x=some (.int .i64 p)) (hy:ev E y=some (.int .i64 q)):Yl G n (.call ⟨.builtin .max,#[x,y],#[t,t2]⟩) E C (.int .i64 (if q>p then q else p)):=
 ⟨fun w _ a ha d ty pos aft gd=>by
  simp[execOp,resolve,invoke,builtin,ha.eval hx,ha.eval hy,run_max_int2]⟩
end
theorem zT (a b:Nat):(if((b:Nat):Int)>((a:Nat):Int)then((b:Nat):Int)else((a:Nat):Int))=((max a b:Nat):Int):=by
 rcases Nat.lt_or_ge a b with h|h
 ·rw[if_pos Mj,Nat.max_eq_right Mj]
 ·rw[if_neg Mj,Nat.max_eq_left h]
theorem HE.yl {n:Nat} {op:Op} {E:Env} {M:List a8} {R:List (World→Prop)} {v:Value} (hy:Yl G n op E (Ok M R) v):HE n op E M R (fun _:Unit=>True) (fun _=>v) (fun _=>M) (fun _=>R):=
 ⟨fun w hw=>⟨fun a ha d ty pos aft gd=>by rw[hy.h w hw a ha d ty pos aft gd];exact⟨(),trivial,rfl,hw⟩⟩⟩
set_option maxHeartbeats 8000000 in
theorem iH (F:Nat→Prop) (s:bP) (y:jq) (v:Value) (xs:List Int) (w:World) (h:aY s F w y) (hI:af F w v xs) (hb:s.ts.length+xs.length≤17592186044416):Calls G.P 25 #[.agg (fI s y).toArray,v] w (GJ (aJ s xs) F w):=by
 obtain⟨p1,c1,p2,c2,p3,c3,rfl,k1,k2,k3⟩:=h.fP
 obtain⟨h1,h2,h3,-⟩:=h
 obtain⟨q,d,rfl,hl⟩:=hI.slice
 dsimp only at h1 h2 h3
 refine ae (l:=[_,_]) Tryz.func25 rfl Tryz.ntmps25 rfl (Ok.start w) ?_
 dsimp only[fI]
 repeat'(first|refine ar ?_|(refine aC fun b_=>?_)|(refine dc fun b_=>?_)|fail)
 refine aa.ji 0 fY 1 ?_
 refine aa.he (HE.gA (aX s.ts) rfl rfl (fun _=>aA) (iT h1 ak) Me rfl rfl rfl Ml Ml Ml (eV _) (by show(0+s.ts.length)*8≤_;omega) Mj (fun _ _=>Nat.zero_le _)) rfl ?_
 intro v1 _
 simp only[Nat.zero_add,List.nil_append]
 refine aa.pure (φ:=∃p c,v1=.slice p s.ts.length c) (fun w' hw'=>?_) ?_
 ·obtain⟨p,c,e,_⟩:=ax (hw'.own (v:=v1));exact⟨p,c,e⟩
 rintro⟨p4,c4,rfl⟩
 repeat'(first|refine ar ?_|fail)
 refine aa.he (HE.gA (aX xs) rfl rfl (fun _=>aA) (iT hI ak) Me rfl rfl rfl Ml Ml Ml (eV _) (by show(s.ts.length+xs.length)*8≤_;omega) Mj (fun _ _=>Nat.zero_le _)) rfl ?_
 intro v2 _
 refine aa.pure (φ:=∃p c,v2=.slice p (s.ts.length+xs.length) c∧s.ts.length+xs.length≤c) (fun w' hw'=>?_) ?_
 ·obtain⟨p,c,e,h,_⟩:=ax (hw'.own (v:=v2));exact⟨p,c,e,h⟩
 rintro⟨p5,c5,rfl,k5⟩
 repeat'(first|refine ar ?_|fail)
 refine aa.he (HE.yl (Yl.FT rfl rfl)) rfl ?_
 rintro⟨⟩ _
 repeat'(first|refine ar ?_|fail)
 refine ah.a6 (.inl rfl) rfl rfl rfl rfl rfl aA rfl fun w' hw'=>⟨⟨(⟨.slice p5 (s.ts.length+xs.length) c5,.slice p2 s.ps.length c2,.slice p3 s.ps.length c3⟩:jq),?_,mX (s.ts++xs) hw' ak bG Mk Me Ma,h2.ki hw' ak,iG.ki h3 hw' ak,k5,k2,k3⟩,hw'.at⟩
 dsimp only[fI,aJ]
 rw[zT]
theorem Fin.sG {fn:Func} {R:Ending→World→Prop} {w:World} {n a T b s t u Tb:Nat} {ti:TI} {E:Env} {cs:List Value} {v y:Value} {e:Exit} (he:e=.ret∨e=.normal) (hr:fn.results=#[.cell a T,.tmp t,.tmp u]) (ha:lk E a=some (.pointer (some ⟨b,0,none⟩))) (hT:G.ty T=some ti) (hag:ti.agg=true) (hsz:ti.size=s) (hb:gO w b cs Tb) (hl:cs.length=s) (hv:lk E t=some v) (hy:lk E u=some y) (hR:R (.returned (.tuple #[.agg cs.toArray,v,y])) w):Fin (bodyPost G.P fn R) n e E w:=
 Fin.pS he (fun ac hac=>by
  have h3:=pw hT hag hsz hb hl
  have g1:ac.tmps[a]?.getD undef=.pointer (some ⟨b,0,none⟩):=by have:=(hac.eq a _ ha).2;simpa using this
  have g2:ac.tmps[t]?.getD undef=v:=by have:=(hac.eq t _ hv).2;simpa using this
  have g3:ac.tmps[u]?.getD undef=y:=by have:=(hac.eq u _ hy).2;simpa using this
  simp[results,hr,g1,g2,g3,asAddr,h3]) hR
theorem ah.sG {fn:Func} {Rp:Ending→World→Prop} {n:Nat} {E:Env} {M M':List a8} {R:List (World→Prop)} {v y:Value} {e:Exit} {a T Tb b s t u:Nat} {ti:TI} {cs:List Value} (he:e=.ret∨e=.normal) (hr:fn.results=#[.cell a T,.tmp t,.tmp u]) (ha:lk E a=some (.pointer (some ⟨b,0,none⟩))) (hT:G.ty T=some ti) (hag:ti.agg=true) (hsz:ti.size=s) (hM:Up (.aT b cs Tb) (.aT b cs Tb) M M') (hl:cs.length=s) (hv:lk E t=some v) (hy:lk E u=some y) (hR:∀w,Ok M R w→Rp (.returned (.tuple #[.agg cs.toArray,v,y])) w):ah (bodyPost G.P fn Rp) n e E M R:=
 ⟨fun w hw=>Fin.sG he hr ha hT hag hsz (hw.m _ hM.mem).1 hl hv hy (hR w hw)⟩
set_option maxHeartbeats 8000000 in
theorem jU (F:Nat→Prop) (s:bP) (y:jq) (w:World) (h:aY s F w y) (hp:0<s.ps.length) (h0:0≤s.at_):Calls G.P 116 #[.agg (fI s y).toArray] w (bg (aY (aU s).1) (fun y=>.tuple #[.agg (fI (aU s).1 y).toArray,.int .i64 (aU s).2.1,.int .i64 (aU s).2.2]) F w):=by
 have hh:=h
 obtain⟨p1,c1,p2,c2,p3,c3,rfl,k1,k2,k3⟩:=h.fP
 obtain⟨h1,h2,h3,-⟩:=h
 dsimp only at h1 h2 h3
 obtain⟨_,_,_,hl1⟩:=h1.slice
 have hmk:∀w',Ext w w'→Calls G.P 118 #[.agg #[.slice p1 s.ts.length c1,.slice p2 s.ps.length c2,.slice p3 s.ps.length c3,.int .i64 s.bH]] w' fun e w2=>e=.returned (.int .i64 s.at_)∧Ext w' w2:=fun w' hx=>od F s ⟨.slice p1 s.ts.length c1,.slice p2 s.ps.length c2,.slice p3 s.ps.length c3⟩ w' (aY.fr s hh hx (fun _ _ _ h=>h)) hp
 have hlo:∀w',Ext w w'→Calls G.P 158 #[.agg #[.slice p1 s.ts.length c1,.slice p2 s.ps.length c2,.slice p3 s.ps.length c3,.int .i64 s.bH]] w' fun e w2=>e=.returned (.bool s.loose)∧Ext w' w2:=fun w' hx=>xC F s ⟨.slice p1 s.ts.length c1,.slice p2 s.ps.length c2,.slice p3 s.ps.length c3⟩ w' (aY.fr s hh hx (fun _ _ _ h=>h)) hp
 by_cases hlt:s.at_<s.ts.length
 ·rw[show aU s=({s with ts:=s.ts.take (s.ts.length - 1)},ix s.ts (s.ts.length - 1),0)from if_pos hlt]
  obtain⟨b,o,rfl,-,hc⟩:=h1.at (i:=s.ts.length - 1) Mj
  have hcj:=hc (s.ts.length - 1) Mj
  have hcc:=(h1.slice)
  refine ae (l:=[_]) Tryz.func116 rfl Tryz.ntmps116 rfl (Ok.start w) ?_
  dsimp only[fI]
  repeat'(first|refine ar ?_|(refine aC fun b_=>?_)|(refine dc fun b_=>?_)|refine Lc ?_|(refine aa.ek ?_;refine aa.y_ (Yl.gh (i:=s.ts.length - 1) rfl rfl rfl rfl rfl Mj Mj) rfl ?_)|(refine aa.y_ (Yl.cO (i:=s.ts.length - 1) rfl rfl rfl rfl rfl Mj Mj) rfl ?_)|fail)
  all_goals exact ah.sG (.inl rfl) rfl rfl rfl rfl rfl aA rfl rfl rfl fun w' hw'=>⟨⟨(⟨.slice (some ⟨b,o,none⟩) (s.ts.length - 1) c1,.slice p2 s.ps.length c2,.slice p3 s.ps.length c3⟩:jq),rfl,(h1.take (s.ts.length - 1) Mj).ki hw' ak,h2.ki hw' ak,iG.ki h3 hw' ak,(by show s.ts.length - 1≤c1;omega),k2,k3⟩,hw'.at⟩
 ·have e:aU s=if s.loose=true then(s,0,0)else(s,0,13):=if_neg hlt
  rw[e]
  obtain⟨lo,hl⟩:∃b,s.loose=b:=⟨_,rfl⟩
  rw[hl]at hlo ⊢
  cases lo with
  |true=>
   rw[if_pos rfl]
   refine ae (l:=[_]) Tryz.func116 rfl Tryz.ntmps116 rfl (Ok.start w) ?_
   dsimp only[fI]
   repeat'(first|refine ar ?_|(refine aC fun b_=>?_)|(refine dc fun b_=>?_)|refine Lc ?_|(refine aa.ai (f:=158) ?_;refine aa.aq rfl rfl rfl (fun w' hw'=>hlo w' hw'.at) ?_)|fail)
   all_goals first|omega|skip
   refine J2 ?_
   exact qr
  |false=>
   rw[if_neg Mh]
   refine ae (l:=[_]) Tryz.func116 rfl Tryz.ntmps116 rfl (Ok.start w) ?_
   dsimp only[fI]
   repeat'(first|refine ar ?_|(refine aC fun b_=>?_)|(refine dc fun b_=>?_)|refine Lc ?_|(refine aa.ai (f:=158) ?_;refine aa.aq rfl rfl rfl (fun w' hw'=>hlo w' hw'.at) ?_)|fail)
   all_goals first|omega|skip
   refine J2 ?_
   exact qr
def oA (l:List Bool):List Value:=l.map Value.bool
abbrev HF:Nat:=4
abbrev Hf:Nat:=3
theorem DK {w:World} {B T:Nat} {v:Value} {xs:List Bool} (h:w.ownsRow B T 1 v xs.length (oA xs)) (hl:xs.length≤17592186044416):iG (fun k=>v.ownBlock=some k) w v xs:=by
 obtain⟨p,c,rfl,hn,hc,hg⟩:=ax h
 refine⟨p,c,rfl,hl,?_⟩
 by_cases h0:xs.length=0
 ·exact .inl (List.eq_nil_of_length_eq_zero h0)
 ·obtain⟨g,rfl,-⟩:=hg Mj
  refine .inr ⟨g,0,rfl,rfl,fun i hi=>?_⟩
  show w.cell? ⟨g,0+i*1,none⟩=some (.bool (ix xs i))
  rw[Nat.mul_one,Nat.zero_add]
  exact dP h (by unfold oA;rw[List.getElem?_map,gZ hi];rfl)
theorem wA {F:Nat→Prop} {w w':World} {M:List a8} {R:List (World→Prop)} {B T n:Nat} {v:Value} {cs:List Value} (xs:List Bool) (hw:Ok M R w') (hR:Ext w∈R) (hm:a8.own B T 1 v n cs∈M) (hn:n=xs.length) (hcs:cs=oA xs) (hl:xs.length≤17592186044416):iG (fun k=>F k∨w.heap.size≤k) w' v xs:=by
 subst hn hcs
 have ho:w'.ownsRow B T 1 v xs.length (oA xs):=(hw.m _ hm).1
 refine iG.mono (DK ho hl) fun k _ hk=>.inr ?_
 rcases Nat.lt_or_ge k w.heap.size with h|h
 ·exact(hw.origin (S:=fun _=>False) hR k ⟨_,hm,hk⟩ h).elim
 ·exact h
theorem CW {F:Nat→Prop} {w:World} {p:Option Addr} {n c:Nat} {xs:List Bool} {M:List a8} {R:List (World→Prop)} (h:iG F w (.slice p n c) xs) (hR:Ext w∈R):xs.length=0∨∃bk o,p=some ⟨bk,o,none⟩∧∀w',Ok M R w'→∀j u,(oA xs)[j]?=some u→w'.cell? ⟨bk,o+j,none⟩=some u:=by
 obtain⟨p',c',e,hl,h⟩:=h
 cases e
 rcases h with h|⟨b,o,rfl,hF,h⟩
 ·exact .inl (by rw[h];rfl)
 ·refine .inr ⟨b,o,rfl,fun w' hw' j u hj=>?_⟩
  have hj':j<xs.length:=by have:=(List.getElem?_eq_some_iff.1 hj).1;simpa[oA]using this
  have h1:w.cell? ⟨b,o+j*1,none⟩=some (.bool (ix xs j)):=h j hj'
  rw[Nat.mul_one]at h1
  refine(show Ext w w' from hw'.at hR).cell ?_
  rw[h1,←hj];unfold oA;rw[List.getElem?_map,gZ hj'];rfl
theorem iG.take {F:Nat→Prop} {w:World} {p:Option Addr} {n c:Nat} {xs:List Bool} (h:iG F w (.slice p n c) xs) (k:Nat) (hk:k≤xs.length):iG F w (.slice p k c) (xs.take k):=by
 obtain⟨p',c',e,hl,h⟩:=h
 cases e
 have ht:(xs.take k).length=k:=by rw[List.length_take];omega
 refine⟨p,c,by rw[ht],by omega,?_⟩
 rcases h with h|⟨b,o,rfl,hF,h⟩
 ·exact .inl (by rw[h];simp)
 ·refine .inr ⟨b,o,rfl,hF,fun i hi=>?_⟩
  rw[ht]at hi
  rw[cD Mj,List.getElem_take,←cD Mj]
  exact h i Mj
theorem Aa (xs:List Bool):∀u∈oA xs,u.oneCell'=true:=by
 intro u hu;obtain⟨a,_,rfl⟩:=List.mem_map.1 hu;rfl
theorem pd {xs ys:List Int} {j:Nat} (hx:j<xs.length) (hy:j<ys.length) (h:xs.take j=ys.take j):xs.take (j+1)=ys.take (j+1)↔ix xs j=ix ys j:=by
 rw[bE hx,bE hy,h]
 constructor
 ·intro h;simpa using h
 ·intro h;rw[h]
set_option maxHeartbeats 8000000 in
theorem zk (F F':Nat→Prop) (xs ys:List Int) (v u:Value) (w:World) (h:af F w v xs) (h':af F' w u ys):Calls G.P 27 #[v,u] w fun e w'=>e=.returned (.bool (decide (xs=ys)))∧Ext w w':=by
 obtain⟨p,c,rfl,hl⟩:=h.slice
 obtain⟨q,d,rfl,hl'⟩:=h'.slice
 refine ae (l:=[_,_]) Tryz.func27 rfl Tryz.ntmps27 rfl (Ok.start w) ?_
 by_cases hlen:xs.length=ys.length
 ·repeat'(first|refine ar ?_|fail)
  refine J3 ?_
  rintro j ⟨hj,heq⟩
  by_cases hjl:j<xs.length
  ·obtain⟨b7,o7,rfl,-,hc⟩:=h.at hjl
   obtain⟨b8,o8,rfl,-,hc'⟩:=h'.at (show j<ys.length by omega)
   have hcj:=hc j hjl
   have hcj':=hc' j Mj
   have hst:=pd hjl (show j<ys.length by omega) heq
   by_cases he:ix xs j=ix ys j
   ·repeat'(first|refine ar ?_|fail)
    all_goals exact rd
   ·repeat'(first|refine ar ?_|fail)
    all_goals exact rt
  ·obtain rfl:j=xs.length:=by omega
   rw[List.take_length,hlen,List.take_length]at heq
   repeat'(first|refine ar ?_|fail)
   all_goals exact rx
 ·repeat'(first|refine ar ?_|fail)
  all_goals exact t6
theorem Bj (w:World):Calls G.P 53 #[] w (GJ ⟨[],[(0,false)],0⟩ (fun _=>False) w):=by
 refine ae (l:=[]) Tryz.func53 rfl Tryz.ntmps53 rfl (Ok.start w) ?_
 repeat'(first|refine ar ?_|(refine dc fun b_=>?_)|fail)
 refine JM ?_
 intro b1 _
 repeat'(first|refine ar ?_|fail)
 refine JM ?_
 intro b2 _
 refine aa.iS (b:=b2) 1 aA rfl LR ?_
 refine aa.iS (b:=b1) 1 aA rfl LR ?_
 repeat'(first|refine ar ?_|fail)
 refine J4 ?_
 intro w' hw'
 have g1:af (fun k=>(fun _=>False) k∨w.heap.size≤k) w' (.slice (some ⟨b1,0,none⟩) 1 1) [0]:=mX (n:=1) (cs:=[.int .i64 0]) [0] hw' ak bG rfl rfl Mk
 have g2:iG (fun k=>(fun _=>False) k∨w.heap.size≤k) w' (.slice (some ⟨b2,0,none⟩) 1 1) [false]:=wA (n:=1) (cs:=[.bool false]) [false] hw' ak bG rfl rfl Mk
 exact⟨⟨(⟨.slice none 0 0,.slice (some ⟨b1,0,none⟩) 1 1,.slice (some ⟨b2,0,none⟩) 1 1⟩:jq),rfl,af.bR _ _,g1,g2,Nat.le_refl _,Nat.le_refl _,Nat.le_refl _⟩,hw'.at⟩
theorem zL (s:bP):(aR s).marks=s.marks++[(s.ts.length:Int)]∧(aR s).eB=s.eB++[false]:=by unfold bP.marks bP.eB aR;simp
set_option maxHeartbeats 8000000 in
theorem lP (F:Nat→Prop) (s:bP) (y:jq) (w:World) (h:aY s F w y) (hpl:s.ps.length≤1000000):Calls G.P 52 #[.agg (fI s y).toArray] w (GJ (aR s) F w):=by
 obtain⟨p1,c1,p2,c2,p3,c3,rfl,k1,k2,k3⟩:=h.fP
 obtain⟨h1,h2,h3,-⟩:=h
 have hml:s.marks.length=s.ps.length:=by simp[bP.marks]
 have hol:s.eB.length=s.ps.length:=by simp[bP.eB]
 dsimp only at h1 h2 h3
 have h2':=h2
 have h3':=h3
 refine ae (l:=[_]) Tryz.func52 rfl Tryz.ntmps52 rfl (Ok.start w) ?_
 dsimp only[fI]
 repeat'(first|refine ar ?_|(refine aC fun b_=>?_)|(refine dc fun b_=>?_)|fail)
 refine aa.ji 0 Hf 1 ?_
 refine aa.he (HE.gA (aX s.marks) rfl rfl (fun _=>aA) (hml ▸ iT h2 ak) (by simp[aX,hml]) rfl rfl rfl Ml Ml Ml (eV _) (by show(0+s.ps.length)*8≤_;omega) Mj (fun _ _=>Nat.zero_le _)) rfl ?_
 intro v1 _
 simp only[Nat.zero_add,List.nil_append]
 refine aa.pure (φ:=∃p c,v1=.slice p s.ps.length c) (fun w' hw'=>?_) ?_
 ·obtain⟨p,c,e,_⟩:=ax (hw'.own (v:=v1));exact⟨p,c,e⟩
 rintro⟨p4,c4,rfl⟩
 repeat'(first|refine ar ?_|fail)
 refine JM ?_
 intro b1 _
 repeat'(first|refine ar ?_|fail)
 refine JC ?_
 intro v2 _
 refine aa.pure (φ:=∃p c,v2=.slice p (s.ps.length+1) c∧s.ps.length+1≤c) (fun w' hw'=>?_) ?_
 ·obtain⟨p,c,e,h,_⟩:=ax (hw'.own (v:=v2));exact⟨p,c,e,h⟩
 rintro⟨p5,c5,rfl,k5⟩
 repeat'(first|refine ar ?_|fail)
 refine aa.ji 0 HF 1 ?_
 refine aa.he (HE.gA (oA s.eB) rfl rfl (fun _=>aA) (hol ▸ CW h3 ak) (by simp[oA,hol]) rfl rfl rfl Ml Ml Ml (Aa _) (by show(0+s.ps.length)*1≤_;omega) Mj (fun _ _=>Nat.zero_le _)) rfl ?_
 intro v3 _
 simp only[Nat.zero_add,List.nil_append]
 refine aa.pure (φ:=∃p c,v3=.slice p s.ps.length c) (fun w' hw'=>?_) ?_
 ·obtain⟨p,c,e,_⟩:=ax (hw'.own (v:=v3));exact⟨p,c,e⟩
 rintro⟨p6,c6,rfl⟩
 repeat'(first|refine ar ?_|fail)
 refine JM ?_
 intro b2 _
 repeat'(first|refine ar ?_|fail)
 refine JC ?_
 intro v4 _
 refine aa.pure (φ:=∃p c,v4=.slice p (s.ps.length+1) c∧s.ps.length+1≤c) (fun w' hw'=>?_) ?_
 ·obtain⟨p,c,e,h,_⟩:=ax (hw'.own (v:=v4));exact⟨p,c,e,h⟩
 rintro⟨p7,c7,rfl,k7⟩
 repeat'(first|refine ar ?_|fail)
 obtain⟨em,eo⟩:=zL s
 refine J4 ?_
 intro w' hw'
 have g1:af (fun k=>F k∨w.heap.size≤k) w' (.slice p5 (s.ps.length+1) c5) (aR s).marks:=by rw[em];exact mX _ hw' ak bG (by simp[hml]) Me (by simp[hml];omega)
 have g2:iG (fun k=>F k∨w.heap.size≤k) w' (.slice p7 (s.ps.length+1) c7) (aR s).eB:=by rw[eo];exact wA _ hw' ak bG (by simp[hol]) (by simp[oA]) (by simp[hol];omega)
 exact⟨⟨(⟨.slice p1 s.ts.length c1,.slice p5 (s.ps.length+1) c5,.slice p7 (s.ps.length+1) c7⟩:jq),rfl,h1.ki hw' ak,g1,g2,k1,k5,k7⟩,hw'.at⟩
theorem xZ (s:bP) (hp:0<s.ps.length):(dq s).marks=s.marks∧(dq s).eB=s.eB.take (s.ps.length - 1)++[true]:=by
 unfold dq bP.marks bP.eB bP.at_
 dsimp only
 have hne:s.ps≠[]:=by intro h;rw[h]at hp;exact absurd hp Mh
 have e:s.ps=s.ps.take (s.ps.length - 1)++[ix s.ps (s.ps.length - 1)]:=by
  have h:=bE (xs:=s.ps) (k:=s.ps.length - 1) Mj
  rw[show s.ps.length - 1+1=s.ps.length by omega,List.take_length]at h
  exact h
 have e2:s.ps.set (s.ps.length - 1) ((ix s.ps (s.ps.length - 1)).1,true)=s.ps.take (s.ps.length - 1)++[((ix s.ps (s.ps.length - 1)).1,true)]:=by
  rw[List.set_eq_take_append_cons_drop,if_pos Mj,show s.ps.length - 1+1=s.ps.length by omega,List.drop_length]
 constructor
 ·rw[e2,List.map_append]
  conv=>rhs;rw[e,List.map_append]
  rfl
 ·rw[e2,List.map_append,List.map_take]
  rfl
set_option maxHeartbeats 8000000 in
theorem yp (F:Nat→Prop) (s:bP) (y:jq) (w:World) (h:aY s F w y) (hp:0<s.ps.length) (h0:0≤s.at_) (hle:s.at_≤s.ts.length) (hpl:s.ps.length≤1000000):Calls G.P 62 #[.agg (fI s y).toArray] w (GJ (dq s) F w):=by
 have hh:=h
 obtain⟨p1,c1,p2,c2,p3,c3,rfl,k1,k2,k3⟩:=h.fP
 obtain⟨h1,h2,h3,-⟩:=h
 have hol:s.eB.length=s.ps.length:=by simp[bP.eB]
 dsimp only at h1 h2 h3
 obtain⟨_,_,_,hl1⟩:=h1.slice
 have hmk:∀w',Ext w w'→Calls G.P 118 #[.agg #[.slice p1 s.ts.length c1,.slice p2 s.ps.length c2,.slice p3 s.ps.length c3,.int .i64 s.bH]] w' fun e w2=>e=.returned (.int .i64 s.at_)∧Ext w' w2:=fun w' hx=>od F s ⟨.slice p1 s.ts.length c1,.slice p2 s.ps.length c2,.slice p3 s.ps.length c3⟩ w' (aY.fr s hh hx (fun _ _ _ h=>h)) hp
 obtain⟨k,hk⟩:∃k:Nat,s.at_=k:=⟨s.at_.toNat,by omega⟩
 rw[hk]at hmk
 refine ae (l:=[_]) Tryz.func62 rfl Tryz.ntmps62 rfl (Ok.start w) ?_
 dsimp only[fI]
 refine ar ?_
 refine aa.box [.slice p1 s.ts.length c1,.slice p2 s.ps.length c2,.slice p3 s.ps.length c3,.int .i64 s.bH] rfl rfl rfl fun b1=>?_
 repeat'(first|refine ar ?_|(refine dc fun b_=>?_)|fail)
 refine aZ.hH 6 [.aT b1 [.slice p1 s.ts.length c1,.slice p2 s.ps.length c2,.slice p3 s.ps.length c3,.int .i64 s.bH] mJ] [Ext w] bc aV ?_
 repeat'(first|refine Bl ?_|(refine bu.ep 118 ?_;refine bu.he rfl rfl (HE.dX rfl rfl (fun w' hw'=>hmk w' (hw'.get (p:=Ext w) ak))) (fun _=>bc) (fun _=>aV) ?_;rintro⟨⟩ _)|(refine bu.iq rfl (fQ.gg rfl rfl rfl rfl rfl aA nZ) ?_;rintro⟨⟩ _)|refine cK.any LX ?_|exact bZ.fin rfl|refine bZ.skip LX ?_|refine bZ.go ?_ ?_)
 repeat'(first|refine ar ?_|(refine aa.y_ (Yl.cO (i:=s.ps.length - 1) rfl rfl rfl rfl rfl Mj Mj) rfl ?_)|fail)
 refine aa.ji 0 HF 1 ?_
 have ho2:(s.eB.take (s.ps.length - 1)).length=s.ps.length - 1:=by rw[List.length_take,hol];omega
 refine aa.he (HE.gA (oA (s.eB.take (s.ps.length - 1))) rfl rfl (fun _=>aA) ((CW (iG.take h3 (s.ps.length - 1) Mj) ak).imp_left fun h=>by omega) (by simp[oA,hol]) rfl rfl rfl Ml Ml Ml (Aa _) (by show(0+(s.ps.length - 1))*1≤_;omega) Mj (fun _ _=>Nat.zero_le _)) rfl ?_
 intro v3 _
 simp only[Nat.zero_add,List.nil_append]
 refine aa.pure (φ:=∃p c,v3=.slice p (s.ps.length - 1) c) (fun w' hw'=>?_) ?_
 ·obtain⟨p,c,e,_⟩:=ax (hw'.own (v:=v3));exact⟨p,c,e⟩
 rintro⟨p6,c6,rfl⟩
 repeat'(first|refine ar ?_|fail)
 refine JM ?_
 intro b2 _
 repeat'(first|refine ar ?_|fail)
 refine JC ?_
 intro v4 _
 refine aa.pure (φ:=∃p c,v4=.slice p (s.ps.length - 1+1) c∧s.ps.length - 1+1≤c) (fun w' hw'=>?_) ?_
 ·obtain⟨p,c,e,h,_⟩:=ax (hw'.own (v:=v4));exact⟨p,c,e,h⟩
 rintro⟨p7,c7,rfl,k7⟩
 repeat'(first|refine ar ?_|fail)
 obtain⟨em,eo⟩:=xZ s hp
 refine J4 ?_
 intro w' hw'
 have g2:iG (fun k=>F k∨w.heap.size≤k) w' (.slice p7 (s.ps.length - 1+1) c7) (dq s).eB:=by rw[eo];exact wA _ hw' ak bG (by rw[List.length_append,ho2];rfl) (by simp[oA]) (by rw[List.length_append,ho2];simp;omega)
 have g1:af (fun k=>F k∨w.heap.size≤k) w' (.slice p1 k c1) (s.ts.take k):=(h1.take k Mj).ki hw' ak
 have g3:af (fun k=>F k∨w.heap.size≤k) w' (.slice p2 s.ps.length c2) (dq s).marks:=by rw[em];exact h2.ki hw' ak
 refine⟨⟨(⟨.slice p1 k c1,.slice p2 s.ps.length c2,.slice p7 (s.ps.length - 1+1) c7⟩:jq),rfl,?_,g3,g2,(by show k≤c1;omega),k2,k7⟩,hw'.at⟩
 unfold dq;dsimp only;rw[hk];exact g1
set_option maxHeartbeats 8000000 in
theorem zt (F F':Nat→Prop) (xs ys:List Int) (v u:Value) (w:World) (h:af F w v xs) (h':af F' w u ys):Calls G.P 156 #[v,u] w fun e w'=>e=.returned (.bool (decide (xs=ys)))∧Ext w w':=by
 obtain⟨p,c,rfl,hl⟩:=h.slice
 obtain⟨q,d,rfl,hl'⟩:=h'.slice
 refine ae (l:=[_,_]) Tryz.func156 rfl Tryz.ntmps156 rfl (Ok.start w) ?_
 by_cases hlen:xs.length=ys.length
 ·repeat'(first|refine ar ?_|fail)
  refine aZ.loop (σ:=Nat) (fun j=>[(0,.slice p xs.length c),(1,.slice q ys.length d),(12,.slice p xs.length c),(13,.int .i64 xs.length),(14,.int .i64 j)]) (fun _=>[]) (fun _=>[Ext w]) (fun j=>j≤xs.length∧xs.take j=ys.take j) (fun j=>xs.length - j) 0 bJ bc aV ⟨by omega,by simp⟩ ?_
  rintro j ⟨hj,heq⟩
  by_cases hjl:j<xs.length
  ·obtain⟨b7,o7,rfl,-,hc⟩:=h.at hjl
   obtain⟨b8,o8,rfl,-,hc'⟩:=h'.at (show j<ys.length by omega)
   have hcj:=hc j hjl
   have hcj':=hc' j Mj
   have hst:=pd hjl (show j<ys.length by omega) heq
   by_cases he:ix xs j=ix ys j
   ·repeat'(first|refine ar ?_|fail)
    all_goals exact rd
   ·repeat'(first|refine ar ?_|fail)
    all_goals exact rt
  ·obtain rfl:j=xs.length:=by omega
   rw[List.take_length,hlen,List.take_length]at heq
   repeat'(first|refine ar ?_|fail)
   all_goals exact rx
 ·repeat'(first|refine ar ?_|fail)
  all_goals exact t6
theorem qW (F F':Nat→Prop) (xs ys:List Int) (v u:Value) (w:World) (h:af F w v xs) (h':af F' w u ys):Calls G.P 109 #[v,u] w fun e w'=>e=.returned (.bool (decide (xs=ys)))∧Ext w w':=by
 have hs:∀w',Ext w w'→Calls G.P 156 #[v,u] w' fun e w2=>e=.returned (.bool (decide (xs=ys)))∧Ext w' w2:=fun w' hx=>zt F F' xs ys v u w' (h.aO hx (fun _ _ _ h=>h)) (h'.aO hx (fun _ _ _ h=>h))
 refine ae (l:=[_,_]) Tryz.func109 rfl Tryz.ntmps109 rfl (Ok.start w) ?_
 repeat'(first|refine ar ?_|(refine aa.ai (f:=156) ?_;refine aa.aq rfl rfl rfl (fun w' hw'=>hs w' hw'.at) ?_)|fail)
 all_goals exact am
def BK {β:Type} (V:(Nat→Prop)→World→β→Prop):Prop:=∀{D:Nat→Prop} {w:World} {x:β},V D w x→V (fun k=>D k∧k<w.heap.size) w x
theorem aY.lt (s:bP):BK (aY s):=fun h=>⟨h.1.mono fun _ hk hd=>⟨hd,hk⟩,h.2.1.mono fun _ hk hd=>⟨hd,hk⟩,iG.mono h.2.2.1 fun _ hk hd=>⟨hd,hk⟩,h.2.2.2⟩
section
variable {n:Nat} {E:Env} {M M':List a8} {R:List (World→Prop)}
theorem HE.Fc {β β2:Type} {V:(Nat→Prop)→World→β→Prop} {V2:(Nat→Prop)→World→β2→Prop} (hV:tp V) (hV2:tp V2) (hl:BK V2) {D:Nat→Prop} {y:β} {tf:β2→Value} {Mf:(Nat→Prop)×β2→List a8} {f:Nat} {args:List Operand} {tys:Array TypeId} {vs:List Value}
  (hM:∀x:(Nat→Prop)×β2,Up (.j8 V hV D y) (.j8 V2 hV2 x.1 x.2) M (Mf x)) (hf:G.fb[f]?=some true) (ha:jQ E args=some vs)
  (hc:∀w,Ok M R w→Calls G.P f vs.toArray w (bg V2 tf D w)):
  HE n (.call ⟨.value (.func f),args.toArray,tys⟩) E M R (fun _:(Nat→Prop)×β2=>True) (fun x=>tf x.2) Mf (fun _=>R):=
 ⟨fun w hw=>(ck.call hf ha (hc w hw) (fun e w' h=>by obtain⟨⟨x,e1,_⟩,_⟩:=h;exact⟨_,e1⟩)).mono fun v w' ⟨⟨x,e1,hv⟩,hx⟩=>by
  cases e1
  refine⟨(fun k=>(D k∨w.heap.size≤k)∧k<w'.heap.size,x),trivial,rfl,hw.yu (hM _) (hx.mono fun _ _ h=>h.elim) (hl hv) ?_⟩
  rintro k ⟨hk,hlt⟩
  exact⟨hlt,fun h=>hk.elim (fun h=>h) (fun h2=>absurd h Mj)⟩⟩
end
theorem AB {s:bP} {n:Nat} (h:s.at_≤n) (hn:n≤s.ts.length) (h0:0≤s.at_):∃n' a e,aU {s with ts:=s.ts.take n}=({s with ts:=s.ts.take n'},a,e)∧s.at_≤n'∧n'≤n:=by
 have e1:(s.ts.take n).length=n:=by rw[List.length_take];omega
 have e2:({s with ts:=s.ts.take n}:bP).at_=s.at_:=rfl
 unfold aU
 rw[e2]
 dsimp only
 rw[e1]
 split
 ·exact⟨n - 1,_,_,by rw[List.take_take,Nat.min_eq_left Mj],by omega,by omega⟩
 ·split
  ·exact⟨n,_,_,rfl,h,Nat.le_refl _⟩
  ·exact⟨n,_,_,rfl,h,Nat.le_refl _⟩
theorem CP {l:List Int} {j:Nat} (h:j<l.length):(l.take (j+1)).reverse=ix l j::(l.take j).reverse:=by
 rw[bE h];simp
def jq.Sl (y:jq):Prop:=∃p1 n1 c1 p2 n2 c2 p3 n3 c3,y=⟨.slice p1 n1 c1,.slice p2 n2 c2,.slice p3 n3 c3⟩
theorem jq.Sl.mk (p1:Option Addr) (n1 c1:Nat) (p2:Option Addr) (n2 c2:Nat) (p3:Option Addr) (n3 c3:Nat):jq.Sl ⟨.slice p1 n1 c1,.slice p2 n2 c2,.slice p3 n3 c3⟩:=⟨p1,n1,c1,p2,n2,c2,p3,n3,c3,rfl⟩
def AF (F:Nat→Prop) (w0:World) (D:Nat→Prop):Nat→Prop:=fun k=>(F k∧k<w0.heap.size)∨D k
theorem DI (F:Nat→Prop) (w:World):AF F w (fun _=>False)=fun k=>F k∧k<w.heap.size:=funext fun k=>by simp[AF]
def An {β:Type} (V:(Nat→Prop)→World→β→Prop) (w0:World) (F:Nat→Prop):(Nat→Prop)→World→β→Prop:=fun D w x=>∀w',Ext w0 w'→cg (fun k=>¬D k) w w'→V (AF F w0 D) w' x
section
variable {β:Type} {V:(Nat→Prop)→World→β→Prop} {w0:World} {F:Nat→Prop}
theorem An.fr:tp (An V w0 F):=fun{D _S _x _w _w'} h hc hd w2 h0 h2=>h w2 h0 ((hc.mono (T:=fun k=>¬D k) fun k hk hs hD=>hd k hk hD hs).trans h2)
theorem An.now {D:Nat→Prop} {w:World} {x:β} (h:An V w0 F D w x) (hx:Ext w0 w):V (AF F w0 D) w x:=h w hx (cg.refl _ w)
theorem An.mk {D:Nat→Prop} {w:World} {x:β} (hV:tp V) (h:V (AF F w0 D) w x) (hx:Ext w0 w):An V w0 F D w x:=fun w' h0 h2=>by
 refine hV (S:=fun k=>¬AF F w0 D k) h ⟨h2.os,h2.tape,h2.output,h2.size,fun k hk hs=>?_⟩ (fun k _ hk h=>h hk)
 have hs:AF F w0 D k:=Classical.byContradiction hs
 rcases hs with⟨_,hs⟩|hs
 ·rw[h0.block k hs (fun h=>h),hx.block k hs (fun h=>h)]
 ·exact h2.block k hk (fun h=>h hs)
end
abbrev a8.an {β:Type} (V:(Nat→Prop)→World→β→Prop) (w0:World) (F D:Nat→Prop) (y:β):a8:=.j8 (An V w0 F) An.fr D y
def vP {β:Type} (V:(Nat→Prop)→World→β→Prop):Prop:=∀{D H:Nat→Prop} {w:World} {x:β},(∀k,D k→H k)→V D w x→V H w x
theorem aY.mo (s:bP):vP (aY s):=fun hd h=>aY.mono h hd
section
variable {n:Nat} {E:Env} {M M':List a8} {R:List (World→Prop)} {β β2:Type} {V:(Nat→Prop)→World→β→Prop} {V2:(Nat→Prop)→World→β2→Prop} {w0 w:World} {F D:Nat→Prop} {y:β}
theorem Ok.an (h:Ok M R w) (hR:Ext w0∈R) (hM:a8.an V w0 F D y∈M):V (AF F w0 D) w y:=An.now (h.m _ hM).1 (h.get hR)
theorem Ok.eI (hV:tp V) (hl:BK V) (h:V F w y):Ok [a8.an V w F (fun _=>False) y] [Ext w] w:=
 (Ok.start w).push (cg.refl _ w) (An.mk hV (by rw[DI];exact hl h) (cg.refl _ w)) (fun k hk=>hk.elim)
theorem bg.qg {w':World} {tf:β→Value} (hm:vP V) (hw:Ok M R w') (hR:Ext w∈R) (hM:a8.an V w F D y∈M):bg V tf F w (.returned (tf y)) w':=
 ⟨⟨y,rfl,hm (fun k hk=>hk.elim (fun h=>.inl h.1) fun h=>by
  rcases Nat.lt_or_ge k w.heap.size with hlt|hge
  ·exact(hw.origin (S:=fun _=>False) hR k ⟨_,hM,h⟩ hlt).elim
  ·exact .inr hge) (hw.an hR hM)⟩,hw.get hR⟩
theorem Ok.nV (y2:β2) (hw:Ok M R w) (hM:Up (a8.an V w0 F D y) (a8.an V2 w0 F D y2) M M') (hp:∀D w,V D w y→V2 D w y2):Ok M' R w:=
 hw.yu hM (cg.refl _ w) (fun w' h0 h2=>hp _ _ ((hw.m _ hM.mem).1 w' h0 h2)) fun k hk=>⟨(hw.m _ hM.mem).2 k hk,fun _=>hk⟩
theorem HE.bF (hV2:tp V2) (hl:BK V2) (hm:vP V2) {tf:β2→Value} {Mf:(Nat→Prop)×β2→List a8} {f:Nat} {args:List Operand} {tys:Array TypeId} {vs:List Value}
  (hR:Ext w0∈R) (h0:a8.an V w0 F D y∈M) (hM:∀x:(Nat→Prop)×β2,Up (a8.an V w0 F D y) (a8.an V2 w0 F x.1 x.2) M (Mf x)) (hf:G.fb[f]?=some true) (ha:jQ E args=some vs)
  (hc:∀w,Ok M R w→V (AF F w0 D) w y→Calls G.P f vs.toArray w (bg V2 tf (AF F w0 D) w)):
  HE n (.call ⟨.value (.func f),args.toArray,tys⟩) E M R (fun _:(Nat→Prop)×β2=>True) (fun x=>tf x.2) Mf (fun _=>R):=
 ⟨fun w hw=>(ck.call hf ha (hc w hw (hw.an hR h0)) (fun e w' h=>by obtain⟨⟨x,e1,_⟩,_⟩:=h;exact⟨_,e1⟩)).mono fun v w' ⟨⟨x,e1,hv⟩,hx⟩=>by
  cases e1
  refine⟨(fun k=>(D k∨w.heap.size≤k)∧k<w'.heap.size,x),trivial,rfl,hw.yu (hM _) (hx.mono fun _ _ h=>h.elim) (An.mk hV2 (hm ?_ (hl hv)) ((hw.get hR).trans hx)) ?_⟩
  ·rintro k ⟨(hk|hk)|hk,hlt⟩
   ·exact .inl hk
   ·exact .inr ⟨.inl hk,hlt⟩
   ·exact .inr ⟨.inr hk,hlt⟩
  ·rintro k ⟨hk,hlt⟩
   exact⟨hlt,fun h=>hk.elim (fun h=>h) (fun h2=>absurd h Mj)⟩⟩
end
def Ib (r:bP×Int) (D:Nat→Prop) (w:World) (y:jq):Prop:=y.Sl∧(r.2=0→aY r.1 D w y)
def nm (r:bP×Int) (F:Nat→Prop) (w:World):Ending→World→Prop:=bg (Ib r) (fun y=>.tuple #[.agg (fI r.1 y).toArray,.int .i64 r.2]) F w
theorem aY.Sl {s:bP} {D:Nat→Prop} {w:World} {y:jq} (h:aY s D w y):y.Sl:=by
 obtain⟨p1,c1,p2,c2,p3,c3,rfl,-⟩:=h.fP
 exact jq.Sl.mk ..
theorem nm.err {s:bP} {e:Int} {F:Nat→Prop} {w w':World} (y:jq) (hy:y.Sl) (he:e≠0) (hx:Ext w w'):nm (s,e) F w (.returned (.tuple #[.agg (fI s y).toArray,.int .i64 e])) w':=⟨⟨y,rfl,hy,fun h=>absurd h he⟩,hx⟩
theorem nm.ok {s:bP} {F D:Nat→Prop} {w w':World} {M:List a8} {R:List (World→Prop)} (y:jq) (hw:Ok M R w') (hR:Ext w∈R) (hM:a8.an (aY s) w F D y∈M):nm (s,0) F w (.returned (.tuple #[.agg (fI s y).toArray,.int .i64 0])) w':=by
 obtain⟨⟨x,e,h⟩,hx⟩:=bg.qg (V:=aY s) (tf:=fun y=>.tuple #[.agg (fI s y).toArray,.int .i64 0]) (aY.mo s) hw hR hM
 exact⟨⟨x,e,aY.Sl h,fun _=>h⟩,hx⟩
set_option maxHeartbeats 8000000 in
theorem eC (F D2:Nat→Prop) (s:bP) (y:jq) (v:Value) (l:List Int) (w:World) (h:aY s F w y) (hI:af D2 w v l) (hp:0<s.ps.length) (h0:0≤s.at_) (hle:s.at_≤s.ts.length):
  Calls G.P 58 #[.agg (fI s y).toArray,v] w (nm (aE s l) F w):=by
 obtain⟨p1,c1,p2,c2,p3,c3,rfl,k1,k2,k3⟩:=h.fP
 obtain⟨q,d,rfl,hql⟩:=hI.slice
 refine ae (l:=[_,_]) Tryz.func58 rfl Tryz.ntmps58 rfl (Ok.eI (V:=aY s) (aY.fr s) (aY.lt s) h) ?_
 obtain⟨r,hr⟩:∃r,ew s l.reverse s.ts.length=r:=⟨_,rfl⟩
 have hwk:aE s l=if r.2=0 then({s with ts:=s.ts.take r.1},0)else(s,r.2):=by unfold aE;rw[hr]
 rw[hwk]
 dsimp only[fI]
 refine ar ?_
 refine aa.box [.slice p1 s.ts.length c1,.slice p2 s.ps.length c2,.slice p3 s.ps.length c3,.int .i64 s.bH] rfl rfl rfl fun b2=>?_
 refine aa.alloc (t:=mJ) [.slice none 0 0,.slice none 0 0,.slice none 0 0,.int .i64 0] rfl rfl rfl fun b4=>?_
 refine ar ?_
 refine aa.alloc (t:=mJ) [.slice none 0 0,.slice none 0 0,.slice none 0 0,.int .i64 0] rfl rfl rfl fun b6=>?_
 repeat'(first|refine ar ?_|(refine a7 ?_ ?_<;>intro hc_))
 refine aZ.loop (σ:=Nat×Nat×(Nat→Prop)×(Option Addr×Nat×Option Addr×Nat×Option Addr×Nat)) (fun z=>[(1,.slice q l.length d),(2,.pointer (some ⟨b2,0,none⟩)),(4,.pointer (some ⟨b4,0,none⟩)),(6,.pointer (some ⟨b6,0,none⟩)),(7,.int .i64 ((z.1:Int) - 1))])
  (fun z=>[.aT b6 [.slice p1 s.ts.length c1,.slice p2 s.ps.length c2,.slice p3 s.ps.length c3,.int .i64 s.bH] mJ,.aT b4 [.slice none 0 0,.slice none 0 0,.slice none 0 0,.int .i64 0] mJ,.aT b2 [.slice z.2.2.2.1 z.2.1 z.2.2.2.2.1,.slice z.2.2.2.2.2.1 s.ps.length z.2.2.2.2.2.2.1,.slice z.2.2.2.2.2.2.2.1 s.ps.length z.2.2.2.2.2.2.2.2,.int .i64 s.bH] mJ,a8.an (aY {s with ts:=s.ts.take z.2.1}) w F z.2.2.1 ⟨.slice z.2.2.2.1 z.2.1 z.2.2.2.2.1,.slice z.2.2.2.2.2.1 s.ps.length z.2.2.2.2.2.2.1,.slice z.2.2.2.2.2.2.2.1 s.ps.length z.2.2.2.2.2.2.2.2⟩])
  (fun _=>[Ext w]) (fun z=>z.1≤l.length∧s.at_≤z.2.1∧z.2.1≤s.ts.length∧ew s (l.take z.1).reverse z.2.1=r) (fun z=>z.1) (l.length,s.ts.length,fun _=>False,p1,c1,p2,c2,p3,c3) bJ ?_ aV ⟨Nat.le_refl _,hle,Nat.le_refl _,by rw[List.take_length];exact hr⟩ ?_
 ·dsimp only
  rw[List.take_length]
  exact bc
 rintro⟨j,nn,DD,q1,k1,q2,k2,q3,k3⟩ ⟨hj,ha,hnn,hlk⟩
 dsimp only at hj ha hnn hlk ⊢
 rcases Nat.eq_zero_or_pos j with rfl|hj0
 ·rw[List.take_zero]at hlk
  obtain rfl:(nn,(0:Int))=r:=hlk
  rw[if_pos rfl]
  dsimp only
  repeat'(first|refine ar ?_|(refine a7 ?_ ?_<;>intro hc_))
  all_goals first|omega|skip
  all_goals(refine ah.aF (.inl rfl) rfl rfl rfl rfl rfl aA rfl rfl ?_;exact fun w' hw'=>nm.ok (D:=DD) ⟨.slice q1 nn k1,.slice q2 s.ps.length k2,.slice q3 s.ps.length k3⟩ hw' ak bG)
 ·obtain⟨i,rfl⟩:∃i,j=i+1:=⟨j - 1,by omega⟩
  rw[show((i+1:Nat):Int) - 1=i by omega]
  obtain⟨bl,ol,rfl,-,hc⟩:=hI.at (i:=i) Mj
  have e1:(s.ts.take nn).length=nn:=by rw[List.length_take];omega
  rw[CP Mj,Bx ha hnn h0]at hlk
  obtain⟨n',a,e,hpk,ha',hn'⟩:=AB ha hnn h0
  have e2:(s.ts.take n').length=n':=by rw[List.length_take];omega
  rw[hpk]at hlk
  dsimp only at hlk
  rw[e2]at hlk
  have hpop:∀DD w',aY {s with ts:=s.ts.take nn} DD w' ⟨.slice q1 nn k1,.slice q2 s.ps.length k2,.slice q3 s.ps.length k3⟩→Calls G.P 116 #[.agg #[.slice q1 nn k1,.slice q2 s.ps.length k2,.slice q3 s.ps.length k3,.int .i64 s.bH]] w' (bg (aY {s with ts:=s.ts.take n'}) (fun y=>.tuple #[.agg #[y.l,y.m,y.o,.int .i64 s.bH],.int .i64 a,.int .i64 e]) DD w'):=fun DD w' h=>by
   have:=jU DD {s with ts:=s.ts.take nn} _ w' h hp h0
   rw[hpk]at this;exact this
  have hc1:=hc i Mj
  repeat'(first|refine ar ?_|(refine a7 ?_ ?_<;>intro hc_))
  refine aa.he (HE.bF (V:=aY {s with ts:=s.ts.take nn}) (V2:=aY {s with ts:=s.ts.take n'}) (w0:=w) (F:=F) (D:=DD) (y:=⟨.slice q1 nn k1,.slice q2 s.ps.length k2,.slice q3 s.ps.length k3⟩) (aY.fr _) (aY.lt _) (aY.mo _) ak bG (fun _=>aA) rfl rfl (fun w' _ h=>hpop _ w' h)) rfl ?_
  rintro⟨D',y'⟩ _
  refine aa.pure (φ:=∃p1 c1 p2 c2 p3 c3,y'=⟨.slice p1 n' c1,.slice p2 s.ps.length c2,.slice p3 s.ps.length c3⟩) (fun w' hw'=>?_) ?_
  ·obtain⟨p1,c1,p2,c2,p3,c3,e,-⟩:=(hw'.an (V:=aY {s with ts:=s.ts.take n'}) (w0:=w) (F:=F) (D:=D') (y:=y') ak bG).fP
   dsimp only at e;rw[e2]at e;exact⟨p1,c1,p2,c2,p3,c3,e⟩
  rintro⟨q4,k4,q5,k5,q6,k6,rfl⟩
  dsimp only
  by_cases he:e=0
  ·subst he
   rw[if_neg Mh]at hlk
   by_cases hm:a≠ix l i∧a≠0∧ix l i≠0
   ·rw[if_pos hm]at hlk
    subst hlk
    rw[if_neg Mh]
    dsimp only
    repeat'(first|refine ar ?_|(refine dc fun b_=>?_)|refine K5 ?_|refine KW ?_|(refine a7 ?_ ?_<;>intro hc_))
    all_goals first|(exfalso;simp_all;done)|skip
    all_goals(refine ah.aF (.inl rfl) rfl rfl rfl rfl rfl aA rfl rfl ?_;exact fun w' hw'=>nm.err (e:=_) ⟨.slice p1 s.ts.length c1,.slice p2 s.ps.length c2,.slice p3 s.ps.length c3⟩ (jq.Sl.mk ..) Mh hw'.at)
   ·rw[if_neg hm]at hlk
    repeat'(first|refine ar ?_|(refine dc fun b_=>?_)|refine K5 ?_|refine KW ?_|(refine a7 ?_ ?_<;>intro hc_))
    all_goals first|exact ah.next (i,n',D',q4,k4,q5,k5,q6,k6) bJ bc aV ⟨by dsimp only;omega,ha',by dsimp only;omega,hlk⟩ LT|(exfalso;simp_all;done)|skip
    all_goals trace_state
  ·rw[if_pos he]at hlk
   subst hlk
   rw[if_neg he]
   dsimp only
   repeat'(first|refine ar ?_|(refine dc fun b_=>?_)|(refine a7 ?_ ?_<;>intro hc_))
   all_goals(refine ah.aF (.inl rfl) rfl rfl rfl rfl rfl aA rfl rfl ?_;exact fun w' hw'=>nm.err (e:=_) ⟨.slice p1 s.ts.length c1,.slice p2 s.ps.length c2,.slice p3 s.ps.length c3⟩ (jq.Sl.mk ..) he hw'.at)
end Go.Proofs.YtgbgnipidakdhaaGreatDoor
