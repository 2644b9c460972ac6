/- Rows of structs made and copied; the control frames (layer 22): begin and pop. -/
import Derived.Laws.CopyOwn
import Derived.Test.YtceedealggognaaGreatDoorJCv
import Derived.Test.YtceedealggognaaGreatDoorJP1
import Derived.Test.YtceedealggognaaGreatDoorJGh
namespace Go.Proofs.YtceedealggognaaGreatDoor
open Go.RowKit
set_option maxRecDepth 100000
theorem pJ {P:Program} (w:World) (dT sT ty elem:TypeId) (g dLen dCap s:Nat) (a:Addr) (sLen sCap:Nat) (cur:Array Value) (t:TypeId) (cs:List Value)
  (hu:P.underlying dT=some (.slice elem)) (hs:∀w,(sizeOf elem).run P w=.ok s w) (hg:w.heap[g]?=some (.cells cur t (0,0))) (hle:dLen≤sLen) (hn:cs.length=dLen*s)
  (hsrc:∀j v,cs[j]?=some v→w.cell? (a.add j)=some v) (hfit:cs.length≤cur.size) (h1:∀v∈cs,v.oneCell'=true):
  (Builtin.copy_ #[dT,sT] ty #[.slice (some ⟨g,0,none⟩) dLen dCap,.slice (some a) sLen sCap]).run P w=.ok (goInt dLen) (w.setRow g (cs++cur.toList.drop cs.length).toArray):=by
 have hl:=run_loadCells_list (P:=P) w a cs hsrc
 have hst:=run_storeCells_at P g 0 t cs 0 cur w hg (by simpa using hfit) h1
 have hmin:Nat.min sLen dLen=dLen:=Nat.min_eq_right hle
 have hmul:dLen*s=cs.length:=hn.symm
 simp[Builtin.copy_,run_underlying hu,Builtin.lenOf,Builtin.firstCells,hs,hmin,hmul,hl,hst]
section
variable {n:Nat} {E:Env} {M M' M'':List aU} {R:List (World→Prop)} {t:TypeId} {x y:Operand}
theorem HE.CU {ti te:TI} {e len B s:Nat} (ht:G.ty t=some ti) (he:ti.elem=some e) (hte:G.ty e=some te) (hs:te.size=s) (hx:ev E x=some (.int .i64 (len:Int))) (hbt:Nat.ble te.bytes 1000=true) (hml:len≤100000000000) (hB:∀w,Ok M R w→B≤w.heap.size):
  HE n (.makeSlice t x x) E M R (fun _:Nat=>True) (fun g=>.slice (some ⟨g,0,none⟩) len len) (fun g=>.own B e s (.slice (some ⟨g,0,none⟩) len len) len (madeCells te.zero.cells (len*te.size)).toList::M) (fun _=>R):=
 ⟨fun w hw=>(bC.make ht he hte hx (by have:=Nat.mul_le_mul (Nat.le_of_ble_eq_true hbt) hml;omega) FN (hB w hw)).mono fun v w' ⟨h1,h2,h3,h4⟩=>by
  subst h1 hs
  refine⟨w.heap.size,trivial,rfl,hw.push h3 h2 (fun k hk=>?_)⟩
  have hk':some w.heap.size=some k:=hk
  cases hk';exact⟨Nat.le_refl _,h4⟩⟩
theorem HE.Bi {ti te:TI} {B B2 T T2 s m cd sLen cS g gS e:Nat} {zs ys:List Value} (hx:ev E x=some (.slice (some ⟨g,0,none⟩) m cd)) (hy:ev E y=some (.slice (some ⟨gS,0,none⟩) sLen cS)) (hM:Up (.own B T s (.slice (some ⟨g,0,none⟩) m cd) m zs) (.own B T s (.slice (some ⟨g,0,none⟩) m cd) m (ys.take (m*s))) M M')
  (hb:Up (.own B2 T2 s (.slice (some ⟨gS,0,none⟩) sLen cS) sLen ys) (.own B2 T2 s (.slice (some ⟨gS,0,none⟩) sLen cS) sLen ys) M M'') (hle:m≤sLen) (ht:G.ty t=some ti) (he:ti.elem=some e) (hte:G.ty e=some te) (hs:te.size=s) (h1:∀u∈ys,u.oneCell'=true):
  HE n (.call ⟨.builtin .copy,#[x,y],#[t,t]⟩) E M R (fun _:Unit=>True) (fun _=>.int .i64 m) (fun _=>M') (fun _=>R):=
 ⟨fun w hw=>by
  subst hs
  have hou:=(hw.m _ hM.mem)
  have hos:w.ownsRow B2 T2 te.size (.slice (some ⟨gS,0,none⟩) sLen cS) sLen ys:=(hw.m _ hb.mem).1
  obtain⟨⟨hl,ho⟩,hlt⟩:=hou
  rcases ho with⟨e1,_⟩|⟨g',cap,cur,e1,hg,hh,hn,hc,hsz,htk⟩
  ·cases e1
  cases e1
  have hly:(ys.take (m*te.size)).length=m*te.size:=by
   rw[List.length_take,hos.1];have:=Nat.mul_le_mul_right te.size hle;omega
  have hfit:(ys.take (m*te.size)).length≤cur.size:=by rw[hly,hsz];exact Nat.mul_le_mul_right _ hn
  have hsrc:∀j v,(ys.take (m*te.size))[j]?=some v→w.cell? ((⟨gS,0,none⟩:Addr).add j)=some v:=fun j v hj=>by
   have hj':ys[j]?=some v:=by
    have hlt:=(List.getElem?_eq_some_iff.1 hj).1
    rw[hly]at hlt
    rw[List.getElem?_take]at hj
    rw[if_pos hlt]at hj;exact hj
   have:=dJ hos hj'
   have e:(⟨gS,0,none⟩:Addr).add j=⟨gS,j,none⟩:=by
    unfold Addr.add;split
    ·rename_i h0;rw[h0]
    ·simp
   rw[e];exact this
  have hrun:=fun ty=>pJ (P:=G.P) w t t ty e g m cd te.size ⟨gS,0,none⟩ sLen cS cur T (ys.take (m*te.size)) ((G.fx t ti ht).elem e he) ((G.fx e te hte).size) hh hle hly hsrc hfit (fun u hu=>h1 u (List.mem_of_mem_take hu))
  refine bC.of (v:=.int .i64 m) (w':=w.setRow g (ys.take (m*te.size)++cur.toList.drop (ys.take (m*te.size)).length).toArray) (fun ac hac d ty pos aft gd=>?_) ⟨(),trivial,rfl,hw.nA hM (w':=w.setRow g _) ⟨rfl,rfl,rfl,by simp[World.setRow],fun k hk hne=>setRow_other _ _ _ _ (fun e=>hne (by subst e;rfl))⟩ ⟨hly,.inr ⟨g,cd,_,rfl,hg,setRow_heap w g cur _ T _ hh,hn,hc,?_,?_⟩⟩ (fun k hk=>⟨?_,fun _=>hk⟩)⟩
  ·simp[execOp,resolve,invoke,builtin,hac.eval hx,hac.eval hy,hrun,goInt]
  ·have:=hfit
   simp only[List.size_toArray,List.length_append,List.length_drop,Array.length_toList]
   omega
  ·show(ys.take (m*te.size)++_).take (m*te.size)=_
   rw[List.take_append_of_le_length FY,List.take_take,Nat.min_self]
  ·have:=hlt k hk
   simpa[World.setRow]using this⟩
end
theorem eO.A3 {f:aC} {D:Nat→Prop} {w:World} {x:Value×Value} (h:eO f D w x):∃p c p' c',x=(.slice p f.params.length c,.slice p' f.results.length c'):=by
 obtain⟨p,c,e,_⟩:=h.1.slice
 obtain⟨p2,c2,e2,_⟩:=h.2.slice
 exact⟨p,c,p2,c2,by rw[←e,←e2]⟩
theorem wL (l:List Int):∀u∈aR l,u.oneCell'=true:=gB l
theorem qf:∀(fs:List mP) (fv:List (Value×Value)),(∀x∈fv,x.1.oneCell'=true∧x.2.oneCell'=true)→∀u∈cH fs fv,u.oneCell'=true
 |[],[],_,u,h=>by simp[cH]at h
 |[],y::s,_,u,h=>by simp[cH]at h
 |f::r,[],_,u,h=>by simp[cH]at h
 |f::r,x::s,hv,u,h=>by
  have ih:=qf r s (fun y hy=>hv y (by simp[hy]))
  have h':u∈eH f x++cH r s:=h
  rcases List.mem_append.1 h' with h|h
  ·have hx:=hv x FZ
   simp only[eH,List.mem_cons,List.not_mem_nil,or_false]at h
   rcases h with rfl|rfl|rfl|rfl|rfl
   ·rfl
   ·exact hx.1
   ·exact hx.2
   ·rfl
   ·rfl
  ·exact ih u h
theorem fJ.Good.one {v:fJ} {c:dq} {w:World} (h:v.Good c) (hl:fg v.D w v.L):∀x∈v.fv,x.1.oneCell'=true∧x.2.oneCell'=true:=fun x hx=>by
 obtain⟨i,hi,e⟩:=List.mem_iff_getElem.1 hx
 have hi':i<c.fs.length:=by rw[←h.len];exact hi
 have hf:=hl _ (h.fr i hi')
 rw[cI hi,e]at hf
 obtain⟨p,c1,p',c1',e1⟩:=hf.A3
 dsimp only at e1
 rw[e1];exact⟨rfl,rfl⟩
set_option maxHeartbeats 16000000 in
theorem jG (cp:Nat) (c:dq) (v:fJ) (f:mP) (x:Value×Value) (w:World) (hw:Ok (aw cp c v) [] w) (hg:v.Good c) (hin:(f.fn,x)∈v.L) (hps:0<c.aF.ps.length) (hpl:c.aF.ps.length≤1000000) (hfl:c.fs.length≤1000000) (hts:(c.aF.ts.length+f.par.length)*8≤140737488355328):
  Calls G.P 87 #[.pointer (some ⟨cp,0,none⟩),.agg (eH f x).toArray] w (nE (aw cp c v) cp (.tuple #[]) (lh c c.aF c.fs f) w):=by
 obtain⟨sp,tv,pv,bv,rv,fv,D,L⟩:=v
 have hrd:pO cp c ⟨sp,tv,pv,bv,rv,fv,D,L⟩ w:=hw.uM (List.Sublist.refl _)
 obtain⟨p,cc,e,hcp,hmx,-⟩:=au hrd.o
 dsimp only at e hin
 subst e
 obtain⟨p1,c1,p2,c2,hx⟩:=eO.A3 (hrd.l _ hin)
 dsimp only at hx
 subst hx
 refine aj (l:=[.pointer (some ⟨cp,0,none⟩),.agg (eH f _).toArray]) Tryz.func87 rfl Tryz.ntmps87 rfl (Ok.bV hw) ?_
 unfold nE
 generalize hS:Mb (aw cp c ⟨sp,tv,pv,.slice p c.fs.length cc,rv,fv,D,L⟩)=S0
 dsimp only[aw,ax,List.cons_append,List.nil_append]
 repeat'(first|refine ay ?_|fail)
 refine aa.box (eH f (.slice p1 f.par.length c1,.slice p2 f.res.length c2)) rfl rfl rfl fun b3=>?_
 dsimp only[eH]
 repeat'(first|refine ay ?_|fail)
 refine aa.he (HE.aS (M0:=[.aH sp [tv,pv,.bool (cE c.aF)] fH,.own 0 eV 1 tv c.aF.ts.length (aR c.aF.ts),.own 0 fG 2 pv c.aF.ps.length (bw c.aF.ps)]) cv rfl rfl (fun w' hw'=>oX sp c.aF (tv,pv) w' (hw'.bT cM (fun p h=>by cases h)) hps hpl)) rfl ?_
 rintro⟨tv2,pv2⟩ _
 dsimp only[aw,ax,List.cons_append,List.nil_append]
 repeat'(first|refine ay ?_|fail)
 refine aP.cq [0,1,2,3,4,5,6] 7 _ _ FT (List.Sublist.refl _) (fun _ h=>h) ?_
 refine jA ?_
 refine aM.BT (HE.aS (M0:=[.aH sp [tv2,pv2,.bool (cE (eM c.aF))] fH,.own 0 eV 1 tv2 (eM c.aF).ts.length (aR (eM c.aF).ts),.own 0 fG 2 pv2 (eM c.aF).ps.length (bw (eM c.aF).ps)]) cv rfl rfl (fun w' hw'=>eo D sp (eM c.aF) (tv2,pv2) _ f.par w' ((hw'.freeze (q:=.iy fg fg.fr D L) (p:=fun w=>af D w (.slice p1 f.par.length c1) f.par) gV (fun _ h=>(h _ hin).1)).bT cM aX) (by simp[eM]) hts)) rfl ?_
 rintro⟨tv3,pv3⟩ _
 dsimp only[aw,ax,List.cons_append,List.nil_append]
 repeat'(first|refine ay ?_|fail)
 refine aP.cq [0,1,2,3,4,5,6,7,8,9] 10 [.aH b3 [.int .i64 f.kind,.slice p1 f.par.length c1,.slice p2 f.res.length c2,.bool f.other,.bool f.yu] m8,.aH cp [.pointer (some ⟨sp,0,none⟩),.slice p c.fs.length cc,rv,.bool c.live,.int .i64 c.broken] fl] [] FT bN aX ?_
 refine jA ?_
 refine EA ?_
 intro b5 _
 refine EB ?_
 intro bv2 _
 refine aM.pure (φ:=∃p c',bv2=.slice p (c.fs.length+1) c') (fun w' hw'=>?_) ?_
 ·obtain⟨p,c,e,_⟩:=au (hw'.own (v:=bv2));exact⟨p,c,e⟩
 rintro⟨p3,c3,rfl⟩
 refine jA ?_
 refine aM.gR (gI.dZ rfl rfl rfl rfl rfl bM lE) rfl ?_
 rintro⟨⟩ _
 repeat'(first|refine ay ?_|fail)
 refine ai.km rfl fun w' hw'=>?_
 refine aq.lU (x:=(⟨sp,tv3,pv3,.slice p3 (c.fs.length+1) c3,rv,fv++[(.slice p1 f.par.length c1,.slice p2 f.res.length c2)],D,L⟩:fJ)) ⟨?_,fun i hi=>?_,hg.rs⟩ hS hw' (by unfold lh;dsimp only[aw,ax,List.cons_append,List.nil_append];rw[qe _ _ _ _ hg.len,List.length_append];dsimp only[eH,List.length_cons,List.length_nil];exact cM) ao
 ·show(fv++[_]).length=(c.fs++[f]).length
  have:=hg.len
  simp at this ⊢;exact this
 ·have hlen:=hg.len
  dsimp only at hlen
  have hi':i<(c.fs++[f]).length:=hi
  show((ix (c.fs++[f]) i).fn,ix (fv++[_]) i)∈L
  by_cases hlt:i<c.fs.length
  ·rw[jm hlt,jm (show i<fv.length by omega)];exact hg.fr i hlt
  ·have:i=c.fs.length:=by rw[List.length_append,List.length_singleton]at hi';omega
   subst this
   rw[h9 (Nat.le_refl _),h9 (show fv.length≤c.fs.length by omega),hlen,Nat.sub_self]
   exact hin
theorem Yl.AM {n:Nat} {E:Env} {M:List aU} {R:List (World→Prop)} {t:TypeId} {x:Operand} {ti:TI} {B T s s' m g cap o:Nat} {xs cs:List Value} (ht:G.ty t=some ti) (ha:ti.agg=true) (hx:ev E x=some (.pointer (some ⟨g,o,none⟩))) (hs:ti.size=s') (hl:cs.length=s') (hc:∀j,j<s'→xs[o+j]?=cs[j]?) (hM:aU.own B T s (.slice (some ⟨g,0,none⟩) m cap) m xs∈M):Yl G n (.load t x) E (Ok M R) (.agg cs.toArray):=
 Yl.mW ht ha hs hx hl fun w hw j hj=>by
  have h1:=hc j hj
  obtain⟨u,hu⟩:∃u,cs[j]?=some u:=⟨_,List.getElem?_eq_getElem (show j<cs.length by omega)⟩
  rw[hu]at h1 ⊢
  exact dJ (hw.m _ hM).1 h1
set_option maxHeartbeats 16000000 in
theorem sm (cp:Nat) (c:dq) (v:fJ) (w:World) (hw:Ok (aw cp c v) [] w) (hg:v.Good c) (h0:0<c.fs.length) (hfl:c.fs.length≤1000000):
  Calls G.P 89 #[.pointer (some ⟨cp,0,none⟩)] w (aq (aw cp c v) w (fun _:Value=>.agg (eH c.top (ix v.fv (c.fs.length - 1))).toArray) (fun _=>True) (fun bv'=>aw cp {c with fs:=c.fs.take (c.fs.length - 1)} {v with bv:=bv',fv:=v.fv.take (c.fs.length - 1)})):=by
 obtain⟨sp,tv,pv,bv,rv,fv,D,L⟩:=v
 have hrd:pO cp c ⟨sp,tv,pv,bv,rv,fv,D,L⟩ w:=hw.uM (List.Sublist.refl _)
 obtain⟨p,cc,e,hcp,hmx,hgg⟩:=au hrd.o
 dsimp only at e
 subst e
 obtain⟨g,rfl,-⟩:=hgg h0
 have hone:=qf c.fs fv (hg.one hrd.l)
 obtain⟨q1,d1,q2,d2,hx⟩:=(hrd.l _ (hg.fr (c.fs.length - 1) FY)).A3
 have hc5:∀j,j<5→(cH c.fs fv)[0+(c.fs.length - 1)*5+j]?=(eH (ix c.fs (c.fs.length - 1)) (ix fv (c.fs.length - 1)))[j]?:=fun j hj=>by rw[Nat.zero_add];exact jl c.fs fv (c.fs.length - 1) j hg.len FY hj
 dsimp only at hx hc5 ⊢
 rw[hx]at hc5 ⊢
 rw[show c.top=ix c.fs (c.fs.length - 1)from rfl]
 generalize ix c.fs (c.fs.length - 1)=f at*
 dsimp only[eH]at hc5 ⊢
 have e1:(c.fs.length:Int) - 1=((c.fs.length - 1:Nat):Int):=by omega
 refine aj (l:=[_]) Tryz.func89 rfl Tryz.ntmps89 rfl (Ok.bV hw) ?_
 generalize hS:Mb (aw cp c ⟨sp,tv,pv,.slice (some ⟨g,0,none⟩) c.fs.length cc,rv,fv,D,L⟩)=S0
 dsimp only[aw,ax,List.cons_append,List.nil_append]
 repeat'(first|refine ay ?_|(refine aa.gn (t:=m8) ?_;refine aa.alloc (t:=m8) [.int .i64 0,.slice none 0 0,.slice none 0 0,.bool false,.bool false] rfl rfl rfl fun b_=>?_)|fail)
 rw[e1]
 repeat'(first|refine ay ?_|(refine aa.dX ?_;refine aa.y_ (Yl.idx (i:=c.fs.length - 1) rfl rfl rfl rfl rfl FY FY) rfl ?_)|(refine aa.bW ?_;refine aa.y_ (Yl.AM rfl rfl rfl F0 F0 hc5 gG) rfl ?_)|(refine aa.gn (t:=m8) ?_;refine aa.alloc (t:=m8) [.int .i64 0,.slice none 0 0,.slice none 0 0,.bool false,.bool false] rfl rfl rfl fun b_=>?_)|fail)
 refine aa.he (HE.CU (s:=5) (len:=c.fs.length - 1) rfl rfl rfl F0 rfl F0 FY (fun _ _=>Nat.zero_le _)) rfl ?_
 intro g3 _
 repeat'(first|refine ay ?_|fail)
 refine aa.he (HE.Bi rfl rfl bM bM FY rfl rfl rfl F0 hone) rfl ?_
 rintro⟨⟩ _
 rw[nZ _ _ _ hg.len]
 repeat'(first|refine ay ?_|fail)
 exact ai.fw (.inl rfl) rfl rfl rfl rfl rfl bM rfl fun w' hw'=>aq.lU (x:=Value.slice (some ⟨g3,0,none⟩) (c.fs.length - 1) (c.fs.length - 1)) trivial hS hw' (by dsimp only[aw,ax,List.cons_append,List.nil_append];rw[List.length_take,Nat.min_eq_left FY];exact cM) ao
abbrev A1:Nat:=74
theorem dC {w:World} {B T:Nat} {v:Value} {xs:List Int} (h:w.ownsRow B T 1 v xs.length (aR xs)) (hl:xs.length≤17592186044416):af (fun k=>v.ownBlock=some k) w v xs:=by
 obtain⟨p,c,rfl,hn,hc,hg⟩:=au h
 refine⟨p,c,rfl,hl,?_⟩
 by_cases h0:xs.length=0
 ·exact .inl (List.eq_nil_of_length_eq_zero h0)
 ·obtain⟨g,rfl,-⟩:=hg FY
  exact .inr ⟨g,0,rfl,rfl,fun i hi=>dJ h (mj hi)⟩
theorem Ok.swap {q q':aU} {M M':List aU} {R:List (World→Prop)} {w:World} (h:Ok M R w) (hM:Up q q' M M') (hF:∀k,q'.F k→q.F k) (hP:q.P w→q'.P w):Ok M' R w:=
 h.nA hM (bz.refl _ w) (hP (h.m _ hM.mem).1) fun k hk=>⟨(h.m _ hM.mem).2 k (hF k hk),fun _=>hF k hk⟩
theorem aq.Cz {β:Type} {M:List aU} {R:List (World→Prop)} {w w':World} {tf:β→Value} {φ:β→Prop} {M1:β→List aU} (x:β) (hφ:φ x) (h:Ok M R w') (hM:gz (M1 x) M) (hR:Ext w∈R):aq [] w tf φ M1 (.returned (tf x)) w':=by
 obtain⟨M2,hp⟩:=hM.perm
 exact aq.tw x hφ (h.perm hp) (List.sublist_append_left _ _) hR
set_option maxHeartbeats 16000000 in
theorem xv (D0:Nat→Prop) (results:List Int) (v:Value) (w:World) (hI:af D0 w v results):Calls G.P 34 #[v] w (aq [] w (fun y:Nat×fJ=>.pointer (some ⟨y.1,0,none⟩)) (fun y=>y.2.Good (iJ results)) (fun y=>aw y.1 (iJ results) y.2)):=by
 obtain⟨p,cc,rfl,hl⟩:=hI.slice
 refine aj (l:=[_]) Tryz.func34 rfl Tryz.ntmps34 rfl (Ok.start w) ?_
 repeat'(first|refine ay ?_|fail)
 refine aa.he (HE.aS (M0:=[]) k9.nil rfl rfl (fun w' hw'=>wF w')) rfl ?_
 rintro⟨sp,tv,pv⟩ _
 dsimp only[ax,List.cons_append,List.nil_append]
 repeat'(first|refine ay ?_|fail)
 refine aa.he (HE.aS (M0:=[]) k9.nil rfl rfl (fun w' hw'=>cK results _ w' (hI.aB (show Ext w w' from hw'.at) (fun _ _ _ h=>h)))) rfl ?_
 intro u _
 dsimp only[List.cons_append,List.nil_append]
 refine aa.pure (φ:=∃p c,u=.slice p results.length c) (fun w' hw'=>?_) ?_
 ·obtain⟨p,c,e,_⟩:=au (hw'.own (v:=u));exact⟨p,c,e⟩
 rintro⟨p3,c3,rfl⟩
 repeat'(first|refine ay ?_|fail)
 refine aa.box [.pointer (some ⟨sp,0,none⟩),.slice none 0 0,.slice p3 results.length c3,.bool true,.int .i64 0] rfl rfl rfl fun cp=>?_
 repeat'(first|refine ay ?_|fail)
 refine aa.he (HE.aS (M0:=[.aH sp [tv,pv,.bool (cE ⟨[],[(0,false)],0⟩)] fH,.own 0 eV 1 tv (([]:List Int).length) (aR []),.own 0 fG 2 pv ([((0:Int),false)].length) (bw [(0,false)])]) cv rfl rfl (fun w' hw'=>oX sp ⟨[],[(0,false)],0⟩ (tv,pv) w' (hw'.bT cM (fun p h=>by cases h)) FX FX)) rfl ?_
 rintro⟨tv2,pv2⟩ _
 dsimp only[ax,List.cons_append,List.nil_append]
 repeat'(first|refine ay ?_|fail)
 refine EC ?_
 intro b6 _
 repeat'(first|refine ay ?_|fail)
 refine ai.aA rfl rfl fun w' hw'=>?_
 have h1:=hw'.swap (q:=.own 0 eV 1 (.slice p3 results.length c3) results.length (aR results)) (q':=.iy fg fg.fr (fun k=>(Value.slice p3 results.length c3).ownBlock=some k) [(⟨[],results⟩,.slice none 0 0,.slice p3 results.length c3)]) bM (fun k h=>h) (fun h y hy=>by
  rw[List.mem_singleton]at hy;subst hy
  exact⟨af.eB _ _,dC h hl⟩)
 have h2:=h1.s6 (s:=5) (len:=1) bM rfl FN
 refine aq.Cz (x:=(cp,(⟨sp,tv2,pv2,.slice (some ⟨b6,0,none⟩) 1 1,.slice p3 results.length c3,[(.slice none 0 0,.slice p3 results.length c3)],_,[(⟨[],results⟩,.slice none 0 0,.slice p3 results.length c3)]⟩:fJ))) ⟨rfl,fun i hi=>?_,List.mem_cons_self⟩ h2 (by
  show gz [.aH cp [.pointer (some ⟨sp,0,none⟩),.slice (some ⟨b6,0,none⟩) 1 1,.slice p3 results.length c3,.bool true,.int .i64 0] fl,.aH sp [tv2,pv2,.bool (cE (eM ⟨[],[(0,false)],0⟩))] fH,.own 0 eV 1 tv2 (eM ⟨[],[(0,false)],0⟩).ts.length (aR (eM ⟨[],[(0,false)],0⟩).ts),.own 0 fG 2 pv2 (eM ⟨[],[(0,false)],0⟩).ps.length (bw (eM ⟨[],[(0,false)],0⟩).ps),.own 0 m8 5 (.slice (some ⟨b6,0,none⟩) 1 1) 1 [.int .i64 0,.slice none 0 0,.slice p3 results.length c3,.bool false,.bool true],.iy fg fg.fr _ _] _
  exact cM) ao
 have:i=0:=by simp[iJ]at hi;exact hi
 subst this
 exact List.mem_cons_self
def ar (M0:List aU) (cp:Nat) (r:dq×Int) (w:World):Ending→World→Prop:=aq M0 w (fun _:fJ=>.int .i64 r.2) (fun v'=>r.2=0→v'.Good r.1) (fun v'=>if r.2=0 then aw cp r.1 v' else[])
theorem ar.err {M0 M:List aU} {cp:Nat} {r:dq×Int} {w w':World} {S0:Nat→Prop} {R:List (World→Prop)} (e:Int) (hr:r.2=e) (he:e≠0) (hS:Mb M0=S0) (h:Ok M R w') (hR:bz S0 w∈R):ar M0 cp r w (.returned (.int .i64 e)) w':=by
 subst hr
 exact aq.lU (x:=(⟨0,undef,undef,undef,undef,[],fun _=>False,[]⟩:fJ)) (fun h=>absurd h he) hS h (by rw[if_neg he];exact gz.nil) hR
theorem ar.ok {M0 M:List aU} {cp:Nat} {r:dq×Int} {w w':World} {S0:Nat→Prop} {R:List (World→Prop)} (v':fJ) (hr:r.2=0) (hg:v'.Good r.1) (hS:Mb M0=S0) (h:Ok M R w') (hM:gz (aw cp r.1 v') M) (hR:bz S0 w∈R):ar M0 cp r w (.returned (.int .i64 0)) w':=by
 have:=aq.lU (M0:=M0) (tf:=fun _:fJ=>.int .i64 r.2) (φ:=fun v'=>r.2=0→v'.Good r.1) (M1:=fun v'=>if r.2=0 then aw cp r.1 v' else[]) v' (fun _=>hg) hS h (by rw[if_pos hr];exact hM) hR
 unfold ar
 rw[hr]at this ⊢
 exact this
theorem gz.app (M:List aU):∀M':List aU,gz M (M++M'):=by
 induction M with
 |nil=>exact fun M'=>gz.nil
 |cons q M ih=>exact fun M'=>gz.cons Rm.head (ih M')
theorem fg.cons {D D0:Nat→Prop} {w:World} {L:List (aC×Value×Value)} {f:aC} {x:Value×Value} (h1:fg D w L) (h2:eO f D0 w x):fg (fun k=>D k∨D0 k) w ((f,x)::L):=fun y hy=>by
 rcases List.mem_cons.1 hy with rfl|hy
 ·exact eO.mono h2 (fun k h=>.inr h)
 ·exact eO.mono (h1 y hy) (fun k h=>.inl h)
theorem dn (s:cU) (l:List Int):(aO s l).1.ts.length≤s.ts.length:=by
 unfold aO;dsimp only;split
 ·rw[List.length_take];omega
 ·exact Nat.le_refl _
theorem eQ {w:World} {b T:Nat} {a:Int} (h:eA w b [.int .i64 a] T):af (fun k=>k=b) w (.slice (some ⟨b,0,none⟩) 1 1) [a]:=
 ⟨_,1,rfl,by simp,.inr ⟨b,0,rfl,rfl,fun i hi=>by
  have:i=0:=by simp at hi;exact hi
  subst this
  exact h.cell rfl⟩⟩
theorem aP.kp {Q:Exit→Act→World→Prop} {n:Nat} {cd:Code} {E:Env} {q1 q2 q:aU} {M M1 M2:List aU} {R:List (World→Prop)} (h1:Rm q1 M M1) (h2:Rm q2 M1 M2) (hF:∀k,q.F k→q1.F k∨q2.F k) (hP:∀w,q1.P w→q2.P w→q.P w) (h:aP Q n cd E (q::M2) R):aP Q n cd E M R:=
 ⟨fun w hw=>h.h w (((hw.front h1).front (Rm.tail h2)).merge (fun k hk=>(hF k hk).symm) (fun a b=>hP w b a))⟩
theorem xx (c:dq) (hb:c.broken=0):lP c=if c.fs.length=0∨c.top.kind≠4∨c.top.other=true then(c,16)else if(dv c.aF c.top.res).2≠0 then({c with broken:=(dv c.aF c.top.res).2},(dv c.aF c.top.res).2)else(lh c (dv c.aF c.top.res).1 (c.fs.take (c.fs.length - 1)) {c.top with other:=true},0):=by
 unfold lP;rw[if_neg FY]
theorem mh (s:cU) (l:List Int):(dv s l).1.ts.length≤s.ts.length:=by
 unfold dv;dsimp only;split
 ·exact Nat.le_refl _
 ·split
  ·exact Nat.le_refl _
  ·dsimp only;rw[List.length_take];omega
theorem sV (s:cU) (l:List Int) (h:2≤s.ps.length) (h0:(dv s l).2=0):0<(dv s l).1.ps.length∧(dv s l).1.ps.length≤s.ps.length:=by
 rw[oS h0,if_neg FY,List.length_take];omega
theorem fJ.Good.pop {v:fJ} {c:dq} (h:v.Good c) (s:cU) (tv pv bv:Value) (k:Nat):(fJ.mk v.sp tv pv bv v.rv (v.fv.take k) v.D v.L).Good {c with aF:=s,fs:=c.fs.take k}:=by
 have hl:=h.len
 refine⟨by dsimp only;rw[List.length_take,List.length_take,hl],fun i hi=>?_,h.rs⟩
 dsimp only at hi ⊢
 have hi2:i<k∧i<c.fs.length:=by rw[List.length_take]at hi;omega
 rw[cI hi,cI FJ,List.getElem_take,List.getElem_take,←cI hi2.2,←cI (show i<v.fv.length by omega)]
 exact h.fr i hi2.2
set_option maxHeartbeats 32000000 in
theorem vB (cp:Nat) (c:dq) (v:fJ) (w:World) (hw:Ok (aw cp c v) [] w) (hg:v.Good c) (hb:c.broken=0) (hwf:c.Wf) (hfl:c.fs.length≤1000) (hts:(c.aF.ts.length+c.top.par.length)*8≤140737488355328):
  Calls G.P 54 #[.pointer (some ⟨cp,0,none⟩)] w (ar (aw cp c v) cp (lP c) w):=by
 obtain⟨sp,tv,pv,bv,rv,fv,D,L⟩:=v
 have hrd:=hw.uM (List.Sublist.refl _)
 obtain⟨p,cc,e,hcp,hmx,hgg⟩:=au hrd.o
 dsimp only at e
 subst e
 unfold maxLen at hmx
 have hat:=hwf.aF.at_
 have hps:=hwf.aF.some
 have hmany:=hwf.many
 rw[xx c hb]
 refine aj (l:=[_]) Tryz.func54 rfl Tryz.ntmps54 rfl (Ok.bV hw) ?_
 by_cases h0:c.fs.length=0
 ·rw[if_pos (.inl h0)]
  generalize hS:Mb (aw cp c ⟨sp,tv,pv,.slice p c.fs.length cc,rv,fv,D,L⟩)=S0
  dsimp only[aw,ax,List.cons_append,List.nil_append]
  repeat'(first|refine ay ?_|refine Fe ?_|(refine aY ?_ ?_<;>intro hc_))
  all_goals exact ci
 ·obtain⟨g,rfl,-⟩:=hgg FY
  have hi:c.fs.length - 1<c.fs.length:=by omega
  have hin:((ix c.fs (c.fs.length - 1)).fn,ix fv (c.fs.length - 1))∈L:=hg.fr _ hi
  obtain⟨q1,d1,q2,d2,hx⟩:=(hrd.l _ hin).A3
  have hc5:∀j,j<5→(cH c.fs fv)[0+(c.fs.length - 1)*5+j]?=(eH (ix c.fs (c.fs.length - 1)) (ix fv (c.fs.length - 1)))[j]?:=fun j hj=>by rw[Nat.zero_add];exact jl c.fs fv (c.fs.length - 1) j hg.len hi hj
  dsimp only at hx hin
  rw[hx]at hc5 hin
  have htop:c.top=ix c.fs (c.fs.length - 1):=rfl
  rw[←htop]at hc5 hin hx
  have hpe:(ix fv (c.fs.length - 1))=(.slice q1 c.top.par.length d1,.slice q2 c.top.res.length d2):=hx
  generalize hf:c.top=f at*
  dsimp only[eH]at hc5
  obtain⟨o5,hoff⟩:∃o5,0+(c.fs.length - 1)*5=o5:=⟨_,rfl⟩
  rw[hoff]at hc5
  have f0:(cH c.fs fv)[o5]?=some (.int .i64 f.kind):=hc5 0 FY
  have f2:(cH c.fs fv)[o5+1+1]?=some (.slice q2 f.res.length d2):=hc5 2 FY
  have f3:(cH c.fs fv)[o5+3]?=some (.bool f.other):=hc5 3 FY
  generalize hS:Mb (aw cp c ⟨sp,tv,pv,.slice (some ⟨g,0,none⟩) c.fs.length cc,rv,fv,D,L⟩)=S0
  dsimp only[aw,ax,List.cons_append,List.nil_append]
  by_cases hk:f.kind≠4∨f.other=true
  ·rw[if_pos (.inr hk)]
   repeat'(first|refine ay ?_|refine Fe ?_|(refine aa.dX ?_;refine aa.yg FF (Yl.idx (i:=c.fs.length - 1) rfl rfl rfl rfl rfl FY FY) rfl ?_;rw[hoff])|(refine aa.bW ?_;refine aa.yg FF (Yl.fB rfl rfl rfl rfl f0 gG) rfl ?_)|(refine aa.bW ?_;refine aa.yg FF (Yl.fB rfl rfl rfl rfl f3 gG) rfl ?_)|(refine aY ?_ ?_<;>intro hc_))
   all_goals first|omega|skip
   all_goals first|(exfalso;simp_all;done)|skip
   all_goals exact ai.aA rfl rfl fun w' hw'=>ar.err 16 rfl FX hS hw' ao
  ·rw[if_neg (by rintro(h|h);exact h0 h;exact hk h)]
   have hk4:f.kind=4:=by omega
   have hot:f.other=false:=by cases hb2:f.other<;>simp_all
   obtain⟨r,hr⟩:∃r,dv c.aF f.res=r:=⟨_,rfl⟩
   obtain⟨s2,e2⟩:=r
   have hs2p:=sV c.aF f.res FY
   have hs2t:=mh c.aF f.res
   rw[hr]at hs2p hs2t ⊢
   dsimp only at hs2p hs2t ⊢
   repeat'(first|refine ay ?_|refine Fe ?_|(refine aa.dX ?_;refine aa.yg FF (Yl.idx (i:=c.fs.length - 1) rfl rfl rfl rfl rfl FY FY) rfl ?_;rw[hoff])|(refine aa.bW ?_;refine aa.yg FF (Yl.fB rfl rfl rfl rfl f0 gG) rfl ?_)|(refine aa.bW ?_;refine aa.yg FF (Yl.fB rfl rfl rfl rfl f3 gG) rfl ?_)|(refine aY ?_ ?_<;>intro hc_))
   all_goals first|omega|skip
   refine rd ?_
   repeat'(first|refine tx ?_|(refine aN.qy 10 rfl (Yl.idx (i:=c.fs.length - 1) rfl rfl rfl rfl rfl FY FY) ?_;rw[hoff])|refine aN.qy 13 rfl (Yl.fB rfl rfl rfl rfl f2 gG) ?_|(refine aK.fe 88 ?_;refine aK.he rfl rfl (HE.aS (M0:=[.aH sp [tv,pv,.bool (cE c.aF)] fH,.own 0 eV 1 tv c.aF.ts.length (aR c.aF.ts),.own 0 fG 2 pv c.aF.ps.length (bw c.aF.ps)]) cv rfl rfl (fun w' hw'=>by have:=oY D sp c.aF (tv,pv) (.slice q2 f.res.length d2) f.res w' ((hw'.jI (q:=.iy fg fg.fr D L) (p:=fun w=>af D w (.slice q2 f.res.length d2) f.res) gV (fun w' h _=>(h _ hin).2)).bT cM aX) FY hat.1 hat.2;rw[hr]at this;exact this)) (fun _=>by dsimp only[ax,List.cons_append,List.nil_append];exact bN) (fun _=>aX) ?_;rintro⟨tvb,pvb⟩ _;dsimp only[ax,List.cons_append,List.nil_append])|refine aN.nil FR ?_|refine aN.any FR ?_|exact aE.fin rfl|refine aE.skip FR ?_|refine aE.go ?_ ?_)
   by_cases he2:e2=0
   ·subst he2
    obtain⟨hs2p,hs2q⟩:=hs2p rfl
    rw[if_neg FX]
    repeat'(first|refine ay ?_|(refine aY ?_ ?_<;>intro hc_))
    refine aa.he (HE.aS (M0:=[.aH cp [.pointer (some ⟨sp,0,none⟩),.slice (some ⟨g,0,none⟩) c.fs.length cc,rv,.bool c.live,.int .i64 c.broken] fl,.aH sp [tvb,pvb,.bool (cE s2)] fH,.own 0 eV 1 tvb s2.ts.length (aR s2.ts),.own 0 fG 2 pvb s2.ps.length (bw s2.ps),.own 0 m8 5 (.slice (some ⟨g,0,none⟩) c.fs.length cc) c.fs.length (cH c.fs fv),.iy fg fg.fr D L]) cv rfl rfl (fun w' hw'=>sm cp {c with aF:=s2} ⟨sp,tvb,pvb,.slice (some ⟨g,0,none⟩) c.fs.length cc,rv,fv,D,L⟩ w' (hw'.bT cM (fun p h=>by cases h)) (hg.mono rfl rfl rfl rfl (fun _ h=>h)) FP FP)) rfl ?_
    intro bv2 _
    dsimp only[aw,ax,List.cons_append,List.nil_append]
    rw[show dq.top {c with aF:=s2}=f from hf,hpe]
    dsimp only[eH]
    rw[hk4,hot]
    repeat'(first|refine ay ?_|(refine aa.gn (t:=m8) ?_;refine aa.alloc (t:=m8) [.int .i64 0,.slice none 0 0,.slice none 0 0,.bool false,.bool false] rfl rfl rfl fun b_=>?_)|(refine aY ?_ ?_<;>intro hc_))
    refine aa.he (HE.aS (M0:=[.aH cp [.pointer (some ⟨sp,0,none⟩),bv2,rv,.bool c.live,.int .i64 c.broken] fl,.aH sp [tvb,pvb,.bool (cE s2)] fH,.own 0 eV 1 tvb s2.ts.length (aR s2.ts),.own 0 fG 2 pvb s2.ps.length (bw s2.ps),.own 0 m8 5 bv2 (c.fs.take (c.fs.length - 1)).length (cH (c.fs.take (c.fs.length - 1)) (fv.take (c.fs.length - 1))),.iy fg fg.fr D L]) cv rfl rfl (fun w' hw'=>by
     have:=jG cp {c with aF:=s2,fs:=c.fs.take (c.fs.length - 1)} ⟨sp,tvb,pvb,bv2,rv,fv.take (c.fs.length - 1),D,L⟩ {f with other:=true} (.slice q1 f.par.length d1,.slice q2 f.res.length d2) w' (hw'.bT cM (fun p h=>by cases h)) (hg.pop s2 _ _ _ _) hin FP FP (by dsimp only;rw[List.length_take];omega) FP
     dsimp only[eH]at this
     rw[hk4]at this
     exact this)) rfl ?_
    intro y hy
    repeat'(first|refine ay ?_|(refine aY ?_ ?_<;>intro hc_))
    exact mt
   ·rw[if_pos he2]
    repeat'(first|refine ay ?_|(refine aY ?_ ?_<;>intro hc_))
    refine rg ?_
    rintro⟨⟩ _
    dsimp only[List.cons_append,List.nil_append]
    repeat'(first|refine ay ?_|(refine aY ?_ ?_<;>intro hc_))
    exact em
theorem qs {xs ys:List Int} {j:Nat} (hx:j<xs.length) (hy:j<ys.length) (h:xs.take j=ys.take j):xs.take (j+1)=ys.take (j+1)↔ix xs j=ix ys j:=by
 rw[bu hx,bu hy,h]
 constructor
 ·intro h;simpa using h
 ·intro h;rw[h]
set_option maxHeartbeats 8000000 in
theorem oI (F F':Nat→Prop) (xs ys:List Int) (v u:Value) (w:World) (h:af F w v xs) (h':af F' w u ys):Calls G.P 18 #[v,u] w fun e w'=>e=.returned (.bool (decide (xs=ys)))∧Ext w w':=by
 obtain⟨p,c,rfl,hl⟩:=h.slice
 obtain⟨q,d,rfl,hl'⟩:=h'.slice
 refine aj (l:=[_,_]) Tryz.func18 rfl Tryz.ntmps18 rfl (Ok.start w) ?_
 by_cases hlen:xs.length=ys.length
 ·repeat'(first|refine ay ?_|fail)
  refine aP.loop (σ:=Nat) (fun j=>[(0,.slice p xs.length c),(1,.slice q ys.length d),(5,.int .i64 j)]) (fun _=>[]) (fun _=>[Ext w]) (fun j=>j≤xs.length∧xs.take j=ys.take j) (fun j=>xs.length - j) 0 bP bN aX ⟨by omega,by simp⟩ ?_
  rintro j ⟨hj,heq⟩
  by_cases hjl:j<xs.length
  ·obtain⟨b7,o7,rfl,-,hc⟩:=h.at hjl
   obtain⟨b8,o8,rfl,-,hc'⟩:=h'.at (show j<ys.length by omega)
   have hcj:=hc j hjl
   have hcj':=hc' j FY
   have hst:=qs hjl (show j<ys.length by omega) heq
   by_cases he:ix xs j=ix ys j
   ·repeat'(first|refine ay ?_|fail)
    all_goals exact ai.next (j+1) bP bN aX ⟨by omega,hst.2 he⟩ FY
   ·repeat'(first|refine ay ?_|fail)
    all_goals exact ai.aA rfl rfl fun w' hw'=>⟨by rw[decide_eq_false];intro e;exact he (by rw[e]),hw'.at⟩
  ·obtain rfl:j=xs.length:=by omega
   rw[List.take_length,hlen,List.take_length]at heq
   repeat'(first|refine ay ?_|fail)
   all_goals exact am
 ·repeat'(first|refine ay ?_|fail)
  all_goals exact ap
end Go.Proofs.YtceedealggognaaGreatDoor
