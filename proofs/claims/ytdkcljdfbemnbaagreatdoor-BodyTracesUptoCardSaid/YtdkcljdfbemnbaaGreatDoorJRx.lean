import Derived.OrdersIn
import Derived.Test.YtdkcljdfbemnbaaGreatDoorJSk
import Derived.Laws.CopyOwn
namespace Go.Proofs.YtdkcljdfbemnbaaGreatDoor
open Go.RowKit _root_.Go.Proofs.Tryz
set_option maxHeartbeats 16000000
open List renaming Sublist→Pv,all_eq_true→PC,cons_append→Pq,getElem?_eq_getElem→Pw,getElem?_eq_some_iff→PR,getElem?_map→PQ,length_append→Py,length_take→Pz,map_take→Qe,mem_cons→PF,mem_cons_self→PT,nil_append→Pp,not_mem_nil→P3,pairwise_cons→P0,sublist_append_left→Qd
open Nat renaming le_refl→Px,le_trans→PE,lt_of_lt_of_le→PB,lt_or_ge→PG,mul_le_mul_right→Qa,zero_add→Ps,zero_le→Pu
open Value renaming int→Pm,slice→Pn
set_option maxRecDepth 100000
abbrev jE:Nat:=132
abbrev jD:Nat:=177
abbrev fR:Nat:=59
def nO (p:Int×Bool):List Value:=[.int .i64 p.1,.bool p.2]
def cg (l:List (Int×Bool)):List Value:=l.flatMap nO
def aY (l:List Int):List Value:=l.map (Pm .i64)
def dB (s:ck):Bool:=decide (256<s.bR)
def aX (sp:Nat) (s:ck) (x:Value×Value):List bu:=[.aW sp [x.1,x.2,.bool (dB s)] jE,.own 0 fR 1 x.1 s.ts.length (aY s.ts),.own 0 jD 2 x.2 s.ps.length (cg s.ps)]
variable {K:Nat→Prop} {W:World} {b1:Nat} (cp:Nat) (a:Addr) {β:Type} {F:Nat→Prop} {D:Nat→Prop} (sp:Nat) (s:ck) (l:List Int) (x:Value×Value) {M:List bu} {R:List (World→Prop)} {w:World} {p:Option Addr} {n c:Nat} {xs:List Int}
theorem FK {B T s n c:Nat} {p:Option Addr} {xs:List Value} (h:w.ownsRow B T s (.slice p n c) n xs) {k:Nat} (hk:k≤n):w.ownsRow B T s (.slice p k c) k (xs.take (k*s)):=by
 obtain⟨h1,h2⟩:=h
 have hm:k*s≤n*s:=Qa s hk
 refine⟨by rw[Pz];omega,?_⟩
 rcases h2 with⟨e,h0⟩|⟨g,cap,cur,e,hg,hh,hn,hc,hs,ht⟩
 ·cases e
  have:k=0:=by omega
  subst this
  exact .inl ⟨rfl,rfl⟩
 ·cases e
  refine .inr ⟨g,c,cur,rfl,hg,hh,by omega,hc,hs,?_⟩
  rw[←ht,List.take_take,Nat.min_eq_left hm]
theorem Ok.nm {M M':List bu} {R:List (World→Prop)} {w:World} {B T s n c:Nat} {p:Option Addr} {xs:List Value} (h:Ok M R w) (k:Nat) (hk:k≤n) (hM:Up (.own B T s (.slice p n c) n xs) (.own B T s (.slice p k c) k (xs.take (k*s))) M M'):Ok M' R w:=
 h.qj hM (bX.refl _ w) (FK (h.m _ hM.mem).1 hk) (fun i hi=>by
  have hi':(Pn p n c).ownBlock=some i:=by cases p<;>exact hi
  exact⟨(h.m _ hM.mem).2 i hi',fun _=>hi'⟩)
section
variable {ops:Array Oper} {Q:Exit→Act→World→Prop} {n:Nat} {E:Env} {M M':List bu} {R R':List (World→Prop)} {v:Value} {x y z:Operand} {t t2:TypeId} {C:World→Prop}
theorem Yl.Fy {ti:TypeId} {ad:Addr} (ht:G.P.underlying t=some (.pointer ti)) (hx:ev E x=some (.pointer (some ad))) (hy:ev E y=some (.pointer none)):Yl G n (.binOp .neq t x y t2) E C (.bool true):=
 ⟨fun w _ a ha d ty pos aft gd=>by
  have h2:∀m,(Op.equalIn (m+1) t (.pointer (some ad)) (.pointer none)).run G.P w=.ok false w:=by
   intro m;simp[Op.equalIn,run_underlying ht]
  have h3:(Op.equal t (.pointer (some ad)) (.pointer none)).run G.P w=.ok false w:=h2 9999
  simp[execOp,ha.eval hx,ha.eval hy,eqGuard,binOp,h3]⟩
theorem Yl.jv {ti:TI} {B T g m cap i s o:Nat} {xs:List Value} {u:Value} (ht:G.ty t=some ti) (ha:ti.agg=false) (hx:ev E x=some (.pointer (some ⟨g,o,none⟩))) (ho:o=i) (hu:xs[i]?=some u) (hM:bu.own B T s (.slice (some ⟨g,0,none⟩) m cap) m xs∈M):Yl G n (.load t x) E (Ok M R) u:=
 Yl.load ht ha hx fun w hw=>by subst ho;exact dP (hw.m _ hM).1 hu
theorem gj.HO {ti:TI} {B T g cap m i s o:Nat} {xs:List Value} (ht:G.ty t=some ti) (hs:ti.size=1) (hx:ev E x=some (.pointer (some ⟨g,o,none⟩))) (ho:o=i) (hy:ev E y=some v) (hv:v.oneCell'=true)
  (hM:Up (.own B T s (.slice (some ⟨g,0,none⟩) m cap) m xs) (.own B T s (.slice (some ⟨g,0,none⟩) m cap) m (xs.set i v)) M M') (hi:i<xs.length):gj n (.store t x y) E M R (fun _:Unit=>True) (fun _=>M') (fun _=>R):=
 ⟨fun w hw=>by
  subst ho
  have ho:w.ownsRow B T s (.slice (some ⟨g,0,none⟩) m cap) m xs:=(hw.m _ hM.mem).1
  have hlt:=(hw.m _ hM.mem).2
  refine(bU.store ht hs hx hy hv (dP ho (Pw hi)) (World.ownsRow.frozenAt ho _)).mono fun _ w' e=>?_
  subst e
  obtain⟨h1,h2⟩:=World.ownsRow.stored ho o v
  refine⟨(),trivial,hw.qj hM ((bX.lX h2).mono fun k _ e=>e) h1 (fun k hk=>⟨?_,fun _=>hk⟩)⟩
  have:=hlt k hk
  have:=(bX.lX h2).size
  omega⟩
theorem ah.nm {B T s m c:Nat} {p:Option Addr} {xs:List Value} {e:Exit} (k:Nat) (hM:Up (.own B T s (.slice p m c) m xs) (.own B T s (.slice p k c) k (xs.take (k*s))) M M') (hk:k≤m) (h:ah Q n e E M' R):ah Q n e E M R:=⟨fun w hw=>h.h w (hw.nm k hk hM)⟩
end
theorem BF:dB (aS s l)=(dB s || decide (256<((s.ts.length+l.length:Nat):Int))):=by
 unfold dB aS
 rw[Bool.eq_iff_iff]
 simp only[Bool.or_eq_true,decide_eq_true_eq];omega
theorem Ok.c1 {M M':List bu} {R:List (World→Prop)} {w:World} {b T j:Nat} {cs:List Value} {v:Value} (h:Ok M R w) (hM:Up (.aW b cs T) (.aW b cs T) M M') (hj:cs[j]?=some v):w.cell? ⟨b,j,none⟩=some v:=(show gQ w b cs T from(h.m _ hM.mem).1).cell hj
theorem yW (h:Ok M R w) (hm:(aX sp s x).Sublist M):(∃p c,x.1=.slice p s.ts.length c∧s.ts.length≤c∧(0<s.ts.length→∃g,p=some ⟨g,0,none⟩))∧(∃p c,x.2=.slice p s.ps.length c∧(0<s.ps.length→∃g,p=some ⟨g,0,none⟩))∧s.ts.length≤9223372036854775807∧s.ps.length≤9223372036854775807:=by
 have h1:w.ownsRow 0 fR 1 x.1 s.ts.length (aY s.ts):=(h.m (.own 0 fR 1 x.1 s.ts.length (aY s.ts)) (hm.subset (by simp[aX]))).1
 have h2:w.ownsRow 0 jD 2 x.2 s.ps.length (cg s.ps):=(h.m (.own 0 jD 2 x.2 s.ps.length (cg s.ps)) (hm.subset (by simp[aX]))).1
 obtain⟨p,c,e,hn,hc,hg⟩:=aw h1
 obtain⟨p',c',e',hn',hc',hg'⟩:=aw h2
 unfold maxLen at hc hc'
 exact⟨⟨p,c,e,hn,fun h=>by obtain⟨g,e,_⟩:=hg h;exact⟨g,e⟩⟩,⟨p',c',e',fun h=>by obtain⟨g,e,_⟩:=hg' h;exact⟨g,e⟩⟩,by omega,by omega⟩
theorem kg (sp n c:Nat) (p:Option Addr) (w:World) (_h1:w.cell? ⟨sp,1,none⟩=some (.slice p n c)) (_h0:0<n):Calls G.P 41 #[.pointer (some ⟨sp,0,none⟩)] w fun e w'=>e=.returned (.bool true)∧Ext w w':=by
 refine ae (l:=[_]) func41 rfl ntmps41 rfl (Ok.start w) ?_
 repeat'(first|refine ar ?_|(refine aa.aE ?_;refine aa.y_ (Yl.Fy underlying105 rfl rfl) rfl ?_)|fail)
 all_goals first|exact ah.aG rfl rfl fun w' hw'=>⟨by rfl,hw'.at⟩|exact ah.aG rfl rfl fun w' hw'=>⟨by simp;omega,hw'.at⟩
theorem xK (sp n c g:Nat) (w:World) (_h1:w.cell? ⟨sp,1,none⟩=some (.slice (some ⟨g,0,none⟩) n c)) (_h0:0<n) (_hn:n≤9223372036854775807):Calls G.P 131 #[.pointer (some ⟨sp,0,none⟩)] w fun e w'=>e=.returned (.pointer (some ⟨g,(n - 1)*2,none⟩))∧Ext w w':=by
 obtain⟨k,rfl⟩:∃k,n=k+1:=⟨n - 1,by omega⟩
 rw[Nat.add_sub_cancel]
 refine ae (l:=[_]) func131 rfl ntmps131 rfl (Ok.start w) ?_
 repeat'(first|refine ar ?_|(refine aq.y (Yl.idx (i:=k) rfl rfl rfl rfl rfl Pi Pi) rfl ?_)|fail)
 all_goals exact ah.aG rfl rfl fun w' hw'=>⟨by simp,hw'.at⟩
theorem mP {l:List (Int×Bool)} {i:Nat} (h:i<l.length):(cg l)[i*2]?=some (.int .i64 (ix l i).1)∧(cg l)[i*2+1]?=some (.bool (ix l i).2):=by
 have h1:=jz nO (s:=2) (fun _=>rfl) l i 0 h Pi
 have h2:=jz nO (s:=2) (fun _=>rfl) l i 1 h Pi
 exact⟨h1,h2⟩
theorem o0 {l:List Int} {i:Nat} (h:i<l.length):(aY l)[0+i]?=some (.int .i64 (ix l i)):=by
 unfold aY;rw[Ps,PQ,iz h];rfl
theorem aC.IG {M0 M:List bu} {R:List (World→Prop)} {w w':World} {tf:β→Value} {φ:β→Prop} {M1:β→List bu} (x:β) (hφ:φ x) (h:Ok M R w') (hM:(M1 x).Sublist M) (hR:bX (Mb M0) w∈R):aC M0 w tf φ M1 (.returned (tf x)) w':=
 ⟨x,rfl,hφ,h.sub hM (fun p hp=>absurd hp Pj),h.get hR,fun k ⟨q,hq,hk⟩ hlt=>h.origin hR k ⟨q,hM.subset hq,hk⟩ hlt⟩
theorem kl {sp T2 T3:Nat} {s:ck} {tv pv:Value} {ov:Bool} {n m:Nat} {cs ds:List Value} {M Mr:List bu} (hM:M=.aW sp [tv,pv,.bool ov] jE::.own 0 T2 1 tv n cs::.own 0 T3 2 pv m ds::Mr) (hT:T2=fR) (hT':T3=jD) (h1:n=s.ts.length) (h2:cs=aY s.ts) (h3:m=s.ps.length) (h4:ds=cg s.ps) (h5:ov=dB s):(aX sp s (tv,pv)).Sublist M:=by
 subst hT hT' h1 h2 h3 h4 h5 hM
 exact(List.nil_sublist Mr).cons_cons _ |>.cons_cons _ |>.cons_cons _
theorem zO {M:List bu} {R:List (World→Prop)} (h:ai D w (.slice p n c) xs) (hR:(fun w=>ai D w (.slice p n c) xs)∈R):xs.length=0∨∃bk o,p=some ⟨bk,o,none⟩∧∀w',Ok M R w'→∀j u,(xs.map (Pm .i64))[j]?=some u→w'.cell? ⟨bk,o+j,none⟩=some u:=by
 obtain⟨p',c',e,hl,h⟩:=h
 cases e
 rcases h with h|⟨b,o,rfl,hF,h⟩
 ·exact .inl (by rw[h];rfl)
 ·refine .inr ⟨b,o,rfl,fun w' hw' j u hj=>?_⟩
  have hI:ai D w' (.slice (some ⟨b,o,none⟩) xs.length c) xs:=hw'.get (p:=fun w=>ai D w (.slice (some ⟨b,o,none⟩) xs.length c) xs) hR
  have hj':j<xs.length:=by have:=(PR.1 hj).1;simpa using this
  obtain⟨b',o',e,-,hc⟩:=hI.at hj'
  cases e
  rw[hc j hj',←hj,PQ,iz hj'];rfl
theorem aC.jl {M0 M:List bu} {R:List (World→Prop)} {w w':World} {S0:Nat→Prop} {tf:β→Value} {φ:β→Prop} {M1:β→List bu} (x:β) (hφ:φ x) (hS:Mb M0=S0) (h:Ok M R w') (hM:(M1 x).Sublist M) (hR:bX S0 w∈R):aC M0 w tf φ M1 (.returned (tf x)) w':=by
 subst hS;exact aC.IG x hφ h hM hR
def fe (sp:Nat) (s:ck) (x:Value×Value) (v:Value) (s':ck) (w:World):Ending→World→Prop:=aC (aX sp s x) w (fun _:Value×Value=>v) (fun _=>True) (aX sp s')
theorem gZ (D:Nat→Prop) (sp:Nat) (s:ck) (x:Value×Value) (v:Value) (l:List Int) (w:World) (hw:Ok (aX sp s x) [fun w=>ai D w v l] w) (hp:0<s.ps.length) (hb:(s.ts.length+l.length)*8≤140737488355328):
  Calls G.P 88 #[.pointer (some ⟨sp,0,none⟩),v] w (fe sp s x (.tuple #[]) (aS s l) w):=by
 obtain⟨v1,v2⟩:=x;obtain⟨⟨p1,c1,e1,hcap,hg1⟩,⟨p2,c2,e2,hg2⟩,hn1,hn2⟩:=yW sp s (v1,v2) hw (Pv.refl _);dsimp only at e1 e2;subst e1;subst e2;obtain⟨g2,rfl⟩:=hg2 hp
 have hI:ai D w v l:=hw.get (p:=fun w=>ai D w v l) Pj
 obtain⟨q,d,rfl,hl⟩:=hI.slice
 refine ae (l:=[_,_]) func88 rfl ntmps88 rfl (Ok.dk hw) ?_
 unfold fe
 generalize hS:Mb (aX sp s (.slice p1 s.ts.length c1,.slice (some ⟨g2,0,none⟩) s.ps.length c2))=S0;unfold aX;dsimp only
 repeat'(first|refine ar ?_|refine N9 ?_|(refine bC ?_ ?_<;>intro hc_))
 refine aa.he (HE.gR (aY l) rfl rfl (fun _=>aH) (zO hI ak) Pg rfl rfl rfl Pk Pk Pk (fj _) hb Pi (fun _ _=>Pu _)) rfl ?_
 intro v1 _
 refine aa.pure (φ:=∃p c,v1=.slice p (s.ts.length+l.length) c) (fun w' hw'=>?_) ?_
 ·obtain⟨p,c,e,_⟩:=aw (hw'.own (v:=v1));exact⟨p,c,e⟩
 rintro⟨p3,c3,rfl⟩
 repeat'(first|refine ar ?_|(refine bC ?_ ?_<;>intro hc_))
 all_goals exact ah.oe rfl fun w' hw'=>aC.jl (x:=(_,_)) trivial hS hw' (kl rfl rfl rfl (by simp[aS]) (by simp[aS,aY]) rfl rfl (by rw[BF];simp[dB,hc_])) ak
theorem G6 {g g':Prop} (h:g') (hw:eA g'→g:=by(intro hk_;(first|refine N9 ?_|(refine aa.aj (f:=131) ?_;refine aa.av rfl rfl rfl (fun w' hw'=>xK sp s.ps.length c2 g2 w' (hw'.c1 aH Pk) hp hn2) ?_));exact hk_.out)):g:=hw ⟨h⟩
theorem mX (w:World) (hw:Ok (aX sp s x) [] w) (hp:0<s.ps.length) (_h0:0≤s.at_):
  Calls G.P 93 #[.pointer (some ⟨sp,0,none⟩)] w (fe sp s x (.tuple #[.int .i64 (aZ s).2.1,.int .i64 (aZ s).2.2]) (aZ s).1 w):=by
 obtain⟨v1,v2⟩:=x;obtain⟨⟨p1,c1,e1,hcap,hg1⟩,⟨p2,c2,e2,hg2⟩,hn1,hn2⟩:=yW sp s (v1,v2) hw (Pv.refl _);dsimp only at e1 e2;subst e1;subst e2;obtain⟨g2,rfl⟩:=hg2 hp
 have a1:(cg s.ps)[(s.ps.length - 1)*2]?=some (.int .i64 s.at_):=(mP (l:=s.ps) (i:=s.ps.length - 1) Pi).1
 have a2:(cg s.ps)[(s.ps.length - 1)*2+1]?=some (.bool s.loose):=(mP (l:=s.ps) (i:=s.ps.length - 1) Pi).2
 unfold fe
 by_cases hlt:s.at_<s.ts.length
 ·obtain⟨g1,rfl⟩:=hg1 Pi
  have b1:=o0 (l:=s.ts) (i:=s.ts.length - 1) Pi
  rw[show aZ s=({s with ts:=s.ts.take (s.ts.length - 1)},ix s.ts (s.ts.length - 1),0)from if_pos hlt]
  refine ae (l:=[_]) func93 rfl ntmps93 rfl (Ok.dk hw) ?_
  generalize hS:Mb (aX sp s (.slice (some ⟨g1,0,none⟩) s.ts.length c1,.slice (some ⟨g2,0,none⟩) s.ps.length c2))=S0
  unfold aX
  dsimp only
  repeat'(first|refine ar ?_|refine G6 ?_|(refine aa.dn ?_;refine aa.y_ (Yl.jv rfl rfl rfl rfl a1 bO) rfl ?_)|(refine aa.dn ?_;refine aa.y_ (Yl.jv rfl rfl rfl rfl a2 bO) rfl ?_)|(refine aa.eN ?_;refine aa.y_ (Yl.gn (i:=s.ts.length - 1) rfl rfl rfl rfl rfl Pi Pi) rfl ?_)|(refine aa.dn ?_;refine aa.y_ (Yl.jv rfl rfl rfl rfl b1 bO) rfl ?_)|(refine aa.y_ (Yl.cZ (i:=s.ts.length - 1) rfl rfl rfl rfl rfl Pi Pi) rfl ?_)|(refine bC ?_ ?_<;>intro hc_))
  all_goals refine ah.nm (s.ts.length - 1) aH Pi ?_
  all_goals exact ah.ie rfl rfl rfl fun w' hw'=>aC.jl (x:=(_,_)) trivial hS hw' (kl rfl rfl rfl Pj (by simp[aY,Qe]) rfl rfl rfl) ak
 ·have e:aZ s=if s.loose then(s,0,0)else(s,0,13):=if_neg hlt
  rw[e]
  refine ae (l:=[_]) func93 rfl ntmps93 rfl (Ok.dk hw) ?_
  generalize hS:Mb (aX sp s (.slice p1 s.ts.length c1,.slice (some ⟨g2,0,none⟩) s.ps.length c2))=S0
  unfold aX
  dsimp only
  repeat'(first|refine ar ?_|refine G6 ?_|(refine aa.dn ?_;refine aa.y_ (Yl.jv rfl rfl rfl rfl a1 bO) rfl ?_)|(refine aa.dn ?_;refine aa.y_ (Yl.jv rfl rfl rfl rfl a2 bO) rfl ?_)|(refine bC ?_ ?_<;>intro hc_))
  all_goals simp only[*,if_true,if_false,Bool.false_eq_true]
  all_goals exact ah.ie rfl rfl rfl fun w' hw'=>aC.jl (x:=(_,_)) trivial hS hw' (kl rfl rfl rfl rfl rfl rfl rfl rfl) ak
section
variable {ops:Array Oper} {md:Region.Mode} {C:World→Prop} {ro:Option Nat} {m:Nat}
theorem wV {i:Nat} {a:Act} {K:Act→Prop} {K':Act→World→Prop} {Q':Exit→Act→World→Prop} {w:World} (hn:∀(j:Nat) (o:Oper),ops[j]?=some o→kC o.op=true) (hC:C w) (h:∀a w',C w'→K a→K' a w') (hh:qOp G.P ops C i K a):wpOpIn (FW ro) m G.P ops Q' i K' a w:=by
 unfold qOp at hh
 unfold wpOpIn
 split
 ·rename_i ho;simp only[ho]at hh;exact h _ _ hC hh
 ·rename_i o ho
  simp only[ho]at hh
  split
  ·rename_i hw
   simp only[hw,if_true]at hh
   obtain⟨v,h1,h2⟩:=hh
   have h3:=h1 w hC
   have hs:Oper.semAt (FW ro).round a.eval o=execOp a.eval o:=Oper.semAt_eq _ _ _ (by
    have:=hn i o ho
    rintro c e;rw[e]at this;simp[kC]at this)
   refine⟨fun _ _=>trivial,?_⟩
   rw[hs]
   unfold Oper.quietAt at h3
   generalize (execOp a.eval o).run G.P w=r at*
   cases r with
   |ok n w'=>
    cases n<;>simp only[Oper.quietUpon]at h3<;>simp only[Oper.uponIn]
    case value u=>
     obtain⟨e1,e2⟩:=h3
     rw[e1,e2]
     exact h _ _ hC h2
    case skip=>
     obtain⟨e1,e2⟩:=h3
     rw[e1,←e2]
     exact h _ _ hC h2
    case enter f args=>
     obtain⟨e1,hc⟩:=h3
     rw[e1]
     exact⟨fun e=>(by cases e),(qt hc).mono fun e w'' ⟨he,hw''⟩=>by subst he;exact h _ _ hw'' h2⟩
   |halt x w'=>simp only[Oper.quietUpon]at h3
  ·rename_i hw;simp only[hw]at hh;exact⟨fun _ _=>trivial,h _ _ hC hh⟩
theorem m8 {Q:Act→Prop} {Q':Exit→Act→World→Prop} (hn:∀(j:Nat) (o:Oper),ops[j]?=some o→kC o.op=true) (hQ:∀a w,C w→Q a→Q' .normal a w):∀(fuel:Nat) (listed:Array Bool) (a:Act) (w:World),C w→
  wpAnyQ G.P md ops C Q fuel listed a→wpAnyIn (FW ro) m G.P md ops Q' fuel listed a w
 |0,_,_,_,hw,h=>⟨h.1,hQ _ _ hw h.2⟩
 |fuel+1,_,_,_,hw,h=>⟨fun h0=>hQ _ _ hw (h.1 h0),fun i hi=>wV hn hw (fun a' w' hw'=>m8 hn hQ fuel _ a' w' hw') (h.2 i hi)⟩
theorem ri {id:Nat} {Q:Exit→Act→World→Prop} {a:Act} {w:World} (hn:∀(j:Nat) (o:Oper),ops[j]?=some o→kC o.op=true) (hB:Region.lexB .any ops=true) (hC:C {w with drawn:=w.drawn+1})
  (h:wpQuiet G.P ops C (fun a'=>∀w',C w'→Q .normal a' w') ops.toList a):(Code.region id ops true).wpIn (FW ro) m G.P Q a w:=by
 simp only[Region.lexB,Bool.and_eq_true]at hB
 refine wpIn_region_any G.mixed (m8 (Q:=fun a'=>∀w',C w'→Q .normal a' w') hn (fun _ w' hw' h=>h w' hw') _ _ _ _ hC ?_)
 have:=wpAnyQ_lex (C:=C) (md:=.any) hB.1 ops.toList 0 (Array.replicate ops.size false) a Pj (by simpa using hB.2) h
 simpa using this
end
theorem mj {ops:Array Oper} {C:World→Prop} {ro:Option Nat} {m:Nat} {Q:Act→Prop} {Q':Exit→Act→World→Prop} (hQ:∀a w,C w→Q a→Q' .normal a w):∀(l:List Oper),(∀o,o∈l→kC o.op=true)→∀(a:Act) (w:World),C w→
  wpQuiet G.P ops C Q l a→wpListIn (FW ro) m G.P ops Q' l a w
 |[],_,_,_,hw,h=>hQ _ _ hw h
 |o::rest,hn,a,w,hC,hh=>by
  have ih:=mj (ops:=ops) (ro:=ro) (m:=m) hQ rest (fun o h=>hn o (by simp[h]))
  unfold wpListIn
  simp only[wpQuiet]at hh
  split
  ·rename_i hw
   simp only[hw,if_true]at hh
   obtain⟨v,h1,h2⟩:=hh
   have h3:=h1 w hC
   have hs:Oper.semAt (FW ro).round a.eval o=execOp a.eval o:=Oper.semAt_eq _ _ _ (by
    have:=hn o Pj
    rintro c e;rw[e]at this;simp[kC]at this)
   refine⟨fun _ _=>trivial,?_⟩
   rw[hs]
   unfold Oper.quietAt at h3
   generalize (execOp a.eval o).run G.P w=r at*
   cases r with
   |ok n w'=>
    cases n<;>simp only[Oper.quietUpon]at h3<;>simp only[Oper.uponIn]
    case value u=>
     obtain⟨e1,e2⟩:=h3
     rw[e1,e2]
     exact ih _ _ hC h2
    case skip=>
     obtain⟨e1,e2⟩:=h3
     rw[e1,←e2]
     exact ih _ _ hC h2
    case enter f args=>
     obtain⟨e1,hc⟩:=h3
     rw[e1]
     exact⟨fun e=>(by cases e),(qt hc).mono fun e w'' ⟨he,hw''⟩=>by subst he;exact ih _ _ hw'' h2⟩
   |halt x w'=>simp only[Oper.quietUpon]at h3
  ·rename_i hw;simp only[hw]at hh;exact⟨fun _ _=>trivial,ih _ _ hC hh⟩
section
variable {ro:Option Nat} {D:List Deferred} {ops:Array Oper} {Q:Exit→Act→World→Prop} {n:Nat} {E:Env} {M M':List bu} {R R':List (World→Prop)}
theorem jo.cY {id:Nat} {l:List Oper} (hn:(l.all fun o=>kC o.op)=true) (hB:Region.lexB .any l.toArray=true) (h:aq G l.toArray (.quiet (fun a'=>∀w',Ok M R w'→Q .normal a' w') (Ok M R)) n l E):jo ro [] Q n (.region id l.toArray true) E M R:=
 ⟨fun w hw=>⟨fun a ha=>ri (C:=Ok M R) (fun j o ho=>by
  have hm:o∈l:=List.mem_of_getElem? (by simpa using ho)
  exact PC.1 hn o hm) hB hw.drew (by have:=h.h a ha.Ho;simp only[Mode.run]at this;simpa using this)⟩⟩
theorem jo.Hc {id:Nat} {l:List Oper} (hn:(l.all fun o=>kC o.op)=true) (h:aq G l.toArray (.quiet (fun a'=>∀w',Ok M R w'→Q .normal a' w') (Ok M R)) n l E):jo ro [] Q n (.region id l.toArray false) E M R:=
 ⟨fun w hw=>⟨fun a ha=>wpIn_region_lit (mj (C:=Ok M R) (Q:=fun a'=>∀w',Ok M R w'→Q .normal a' w') (fun _ w' hw' h=>h w' hw') l (fun o ho=>PC.1 hn o ho) a w hw (by have:=h.h a ha.Ho;simp only[Mode.run]at this;simpa using this))⟩⟩
theorem ah.Lq {e:Exit} (h:gC [] Q n e E M R):ah Q n e E M R:=⟨fun w hw=>⟨fun a ha=>(h.h w hw).h a (tk.of ha)⟩⟩
theorem jo.oJ {id:Nat} {l:List Oper} (_:(l.all fun o=>qo o.op)=true) (hn:(l.all fun o=>kC o.op)=true) (hB:Region.lexB .any l.toArray=true) (h:aq G l.toArray (.quiet (fun a'=>∀w',Ok M R w'→Q .normal a' w') (Ok M R)) n l E):jo ro [] Q n (.region id l.toArray true) E M R:=jo.cY hn hB h
theorem jo.F4 {id:Nat} {l:List Oper} (_:(l.all fun o=>qo o.op)=true) (hn:(l.all fun o=>kC o.op)=true) (h:aq G l.toArray (.quiet (fun a'=>∀w',Ok M R w'→Q .normal a' w') (Ok M R)) n l E):jo ro [] Q n (.region id l.toArray false) E M R:=jo.Hc hn h
theorem Gl {g g':Prop} (h:g') (hw:eA g'→g:=by(intro hk_;(repeat(first|(refine ah.is ?_;refine ah.Lq ?_)|refine Ht ?_|(refine bI.is ?_;(first|refine bI.nil ?_|refine bI.y_ (Yl.move rfl) rfl ?_|refine bI.y_ (Yl.assign rfl) rfl ?_|(refine bI.aE ?_;(first|(refine bI.aE (bo:=.lss) ?_;(first|refine bI.y_ (Yl.lH rfl rfl Pi) rfl ?_|refine bI.y_ (Yl.lG rfl rfl Pi) rfl ?_))|(refine bI.aE (bo:=.eql) ?_;(first|refine bI.y_ (Yl.ly rfl rfl Pi) rfl ?_|refine bI.y_ (Yl.lx rfl rfl Pi) rfl ?_))|(refine bI.aE (bo:=.neq) ?_;(first|refine bI.y_ (Yl.lK rfl rfl Pi) rfl ?_|refine bI.y_ (Yl.lJ rfl rfl Pi) rfl ?_))|(refine bI.aE (bo:=.leq) ?_;(first|refine bI.y_ (Yl.lF rfl rfl Pi) rfl ?_|refine bI.y_ (Yl.lE rfl rfl Pi) rfl ?_))|(refine bI.aE (bo:=.gtr) ?_;(first|refine bI.y_ (Yl.lC rfl rfl Pi) rfl ?_|refine bI.y_ (Yl.lB rfl rfl Pi) rfl ?_))|(refine bI.aE (bo:=.geq) ?_;(first|refine bI.y_ (Yl.lA rfl rfl Pi) rfl ?_|refine bI.y_ (Yl.lz rfl rfl Pi) rfl ?_))|refine bI.y_ (Yl.add rfl rfl Pi) rfl ?_|refine bI.y_ (Yl.sub rfl rfl Pi) rfl ?_|refine bI.y_ (Yl.jh rfl rfl rfl rfl) rfl ?_|refine bI.y_ (Yl.mr Tryz.underlying4 rfl rfl) rfl ?_|refine bI.y_ (Yl.mq Tryz.underlying4 rfl rfl) rfl ?_|refine bI.y_ (Yl.xj rfl rfl) rfl ?_|refine bI.y_ (Yl.nV rfl rfl) rfl ?_|refine bI.y_ (Yl.nS rfl rfl Pi) rfl ?_|fail))|(refine bI.dn ?_;(first|refine bI.y_ (Yl.mN rfl rfl rfl OF) rfl ?_|refine bI.y_ (Yl.mL rfl rfl rfl rfl OO) rfl ?_|refine bI.y_ (Yl.mO rfl rfl rfl rfl OO OL) rfl ?_|refine bI.y_ (Yl.mM rfl rfl rfl OJ rfl) rfl ?_))|refine bI.y_ (Yl.len rfl rfl rfl) rfl ?_|refine bI.y_ (Yl.extract rfl rfl) rfl ?_|refine bI.y_ (Yl.fT rfl rfl) rfl ?_|refine bI.y_ (Yl.fS rfl rfl) rfl ?_|refine bI.y_ (Yl.nilCheck rfl) rfl ?_|refine bI.y_ (Yl.not rfl) rfl ?_|refine bI.y_ (Yl.makeFunc rfl rfl) rfl ?_|refine bI.y_ (Yl.jW rfl rfl) rfl ?_|refine bI.y_ (Yl.jX rfl rfl rfl OH Pk) rfl ?_|refine bI.y_ (Yl.jY rfl rfl rfl OI) rfl ?_|refine bI.y_ (Yl.gH rfl rfl rfl rfl) rfl ?_|refine bI.y_ (Yl.ed Tryz.underlying9 rfl rfl rfl Pi) rfl ?_|refine bI.y_ (Yl.dC Tryz.underlying9 rfl rfl rfl Pi) rfl ?_|refine bI.y_ (Yl.eW Tryz.underlying9 rfl rfl rfl rfl rfl Pi Pi) rfl ?_|refine bI.y_ (Yl.cZ rfl rfl rfl rfl rfl rfl Pi) rfl ?_|refine bI.y_ (Yl.nT Tryz.underlying9 rfl) rfl ?_))|(refine jo.is ?_;(first|refine jo.seq ?_|refine jo.oJ rfl rfl Pb ?_|refine jo.F4 rfl rfl ?_|refine jo.region ?_|refine jo.block ?_|refine jo.skip ?_|refine jo.ret ?_|refine jo.exit ?_|refine jo.jf rfl ?_|refine jo.je rfl ?_))|(refine gC.is ?_;(first|refine gC.lf ?_|refine gC.pR ?_|refine gC.lg ?_|refine gC.pS ?_|refine gC.lh ?_|refine gC.pT ?_|fail))));exact hk_.out)):g:=hw ⟨h⟩
end
def bwd (l:List Int):List (Int×Int):=(List.range l.length).reverse.map fun i:Nat=>((i:Int),ix l i)
theorem qF:(bwd l).length=l.length:=by simp[bwd]
theorem EX {l:List Int} {k:Nat} (h:k<l.length):(bwd l).take (k+1)=(bwd l).take k++[(((l.length - 1 - k:Nat):Int),ix l (l.length - 1 - k))]:=by
 have hl:k<(bwd l).length:=by rw[qF];exact h
 rw[List.take_succ_eq_append_getElem hl]
 congr 2
 simp[bwd,List.getElem_reverse]
def KD (K:Nat→Prop) (W W':World):Prop:=W.heap.size≤W'.heap.size∧∀k,k<W.heap.size→K k→W'.heap[k]?=W.heap[k]?
theorem KD.trans {X Y Z:World} (h:KD K X Y) (k:KD K Y Z):KD K X Z:=⟨Nat.le_trans h.1 k.1,fun i hl hi=>(k.2 i (PB hl h.1) hi).trans (h.2 i hl hi)⟩
theorem KD.cell {W W':World} (h:KD K W W') {p:Addr} {v:Value} (hp:K p.block) (hc:W.cell? p=some v):W'.cell? p=some v:=by
 rw[World.cell?_of_block (w:=W) (h.2 p.block (fy hc) hp)];exact hc
theorem KD.put {l:Nat} {o:Obj} (hK:¬K l):KD K W (W.putObj l o):=⟨by simp[World.putObj],fun k _ hk=>World.putObj_heap_other (by rintro rfl;exact hK hk)⟩
def H5 (x:Int×Int):List Value:=[.int .i64 x.1,.int .i64 x.2]
def RB (b1:Nat) (p:Option Addr) (c:Nat) (l:List Int) (W:World):Prop:=W.cell? ⟨b1,0,none⟩=some (.slice p l.length c)∧∀i,i<l.length→∃b o,p=some ⟨b,o,none⟩∧W.cell? ⟨b,o+i,none⟩=some (.int .i64 (ix l i))
def KB (b1:Nat) (p:Option Addr) (n:Nat):Nat→Prop:=fun k=>k=b1∨0<n∧∃a,p=some a∧a.block=k
theorem RB.kd {c:Nat} {l:List Int} {W W':World} (h:RB b1 p c l W) (hk:KD (KB b1 p l.length) W W'):RB b1 p c l W':=
 ⟨hk.cell (.inl rfl) h.1,fun i hi=>by obtain⟨b,o,e,hc⟩:=h.2 i hi;exact⟨b,o,e,hk.cell (.inr ⟨by omega,_,e,rfl⟩) hc⟩⟩
theorem RB.ext {c:Nat} {l:List Int} {W W':World} (h:RB b1 p c l W) (hk:Ext W W'):RB b1 p c l W':=
 ⟨hk.cell h.1,fun i hi=>by obtain⟨b,o,e,hc⟩:=h.2 i hi;exact⟨b,o,e,hk.cell hc⟩⟩
theorem GC (b1:Nat) (p:Option Addr) (c:Nat) (l:List Int) (w0:World) (h0:RB b1 p c l w0) (_hl:l.length≤9223372036854775807):IM 183 [.pointer (some ⟨b1,0,none⟩)] H5 (KD (KB b1 p l.length)) (bwd l) w0:=by
 intro ll J Jx W hW hJ hJx hY hJ0
 have hRW:RB b1 p c l W:=h0.ext (Ext.CK hW)
 refine enter (G:=G) (l:=[.func (.yield ll) #[] #[],.pointer (some ⟨b1,0,none⟩)]) func183 rfl ntmps183 rfl ?_
 have hc1:=hRW.1
 refine Cl ?_
 refine Cd.loop (σ:=Nat) (fun k=>[(0,.func (.yield ll) #[] #[]),(1,.pointer (some ⟨b1,0,none⟩)),(3,.int .i64 ((l.length:Int) - 1 - k))]) (fun k wr=>k≤l.length∧J ((bwd l).take k) wr∧RB b1 p c l wr) (fun k=>l.length - k) 0 bH ⟨by omega,by rw[List.take_zero];exact hJ0,hRW⟩ ?_
 rintro k wr ⟨hk,hJk,hR⟩
 by_cases hlt:k<l.length
 ·obtain⟨i,hi⟩:∃i,i=l.length - 1 - k:=⟨_,rfl⟩
  have hil:i<l.length:=by omega
  obtain⟨b,o,rfl,hce⟩:=hR.2 i hil
  have hc2:=hR.1
  have e1:(l.length:Int) - 1 - k=(i:Int):=by omega
  have hst:=EX hlt
  rw[←hi]at hst
  have hyk:=hY ((bwd l).take k) ((i:Int),ix l i) wr hJk (by rw[←hst];exact List.take_prefix _ _)
  rw[←hst]at hyk
  rw[e1]
  refine Cl ?_
  refine Cd.CR 0 ?_
  refine AX ?_
  refine eE.round (m:=0) (vs:=H5 ((i:Int),ix l i)) rfl rfl rfl hyk ?_
  rintro e w5 (⟨rfl,hJ5,hK5⟩|⟨rfl,hJx5,hK5⟩)
  ·refine⟨_,rfl,?_⟩
   refine AX ?_
   refine fh.ofFin ?_
   refine Cl ?_
   exact Fin.next (k+1) bH ⟨by omega,hJ5,hR.kd hK5⟩ Pi
  ·refine⟨_,rfl,?_⟩
   refine AX ?_
   refine fh.ofFin ?_
   refine Cl ?_
   exact Fin.F5 rfl ⟨⟨_,rfl⟩,.inr ⟨_,List.take_prefix _ _,hJx5⟩⟩
 ·obtain rfl:k=l.length:=by omega
  rw[show(l.length:Int) - 1 - (l.length:Nat)=-1 from by omega]
  refine Cl ?_
  refine Fin.oe rfl ⟨⟨_,rfl⟩,.inl ?_⟩
  rw[←qF,List.take_length]at hJk;exact hJk
theorem sV (p:Option Addr) (n c:Nat) (w:World):Calls G.P 164 #[.slice p n c] w fun e w'=>e=.returned (.func (.func 183) #[] #[.pointer (some ⟨w.heap.size,0,none⟩)])∧zk w w' [.slice p n c] 49:=by
 refine enter (G:=G) func164 rfl ntmps164 rfl ?_
 refine cA ?_
 refine aq.e (bU.box rfl rfl) rfl ?_
 rintro _ w1 ⟨rfl,hn1⟩
 refine cA ?_
 exact Fin.aG rfl rfl ⟨rfl,hn1⟩
abbrev C8:Nat:=105
abbrev Cu:Nat:=216
abbrev C7:Nat:=36
abbrev s6:Nat:=3
theorem xJ {fn:Func} {n:Nat} {E:Env} {w:World} {a T b T':Nat} {ti ti':TI} {v u:Value} {ad bd:Addr} (hr:fn.results=#[.cell a T,.cell b T']) (ha:lk E a=some (.pointer (some ad))) (hT:G.ty T=some ti) (hag:ti.agg=false) (hc:w.cell? ad=some v)
  (hb:lk E b=some (.pointer (some bd))) (hT':G.ty T'=some ti') (hag':ti'.agg=false) (hc':w.cell? bd=some u):∀ac,Ag n ac E→(results fn ac.tmps).run G.P w=.ok (.tuple #[v,u]) w:=fun ac hac=>by
 have h1:=(G.iT T ti hT).agg w
 rw[hag]at h1
 have h2:=(G.iT T' ti' hT').agg w
 rw[hag']at h2
 have g1:ac.tmps[a]?.getD undef=.pointer (some ad):=by have:=(hac.eq a _ ha).2;simpa using this
 have g2:ac.tmps[b]?.getD undef=.pointer (some bd):=by have:=(hac.eq b _ hb).2;simpa using this
 simp[results,hr,g1,g2,asAddr,loadVar,h1,hc,h2,hc']
theorem qH {D:Nat} {o:Obj} {p:Addr} {v:Value} (h:W.cell? p=some v) (hne:p.block≠D):(W.putObj D o).cell? p=some v:=by
 rw[World.cell?_of_block (w:=W) (World.putObj_heap_other hne)];exact h
theorem GB {l:List Int} {pre:List (Int×Int)} {x:Int×Int} (h:pre++[x]<+:bwd l):pre.length<l.length∧l.reverse.drop pre.length=x.2::l.reverse.drop (pre.length+1):=by
 obtain⟨r,hr⟩:=h
 have hl:pre.length<l.length:=by rw[←qF,←hr];simp
 refine⟨hl,?_⟩
 have h1:(bwd l)[pre.length]?=some x:=by rw[←hr];simp
 have h2:(bwd l)[pre.length]?=some (((l.length - 1 - pre.length:Nat):Int),ix l (l.length - 1 - pre.length)):=by
  rw[Pw (by rw[qF];exact hl)]
  congr 1
  simp[bwd,List.getElem_reverse]
 rw[h1]at h2
 cases h2
 rw[List.drop_eq_getElem_cons (by simpa using hl)]
 congr 1
 rw[List.getElem_reverse,cz Pi]
theorem vy (D:Nat→Prop) (sp:Nat) (s:ck) (x:Value×Value) (v:Value) (l:List Int) (w:World) (hw:Ok (aX sp s x) [fun w=>ai D w v l] w) (hp:0<s.ps.length) (_h0:0≤s.at_) (hle:s.at_≤s.ts.length):
  Calls G.P 130 #[.pointer (some ⟨sp,0,none⟩),v] w fun e w'=>e=.returned (.tuple #[.int .i64 ((eV s l.reverse s.ts.length).1:Nat),.int .i64 (eV s l.reverse s.ts.length).2])∧Ext w w':=by
 obtain⟨v1,v2⟩:=x
 obtain⟨⟨p1,c1,e1,hcap,hg1⟩,⟨p2,c2,e2,hg2⟩,hn1,hn2⟩:=yW sp s (v1,v2) hw (Pv.refl _)
 dsimp only at e1 e2
 subst e1;subst e2
 obtain⟨g2,rfl⟩:=hg2 hp
 have hI:ai D w v l:=hw.get (p:=fun w=>ai D w v l) Pj
 obtain⟨q,d,rfl,hl⟩:=hI.slice
 have k0:w.cell? ⟨sp,0,none⟩=some (.slice p1 s.ts.length c1):=hw.c1 (T:=jE) (cs:=[.slice p1 s.ts.length c1,.slice (some ⟨g2,0,none⟩) s.ps.length c2,.bool (dB s)]) Up.head rfl
 have k1:w.cell? ⟨sp,1,none⟩=some (.slice (some ⟨g2,0,none⟩) s.ps.length c2):=hw.c1 (T:=jE) (cs:=[.slice p1 s.ts.length c1,.slice (some ⟨g2,0,none⟩) s.ps.length c2,.bool (dB s)]) Up.head rfl
 have o1:w.ownsRow 0 fR 1 (.slice p1 s.ts.length c1) s.ts.length (aY s.ts):=(hw.m (.own 0 fR 1 (.slice p1 s.ts.length c1) s.ts.length (aY s.ts)) (by simp[aX])).1
 have o2:w.ownsRow 0 jD 2 (.slice (some ⟨g2,0,none⟩) s.ps.length c2) s.ps.length (cg s.ps):=(hw.m (.own 0 jD 2 (.slice (some ⟨g2,0,none⟩) s.ps.length c2) s.ps.length (cg s.ps)) (by simp[aX])).1
 have a1:w.cell? ⟨g2,(s.ps.length - 1)*2,none⟩=some (.int .i64 s.at_):=dP o2 (mP (l:=s.ps) (i:=s.ps.length - 1) Pi).1
 have a2:w.cell? ⟨g2,(s.ps.length - 1)*2+1,none⟩=some (.bool s.loose):=dP o2 (mP (l:=s.ps) (i:=s.ps.length - 1) Pi).2
 refine H7 (l:=[.pointer (some ⟨sp,0,none⟩),.slice q l.length d]) func130 rfl ntmps130 rfl (Ok.start w) ?_
 refine Gm ?_
 refine bI.he (HE.box [.pointer (some ⟨sp,0,none⟩)] rfl rfl) rfl rfl ?_
 intro b2 _
 refine Gm ?_
 refine bI.he (HE.alloc [.int .i64 0] rfl rfl) rfl rfl ?_
 intro b4 _
 refine Gm ?_
 refine bI.he (HE.alloc [.int .i64 0] rfl rfl) rfl rfl ?_
 intro b5 _
 refine Gm ?_
 refine jo.Lm ?_
 refine bh.cI [.aW b5 [.int .i64 0] C7,.aW b4 [.int .i64 0] s6,.aW b2 [.pointer (some ⟨sp,0,none⟩)] C8] [Ext w] bz aU ?_
 refine aP.zR (α:=Nat×Nat) (fun y=>[(1,.slice q l.length d),(2,.pointer (some ⟨b2,0,none⟩)),(4,.pointer (some ⟨b4,0,none⟩)),(5,.pointer (some ⟨b5,0,none⟩)),(6,.pointer (some ⟨y.1,0,none⟩)),(7,.pointer (some ⟨y.2,0,none⟩))]) (fun y=>[.aW y.1 [.int .i64 s.ts.length] s6,.aW y.2 [.pointer (some ⟨g2,(s.ps.length - 1)*2,none⟩)] Cu,.aW b5 [.int .i64 0] C7,.aW b4 [.int .i64 0] s6,.aW b2 [.pointer (some ⟨sp,0,none⟩)] C8]) (fun _=>[Ext w]) ?_ fun hrest=>?_
 ·rintro⟨b6,b7⟩
  dsimp only
  refine ah.Jt ?_
  refine Gm ?_
  refine bI.he (HE.call (β:=Nat) (tf:=fun b=>.func (.func 183) #[] #[.pointer (some ⟨b,0,none⟩)]) (φ:=fun _=>True) (Mf:=fun b=>.aW b [.slice q l.length d] 49::[.aW b6 [.int .i64 s.ts.length] s6,.aW b7 [.pointer (some ⟨g2,(s.ps.length - 1)*2,none⟩)] Cu,.aW b5 [.int .i64 0] C7,.aW b4 [.int .i64 0] s6,.aW b2 [.pointer (some ⟨sp,0,none⟩)] C8]) (Rf:=fun _=>[Ext w]) rfl rfl (fun w' hw'=>(sV q l.length d w').mono fun e w'' ⟨e1,hn⟩=>⟨w'.heap.size,e1,trivial,hw'.push hn.ext hn.aW (tw hn)⟩)) rfl rfl ?_
  intro b9 _
  refine Gm ?_
  refine⟨fun w1 hw1=>?_⟩
  have hx1:Ext w w1:=hw1.at
  have f9:b9<w1.heap.size:=(hw1.m (.aW b9 _ _) bO).2 b9 rfl
  have f6:b6<w1.heap.size:=(hw1.m (.aW b6 _ _) bO).2 b6 rfl
  have f7:b7<w1.heap.size:=(hw1.m (.aW b7 _ _) bO).2 b7 rfl
  have f5:b5<w1.heap.size:=(hw1.m (.aW b5 _ _) bO).2 b5 rfl
  have f4:b4<w1.heap.size:=(hw1.m (.aW b4 _ _) bO).2 b4 rfl
  have f2:b2<w1.heap.size:=(hw1.m (.aW b2 _ _) bO).2 b2 rfl
  have hRB:RB b9 q d l w1:=⟨hw1.c1 (cs:=[.slice q l.length d]) aH rfl,fun i hi=>by
   obtain⟨b,o,e,-,hc⟩:=hI.at hi
   exact⟨b,o,e,hx1.cell (hc i hi)⟩⟩
  have lowG:∀(x6 x5 x4:Int) (r:Nat),Mb [.aW b6 [.int .i64 x6] s6,.aW b7 [.pointer (some ⟨g2,(s.ps.length - 1)*2,none⟩)] Cu,.aW b5 [.int .i64 x5] C7,.aW b4 [.int .i64 x4] s6,.aW b2 [.pointer (some ⟨sp,0,none⟩)] C8] r→r<w1.heap.size:=fun x6 x5 x4 r ⟨q',hq,hk⟩=>by
   simp only[PF,P3,or_false]at hq
   rcases hq with rfl|rfl|rfl|rfl|rfl<;>(have hk':r=_:=hk;omega)
  have lowM:∀(nn:Nat) (r:Nat),Mb [.aW b6 [.int .i64 ((nn:Nat):Int)] s6,.aW b7 [.pointer (some ⟨g2,(s.ps.length - 1)*2,none⟩)] Cu,.aW b5 [.int .i64 0] C7,.aW b4 [.int .i64 0] s6,.aW b2 [.pointer (some ⟨sp,0,none⟩)] C8] r→r<w1.heap.size:=fun nn r ⟨q',hq,hk⟩=>by
   simp only[PF,P3,or_false]at hq
   rcases hq with rfl|rfl|rfl|rfl|rfl<;>(have hk':r=_:=hk;omega)
  have lowX:∀(ee:Int) (r:Nat),Mb [.aW b7 [.pointer (some ⟨g2,(s.ps.length - 1)*2,none⟩)] Cu,.aW b5 [.int .i64 ee] C7,.aW b4 [.int .i64 0] s6,.aW b2 [.pointer (some ⟨sp,0,none⟩)] C8] r→r<w1.heap.size:=fun ee r ⟨q',hq,hk⟩=>by
   simp only[PF,P3,or_false]at hq
   rcases hq with rfl|rfl|rfl|rfl<;>(have hk':r=_:=hk;omega)
  have hqb:∀a,0<l.length→q=some a→a.block<w.heap.size:=fun a h e=>by
   obtain⟨b,o,e',-,hc⟩:=hI.at (i:=0) h
   rw[e]at e';cases e'
   exact fy (hc 0 h)
  have hne:b9≠b6∧b9≠b7∧b9≠b5∧b9≠b4∧b9≠b2:=by
   have hd:=(P0.1 hw1.d).1
   exact⟨hd (.aW b6 _ _) bO b9 rfl,hd (.aW b7 _ _) bO b9 rfl,hd (.aW b5 _ _) bO b9 rfl,hd (.aW b4 _ _) bO b9 rfl,hd (.aW b2 _ _) bO b9 rfl⟩
  have keepM:∀(nn:Nat) (W:World),Ok [.aW b6 [.int .i64 ((nn:Nat):Int)] s6,.aW b7 [.pointer (some ⟨g2,(s.ps.length - 1)*2,none⟩)] Cu,.aW b5 [.int .i64 0] C7,.aW b4 [.int .i64 0] s6,.aW b2 [.pointer (some ⟨sp,0,none⟩)] C8] [Ext w] W→∀k,KB b9 q l.length k→¬Mb [.aW b6 [.int .i64 ((nn:Nat):Int)] s6,.aW b7 [.pointer (some ⟨g2,(s.ps.length - 1)*2,none⟩)] Cu,.aW b5 [.int .i64 0] C7,.aW b4 [.int .i64 0] s6,.aW b2 [.pointer (some ⟨sp,0,none⟩)] C8] k:=fun nn W hok k hk hm=>by
   rcases hk with rfl|⟨h,a,e,rfl⟩
   ·obtain⟨q',hq,hk⟩:=hm
    simp only[PF,P3,or_false]at hq
    obtain⟨n1,n2,n3,n4,n5⟩:=hne
    rcases hq with rfl|rfl|rfl|rfl|rfl
    ·exact n1 hk
    ·exact n2 hk
    ·exact n3 hk
    ·exact n4 hk
    ·exact n5 hk
   ·exact hok.origin (S:=fun _=>False) Pj _ hm (hqb a h e)
  refine kx.It (encs:=H5) (Kp:=KD (KB b9 q l.length)) (full:=bwd l) rfl rfl (GC b9 q d l w1 hRB Pi) (fun h k=>h.trans k) (fun W l' r r' hW hl' _=>KD.put ?_) (fun _=>rfl) rfl
   (fun pre W=>∃nn:Nat,Ok [.aW b6 [.int .i64 ((nn:Nat):Int)] s6,.aW b7 [.pointer (some ⟨g2,(s.ps.length - 1)*2,none⟩)] Cu,.aW b5 [.int .i64 0] C7,.aW b4 [.int .i64 0] s6,.aW b2 [.pointer (some ⟨sp,0,none⟩)] C8] [Ext w] W∧s.at_≤nn∧nn≤s.ts.length∧eV s (l.reverse.drop pre.length) nn=eV s l.reverse s.ts.length)
   (fun c pre W=>c=.ret∧∃ee:Int,Ok [.aW b7 [.pointer (some ⟨g2,(s.ps.length - 1)*2,none⟩)] Cu,.aW b5 [.int .i64 ee] C7,.aW b4 [.int .i64 0] s6,.aW b2 [.pointer (some ⟨sp,0,none⟩)] C8] [Ext w] W∧eV s l.reverse s.ts.length=(0,ee)) ?_ ?_ ⟨s.ts.length,hw1.sub bz (fun _ h=>h),hle,Px _,rfl⟩
   (fun x=>[(9,.int .i64 x.2),(1,.slice q l.length d),(2,.pointer (some ⟨b2,0,none⟩)),(4,.pointer (some ⟨b4,0,none⟩)),(5,.pointer (some ⟨b5,0,none⟩)),(6,.pointer (some ⟨b6,0,none⟩)),(7,.pointer (some ⟨b7,0,none⟩))]) ?_ ?_ ?_ ?_
  ·intro hk
   have hlt:l'<w1.heap.size:=by
    rcases hk with rfl|⟨h,a,e,rfl⟩
    ·exact f9
    ·exact PB (hqb a h e) hx1.size
   omega
  ·rintro pre A A' row ⟨nn,h,h1,h2,h3⟩ hg hr
   exact⟨nn,h.grow hx1.size hg hr fun r o h1 h2 h3 h4=>absurd (lowM nn r h4) Pi,h1,h2,h3⟩
  ·rintro c pre A A' row ⟨e,ee,h,h3⟩ hg hr
   exact⟨e,ee,h.grow hx1.size hg hr fun r o h1 h2 h3 h4=>absurd (lowX ee r h4) Pi,h3⟩
  ·intro l' x W2 K hK
   refine AX ?_
   exact fh.HQ (fun a ha=>hK a (ha.sub bH))
  ·rintro l' pre x W2 ⟨nn,hok,h1,h2,h3⟩ hN
   obtain⟨hpl,hdr⟩:=GB hN
   rw[hdr,eV]at h3
   obtain⟨S0,hS0⟩:∃S0,S0=Mb [.aW b6 [.int .i64 ((nn:Nat):Int)] s6,.aW b7 [.pointer (some ⟨g2,(s.ps.length - 1)*2,none⟩)] Cu,.aW b5 [.int .i64 0] C7,.aW b4 [.int .i64 0] s6,.aW b2 [.pointer (some ⟨sp,0,none⟩)] C8]:=⟨_,rfl⟩
   have hok':=hok.dk
   rw[←hS0]at hok'
   have fin:∀{W':World},bX S0 W2 W'→zi #[20,21] w1.heap.size W2 W'∧KD (KB b9 q l.length) W2 W':=fun{W'} hc=>by
    have hk0:=keepM nn W2 hok
    rw[←hS0]at hk0
    refine⟨⟨hc.size,fun k o hk ho _=>?_⟩,hc.size,fun k hlt hk=>hc.block k hlt (hk0 k hk)⟩
    rw[hc.block k (Array.getElem?_eq_some_iff.1 ho).1 (fun hs=>by rw[hS0]at hs;have:=lowM nn k hs;omega)];exact ho
   refine jo.at hok' ?_
   by_cases he:(nn:Int)=s.at_
   ·rw[if_pos he]at h3
    obtain⟨lo,hlo⟩:∃b,s.loose=b:=⟨_,rfl⟩
    rw[hlo]at a2 h3
    cases lo with
    |true=>
     rw[if_pos rfl]at h3
     refine Gl ?_
     refine⟨fun W' hw'=>⟨fun a ha=>?_⟩⟩
     obtain⟨k1,k2⟩:=fin hw'.at
     exact⟨k1,k2,nn,hw'.sub bz aU,h1,h2,by rw[←h3];simp⟩
    |false=>
     rw[if_neg Pj]at h3
     refine Gl ?_
     refine bI.jO (gj.bn [.int .i64 0] rfl rfl rfl rfl rfl rfl aH rfl) rfl ?_
     rintro⟨⟩ _
     refine Gl ?_
     refine bI.jO (gj.bn [.int .i64 13] rfl rfl rfl rfl rfl rfl aH rfl) rfl ?_
     rintro⟨⟩ _
     refine Gl ?_
     refine⟨fun W' hw'=>⟨fun a ha=>?_⟩⟩
     obtain⟨k1,k2⟩:=fin hw'.at
     exact⟨k1,k2,rfl,13,hw'.sub bz aU,h3.symm⟩
   ·rw[if_neg he]at h3
    obtain⟨g1,rfl⟩:=hg1 Pi
    have b1:=dP o1 (o0 (l:=s.ts) (i:=nn - 1) Pi)
    have e1:(nn:Int) - 1=((nn - 1:Nat):Int):=by omega
    by_cases hM:ix s.ts (nn - 1)≠x.2∧ix s.ts (nn - 1)≠0∧x.2≠0
    ·rw[if_pos hM]at h3
     obtain⟨m1,m2,m3⟩:=hM
     refine Gl ?_
     refine bI.jO (gj.bn [.int .i64 ((nn:Int) - 1)] rfl rfl rfl rfl rfl rfl aH rfl) rfl ?_
     rintro⟨⟩ _
     rw[e1]
     refine Gl ?_
     refine bI.jO (gj.bn [.int .i64 0] rfl rfl rfl rfl rfl rfl aH rfl) rfl ?_
     rintro⟨⟩ _
     refine Gl ?_
     refine bI.jO (gj.bn [.int .i64 12] rfl rfl rfl rfl rfl rfl aH rfl) rfl ?_
     rintro⟨⟩ _
     refine Gl ?_
     refine⟨fun W' hw'=>⟨fun a ha=>?_⟩⟩
     obtain⟨k1,k2⟩:=fin hw'.at
     exact⟨k1,k2,rfl,12,hw'.sub bz aU,h3.symm⟩
    ·rw[if_neg hM]at h3
     rcases(show(ix s.ts (nn - 1)=x.2)∨(ix s.ts (nn - 1)≠x.2∧ix s.ts (nn - 1)=0)∨(ix s.ts (nn - 1)≠x.2∧ix s.ts (nn - 1)≠0∧x.2=0)from by omega)with m1|⟨m1,m2⟩|⟨m1,m2,m3⟩
     all_goals
      refine Gl ?_
      refine bI.jO (gj.bn [.int .i64 ((nn:Int) - 1)] rfl rfl rfl rfl rfl rfl aH rfl) rfl ?_
      rintro⟨⟩ _
      rw[e1]
      refine Gl ?_
      refine⟨fun W' hw'=>⟨fun a ha=>?_⟩⟩
      obtain⟨k1,k2⟩:=fin hw'.at
      exact⟨k1,k2,nn - 1,hw'.sub bz aU,by omega,by omega,by rw[←h3];simp⟩
  ·rintro Dn W2 hD ⟨nn,hok,h1,h2,h3⟩ hK
   rw[qF,show l.length=l.reverse.length from by simp,List.drop_length,eV]at h3
   rw[←h3]
   have hok2:Ok [.aW b6 [.int .i64 ((nn:Nat):Int)] s6,.aW b7 [.pointer (some ⟨g2,(s.ps.length - 1)*2,none⟩)] Cu,.aW b5 [.int .i64 0] C7,.aW b4 [.int .i64 0] s6,.aW b2 [.pointer (some ⟨sp,0,none⟩)] C8] [fun W=>W.heap[Dn]?=some (.deferred (some [])),Ext w] W2:=hok.add fun w' hc=>by
    rw[hc.block Dn (Array.getElem?_eq_some_iff.1 hK).1 (fun hs=>by have:=lowM nn Dn hs;omega)];exact hK
   refine gC.at hok2 ?_
   refine Gm ?_
   refine bI.jO (gj.bn [.int .i64 nn] rfl rfl rfl rfl rfl rfl aH rfl) rfl ?_
   rintro⟨⟩ _
   refine Gm ?_
   refine bI.jO (gj.bn [.int .i64 0] rfl rfl rfl rfl rfl rfl aH rfl) rfl ?_
   rintro⟨⟩ _
   refine Gm ?_
   refine⟨fun W' hw'=>?_⟩
   have hK':W'.heap[Dn]?=some (.deferred (some [])):=hw'.at
   have hx':Ext w (W'.putObj Dn (.deferred none)):=(hw'.sub (Pv.refl _) (R':=[Ext w]) aU |>.grow (row:=some Dn) (B:=w1.heap.size) hx1.size (grownBy_putObj' W' Dn (.deferred none)) (fun r e=>by cases e;exact⟨hD,_,hK',rfl⟩) (fun r o h1 h2 h3 h4=>absurd (lowG _ _ _ r h4) Pi)).at
   have q4:W'.cell? ⟨b4,0,none⟩=some (.int .i64 nn):=hw'.c1 aH rfl
   have q5:W'.cell? ⟨b5,0,none⟩=some (.int .i64 0):=hw'.c1 aH rfl
   refine fh.He (.inl rfl) hK' (xJ rfl rfl rfl rfl (qH q4 (show b4≠Dn by omega)) rfl rfl rfl (qH q5 (show b5≠Dn by omega))) ⟨rfl,hx'⟩
  ·rintro Dn c pre W2 hD hpre ⟨rfl,ee,hok,h3⟩ hK
   rw[h3]
   have hok2:Ok [.aW b7 [.pointer (some ⟨g2,(s.ps.length - 1)*2,none⟩)] Cu,.aW b5 [.int .i64 ee] C7,.aW b4 [.int .i64 0] s6,.aW b2 [.pointer (some ⟨sp,0,none⟩)] C8] [fun W=>W.heap[Dn]?=some (.deferred (some [])),Ext w] W2:=hok.add fun w' hc=>by
    rw[hc.block Dn (Array.getElem?_eq_some_iff.1 hK).1 (fun hs=>by have:=lowX ee Dn hs;omega)];exact hK
   refine jo.at hok2 ?_
   refine Gm ?_
   refine⟨fun W' hw'=>?_⟩
   have hK':W'.heap[Dn]?=some (.deferred (some [])):=hw'.at
   have hx':Ext w (W'.putObj Dn (.deferred none)):=(hw'.sub (Pv.refl _) (R':=[Ext w]) aU |>.grow (row:=some Dn) (B:=w1.heap.size) hx1.size (grownBy_putObj' W' Dn (.deferred none)) (fun r e=>by cases e;exact⟨hD,_,hK',rfl⟩) (fun r o h1 h2 h3 h4=>absurd (lowX ee r h4) Pi)).at
   have q4:W'.cell? ⟨b4,0,none⟩=some (.int .i64 0):=hw'.c1 aH rfl
   have q5:W'.cell? ⟨b5,0,none⟩=some (.int .i64 ee):=hw'.c1 aH rfl
   refine fh.He (.inl rfl) hK' (xJ rfl rfl rfl rfl (qH q4 (show b4≠Dn by omega)) rfl rfl rfl (qH q5 (show b5≠Dn by omega))) ⟨rfl,hx'⟩
 ·repeat'(first|refine pN ?_|(refine ax.yf s6 ?_;refine ax.he rfl rfl (HE.alloc (t:=s6) [.int .i64 0] rfl rfl) (fun _=>bz) (fun _=>aU) ?_;intro b_ _)|(refine ax.yf Cu ?_;refine ax.he rfl rfl (HE.alloc (t:=Cu) [.pointer none] rfl rfl) (fun _=>bz) (fun _=>aU) ?_;intro b_ _)|(refine ax.dA 131 ?_;refine ax.he rfl rfl (HE.eU rfl rfl (fun w' hw'=>xK sp s.ps.length c2 g2 w' ((show Ext w w' from hw'.at).cell k1) hp hn2)) (fun _=>bz) (fun _=>aU) ?_;rintro⟨⟩ _)|(refine ax.nj ?_;refine ax.jO rfl (gj.bn _ rfl rfl rfl rfl rfl rfl aH rfl) (fun _=>bz) (fun _=>aU) ?_;rintro⟨⟩ _)|refine aP.nil O9 ?_|refine aP.any O9 ?_|exact aB.fin rfl|refine aB.skip O9 ?_|refine aB.go ?_ ?_)
  all_goals exact ah.dc (hrest (_,_)) bH dV aU
theorem gy (D:Nat→Prop) (sp:Nat) (s:ck) (x:Value×Value) (v:Value) (l:List Int) (w:World) (hw:Ok (aX sp s x) [fun w=>ai D w v l] w) (hp:0<s.ps.length) (h0:0≤s.at_) (hle:s.at_≤s.ts.length):
  Calls G.P 82 #[.pointer (some ⟨sp,0,none⟩),v] w (fe sp s x (.int .i64 (aL s l).2) (aL s l).1 w):=by
 obtain⟨v1,v2⟩:=x;obtain⟨⟨p1,c1,e1,hcap,hg1⟩,⟨p2,c2,e2,hg2⟩,hn1,hn2⟩:=yW sp s (v1,v2) hw (Pv.refl _);dsimp only at e1 e2;subst e1;subst e2;obtain⟨g2,rfl⟩:=hg2 hp
 have hI:ai D w v l:=hw.get (p:=fun w=>ai D w v l) Pj
 obtain⟨q,d,rfl,hl⟩:=hI.slice
 refine ae (l:=[_,_]) func82 rfl ntmps82 rfl (Ok.dk hw) ?_
 unfold fe
 obtain⟨r,hr⟩:∃r,eV s l.reverse s.ts.length=r:=⟨_,rfl⟩
 obtain⟨n,e⟩:=r
 have hlf:∀w',Ok (aX sp s (.slice p1 s.ts.length c1,.slice (some ⟨g2,0,none⟩) s.ps.length c2)) [fun w=>ai D w (.slice q l.length d) l] w'→Calls G.P 130 #[.pointer (some ⟨sp,0,none⟩),.slice q l.length d] w' fun ee w''=>ee=.returned (.tuple #[.int .i64 (n:Nat),.int .i64 e])∧Ext w' w'':=fun w' hw'=>by
  have:=vy D sp s _ _ l w' hw' hp h0 hle
  rw[hr]at this;exact this
 have hwk:aL s l=if e=0 then({s with ts:=s.ts.take n},0)else(s,e):=by unfold aL;rw[hr]
 have hnl:e=0→n≤s.ts.length:=fun h=>by
  have:=jK l.reverse s.ts.length hle (by rw[hr];exact h)
  rw[hr]at this;exact this.2
 rw[hwk]
 generalize hS:Mb (aX sp s (.slice p1 s.ts.length c1,.slice (some ⟨g2,0,none⟩) s.ps.length c2))=S0;unfold aX;dsimp only
 repeat'(first|refine ar ?_|refine N9 ?_|(refine aa.aj (f:=130) ?_;refine aa.av rfl rfl rfl (fun w' hw'=>hlf w' (hw'.sub (Pv.refl _) aU)) ?_)|(refine aa.y_ (Yl.cZ (i:=n) rfl rfl rfl rfl rfl rfl (PE (hnl hc_) hcap)) rfl ?_)|(refine bC ?_ ?_<;>intro hc_))
 ·subst hc_
  rw[if_pos rfl]
  dsimp only
  refine ah.nm n aH (hnl rfl) ?_
  exact ah.aG rfl rfl fun w' hw'=>by
   have hn:=hnl rfl
   refine aC.jl (x:=(_,_)) trivial hS hw' (kl rfl rfl rfl Pe (by simp[aY,Qe]) rfl rfl rfl) ak
 ·rw[if_neg hc_]
  dsimp only
  exact AC
theorem sd:∀(l:List (Int×Bool)) (k:Nat),(cg l).take (k*2)=cg (l.take k)
 |[],k=>by simp[cg]
 |a::r,0=>by simp[cg]
 |a::r,k+1=>by
  have ih:=sd r k
  have e:(k+1)*2=k*2+2:=by omega
  show((nO a)++cg r).take ((k+1)*2)=nO a++cg (r.take k)
  rw[←ih,e]
  simp[nO]
theorem uf:∀(l:List (Int×Bool)) (k:Nat) (b:Bool),(cg l).set (k*2+1) (.bool b)=cg (l.set k ((ix l k).1,b))
 |[],k,b=>by simp[cg]
 |a::r,0,b=>by
  show((nO a)++cg r).set 1 (.bool b)=nO (a.1,b)++cg r
  rfl
 |a::r,k+1,b=>by
  have ih:=uf r k b
  have e:(k+1)*2+1=k*2+1+1+1:=by omega
  show((nO a)++cg r).set ((k+1)*2+1) (.bool b)=nO a++cg (r.set k ((ix (a::r) (k+1)).1,b))
  rw[show ix (a::r) (k+1)=ix r k from by simp[ix],←ih,e]
  rfl
theorem BH (l:List (Int×Bool)) (a:Int×Bool):cg (l++[a])=cg l++nO a:=by unfold cg;rw[List.flatMap_append];simp
theorem vw (w:World) (hw:Ok (aX sp s x) [] w) (hp:0<s.ps.length) (_hpl:s.ps.length≤1000000):
  Calls G.P 47 #[.pointer (some ⟨sp,0,none⟩)] w (fe sp s x (.tuple #[]) (aV s) w):=by
 obtain⟨v1,v2⟩:=x;obtain⟨⟨p1,c1,e1,hcap,hg1⟩,⟨p2,c2,e2,hg2⟩,hn1,hn2⟩:=yW sp s (v1,v2) hw (Pv.refl _);dsimp only at e1 e2;subst e1;subst e2;obtain⟨g2,rfl⟩:=hg2 hp
 refine ae (l:=[_]) func47 rfl ntmps47 rfl (Ok.dk hw) ?_
 unfold fe
 generalize hS:Mb (aX sp s (.slice p1 s.ts.length c1,.slice (some ⟨g2,0,none⟩) s.ps.length c2))=S0;unfold aX;dsimp only
 repeat'(first|refine ar ?_|refine N9 ?_|fail)
 refine bh.dQ [0,1,2,3,4,5,6,7,8,9,10,11,12,13,14] 15 [.aW sp [.slice p1 s.ts.length c1,.slice (some ⟨g2,0,none⟩) s.ps.length c2,.bool (dB s)] jE,.own 0 fR 1 (.slice p1 s.ts.length c1) s.ts.length (aY s.ts)] [] Pb bz aU ?_
 refine m7 ?_
 refine Nd ?_
 intro b3 _
 refine Nf ?_
 intro v2 _
 refine bF.pure (φ:=∃p c,v2=.slice p (s.ps.length+1) c) (fun w' hw'=>?_) ?_
 ·obtain⟨p,c,e,_⟩:=aw (hw'.own (v:=v2));exact⟨p,c,e⟩
 rintro⟨p3,c3,rfl⟩
 refine m7 ?_
 refine bF.iO (gj.gz rfl rfl rfl rfl rfl aH pn) rfl ?_
 rintro⟨⟩ _
 refine cq ?_
 exact ah.oe rfl fun w' hw'=>aC.jl (x:=(_,_)) trivial hS (hw'.dc (M':=[.aW sp [.slice p1 s.ts.length c1,.slice p3 (s.ps.length+1) c3,.bool (dB s)] jE,.own 0 fR 1 (.slice p1 s.ts.length c1) s.ts.length (aY s.ts),.own 0 jD 2 (.slice p3 (s.ps.length+1) c3) (s.ps.length+1) _]) dV (fun _ h=>h)) (kl rfl rfl rfl rfl rfl (by simp[aV]) (by simp[aV,BH];rfl) rfl) ak
theorem vx (D:Nat→Prop) (sp:Nat) (s:ck) (x:Value×Value) (v:Value) (l:List Int) (w:World) (hw:Ok (aX sp s x) [fun w=>ai D w v l] w) (_h2p:2≤s.ps.length) (h0:0≤s.at_) (hle:s.at_≤s.ts.length):
  Calls G.P 85 #[.pointer (some ⟨sp,0,none⟩),v] w (fe sp s x (.int .i64 (cQ s l).2) (cQ s l).1 w):=by
 have hp:0<s.ps.length:=by omega
 obtain⟨v1,v2⟩:=x;obtain⟨⟨p1,c1,e1,hcap,hg1⟩,⟨p2,c2,e2,hg2⟩,hn1,hn2⟩:=yW sp s (v1,v2) hw (Pv.refl _);dsimp only at e1 e2;subst e1;subst e2;obtain⟨g2,rfl⟩:=hg2 hp
 have hcap2:s.ps.length≤c2:=by
  obtain⟨p',c',e,h,-⟩:=aw (show w.ownsRow 0 jD 2 (.slice (some ⟨g2,0,none⟩) s.ps.length c2) s.ps.length (cg s.ps)from(hw.m (.own 0 jD 2 (.slice (some ⟨g2,0,none⟩) s.ps.length c2) s.ps.length (cg s.ps)) (by simp[aX])).1)
  cases e;exact h
 have hI:ai D w v l:=hw.get (p:=fun w=>ai D w v l) Pj
 obtain⟨q,d,rfl,hl⟩:=hI.slice
 have a1:(cg s.ps)[(s.ps.length - 1)*2]?=some (.int .i64 s.at_):=(mP (l:=s.ps) (i:=s.ps.length - 1) Pi).1
 refine ae (l:=[_,_]) func85 rfl ntmps85 rfl (Ok.dk hw) ?_
 unfold fe
 obtain⟨r,hr⟩:∃r,eV s l.reverse s.ts.length=r:=⟨_,rfl⟩
 obtain⟨n,e⟩:=r
 have hlf:∀w',Ok (aX sp s (.slice p1 s.ts.length c1,.slice (some ⟨g2,0,none⟩) s.ps.length c2)) [fun w=>ai D w (.slice q l.length d) l] w'→Calls G.P 130 #[.pointer (some ⟨sp,0,none⟩),.slice q l.length d] w' fun ee w''=>ee=.returned (.tuple #[.int .i64 (n:Nat),.int .i64 e])∧Ext w' w'':=fun w' hw'=>by
  have:=vy D sp s _ _ l w' hw' hp h0 hle
  rw[hr]at this;exact this
 have hwk:cQ s l=if e≠0 then(s,e)else if s.at_<n then(s,14)else({s with ts:=s.ts.take n,ps:=s.ps.take (s.ps.length - 1)},0):=by
  unfold cQ;rw[hr];dsimp only;rw[if_neg (show¬s.ps.length=1 by omega)]
 have hnl:e=0→n≤s.ts.length:=fun h=>by
  have:=jK l.reverse s.ts.length hle (by rw[hr];exact h)
  rw[hr]at this;exact this.2
 rw[hwk]
 generalize hS:Mb (aX sp s (.slice p1 s.ts.length c1,.slice (some ⟨g2,0,none⟩) s.ps.length c2))=S0;unfold aX;dsimp only
 repeat'(first|refine ar ?_|refine G6 ?_|(refine aa.aj (f:=130) ?_;refine aa.av rfl rfl rfl (fun w' hw'=>hlf w' (hw'.sub (Pv.refl _) aU)) ?_)|(refine aa.dn ?_;refine aa.y_ (Yl.jv rfl rfl rfl rfl a1 bO) rfl ?_)|(refine aa.y_ (Yl.cZ (i:=n) rfl rfl rfl rfl rfl rfl (PE (hnl Pi) hcap)) rfl ?_)|(refine bC ?_ ?_<;>intro hc_))
 ·rw[if_pos hc_]
  dsimp only
  exact AC
 ·rw[if_neg Pc,if_pos Pc]
  dsimp only
  exact AC
 ·have hn:=hnl Pi
  rw[if_neg Pc,if_neg Pc]
  dsimp only
  refine bh.dQ [0,1,2,3,4,5,6,7,8,9,10,11,12,13] 14 _ _ Pb (Pv.refl _) (fun _ h=>h) ?_
  refine m7 ?_
  refine bF.y_ (Yl.cZ (i:=s.ps.length - 1) rfl rfl rfl rfl rfl Pi Pi) rfl ?_
  refine m7 ?_
  refine bF.iO (gj.gz rfl rfl rfl rfl rfl aH pn) rfl ?_
  rintro⟨⟩ _
  refine cq ?_
  refine ah.nm n aH hn ?_
  refine ah.nm (s.ps.length - 1) (aH (q:=.own 0 jD 2 _ _ _)) Pi ?_
  exact ah.aG rfl rfl fun w' hw'=>aC.jl (x:=(_,_)) trivial hS hw' (kl rfl rfl rfl Pe (by simp[aY,Qe]) Pj (sd _ _) rfl) ak
theorem AQ (w:World) (hw:Ok (aX sp s x) [] w) (hp:0<s.ps.length) (_h0:0≤s.at_) (_hle:s.at_≤s.ts.length):
  Calls G.P 89 #[.pointer (some ⟨sp,0,none⟩)] w (fe sp s x (.tuple #[]) (dG s) w):=by
 obtain⟨v1,v2⟩:=x;obtain⟨⟨p1,c1,e1,hcap,hg1⟩,⟨p2,c2,e2,hg2⟩,hn1,hn2⟩:=yW sp s (v1,v2) hw (Pv.refl _);dsimp only at e1 e2;subst e1;subst e2;obtain⟨g2,rfl⟩:=hg2 hp
 have e0:(cg s.ps).set ((s.ps.length - 1)*2+1) (.bool true)=cg (s.ps.set (s.ps.length - 1) (s.at_,true)):=uf _ _ _
 have hsl:(s.ps.set (s.ps.length - 1) (s.at_,true)).length=s.ps.length:=List.length_set
 have a1:(cg (s.ps.set (s.ps.length - 1) (s.at_,true)))[(s.ps.length - 1)*2]?=some (.int .i64 s.at_):=by
  have:=(mP (l:=s.ps.set (s.ps.length - 1) (s.at_,true)) (i:=s.ps.length - 1) (by rw[hsl];omega)).1
  rw[this]
  congr 2
  rw[cz (by rw[hsl];omega)];simp
 refine ae (l:=[_]) func89 rfl ntmps89 rfl (Ok.dk hw) ?_
 unfold fe
 generalize hS:Mb (aX sp s (.slice p1 s.ts.length c1,.slice (some ⟨g2,0,none⟩) s.ps.length c2))=S0;unfold aX;dsimp only
 repeat'(first|refine ar ?_|refine G6 ?_|fail)
 refine aa.jO (gj.HO rfl rfl rfl rfl rfl rfl aH (by unfold cg;rw[kp nO (s:=2) (fun _=>rfl)];omega)) ?_
 rintro⟨⟩ _
 rw[e0]
 refine cq ?_
 refine bh.dQ [0,1,2,3,4,5,6,7,8,9,10,11] 12 _ _ Pb (Pv.refl _) (fun _ h=>h) ?_
 refine m7 ?_
 refine bF.y_ (Yl.jv rfl rfl rfl rfl a1 bO) rfl ?_
 refine m7 ?_
 refine bF.y_ (Yl.cZ (i:=s.at_.toNat) rfl rfl rfl rfl rfl Pi Pi) rfl ?_
 refine m7 ?_
 refine bF.iO (gj.gz rfl rfl rfl rfl rfl aH pn) rfl ?_
 rintro⟨⟩ _
 refine cq ?_
 refine ah.nm s.at_.toNat aH Pi ?_
 exact ah.oe rfl fun w' hw'=>aC.jl (x:=(_,_)) trivial hS hw' (kl rfl rfl rfl (by simp[dG];omega) (by simp[dG,aY,Qe]) (by simp[dG]) rfl rfl) ak
theorem pG (xs:List Int) (p:Option Addr) (c:Nat) (w:World) (hrd:xs.length=0∨∃bk o,p=some ⟨bk,o,none⟩∧∀j u,(aY xs)[j]?=some u→w.cell? ⟨bk,o+j,none⟩=some u) (_hl:xs.length≤17592186044416):
  Calls G.P 42 #[.slice p xs.length c] w (aC [] w (fun u:Value=>u) (fun _=>True) (fun u=>[.own 0 fR 1 u xs.length (aY xs)])):=by
 refine ae (l:=[_]) func42 rfl ntmps42 rfl (Ok.start w) ?_
 repeat'(first|refine ar ?_|(refine bC ?_ ?_<;>intro hc_))
 ·have hp:p=none:=by cases p with|none=>rfl|some a=>cases hc_
  subst hp
  have h0:xs.length=0:=by
   rcases hrd with h|⟨bk,o,e,-⟩
   ·exact h
   ·cases e
  have hx:xs=[]:=List.eq_nil_of_length_eq_zero h0
  subst hx
  exact ah.aG rfl rfl fun w' hw'=>aC.sF (x:=Pn none 0 0) trivial (hw'.iP 0 fR 1) (by exact Pv.refl _) ak
 ·refine MR ?_
  intro b _
  refine aa.jN 1 aH rfl (Pu _) ?_
  refine cq ?_
  refine aa.he (HE.gR (aY xs) rfl rfl (fun _=>aH) (hrd.imp id fun⟨bk,o,e,h⟩=>⟨bk,o,e,fun w' hw' j u hj=>(show Ext w w' from hw'.at).cell (h j u hj)⟩) Pg rfl rfl rfl Pk Pk Pk (fj _) (by show(0+xs.length)*8≤_;omega) Pi (fun _ _=>Pu _)) rfl ?_
  intro u _
  simp only[Ps,Pp]
  refine cq ?_
  exact ah.aG rfl rfl fun w' hw'=>aC.sF (x:=u) trivial hw' bz ak
theorem Em (w:World) (hw:Ok (aX sp s x) [] w) (hp:0<s.ps.length) (hl:s.ts.length≤17592186044416):
  Calls G.P 27 #[.pointer (some ⟨sp,0,none⟩)] w (aC [] w (fun u:Value=>u) (fun _=>True) (fun u=>[.own 0 fR 1 u s.ts.length (aY s.ts)])):=by
 obtain⟨v1,v2⟩:=x;obtain⟨⟨p1,c1,e1,hcap,hg1⟩,⟨p2,c2,e2,hg2⟩,hn1,hn2⟩:=yW sp s (v1,v2) hw (Pv.refl _);dsimp only at e1 e2;subst e1;subst e2;obtain⟨g2,rfl⟩:=hg2 hp
 have k0:w.cell? ⟨sp,0,none⟩=some (.slice p1 s.ts.length c1):=hw.c1 (T:=jE) (cs:=[.slice p1 s.ts.length c1,.slice (some ⟨g2,0,none⟩) s.ps.length c2,.bool (dB s)]) Up.head rfl
 have k1:w.cell? ⟨sp,1,none⟩=some (.slice (some ⟨g2,0,none⟩) s.ps.length c2):=hw.c1 (T:=jE) (cs:=[.slice p1 s.ts.length c1,.slice (some ⟨g2,0,none⟩) s.ps.length c2,.bool (dB s)]) Up.head rfl
 have o1:w.ownsRow 0 fR 1 (.slice p1 s.ts.length c1) s.ts.length (aY s.ts):=(hw.m (.own 0 fR 1 (.slice p1 s.ts.length c1) s.ts.length (aY s.ts)) (by simp[aX])).1
 have hrd:s.ts.length=0∨∃bk o,p1=some ⟨bk,o,none⟩∧∀j u,(aY s.ts)[j]?=some u→w.cell? ⟨bk,o+j,none⟩=some u:=by
  by_cases h0:s.ts.length=0
  ·exact .inl h0
  ·obtain⟨g,rfl⟩:=hg1 Pi
   exact .inr ⟨g,0,rfl,fun j u hj=>by rw[Ps];exact dP o1 hj⟩
 refine ae (l:=[_]) func27 rfl ntmps27 rfl (Ok.start w) ?_
 repeat'(first|refine ar ?_|refine N3 ?_|fail)
 refine aa.he (HE.tB (M0:=[]) rfl rfl (fun w' hw'=>pG s.ts p1 c1 w' (hrd.imp id fun⟨bk,o,e,h⟩=>⟨bk,o,e,fun j u hj=>(show Ext w w' from hw'.at).cell (h j u hj)⟩) hl)) rfl ?_
 intro u _
 refine cq ?_
 exact ah.aG rfl rfl fun w' hw'=>aC.sF (x:=u) trivial hw' (Pv.refl _) ak
theorem En (w:World):Calls G.P 46 #[] w (aC [] w (fun y:Nat×Value×Value=>.pointer (some ⟨y.1,0,none⟩)) (fun _=>True) (fun y=>aX y.1 ⟨[],[(0,false)],0⟩ y.2)):=by
 refine ae (l:=[]) func46 rfl ntmps46 rfl (Ok.start w) ?_
 repeat'(first|refine ar ?_|(refine fC fun b_ _=>?_)|(refine aF fun b_=>?_)|fail)
 all_goals exact ah.aG rfl rfl fun w' hw'=>aC.sF (x:=(_,_,_)) trivial ((((hw'.jN (s:=2) (len:=1) (Up.tail Up.head) rfl O4).iP 0 fR 1)).front (Rm.tail Rm.head)) (by exact Pv.refl _) ak
abbrev jd:Nat:=128
abbrev sx:Nat:=139
def bu.kq {β:Type} (V:(Nat→Prop)→World→β→Prop) (hV:vJ V) (D:Nat→Prop) (x:β):bu:=⟨D,fun w=>V D w x,fun h hc hd=>hV h hc hd⟩
def iZ (D:Nat→Prop) (w:World) (L:List (aO×Value×Value)):Prop:=∀y∈L,dH y.1 D w y.2
theorem iZ.fr:vJ iZ:=fun h hc hd y hy=>dH.fr y.1 (h y hy) hc hd
structure jF where
 sp:Nat
 tv:Value
 pv:Value
 bv:Value
 rv:Value
 fv:List (Value×Value)
 D:Nat→Prop
 L:List (aO×Value×Value)
def iD (f:n7) (x:Value×Value):List Value:=[.int .i64 f.kind,x.1,x.2,.bool f.other,.bool f.lq]
def eu:List n7→List (Value×Value)→List Value
 |f::r,x::s=>iD f x++eu r s
 |_,_=>[]
abbrev n7.fn (f:n7):aO:=⟨f.par,f.res⟩
structure jF.Good (v:jF) (c:dv):Prop where
 len:v.fv.length=c.fs.length
 fr:∀i,i<c.fs.length→((ix c.fs i).fn,ix v.fv i)∈v.L
 rs:(⟨[],c.results⟩,.slice none 0 0,v.rv)∈v.L
def aT (cp:Nat) (c:dv) (v:jF):List bu:=.aW cp [.pointer (some ⟨v.sp,0,none⟩),v.bv,v.rv,.bool c.live,.int .i64 c.broken] jd::(aX v.sp c.ao (v.tv,v.pv)++[.own 0 sx 5 v.bv c.fs.length (eu c.fs v.fv),.kq iZ iZ.fr v.D v.L])
structure wX (cp:Nat) (c:dv) (v:jF) (w:World):Prop where
 b:gQ w cp [.pointer (some ⟨v.sp,0,none⟩),v.bv,v.rv,.bool c.live,.int .i64 c.broken] jd
 o:w.ownsRow 0 sx 5 v.bv c.fs.length (eu c.fs v.fv)
 l:iZ v.D w v.L
theorem Ok.Cy {cp:Nat} {c:dv} {v:jF} {M:List bu} {R:List (World→Prop)} {w:World} (h:Ok M R w) (hM:(aT cp c v).Sublist M):wX cp c v w:=
 ⟨(h.m (.aW cp _ jd) (hM.subset (by simp[aT]))).1,(h.m (.own 0 sx 5 v.bv c.fs.length (eu c.fs v.fv)) (hM.subset (by simp[aT]))).1,(h.m (.kq iZ iZ.fr v.D v.L) (hM.subset (by simp[aT]))).1⟩
theorem mI:∀(fs:List n7) (fv:List (Value×Value)) (i j:Nat),fv.length=fs.length→i<fs.length→j<5→(eu fs fv)[i*5+j]?=(iD (ix fs i) (ix fv i))[j]?
 |[],_,i,j,_,h,_=>by simp at h
 |f::r,[],i,j,h,_,_=>by simp at h
 |f::r,x::s,0,j,_,_,hj=>by
  show(iD f x++eu r s)[0*5+j]?=_
  rw[Nat.zero_mul,Ps,List.getElem?_append_left (by simp[iD];omega)]
  rfl
 |f::r,x::s,i+1,j,h,hi,hj=>by
  have ih:=mI r s i j Pa (by simpa using hi) hj
  show(iD f x++eu r s)[(i+1)*5+j]?=_
  rw[List.getElem?_append_right (by simp[iD];omega),show(i+1)*5+j - (iD f x).length=i*5+j from by simp[iD];omega,ih]
  simp[ix]
theorem xo:∀(fs:List n7) (fv:List (Value×Value)) (f:n7) (x:Value×Value),fv.length=fs.length→eu (fs++[f]) (fv++[x])=eu fs fv++iD f x
 |[],[],f,x,_=>by simp[eu]
 |[],y::s,_,_,h=>by simp at h
 |g::r,[],_,_,h=>by simp at h
 |g::r,y::s,f,x,h=>by
  show iD g y++eu (r++[f]) (s++[x])=iD g y++eu r s++iD f x
  rw[xo r s f x Pa,List.append_assoc]
theorem tG:∀(fs:List n7) (fv:List (Value×Value)) (k:Nat),fv.length=fs.length→(eu fs fv).take (k*5)=eu (fs.take k) (fv.take k)
 |[],[],k,_=>by simp[eu]
 |[],y::s,_,h=>by simp at h
 |g::r,[],_,h=>by simp at h
 |g::r,y::s,0,h=>by simp[eu]
 |g::r,y::s,k+1,h=>by
  have ih:=tG r s k Pa
  show(iD g y++eu r s).take ((k+1)*5)=iD g y++eu (r.take k) (s.take k)
  rw[←ih,show(k+1)*5=(iD g y).length+k*5 from by simp[iD];omega,List.take_length_add_append]
theorem xh (w:World) (h:w.cell? ⟨cp,0,none⟩=some (.pointer (some a))):Calls G.P 40 #[.pointer (some ⟨cp,0,none⟩)] w fun e w'=>e=.returned (.bool true)∧Ext w w':=by
 have:=h;clear this
 refine ae (l:=[_]) func40 rfl ntmps40 rfl (Ok.start w) ?_
 repeat'(first|refine ar ?_|(refine aa.aE ?_;refine aa.y_ (Yl.Fy underlying74 rfl rfl) rfl ?_)|(refine aa.aE ?_;refine aa.yg O8 (Yl.Fy underlying105 rfl rfl) rfl ?_)|fail)
 all_goals exact ge
theorem gY (e0:Int) (w:World) (h:w.cell? ⟨cp,0,none⟩=some (.pointer (some a))) (_h4:w.cell? ⟨cp,4,none⟩=some (.int .i64 e0)):Calls G.P 39 #[.pointer (some ⟨cp,0,none⟩)] w fun e w'=>e=.returned (.int .i64 e0)∧Ext w w':=by
 refine ae (l:=[_]) func39 rfl ntmps39 rfl (Ok.start w) ?_
 repeat'(first|refine ar ?_|(refine aa.aj (f:=40) ?_;refine aa.av rfl rfl rfl (fun w' hw'=>xh cp a w' ((show Ext w w' from hw'.at).cell h)) ?_)|fail)
 all_goals exact ge
theorem eF (w:World) (h:w.cell? ⟨cp,0,none⟩=some (.pointer (some a))):Calls G.P 26 #[.pointer (some ⟨cp,0,none⟩)] w fun e w'=>e=.returned (.pointer (some a))∧Ext w w':=by
 refine ae (l:=[_]) func26 rfl ntmps26 rfl (Ok.start w) ?_
 repeat'(first|refine ar ?_|(refine aa.aj (f:=40) ?_;refine aa.av rfl rfl rfl (fun w' hw'=>xh cp a w' ((show Ext w w' from hw'.at).cell h)) ?_)|fail)
 all_goals exact ge
theorem G7 {g g':Prop} (h:g') (hw:eA g'→g:=by(intro hk_;(first|(refine aa.aj (f:=39) ?_;refine aa.av rfl rfl rfl (fun w' hw'=>gY cp ⟨v.sp,0,none⟩ c.broken w' ((show Ext w w' from hw'.at).cell k0) ((show Ext w w' from hw'.at).cell k4)) ?_));exact hk_.out)):g:=hw ⟨h⟩
theorem Dm (c:dv) (v:jF) (w:World) (h:wX cp c v w) (_hb:c.broken=0):Calls G.P 25 #[.pointer (some ⟨cp,0,none⟩)] w fun e w'=>e=.returned (.bool c.live)∧Ext w w':=by
 have k0:=h.b.cell (j:=0) rfl
 have k3:=h.b.cell (j:=3) rfl
 have k4:=h.b.cell (j:=4) rfl
 refine ae (l:=[_]) func25 rfl ntmps25 rfl (Ok.start w) ?_
 repeat'(first|refine ar ?_|refine G7 ?_|fail)
 all_goals first|omega|exact ah.aG rfl rfl fun w' hw'=>⟨by rfl,hw'.at⟩
inductive nK:List bu→List bu→List bu→Prop
 |nil {M:List bu}:nK [] M M
 |cons {q:bu} {M M1 M0 Mr:List bu} (hr:Rm q M M1) (h:nK M0 M1 Mr):nK (q::M0) M Mr
theorem nK.perm {M0 M Mr:List bu} (h:nK M0 M Mr):M.Perm (M0++Mr):=by
 induction h with
 |nil=>exact List.Perm.refl _
 |cons hr _ ih=>exact hr.perm.trans (ih.cons _)
theorem dU {M0 M Mr:List bu} (h:nK M0 M Mr:=by(repeat(first|exact nK.nil|(apply nK.cons;·(repeat(first|with_reducible exact Rm.head|apply Rm.tail)))))):nK M0 M Mr:=h
section
variable {n:Nat} {E:Env} {M M0 Mr:List bu} {R:List (World→Prop)} {β:Type} {tf:β→Value} {φ:β→Prop} {M1:β→List bu} {f:Nat} {args:List Operand} {tys:Array TypeId} {vs:List Value}
theorem HE.bJ (hr:nK M0 M Mr) (hf:G.fb[f]?=some true) (ha:kJ E args=some vs)
  (hc:∀w,Ok M R w→Calls G.P f vs.toArray w (aC M0 w tf φ M1)):HE n (.call ⟨.value (.func f),args.toArray,tys⟩) E M R φ tf (fun x=>M1 x++Mr) (fun _=>R):=
 HE.call tf hf ha fun w hw=>(hc w hw).mono fun _e _w' ⟨x,e1,h1,h2,h3,h4⟩=>⟨x,e1,h1,(hw.perm hr.perm).frame h2 h3 h4⟩
end
theorem tL (h:ai D w (.slice p n c) xs):xs.length=0∨∃bk o,p=some ⟨bk,o,none⟩∧∀j u,(aY xs)[j]?=some u→w.cell? ⟨bk,o+j,none⟩=some u:=by
 obtain⟨p',c',e,hl,h⟩:=h
 cases e
 rcases h with h|⟨b,o,rfl,hF,h⟩
 ·exact .inl (by rw[h];rfl)
 ·refine .inr ⟨b,o,rfl,fun j u hj=>?_⟩
  have hj':j<xs.length:=by have:=(PR.1 hj).1;simpa[aY]using this
  rw[h j hj',←hj]
  unfold aY
  rw[PQ,iz hj'];rfl
theorem eD (xs:List Int) (v:Value) (w:World) (h:ai D w v xs):
  Calls G.P 42 #[v] w (aC [] w (fun u:Value=>u) (fun _=>True) (fun u=>[.own 0 fR 1 u xs.length (aY xs)])):=by
 obtain⟨p,c,rfl,hl⟩:=h.slice
 exact pG xs p c w (tL h) hl
def gD {β:Type} (w:World) (tf:β→Value) (M1:β→List bu):Ending→World→Prop:=aC [] w tf (fun _=>True) M1
theorem lR (c:dv) (v:jF) (w:World) (h:wX cp c v w) (hg:v.Good c) (_hb:c.broken=0):Calls G.P 90 #[.pointer (some ⟨cp,0,none⟩)] w (gD w (fun u:Value=>u) (fun u=>[.own 0 fR 1 u c.results.length (aY c.results)])):=by
 have k0:=h.b.cell (j:=0) rfl
 have k2:=h.b.cell (j:=2) rfl
 have k4:=h.b.cell (j:=4) rfl
 have hI:=(h.l _ hg.rs).2
 dsimp only at hI
 unfold gD
 refine ae (l:=[_]) func90 rfl ntmps90 rfl (Ok.start w) ?_
 repeat'(first|refine ar ?_|refine G7 ?_|fail)
 all_goals first|omega|skip
 refine aa.he (HE.tB (M0:=[]) rfl rfl (fun w' hw'=>eD c.results v.rv w' (hI.aN (show Ext w w' from hw'.at) (fun _ _ _ h=>h)))) rfl ?_
 intro u _
 refine cq ?_
 exact ah.aG rfl rfl fun w' hw'=>aC.sF (x:=u) trivial hw' (Pv.refl _) ak
theorem pW (c:dv) (v:jF) (n:Int) (w:World) (h:wX cp c v w) (hg:v.Good c) (hb:c.broken=0):Calls G.P 91 #[.pointer (some ⟨cp,0,none⟩),.int .i64 n] w (gD w (fun u:Value=>.tuple #[u,.int .i64 (cT c n).2]) (fun u=>[.own 0 fR 1 u (cT c n).1.length (aY (cT c n).1)])):=by
 have:=hb;clear this
 have k0:=h.b.cell (j:=0) rfl
 have k1:=h.b.cell (j:=1) rfl
 have k4:=h.b.cell (j:=4) rfl
 obtain⟨p,cc,e,hcp,hmx,hgg⟩:=aw h.o
 unfold maxLen at hmx
 have ho:=h.o
 rw[e]at k1 ho
 unfold gD cT
 rw[if_neg Pi]
 by_cases hr:n<0∨c.fs.length≤n
 ·rw[if_pos hr]
  refine ae (l:=[_,_]) func91 rfl ntmps91 rfl (Ok.start w) ?_
  repeat'(first|refine ar ?_|refine G7 ?_|(refine bC ?_ ?_<;>intro hc_))
  all_goals first|omega|exact ah.ie rfl rfl rfl fun w' hw'=>aC.sF (x:=Pn none 0 0) trivial (hw'.iP 0 fR 1) (Pv.refl _) ak
 ·rw[if_neg hr]
  dsimp only
  obtain⟨k,rfl⟩:=Int.eq_ofNat_of_zero_le (show 0≤n by omega)
  obtain⟨g,rfl,-⟩:=hgg Pi
  have hi:c.fs.length - 1 - k<c.fs.length:=by omega
  rw[Int.toNat_natCast]
  obtain⟨i,hie⟩:∃i,i=c.fs.length - 1 - k:=⟨_,rfl⟩
  rw[←hie]at hi ⊢
  have hfr:=h.l _ (hg.fr i hi)
  have hc5:∀j,j<5→w.cell? ⟨g,0+i*5+j,none⟩=(iD (ix c.fs i) (ix v.fv i))[j]?:=fun j hj=>by
   have h5:=mI c.fs v.fv i j hg.len hi hj
   have hlt:j<(iD (ix c.fs i) (ix v.fv i)).length:=hj
   rw[Pw hlt]at h5 ⊢
   rw[Ps]
   exact dP ho h5
  generalize ix c.fs i=f at*
  generalize ix v.fv i=x at*
  obtain⟨x1,x2⟩:=x
  obtain⟨q1,q2⟩:=hfr
  dsimp only[n7.fn]at q1 q2
  obtain⟨u1,d1,rfl,-⟩:=q1.slice
  obtain⟨u2,d2,rfl,-⟩:=q2.slice
  dsimp only[iD]at hc5
  refine ae (l:=[_,_]) func91 rfl ntmps91 rfl (Ok.start w) ?_
  repeat'(first|refine ar ?_|refine G7 ?_|(refine bC ?_ ?_<;>intro hc_))
  refine bh.cI [] [Ext w] bz aU ?_
  repeat'(first|refine pN ?_|(refine aP.qy 12 rfl (Yl.idx (i:=i) rfl rfl rfl rfl rfl Pi Pi) ?_)|(refine aP.qy 13 rfl (Yl.ji rfl rfl rfl ak Pk Pk hc5) ?_)|(refine ax.yf sx ?_;refine ax.he rfl rfl (HE.alloc (t:=sx) [.int .i64 0,.slice none 0 0,.slice none 0 0,.bool false,.bool false] rfl rfl) (fun _=>bz) (fun _=>aU) ?_;intro b_ _)|(refine ax.nj ?_;refine ax.jO rfl (gj.bn _ rfl rfl rfl rfl rfl rfl aH rfl) (fun _=>bz) (fun _=>aU) ?_;rintro⟨⟩ _)|refine aP.nil O9 ?_|refine aP.any O9 ?_|exact aB.fin rfl|refine aB.skip O9 ?_|refine aB.go ?_ ?_)
  have hq1:=q1
  have hq2:=q2
  repeat'(first|refine ar ?_|(refine bC ?_ ?_<;>intro hc_))
  ·rw[if_pos hc_]
   refine aa.he (HE.tB (M0:=[]) rfl rfl (fun w' hw'=>eD f.par _ w' (q1.aN (show Ext w w' from hw'.at) (fun _ _ _ h=>h)))) rfl ?_
   intro u _
   dsimp only[Pq,Pp]
   refine cq ?_
   exact ah.ie rfl rfl rfl fun w' hw'=>aC.sF (x:=u) trivial hw' bz ak
  ·rw[if_neg hc_]
   refine aa.he (HE.tB (M0:=[]) rfl rfl (fun w' hw'=>eD f.res _ w' (q2.aN (show Ext w w' from hw'.at) (fun _ _ _ h=>h)))) rfl ?_
   intro u _
   dsimp only[Pq,Pp]
   refine cq ?_
   exact ah.ie rfl rfl rfl fun w' hw'=>aC.sF (x:=u) trivial hw' bz ak
theorem aC.qM {M0 M:List bu} {R:List (World→Prop)} {w w':World} {S0:Nat→Prop} {tf:β→Value} {φ:β→Prop} {M1:β→List bu} (x:β) (hφ:φ x) (hS:Mb M0=S0) (h:Ok M R w') (hM:kn (M1 x) M) (hR:bX S0 w∈R):aC M0 w tf φ M1 (.returned (tf x)) w':=by
 obtain⟨M2,hp⟩:=hM.perm
 exact aC.jl x hφ hS (h.perm hp) (Qd _ _) hR
theorem Ok.merge {q1 q2 q:bu} {M:List bu} {R:List (World→Prop)} {w:World} (h:Ok (q1::q2::M) R w) (hF:∀k,q.F k→q1.F k∨q2.F k) (hP:q1.P w→q2.P w→q.P w):Ok (q::M) R w:=by
 have h1:=h.m q1 Pj
 have h2:=h.m q2 Pj
 have hd:=h.d
 rw[P0,P0]at hd
 refine h.step (bX.refl _ w) (fun x hx=>?_) (P0.2 ⟨fun x hx k hk hk'=>?_,hd.2.2⟩) (fun k ⟨x,hx,hk⟩ _=>?_)
 ·rcases PF.1 hx with rfl|hx
  ·exact⟨hP h1.1 h2.1,fun k hk=>(hF k hk).elim (h1.2 k) (h2.2 k)⟩
  ·exact h.m x (by simp[hx])
 ·rcases hF k hk with h|h
  ·exact hd.1 x (by simp[hx]) k h hk'
  ·exact hd.2.1 x hx k h hk'
 ·rcases PF.1 hx with rfl|hx
  ·rcases hF k hk with h|h
   ·exact⟨q1,by simp,h⟩
   ·exact⟨q2,by simp,h⟩
  ·exact⟨x,by simp[hx],hk⟩
def sX (M0:List bu) (cp:Nat) (r:Value) (c':dv) (w:World):Ending→World→Prop:=aC M0 w (fun _:jF=>r) (fun v'=>v'.Good c') (aT cp c')
theorem jF.Good.mono {v v':jF} {c c':dv} (h:v.Good c) (hfs:c'.fs=c.fs) (hrs:c'.results=c.results) (hfv:v'.fv=v.fv) (hrv:v'.rv=v.rv) (hL:∀y,y∈v.L→y∈v'.L):v'.Good c':=
 ⟨by rw[hfs,hfv];exact h.len,fun i hi=>by rw[hfs]at hi ⊢;rw[hfv];exact hL _ (h.fr i hi),by rw[hrs,hrv];exact hL _ h.rs⟩
theorem oU (c:dv) (v:jF) (w:World) (hw:Ok (aT cp c v) [] w) (hg:v.Good c) (_hb:c.broken=0) (hwf:c.Wf):Calls G.P 53 #[.pointer (some ⟨cp,0,none⟩)] w (sX (aT cp c v) cp (.tuple #[]) (iG c) w):=by
 obtain⟨sp,tv,pv,bv,rv,fv,D,L⟩:=v
 have hrd:=hw.Cy (Pv.refl _)
 obtain⟨p,cc,e,hcp,hmx,-⟩:=aw hrd.o
 dsimp only at e
 subst e
 have hat:=hwf.ao.at_
 have hps:=hwf.ao.some
 refine ae (l:=[_]) func53 rfl ntmps53 rfl (Ok.dk hw) ?_
 unfold sX
 generalize hS:Mb (aT cp c ⟨sp,tv,pv,.slice p c.fs.length cc,rv,fv,D,L⟩)=S0
 dsimp only[aT,aX,Pq,Pp]
 by_cases h0:c.fs.length=0
 ·have e:iG c=c:=if_pos (.inr h0)
  rw[e]
  repeat'(first|refine ar ?_|refine N7 ?_|fail)
  all_goals first|omega|exact ah.F5 rfl fun w' hw'=>aC.qM (x:=⟨sp,tv,pv,.slice p c.fs.length cc,rv,fv,D,L⟩) hg hS hw' ON ak
 ·have e:iG c={c with ao:=dG c.ao,live:=false}:=if_neg (by rintro(h|h)<;>omega)
  rw[e]
  repeat'(first|refine ar ?_|refine N7 ?_|fail)
  all_goals first|omega|skip
  refine aa.he (HE.bJ (M0:=[.aW sp [tv,pv,.bool (dB c.ao)] jE,.own 0 fR 1 tv c.ao.ts.length (aY c.ao.ts),.own 0 jD 2 pv c.ao.ps.length (cg c.ao.ps)]) dU rfl rfl (fun w' hw'=>AQ sp c.ao (tv,pv) w' (hw'.dc dV (fun p h=>by cases h)) hps hat.1 hat.2)) rfl ?_
  rintro⟨tv2,pv2⟩ _
  dsimp only[aT,aX,Pq,Pp]
  repeat'(first|refine ar ?_|fail)
  exact ah.oe rfl fun w' hw'=>aC.qM (x:=⟨sp,tv2,pv2,.slice p c.fs.length cc,rv,fv,D,L⟩) (hg.mono rfl rfl rfl rfl (fun _ h=>h)) hS hw' ON ak
theorem js (a b r l e0:Value) (e:Int) (w:World) (hw:Ok [.aW cp [a,b,r,l,e0] jd] [] w):Calls G.P 83 #[.pointer (some ⟨cp,0,none⟩),.int .i64 e] w (aC [.aW cp [a,b,r,l,e0] jd] w (fun _:Unit=>.int .i64 e) (fun _=>True) (fun _=>[.aW cp [a,b,r,l,.int .i64 e] jd])):=by
 refine ae (l:=[_,_]) func83 rfl ntmps83 rfl (Ok.dk hw) ?_
 repeat'(first|refine ar ?_|fail)
 exact ah.aG rfl rfl fun w' hw'=>aC.qM (x:=()) trivial rfl hw' dV ak
theorem wT {P:Program} (w:World) (dT sT ty elem:TypeId) (g dLen dCap s:Nat) (a:Addr) (sLen sCap:Nat) (cur:Array Value) (t:TypeId) (cs:List Value)
  (hu:P.underlying dT=some (.slice elem)) (hs:∀w,(sizeOf elem).run P w=.ok s w) (hg:w.heap[g]?=some (.cells cur t (0,0))) (hle:dLen≤sLen) (hn:cs.length=dLen*s)
  (hsrc:∀j v,cs[j]?=some v→w.cell? (a.add j)=some v) (hfit:cs.length≤cur.size) (h1:∀v∈cs,v.oneCell'=true):
  (Builtin.copy_ #[dT,sT] ty #[.slice (some ⟨g,0,none⟩) dLen dCap,.slice (some a) sLen sCap]).run P w=.ok (goInt dLen) (w.setRow g (cs++cur.toList.drop cs.length).toArray):=by
 have hl:=run_loadCells_list (P:=P) w a cs hsrc
 have hst:=run_storeCells_at P g 0 t cs 0 cur w hg (by simpa using hfit) h1
 have hmin:Nat.min sLen dLen=dLen:=Nat.min_eq_right hle
 have hmul:dLen*s=cs.length:=hn.symm
 simp[Builtin.copy_,run_underlying hu,Builtin.lenOf,Builtin.firstCells,hs,hmin,hmul,hl,hst]
section
variable {n:Nat} {E:Env} {M M' M'':List bu} {R:List (World→Prop)} {t:TypeId} {x y:Operand}
theorem HE.KC {ti te:TI} {e len B s:Nat} (ht:G.ty t=some ti) (he:ti.elem=some e) (hte:G.ty e=some te) (hs:te.size=s) (hx:ev E x=some (.int .i64 (len:Int))) (hbt:Nat.ble te.bytes 1000=true) (hml:len≤100000000000) (hB:∀w,Ok M R w→B≤w.heap.size):
  HE n (.makeSlice t x x) E M R (fun _:Nat=>True) (fun g=>.slice (some ⟨g,0,none⟩) len len) (fun g=>.own B e s (.slice (some ⟨g,0,none⟩) len len) len (madeCells te.zero.cells (len*te.size)).toList::M) (fun _=>R):=
 ⟨fun w hw=>(bU.make ht he hte hx (by have:=Nat.mul_le_mul (Nat.le_of_ble_eq_true hbt) hml;omega) O4 (hB w hw)).mono fun v w' ⟨h1,h2,h3,h4⟩=>by
  subst h1 hs
  refine⟨w.heap.size,trivial,rfl,hw.push h3 h2 (fun k hk=>?_)⟩
  have hk':some w.heap.size=some k:=hk
  cases hk';exact⟨Nat.le_refl _,h4⟩⟩
theorem HE.I1 {ti te:TI} {B B2 T T2 s m cd sLen cS g gS e:Nat} {zs ys:List Value} (hx:ev E x=some (.slice (some ⟨g,0,none⟩) m cd)) (hy:ev E y=some (.slice (some ⟨gS,0,none⟩) sLen cS)) (hM:Up (.own B T s (.slice (some ⟨g,0,none⟩) m cd) m zs) (.own B T s (.slice (some ⟨g,0,none⟩) m cd) m (ys.take (m*s))) M M')
  (hb:Up (.own B2 T2 s (.slice (some ⟨gS,0,none⟩) sLen cS) sLen ys) (.own B2 T2 s (.slice (some ⟨gS,0,none⟩) sLen cS) sLen ys) M M'') (hle:m≤sLen) (ht:G.ty t=some ti) (he:ti.elem=some e) (hte:G.ty e=some te) (hs:te.size=s) (h1:∀u∈ys,u.oneCell'=true):
  HE n (.call ⟨.builtin .copy,#[x,y],#[t,t]⟩) E M R (fun _:Unit=>True) (fun _=>.int .i64 m) (fun _=>M') (fun _=>R):=
 ⟨fun w hw=>by
  subst hs
  have hou:=(hw.m _ hM.mem)
  have hos:w.ownsRow B2 T2 te.size (.slice (some ⟨gS,0,none⟩) sLen cS) sLen ys:=(hw.m _ hb.mem).1
  obtain⟨⟨hl,ho⟩,hlt⟩:=hou
  rcases ho with⟨e1,_⟩|⟨g',cap,cur,e1,hg,hh,hn,hc,hsz,htk⟩
  ·cases e1
  cases e1
  have hly:(ys.take (m*te.size)).length=m*te.size:=by
   rw[Pz,hos.1];have:=Qa te.size hle;omega
  have hfit:(ys.take (m*te.size)).length≤cur.size:=by rw[hly,hsz];exact Qa _ hn
  have hsrc:∀j v,(ys.take (m*te.size))[j]?=some v→w.cell? ((⟨gS,0,none⟩:Addr).add j)=some v:=fun j v hj=>by
   have hj':ys[j]?=some v:=by
    have hlt:=(PR.1 hj).1
    rw[hly]at hlt
    rw[List.getElem?_take]at hj
    rw[if_pos hlt]at hj;exact hj
   have:=dP hos hj'
   have e:(⟨gS,0,none⟩:Addr).add j=⟨gS,j,none⟩:=by
    unfold Addr.add;split
    ·rename_i h0;rw[h0]
    ·simp
   rw[e];exact this
  have hrun:=fun ty=>wT (P:=G.P) w t t ty e g m cd te.size ⟨gS,0,none⟩ sLen cS cur T (ys.take (m*te.size)) ((G.iT t ti ht).elem e he) ((G.iT e te hte).size) hh hle hly hsrc hfit (fun u hu=>h1 u (List.mem_of_mem_take hu))
  refine bU.of (v:=.int .i64 m) (w':=w.setRow g (ys.take (m*te.size)++cur.toList.drop (ys.take (m*te.size)).length).toArray) (fun ac hac d ty pos aft gd=>?_) ⟨(),trivial,rfl,hw.qj hM (w':=w.setRow g _) ⟨rfl,rfl,rfl,by simp[World.setRow],fun k hk hne=>setRow_other _ _ _ _ (fun e=>hne (by subst e;rfl))⟩ ⟨hly,.inr ⟨g,cd,_,rfl,hg,setRow_heap w g cur _ T _ hh,hn,hc,?_,?_⟩⟩ (fun k hk=>⟨?_,fun _=>hk⟩)⟩
  ·simp[execOp,resolve,invoke,builtin,hac.eval hx,hac.eval hy,hrun,goInt]
  ·have:=hfit
   simp only[List.size_toArray,Py,List.length_drop,Array.length_toList]
   omega
  ·show(ys.take (m*te.size)++_).take (m*te.size)=_
   rw[List.take_append_of_le_length Pi,List.take_take,Nat.min_self]
  ·have:=hlt k hk
   simpa[World.setRow]using this⟩
end
theorem dH.gx {f:aO} {D:Nat→Prop} {w:World} {x:Value×Value} (h:dH f D w x):∃p c p' c',x=(.slice p f.params.length c,.slice p' f.results.length c'):=by
 obtain⟨p,c,e,_⟩:=h.1.slice
 obtain⟨p2,c2,e2,_⟩:=h.2.slice
 exact⟨p,c,p2,c2,by rw[←e,←e2]⟩
theorem Et:∀u∈aY l,u.oneCell'=true:=fj l
theorem xp:∀(fs:List n7) (fv:List (Value×Value)),(∀x∈fv,x.1.oneCell'=true∧x.2.oneCell'=true)→∀u∈eu fs fv,u.oneCell'=true
 |[],[],_,u,h=>by simp[eu]at h
 |[],y::s,_,u,h=>by simp[eu]at h
 |f::r,[],_,u,h=>by simp[eu]at h
 |f::r,x::s,hv,u,h=>by
  have ih:=xp r s (fun y hy=>hv y (by simp[hy]))
  have h':u∈iD f x++eu r s:=h
  rcases List.mem_append.1 h' with h|h
  ·have hx:=hv x Pj
   simp only[iD,PF,P3,or_false]at h
   rcases h with rfl|rfl|rfl|rfl|rfl
   ·rfl
   ·exact hx.1
   ·exact hx.2
   ·rfl
   ·rfl
  ·exact ih u h
theorem jF.Good.one {v:jF} {c:dv} {w:World} (h:v.Good c) (hl:iZ v.D w v.L):∀x∈v.fv,x.1.oneCell'=true∧x.2.oneCell'=true:=fun x hx=>by
 obtain⟨i,hi,e⟩:=List.mem_iff_getElem.1 hx
 have hi':i<c.fs.length:=by rw[←h.len];exact hi
 have hf:=hl _ (h.fr i hi')
 rw[cz hi,e]at hf
 obtain⟨p,c1,p',c1',e1⟩:=hf.gx
 dsimp only at e1
 rw[e1];exact⟨rfl,rfl⟩
theorem ng (c:dv) (v:jF) (f:n7) (x:Value×Value) (w:World) (hw:Ok (aT cp c v) [] w) (hg:v.Good c) (hin:(f.fn,x)∈v.L) (hps:0<c.ao.ps.length) (hpl:c.ao.ps.length≤1000000) (_hfl:c.fs.length≤1000000) (hts:(c.ao.ts.length+f.par.length)*8≤140737488355328):
  Calls G.P 84 #[.pointer (some ⟨cp,0,none⟩),.agg (iD f x).toArray] w (sX (aT cp c v) cp (.tuple #[]) (gX c c.ao c.fs f) w):=by
 obtain⟨sp,tv,pv,bv,rv,fv,D,L⟩:=v
 have hrd:wX cp c ⟨sp,tv,pv,bv,rv,fv,D,L⟩ w:=hw.Cy (Pv.refl _)
 obtain⟨p,cc,e,hcp,hmx,-⟩:=aw hrd.o
 dsimp only at e hin
 subst e
 obtain⟨p1,c1,p2,c2,hx⟩:=dH.gx (hrd.l _ hin)
 dsimp only at hx
 subst hx
 refine ae (l:=[.pointer (some ⟨cp,0,none⟩),.agg (iD f _).toArray]) func84 rfl ntmps84 rfl (Ok.dk hw) ?_
 unfold sX
 generalize hS:Mb (aT cp c ⟨sp,tv,pv,.slice p c.fs.length cc,rv,fv,D,L⟩)=S0
 dsimp only[aT,aX,Pq,Pp]
 repeat'(first|refine ar ?_|fail)
 refine aa.box (iD f (.slice p1 f.par.length c1,.slice p2 f.res.length c2)) rfl rfl rfl fun b3=>?_
 dsimp only[iD]
 repeat'(first|refine ar ?_|fail)
 refine aa.he (HE.bJ (M0:=[.aW sp [tv,pv,.bool (dB c.ao)] jE,.own 0 fR 1 tv c.ao.ts.length (aY c.ao.ts),.own 0 jD 2 pv c.ao.ps.length (cg c.ao.ps)]) dU rfl rfl (fun w' hw'=>vw sp c.ao (tv,pv) w' (hw'.dc dV (fun p h=>by cases h)) hps hpl)) rfl ?_
 rintro⟨tv2,pv2⟩ _
 dsimp only[aT,aX,Pq,Pp]
 repeat'(first|refine ar ?_|fail)
 refine bh.dQ [0,1,2,3,4,5,6] 7 _ _ Pb (Pv.refl _) (fun _ h=>h) ?_
 refine m7 ?_
 refine bF.JG (HE.bJ (M0:=[.aW sp [tv2,pv2,.bool (dB (aV c.ao))] jE,.own 0 fR 1 tv2 (aV c.ao).ts.length (aY (aV c.ao).ts),.own 0 jD 2 pv2 (aV c.ao).ps.length (cg (aV c.ao).ps)]) dU rfl rfl (fun w' hw'=>gZ D sp (aV c.ao) (tv2,pv2) _ f.par w' ((hw'.freeze (q:=.kq iZ iZ.fr D L) (p:=fun w=>ai D w (.slice p1 f.par.length c1) f.par) jH (fun _ h=>(h _ hin).1)).dc dV aU) (by simp[aV]) hts)) rfl ?_
 rintro⟨tv3,pv3⟩ _
 dsimp only[aT,aX,Pq,Pp]
 repeat'(first|refine ar ?_|fail)
 refine bh.dQ [0,1,2,3,4,5,6,7,8,9] 10 [.aW b3 [.int .i64 f.kind,.slice p1 f.par.length c1,.slice p2 f.res.length c2,.bool f.other,.bool f.lq] sx,.aW cp [.pointer (some ⟨sp,0,none⟩),.slice p c.fs.length cc,rv,.bool c.live,.int .i64 c.broken] jd] [] Pb bz aU ?_
 refine m7 ?_
 refine Nd ?_
 intro b5 _
 refine Nf ?_
 intro bv2 _
 refine bF.pure (φ:=∃p c',bv2=.slice p (c.fs.length+1) c') (fun w' hw'=>?_) ?_
 ·obtain⟨p,c,e,_⟩:=aw (hw'.own (v:=bv2));exact⟨p,c,e⟩
 rintro⟨p3,c3,rfl⟩
 refine m7 ?_
 refine bF.iO (gj.gz rfl rfl rfl rfl rfl aH pn) rfl ?_
 rintro⟨⟩ _
 repeat'(first|refine ar ?_|fail)
 refine ah.oe rfl fun w' hw'=>?_
 refine aC.qM (x:=(⟨sp,tv3,pv3,.slice p3 (c.fs.length+1) c3,rv,fv++[(.slice p1 f.par.length c1,.slice p2 f.res.length c2)],D,L⟩:jF)) ⟨?_,fun i hi=>?_,hg.rs⟩ hS hw' (by unfold gX;dsimp only[aT,aX,Pq,Pp];rw[xo _ _ _ _ hg.len,Py];dsimp only[iD,List.length_cons,List.length_nil];exact dV) ak
 ·show(fv++[_]).length=(c.fs++[f]).length
  have:=hg.len
  simp at this ⊢;exact this
 ·have hlen:=hg.len
  dsimp only at hlen
  have hi':i<(c.fs++[f]).length:=hi
  show((ix (c.fs++[f]) i).fn,ix (fv++[_]) i)∈L
  by_cases hlt:i<c.fs.length
  ·rw[iH hlt,iH (show i<fv.length by omega)];exact hg.fr i hlt
  ·have:i=c.fs.length:=by rw[Py,List.length_singleton]at hi';omega
   subst this
   rw[gN (Px _),gN (show fv.length≤c.fs.length by omega),hlen,Nat.sub_self]
   exact hin
theorem Yl.Im {n:Nat} {E:Env} {M:List bu} {R:List (World→Prop)} {t:TypeId} {x:Operand} {ti:TI} {B T s s' m g cap o:Nat} {xs cs:List Value} (ht:G.ty t=some ti) (ha:ti.agg=true) (hx:ev E x=some (.pointer (some ⟨g,o,none⟩))) (hs:ti.size=s') (hl:cs.length=s') (hc:∀j,j<s'→xs[o+j]?=cs[j]?) (hM:bu.own B T s (.slice (some ⟨g,0,none⟩) m cap) m xs∈M):Yl G n (.load t x) E (Ok M R) (.agg cs.toArray):=
 Yl.rZ ht ha hs hx hl fun w hw j hj=>by
  have h1:=hc j hj
  obtain⟨u,hu⟩:∃u,cs[j]?=some u:=⟨_,Pw (show j<cs.length by omega)⟩
  rw[hu]at h1 ⊢
  exact dP (hw.m _ hM).1 h1
theorem zF (c:dv) (v:jF) (w:World) (hw:Ok (aT cp c v) [] w) (hg:v.Good c) (h0:0<c.fs.length) (_hfl:c.fs.length≤1000000):
  Calls G.P 86 #[.pointer (some ⟨cp,0,none⟩)] w (aC (aT cp c v) w (fun _:Value=>.agg (iD c.top (ix v.fv (c.fs.length - 1))).toArray) (fun _=>True) (fun bv'=>aT cp {c with fs:=c.fs.take (c.fs.length - 1)} {v with bv:=bv',fv:=v.fv.take (c.fs.length - 1)})):=by
 obtain⟨sp,tv,pv,bv,rv,fv,D,L⟩:=v
 have hrd:wX cp c ⟨sp,tv,pv,bv,rv,fv,D,L⟩ w:=hw.Cy (Pv.refl _)
 obtain⟨p,cc,e,hcp,hmx,hgg⟩:=aw hrd.o
 dsimp only at e
 subst e
 obtain⟨g,rfl,-⟩:=hgg h0
 have hone:=xp c.fs fv (hg.one hrd.l)
 obtain⟨q1,d1,q2,d2,hx⟩:=(hrd.l _ (hg.fr (c.fs.length - 1) Pi)).gx
 have hc5:∀j,j<5→(eu c.fs fv)[0+(c.fs.length - 1)*5+j]?=(iD (ix c.fs (c.fs.length - 1)) (ix fv (c.fs.length - 1)))[j]?:=fun j hj=>by rw[Ps];exact mI c.fs fv (c.fs.length - 1) j hg.len Pi hj
 dsimp only at hx hc5 ⊢
 rw[hx]at hc5 ⊢
 rw[show c.top=ix c.fs (c.fs.length - 1)from rfl]
 generalize ix c.fs (c.fs.length - 1)=f at*
 dsimp only[iD]at hc5 ⊢
 have e1:(c.fs.length:Int) - 1=((c.fs.length - 1:Nat):Int):=by omega
 refine ae (l:=[_]) func86 rfl ntmps86 rfl (Ok.dk hw) ?_
 generalize hS:Mb (aT cp c ⟨sp,tv,pv,.slice (some ⟨g,0,none⟩) c.fs.length cc,rv,fv,D,L⟩)=S0
 dsimp only[aT,aX,Pq,Pp]
 repeat'(first|refine ar ?_|(refine aa.eh (t:=sx) ?_;refine aa.alloc (t:=sx) [.int .i64 0,.slice none 0 0,.slice none 0 0,.bool false,.bool false] rfl rfl rfl fun b_=>?_)|fail)
 rw[e1]
 repeat'(first|refine ar ?_|(refine aa.eN ?_;refine aa.y_ (Yl.idx (i:=c.fs.length - 1) rfl rfl rfl rfl rfl Pi Pi) rfl ?_)|(refine aa.dn ?_;refine aa.y_ (Yl.Im rfl rfl rfl Pk Pk hc5 bO) rfl ?_)|(refine aa.eh (t:=sx) ?_;refine aa.alloc (t:=sx) [.int .i64 0,.slice none 0 0,.slice none 0 0,.bool false,.bool false] rfl rfl rfl fun b_=>?_)|fail)
 refine aa.he (HE.KC (s:=5) (len:=c.fs.length - 1) rfl rfl rfl Pk rfl Pk Pi (fun _ _=>Pu _)) rfl ?_
 intro g3 _
 repeat'(first|refine ar ?_|fail)
 refine aa.he (HE.I1 rfl rfl aH aH Pi rfl rfl rfl Pk hone) rfl ?_
 rintro⟨⟩ _
 rw[tG _ _ _ hg.len]
 repeat'(first|refine ar ?_|fail)
 exact ah.bB (.inl rfl) rfl rfl rfl rfl rfl aH rfl fun w' hw'=>aC.qM (x:=Pn (some ⟨g3,0,none⟩) (c.fs.length - 1) (c.fs.length - 1)) trivial hS hw' (by dsimp only[aT,aX,Pq,Pp];rw[Pz,Nat.min_eq_left Pi];exact dV) ak
abbrev ID:Nat:=61
theorem dK {B T:Nat} {v:Value} {xs:List Int} (h:w.ownsRow B T 1 v xs.length (aY xs)) (hl:xs.length≤17592186044416):ai (fun k=>v.ownBlock=some k) w v xs:=by
 obtain⟨p,c,rfl,hn,hc,hg⟩:=aw h
 refine⟨p,c,rfl,hl,?_⟩
 by_cases h0:xs.length=0
 ·exact t7
 ·obtain⟨g,rfl,-⟩:=hg Pi
  exact .inr ⟨g,0,rfl,rfl,fun i hi=>dP h (o0 hi)⟩
theorem Ok.swap {q q':bu} {M M':List bu} {R:List (World→Prop)} {w:World} (h:Ok M R w) (hM:Up q q' M M') (hF:∀k,q'.F k→q.F k) (hP:q.P w→q'.P w):Ok M' R w:=
 h.qj hM (bX.refl _ w) (hP (h.m _ hM.mem).1) fun k hk=>⟨(h.m _ hM.mem).2 k (hF k hk),fun _=>hF k hk⟩
theorem aC.Ke {w w':World} {tf:β→Value} {φ:β→Prop} {M1:β→List bu} (x:β) (hφ:φ x) (h:Ok M R w') (hM:kn (M1 x) M) (hR:Ext w∈R):aC [] w tf φ M1 (.returned (tf x)) w':=by
 obtain⟨M2,hp⟩:=hM.perm
 exact aC.sF x hφ (h.perm hp) (Qd _ _) hR
theorem E5 (D0:Nat→Prop) (results:List Int) (v:Value) (w:World) (hI:ai D0 w v results):Calls G.P 31 #[v] w (aC [] w (fun y:Nat×jF=>.pointer (some ⟨y.1,0,none⟩)) (fun y=>y.2.Good (jP results)) (fun y=>aT y.1 (jP results) y.2)):=by
 obtain⟨p,cc,rfl,hl⟩:=hI.slice
 refine ae (l:=[_]) func31 rfl ntmps31 rfl (Ok.start w) ?_
 repeat'(first|refine ar ?_|fail)
 refine aa.he (HE.bJ (M0:=[]) nK.nil rfl rfl (fun w' hw'=>En w')) rfl ?_
 rintro⟨sp,tv,pv⟩ _
 dsimp only[aX,Pq,Pp]
 repeat'(first|refine ar ?_|fail)
 refine aa.he (HE.bJ (M0:=[]) nK.nil rfl rfl (fun w' hw'=>eD results _ w' (hI.aN (show Ext w w' from hw'.at) (fun _ _ _ h=>h)))) rfl ?_
 intro u _
 dsimp only[Pq,Pp]
 refine aa.pure (φ:=∃p c,u=.slice p results.length c) (fun w' hw'=>?_) ?_
 ·obtain⟨p,c,e,_⟩:=aw (hw'.own (v:=u));exact⟨p,c,e⟩
 rintro⟨p3,c3,rfl⟩
 repeat'(first|refine ar ?_|fail)
 refine aa.box [.pointer (some ⟨sp,0,none⟩),.slice none 0 0,.slice p3 results.length c3,.bool true,.int .i64 0] rfl rfl rfl fun cp=>?_
 repeat'(first|refine ar ?_|fail)
 refine aa.he (HE.bJ (M0:=[.aW sp [tv,pv,.bool (dB ⟨[],[(0,false)],0⟩)] jE,.own 0 fR 1 tv (([]:List Int).length) (aY []),.own 0 jD 2 pv ([((0:Int),false)].length) (cg [(0,false)])]) dU rfl rfl (fun w' hw'=>vw sp ⟨[],[(0,false)],0⟩ (tv,pv) w' (hw'.dc dV (fun p h=>by cases h)) Ph Ph)) rfl ?_
 rintro⟨tv2,pv2⟩ _
 dsimp only[aX,Pq,Pp]
 repeat'(first|refine ar ?_|fail)
 refine MR ?_
 intro b6 _
 repeat'(first|refine ar ?_|fail)
 refine ah.aG rfl rfl fun w' hw'=>?_
 have h1:=hw'.swap (q:=.own 0 fR 1 (.slice p3 results.length c3) results.length (aY results)) (q':=.kq iZ iZ.fr (fun k=>(Pn p3 results.length c3).ownBlock=some k) [(⟨[],results⟩,.slice none 0 0,.slice p3 results.length c3)]) aH (fun k h=>h) (fun h y hy=>by
  rw[List.mem_singleton]at hy;subst hy
  exact⟨ai.cH _ _,dK h hl⟩)
 have h2:=h1.jN (s:=5) (len:=1) aH rfl O4
 refine aC.Ke (x:=(cp,(⟨sp,tv2,pv2,.slice (some ⟨b6,0,none⟩) 1 1,.slice p3 results.length c3,[(.slice none 0 0,.slice p3 results.length c3)],_,[(⟨[],results⟩,.slice none 0 0,.slice p3 results.length c3)]⟩:jF))) ⟨rfl,fun i hi=>?_,PT⟩ h2 (by
  show kn [.aW cp [.pointer (some ⟨sp,0,none⟩),.slice (some ⟨b6,0,none⟩) 1 1,.slice p3 results.length c3,.bool true,.int .i64 0] jd,.aW sp [tv2,pv2,.bool (dB (aV ⟨[],[(0,false)],0⟩))] jE,.own 0 fR 1 tv2 (aV ⟨[],[(0,false)],0⟩).ts.length (aY (aV ⟨[],[(0,false)],0⟩).ts),.own 0 jD 2 pv2 (aV ⟨[],[(0,false)],0⟩).ps.length (cg (aV ⟨[],[(0,false)],0⟩).ps),.own 0 sx 5 (.slice (some ⟨b6,0,none⟩) 1 1) 1 [.int .i64 0,.slice none 0 0,.slice p3 results.length c3,.bool false,.bool true],.kq iZ iZ.fr _ _] _
  exact dV) ak
 have:i=0:=by simp[jP]at hi;exact hi
 subst this
 exact PT
abbrev nZ:Nat:=116
theorem dy {ops:Array Oper} {Q:Exit→Act→World→Prop} {n:Nat} {rest:List Oper} {E:Env} {M:List bu} {R:List (World→Prop)} {d:Nat} {ty:TypeId} {pos:String} {aft:Array Edge} (h:∀b:Nat,aa ops Q n rest ((d,.pointer (some ⟨b,0,none⟩))::E) (.aW b [.slice none 0 0,.slice none 0 0,.slice none 0 0,.int .i64 0] nZ::M) R) (hd:Nat.blt d n=true:=by rfl):aa ops Q n (⟨some d,.alloc nZ,ty,pos,aft,none⟩::rest) E M R:=aa.alloc (t:=nZ) [.slice none 0 0,.slice none 0 0,.slice none 0 0,.int .i64 0] rfl rfl hd h
abbrev jn:(Nat→Prop)→World→Value→List Bool→Prop:=gF 1 17592186044416 kO
theorem jn.aN {F S:Nat→Prop} {w w':World} {v:Value} {xs:List Bool} (h:jn F w v xs) (hc:bX S w w') (hd:∀k,k<w.heap.size→F k→¬S k):jn F w' v xs:=gF.aN kO.fr kO.ce h hc hd
theorem jn.mono {F H:Nat→Prop} {w:World} {v:Value} {xs:List Bool} (h:jn F w v xs) (hd:∀k,k<w.heap.size→F k→H k):jn H w v xs:=gF.mono kO.mo kO.ce h hd
structure jT where
 l:Value
 m:Value
 o:Value
def ck.marks (s:ck):List Int:=s.ps.map Prod.fst
def ck.eZ (s:ck):List Bool:=s.ps.map Prod.snd
def GG:Value→Prop
 |.slice _ n c=>n≤c
 |_=>False
def bw (s:ck) (D:Nat→Prop) (w:World) (y:jT):Prop:=ai D w y.l s.ts∧ai D w y.m s.marks∧jn D w y.o s.eZ∧GG y.l∧GG y.m∧GG y.o
theorem bw.fr:vJ (bw s):=fun h hc hd=>⟨h.1.aN hc hd,h.2.1.aN hc hd,jn.aN h.2.2.1 hc hd,h.2.2.2⟩
theorem bw.mono {s:ck} {D H:Nat→Prop} {w:World} {y:jT} (h:bw s D w y) (hd:∀k,D k→H k):bw s H w y:=⟨h.1.mono fun k _=>hd k,h.2.1.mono fun k _=>hd k,jn.mono h.2.2.1 fun k _=>hd k,h.2.2.2⟩
def gw (s:ck) (y:jT):List Value:=[y.l,y.m,y.o,.int .i64 s.bR]
theorem bw.gx {s:ck} {D:Nat→Prop} {w:World} {y:jT} (h:bw s D w y):∃p1 c1 p2 c2 p3 c3,y=⟨.slice p1 s.ts.length c1,.slice p2 s.ps.length c2,.slice p3 s.ps.length c3⟩∧s.ts.length≤c1∧s.ps.length≤c2∧s.ps.length≤c3:=by
 obtain⟨l,m,o⟩:=y
 obtain⟨p1,c1,e1,-⟩:=h.1.slice
 obtain⟨p2,c2,e2,-⟩:=h.2.1.slice
 obtain⟨p3,c3,e3,-⟩:=gF.slice h.2.2.1
 obtain⟨k1,k2,k3⟩:=h.2.2.2
 dsimp only at e1 e2 e3 k1 k2 k3
 subst e1 e2 e3
 simp only[ck.marks,ck.eZ,List.length_map]at k2 k3
 exact⟨p1,c1,p2,c2,p3,c3,by simp[ck.marks,ck.eZ],k1,k2,k3⟩
theorem ck.CG (h:0<s.ps.length):ix s.marks (s.ps.length - 1)=s.at_∧ix s.eZ (s.ps.length - 1)=s.loose:=by
 have:=h;clear this
 unfold ck.marks ck.eZ ck.at_ ck.loose
 exact⟨ru Pi,ru Pi⟩
theorem qd (D:Nat→Prop) (s:ck) (y:jT) (w:World) (h:bw s D w y) (hp:0<s.ps.length):Calls G.P 150 #[.agg (gw s y).toArray] w fun e w'=>e=.returned (.int .i64 s.at_)∧Ext w w':=by
 obtain⟨p1,c1,p2,c2,p3,c3,rfl,k1,k2,k3⟩:=h.gx
 obtain⟨h1,h2,h3,-⟩:=h
 have hml:s.marks.length=s.ps.length:=by simp[ck.marks]
 dsimp only at h2
 rw[←hml]at h2
 obtain⟨b,o,rfl,-,hc⟩:=h2.at (i:=s.ps.length - 1) Pi
 have hcj:=hc (s.ps.length - 1) Pi
 rw[(s.CG hp).1]at hcj
 have hb:=(h2.slice).choose_spec.choose_spec.2
 rw[hml]at hb
 refine ae (l:=[_]) func150 rfl ntmps150 rfl (Ok.start w) ?_
 repeat'(first|refine ar ?_|(refine aF fun b_=>?_)|(refine aa.eN ?_;refine aa.y_ (Yl.gn (i:=s.ps.length - 1) rfl rfl rfl rfl rfl Pi Pi) rfl ?_)|fail)
 all_goals exact ge
theorem Am (D:Nat→Prop) (s:ck) (y:jT) (w:World) (h:bw s D w y) (hp:0<s.ps.length):Calls G.P 151 #[.agg (gw s y).toArray] w fun e w'=>e=.returned (.bool s.loose)∧Ext w w':=by
 obtain⟨p1,c1,p2,c2,p3,c3,rfl,k1,k2,k3⟩:=h.gx
 obtain⟨h1,h2,h3,-⟩:=h
 have hml:s.eZ.length=s.ps.length:=by simp[ck.eZ]
 dsimp only at h3
 rw[←hml]at h3
 obtain⟨b,o,rfl,-,hc⟩:=gF.at h3 (i:=s.ps.length - 1) Pi
 have hcj:w.cell? ⟨b,o+(s.ps.length - 1)*1,none⟩=some (.bool (ix s.eZ (s.ps.length - 1))):=hc (s.ps.length - 1) Pi
 rw[(s.CG hp).2,Nat.mul_one]at hcj
 have hb:=(gF.slice h3).choose_spec.choose_spec.2
 rw[hml]at hb
 refine ae (l:=[_]) func151 rfl ntmps151 rfl (Ok.start w) ?_
 repeat'(first|refine ar ?_|(refine aF fun b_=>?_)|(refine aa.eN ?_;refine aa.y_ (Yl.gn (i:=s.ps.length - 1) rfl rfl rfl rfl rfl Pi Pi) rfl ?_)|fail)
 all_goals exact ge
theorem ou {w w':World} {M:List bu} {R:List (World→Prop)} {B T n:Nat} {v:Value} {cs:List Value} (xs:List Int) (hw:Ok M R w') (hR:Ext w∈R) (hm:bu.own B T 1 v n cs∈M) (hn:n=xs.length) (hcs:cs=aY xs) (hl:xs.length≤17592186044416):ai (fun k=>F k∨w.heap.size≤k) w' v xs:=by
 subst hn hcs
 have ho:w'.ownsRow B T 1 v xs.length (aY xs):=(hw.m _ hm).1
 refine(dK ho hl).mono fun k _ hk=>.inr ?_
 rcases PG k w.heap.size with h|h
 ·exact(hw.origin (S:=fun _=>False) hR k ⟨_,hm,hk⟩ h).elim
 ·exact h
theorem ai.ka {w w':World} {M:List bu} {R:List (World→Prop)} {v:Value} {xs:List Int} (h:ai F w v xs) (hw:Ok M R w') (hR:Ext w∈R):ai (fun k=>F k∨w.heap.size≤k) w' v xs:=
 (h.aN (show Ext w w' from hw.get hR) (fun _ _ _ h=>h)).mono fun _ _ h=>.inl h
theorem jn.ka {w w':World} {M:List bu} {R:List (World→Prop)} {v:Value} {xs:List Bool} (h:jn F w v xs) (hw:Ok M R w') (hR:Ext w∈R):jn (fun k=>F k∨w.heap.size≤k) w' v xs:=
 (jn.aN h (show Ext w w' from hw.get hR) (fun _ _ _ h=>h)).mono fun _ _ h=>.inl h
theorem ai.take (h:ai F w (.slice p n c) xs) (k:Nat) (_hk:k≤xs.length):ai F w (.slice p k c) (xs.take k):=by
 obtain⟨p',c',e,hl,h⟩:=h
 cases e
 have ht:(xs.take k).length=k:=by rw[Pz];omega
 refine⟨p,c,by rw[ht],by omega,?_⟩
 rcases h with h|⟨b,o,rfl,hF,h⟩
 ·exact .inl (by rw[h];simp)
 ·refine .inr ⟨b,o,rfl,hF,fun i hi=>?_⟩
  rw[ht]at hi
  rw[cz Pi,List.getElem_take,←cz Pi]
  exact h i Pi
def IL (s:ck) (F:Nat→Prop) (w:World):Ending→World→Prop:=bD (bw s) (fun y=>.agg (gw s y).toArray) F w
section
variable {n:Nat} {E:Env} {C:World→Prop} {x y:Operand} {t t2:TypeId}
theorem Yl.Jg {p q:Int} (hx:ev E x=some (.int .i64 p)) (hy:ev E y=some (.int .i64 q)):Yl G n (.call ⟨.builtin .max,#[x,y],#[t,t2]⟩) E C (.int .i64 (if q>p then q else p)):=
 ⟨fun w _ a ha d ty pos aft gd=>by
  simp[execOp,resolve,invoke,builtin,ha.eval hx,ha.eval hy,run_max_int2]⟩
end
theorem CH (a b:Nat):(if((b:Nat):Int)>((a:Nat):Int)then((b:Nat):Int)else((a:Nat):Int))=((max a b:Nat):Int):=by
 rcases PG a b with h|h
 ·rw[if_pos Pi,Nat.max_eq_right Pi]
 ·rw[if_neg Pi,Nat.max_eq_left h]
theorem HE.yl {n:Nat} {op:Op} {E:Env} {M:List bu} {R:List (World→Prop)} {v:Value} (hy:Yl G n op E (Ok M R) v):HE n op E M R (fun _:Unit=>True) (fun _=>v) (fun _=>M) (fun _=>R):=
 ⟨fun w hw=>⟨fun a ha d ty pos aft gd=>by rw[hy.h w hw a ha d ty pos aft gd];exact⟨(),trivial,rfl,hw⟩⟩⟩
theorem kc (F:Nat→Prop) (s:ck) (y:jT) (v:Value) (xs:List Int) (w:World) (h:bw s F w y) (hI:ai F w v xs) (_hb:s.ts.length+xs.length≤17592186044416):Calls G.P 113 #[.agg (gw s y).toArray,v] w (IL (aS s xs) F w):=by
 obtain⟨p1,c1,p2,c2,p3,c3,rfl,k1,k2,k3⟩:=h.gx
 obtain⟨h1,h2,h3,-⟩:=h
 obtain⟨q,d,rfl,hl⟩:=hI.slice
 dsimp only at h1 h2 h3
 refine ae (l:=[_,_]) func113 rfl ntmps113 rfl (Ok.start w) ?_
 dsimp only[gw]
 repeat'(first|refine ar ?_|(refine aF fun b_=>?_)|(refine dy fun b_=>?_)|fail)
 refine aa.iP 0 fR 1 ?_
 refine aa.he (HE.gR (aY s.ts) rfl rfl (fun _=>aH) (jJ h1 ak) Pg rfl rfl rfl Pk Pk Pk (fj _) (by show(0+s.ts.length)*8≤_;omega) Pi (fun _ _=>Pu _)) rfl ?_
 intro v1 _
 simp only[Ps,Pp]
 refine aa.pure (φ:=∃p c,v1=.slice p s.ts.length c) (fun w' hw'=>?_) ?_
 ·obtain⟨p,c,e,_⟩:=aw (hw'.own (v:=v1));exact⟨p,c,e⟩
 rintro⟨p4,c4,rfl⟩
 repeat'(first|refine ar ?_|fail)
 refine aa.he (HE.gR (aY xs) rfl rfl (fun _=>aH) (jJ hI ak) Pg rfl rfl rfl Pk Pk Pk (fj _) (by show(s.ts.length+xs.length)*8≤_;omega) Pi (fun _ _=>Pu _)) rfl ?_
 intro v2 _
 refine aa.pure (φ:=∃p c,v2=.slice p (s.ts.length+xs.length) c∧s.ts.length+xs.length≤c) (fun w' hw'=>?_) ?_
 ·obtain⟨p,c,e,h,_⟩:=aw (hw'.own (v:=v2));exact⟨p,c,e,h⟩
 rintro⟨p5,c5,rfl,k5⟩
 repeat'(first|refine ar ?_|fail)
 refine aa.he (HE.yl (Yl.Jg rfl rfl)) rfl ?_
 rintro⟨⟩ _
 repeat'(first|refine ar ?_|fail)
 refine ah.bB (.inl rfl) rfl rfl rfl rfl rfl aH rfl fun w' hw'=>⟨⟨(⟨.slice p5 (s.ts.length+xs.length) c5,.slice p2 s.ps.length c2,.slice p3 s.ps.length c3⟩:jT),?_,ou (s.ts++xs) hw' ak bO Pj Pg Pe,h2.ka hw' ak,jn.ka h3 hw' ak,k5,k2,k3⟩,hw'.at⟩
 dsimp only[gw,aS]
 rw[CH]
theorem Fin.uY {fn:Func} {R:Ending→World→Prop} {w:World} {n a T b s t u Tb:Nat} {ti:TI} {E:Env} {cs:List Value} {v y:Value} {e:Exit} (he:e=.ret∨e=.normal) (hr:fn.results=#[.cell a T,.tmp t,.tmp u]) (ha:lk E a=some (.pointer (some ⟨b,0,none⟩))) (hT:G.ty T=some ti) (hag:ti.agg=true) (hsz:ti.size=s) (hb:gQ w b cs Tb) (hl:cs.length=s) (hv:lk E t=some v) (hy:lk E u=some y) (hR:R (.returned (.tuple #[.agg cs.toArray,v,y])) w):Fin (bodyPost G.P fn R) n e E w:=
 Fin.qN he (fun ac hac=>by
  have h3:=rM hT hag hsz hb hl
  have g1:ac.tmps[a]?.getD undef=.pointer (some ⟨b,0,none⟩):=by have:=(hac.eq a _ ha).2;simpa using this
  have g2:ac.tmps[t]?.getD undef=v:=by have:=(hac.eq t _ hv).2;simpa using this
  have g3:ac.tmps[u]?.getD undef=y:=by have:=(hac.eq u _ hy).2;simpa using this
  simp[results,hr,g1,g2,g3,asAddr,h3]) hR
theorem ah.uY {fn:Func} {Rp:Ending→World→Prop} {n:Nat} {E:Env} {M M':List bu} {R:List (World→Prop)} {v y:Value} {e:Exit} {a T Tb b s t u:Nat} {ti:TI} {cs:List Value} (he:e=.ret∨e=.normal) (hr:fn.results=#[.cell a T,.tmp t,.tmp u]) (ha:lk E a=some (.pointer (some ⟨b,0,none⟩))) (hT:G.ty T=some ti) (hag:ti.agg=true) (hsz:ti.size=s) (hM:Up (.aW b cs Tb) (.aW b cs Tb) M M') (hl:cs.length=s) (hv:lk E t=some v) (hy:lk E u=some y) (hR:∀w,Ok M R w→Rp (.returned (.tuple #[.agg cs.toArray,v,y])) w):ah (bodyPost G.P fn Rp) n e E M R:=
 ⟨fun w hw=>Fin.uY he hr ha hT hag hsz (hw.m _ hM.mem).1 hl hv hy (hR w hw)⟩
theorem kK (F:Nat→Prop) (s:ck) (y:jT) (w:World) (h:bw s F w y) (hp:0<s.ps.length) (_h0:0≤s.at_):Calls G.P 121 #[.agg (gw s y).toArray] w (bD (bw (aZ s).1) (fun y=>.tuple #[.agg (gw (aZ s).1 y).toArray,.int .i64 (aZ s).2.1,.int .i64 (aZ s).2.2]) F w):=by
 have hh:=h
 obtain⟨p1,c1,p2,c2,p3,c3,rfl,k1,k2,k3⟩:=h.gx
 obtain⟨h1,h2,h3,-⟩:=h
 dsimp only at h1 h2 h3
 obtain⟨_,_,_,hl1⟩:=h1.slice
 have hmk:∀w',Ext w w'→Calls G.P 150 #[.agg #[.slice p1 s.ts.length c1,.slice p2 s.ps.length c2,.slice p3 s.ps.length c3,.int .i64 s.bR]] w' fun e w2=>e=.returned (.int .i64 s.at_)∧Ext w' w2:=fun w' hx=>qd F s ⟨.slice p1 s.ts.length c1,.slice p2 s.ps.length c2,.slice p3 s.ps.length c3⟩ w' (bw.fr s hh hx (fun _ _ _ h=>h)) hp
 have hlo:∀w',Ext w w'→Calls G.P 151 #[.agg #[.slice p1 s.ts.length c1,.slice p2 s.ps.length c2,.slice p3 s.ps.length c3,.int .i64 s.bR]] w' fun e w2=>e=.returned (.bool s.loose)∧Ext w' w2:=fun w' hx=>Am F s ⟨.slice p1 s.ts.length c1,.slice p2 s.ps.length c2,.slice p3 s.ps.length c3⟩ w' (bw.fr s hh hx (fun _ _ _ h=>h)) hp
 by_cases hlt:s.at_<s.ts.length
 ·rw[show aZ s=({s with ts:=s.ts.take (s.ts.length - 1)},ix s.ts (s.ts.length - 1),0)from if_pos hlt]
  obtain⟨b,o,rfl,-,hc⟩:=h1.at (i:=s.ts.length - 1) Pi
  have hcj:=hc (s.ts.length - 1) Pi
  have hcc:=(h1.slice)
  refine ae (l:=[_]) func121 rfl ntmps121 rfl (Ok.start w) ?_
  dsimp only[gw]
  repeat'(first|refine ar ?_|(refine aF fun b_=>?_)|(refine dy fun b_=>?_)|refine Om ?_|(refine aa.eN ?_;refine aa.y_ (Yl.gn (i:=s.ts.length - 1) rfl rfl rfl rfl rfl Pi Pi) rfl ?_)|(refine aa.y_ (Yl.cZ (i:=s.ts.length - 1) rfl rfl rfl rfl rfl Pi Pi) rfl ?_)|fail)
  all_goals exact ah.uY (.inl rfl) rfl rfl rfl rfl rfl aH rfl rfl rfl fun w' hw'=>⟨⟨(⟨.slice (some ⟨b,o,none⟩) (s.ts.length - 1) c1,.slice p2 s.ps.length c2,.slice p3 s.ps.length c3⟩:jT),rfl,(h1.take (s.ts.length - 1) Pi).ka hw' ak,h2.ka hw' ak,jn.ka h3 hw' ak,(by show s.ts.length - 1≤c1;omega),k2,k3⟩,hw'.at⟩
 ·have e:aZ s=if s.loose=true then(s,0,0)else(s,0,13):=if_neg hlt
  rw[e]
  obtain⟨lo,hl⟩:∃b,s.loose=b:=⟨_,rfl⟩
  rw[hl]at hlo ⊢
  cases lo with
  |true=>
   rw[if_pos rfl]
   refine ae (l:=[_]) func121 rfl ntmps121 rfl (Ok.start w) ?_
   dsimp only[gw]
   repeat'(first|refine ar ?_|(refine aF fun b_=>?_)|(refine dy fun b_=>?_)|refine Om ?_|(refine aa.aj (f:=151) ?_;refine aa.av rfl rfl rfl (fun w' hw'=>hlo w' hw'.at) ?_)|fail)
   all_goals first|omega|skip
   refine M5 ?_
   exact Eq
  |false=>
   rw[if_neg Ph]
   refine ae (l:=[_]) func121 rfl ntmps121 rfl (Ok.start w) ?_
   dsimp only[gw]
   repeat'(first|refine ar ?_|(refine aF fun b_=>?_)|(refine dy fun b_=>?_)|refine Om ?_|(refine aa.aj (f:=151) ?_;refine aa.av rfl rfl rfl (fun w' hw'=>hlo w' hw'.at) ?_)|fail)
   all_goals first|omega|skip
   refine M5 ?_
   exact Eq
end Go.Proofs.YtdkcljdfbemnbaaGreatDoor
