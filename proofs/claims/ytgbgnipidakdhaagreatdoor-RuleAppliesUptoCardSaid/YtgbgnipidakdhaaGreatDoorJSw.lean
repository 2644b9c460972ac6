/- The operand stack (layer 21): the methods that have no loop. -/
import Derived.Test.YtgbgnipidakdhaaGreatDoorJIn
import Derived.Test.YtgbgnipidakdhaaGreatDoorJAw
import Derived.Test.YtgbgnipidakdhaaGreatDoorJSb
import Derived.Test.YtgbgnipidakdhaaGreatDoorJM2
import Derived.Test.YtgbgnipidakdhaaGreatDoorJSf
import Derived.OrdersIn
namespace Go.Proofs.YtgbgnipidakdhaaGreatDoor
open Go.RowKit
set_option maxRecDepth 100000
abbrev iN:Nat:=145
abbrev iO:Nat:=184
abbrev fY:Nat:=37
def mF (p:Int×Bool):List Value:=[.int .i64 p.1,.bool p.2]
def bO (l:List (Int×Bool)):List Value:=l.flatMap mF
def aX (l:List Int):List Value:=l.map (Value.int .i64)
def eN (s:bP):Bool:=decide (256<s.bH)
def aS (sp:Nat) (s:bP) (x:Value×Value):List a8:=[.aT sp [x.1,x.2,.bool (eN s)] iN,.own 0 fY 1 x.1 s.ts.length (aX s.ts),.own 0 iO 2 x.2 s.ps.length (bO s.ps)]
theorem CA {w:World} {B T s n c:Nat} {p:Option Addr} {xs:List Value} (h:w.ownsRow B T s (.slice p n c) n xs) {k:Nat} (hk:k≤n):w.ownsRow B T s (.slice p k c) k (xs.take (k*s)):=by
 obtain⟨h1,h2⟩:=h
 have hm:k*s≤n*s:=Nat.mul_le_mul_right s hk
 refine⟨by rw[List.length_take];omega,?_⟩
 rcases h2 with⟨e,h0⟩|⟨g,cap,cur,e,hg,hh,hn,hc,hs,ht⟩
 ·cases e
  have:k=0:=by omega
  subst this
  exact .inl ⟨rfl,rfl⟩
 ·cases e
  refine .inr ⟨g,c,cur,rfl,hg,hh,by omega,hc,hs,?_⟩
  rw[←ht,List.take_take,Nat.min_eq_left hm]
theorem Ok.mw {M M':List a8} {R:List (World→Prop)} {w:World} {B T s n c:Nat} {p:Option Addr} {xs:List Value} (h:Ok M R w) (k:Nat) (hk:k≤n) (hM:Up (.own B T s (.slice p n c) n xs) (.own B T s (.slice p k c) k (xs.take (k*s))) M M'):Ok M' R w:=
 h.yu hM (cg.refl _ w) (CA (h.m _ hM.mem).1 hk) (fun i hi=>by
  have hi':(Value.slice p n c).ownBlock=some i:=by cases p<;>exact hi
  exact⟨(h.m _ hM.mem).2 i hi',fun _=>hi'⟩)
section
variable {ops:Array Oper} {Q:Exit→Act→World→Prop} {n:Nat} {E:Env} {M M':List a8} {R R':List (World→Prop)} {v:Value} {x y z:Operand} {t t2:TypeId} {C:World→Prop}
theorem Yl.Cm {ti:TypeId} {ad:Addr} (ht:G.P.underlying t=some (.pointer ti)) (hx:ev E x=some (.pointer (some ad))) (hy:ev E y=some (.pointer none)):Yl G n (.binOp .neq t x y t2) E C (.bool true):=
 ⟨fun w _ a ha d ty pos aft gd=>by
  have h2:∀m,(Op.equalIn (m+1) t (.pointer (some ad)) (.pointer none)).run G.P w=.ok false w:=by
   intro m;simp[Op.equalIn,run_underlying ht]
  have h3:(Op.equal t (.pointer (some ad)) (.pointer none)).run G.P w=.ok false w:=h2 9999
  simp[execOp,ha.eval hx,ha.eval hy,eqGuard,binOp,h3]⟩
theorem Yl.iD {ti:TI} {B T g m cap i s o:Nat} {xs:List Value} {u:Value} (ht:G.ty t=some ti) (ha:ti.agg=false) (hx:ev E x=some (.pointer (some ⟨g,o,none⟩))) (ho:o=i) (hu:xs[i]?=some u) (hM:a8.own B T s (.slice (some ⟨g,0,none⟩) m cap) m xs∈M):Yl G n (.load t x) E (Ok M R) u:=
 Yl.load ht ha hx fun w hw=>by subst ho;exact dP (hw.m _ hM).1 hu
theorem fQ.ES {ti:TI} {B T g cap m i s o:Nat} {xs:List Value} (ht:G.ty t=some ti) (hs:ti.size=1) (hx:ev E x=some (.pointer (some ⟨g,o,none⟩))) (ho:o=i) (hy:ev E y=some v) (hv:v.oneCell'=true)
  (hM:Up (.own B T s (.slice (some ⟨g,0,none⟩) m cap) m xs) (.own B T s (.slice (some ⟨g,0,none⟩) m cap) m (xs.set i v)) M M') (hi:i<xs.length):fQ n (.store t x y) E M R (fun _:Unit=>True) (fun _=>M') (fun _=>R):=
 ⟨fun w hw=>by
  subst ho
  have ho:w.ownsRow B T s (.slice (some ⟨g,0,none⟩) m cap) m xs:=(hw.m _ hM.mem).1
  have hlt:=(hw.m _ hM.mem).2
  refine(ck.store ht hs hx hy hv (dP ho (List.getElem?_eq_getElem hi)) (World.ownsRow.frozenAt ho _)).mono fun _ w' e=>?_
  subst e
  obtain⟨h1,h2⟩:=World.ownsRow.stored ho o v
  refine⟨(),trivial,hw.yu hM ((cg.nh h2).mono fun k _ e=>e) h1 (fun k hk=>⟨?_,fun _=>hk⟩)⟩
  have:=hlt k hk
  have:=(cg.nh h2).size
  omega⟩
theorem ah.mw {B T s m c:Nat} {p:Option Addr} {xs:List Value} {e:Exit} (k:Nat) (hM:Up (.own B T s (.slice p m c) m xs) (.own B T s (.slice p k c) k (xs.take (k*s))) M M') (hk:k≤m) (h:ah Q n e E M' R):ah Q n e E M R:=⟨fun w hw=>h.h w (hw.mw k hk hM)⟩
end
theorem yM (s:bP) (l:List Int):eN (aJ s l)=(eN s || decide (256<((s.ts.length+l.length:Nat):Int))):=by
 unfold eN aJ
 rw[Bool.eq_iff_iff]
 simp only[Bool.or_eq_true,decide_eq_true_eq];omega
theorem Ok.c1 {M M':List a8} {R:List (World→Prop)} {w:World} {b T j:Nat} {cs:List Value} {v:Value} (h:Ok M R w) (hM:Up (.aT b cs T) (.aT b cs T) M M') (hj:cs[j]?=some v):w.cell? ⟨b,j,none⟩=some v:=(show gO w b cs T from(h.m _ hM.mem).1).cell hj
theorem vR (sp:Nat) (s:bP) (x:Value×Value) {M:List a8} {R:List (World→Prop)} {w:World} (h:Ok M R w) (hm:(aS sp s x).Sublist M):(∃p c,x.1=.slice p s.ts.length c∧s.ts.length≤c∧(0<s.ts.length→∃g,p=some ⟨g,0,none⟩))∧(∃p c,x.2=.slice p s.ps.length c∧(0<s.ps.length→∃g,p=some ⟨g,0,none⟩))∧s.ts.length≤9223372036854775807∧s.ps.length≤9223372036854775807:=by
 have h1:w.ownsRow 0 fY 1 x.1 s.ts.length (aX s.ts):=(h.m (.own 0 fY 1 x.1 s.ts.length (aX s.ts)) (hm.subset (by simp[aS]))).1
 have h2:w.ownsRow 0 iO 2 x.2 s.ps.length (bO s.ps):=(h.m (.own 0 iO 2 x.2 s.ps.length (bO s.ps)) (hm.subset (by simp[aS]))).1
 obtain⟨p,c,e,hn,hc,hg⟩:=ax h1
 obtain⟨p',c',e',hn',hc',hg'⟩:=ax h2
 unfold maxLen at hc hc'
 exact⟨⟨p,c,e,hn,fun h=>by obtain⟨g,e,_⟩:=hg h;exact⟨g,e⟩⟩,⟨p',c',e',fun h=>by obtain⟨g,e,_⟩:=hg' h;exact⟨g,e⟩⟩,by omega,by omega⟩
theorem gq (sp n c:Nat) (p:Option Addr) (w:World) (h1:w.cell? ⟨sp,1,none⟩=some (.slice p n c)) (h0:0<n):Calls G.P 65 #[.pointer (some ⟨sp,0,none⟩)] w fun e w'=>e=.returned (.bool true)∧Ext w w':=by
 refine ae (l:=[_]) Tryz.func65 rfl Tryz.ntmps65 rfl (Ok.start w) ?_
 repeat'(first|refine ar ?_|(refine aa.aK ?_;refine aa.y_ (Yl.Cm Tryz.underlying62 rfl rfl) rfl ?_)|fail)
 all_goals first|exact ah.aB rfl rfl fun w' hw'=>⟨by rfl,hw'.at⟩|exact ah.aB rfl rfl fun w' hw'=>⟨by simp;omega,hw'.at⟩
theorem ly (sp n c g:Nat) (w:World) (h1:w.cell? ⟨sp,1,none⟩=some (.slice (some ⟨g,0,none⟩) n c)) (h0:0<n) (hn:n≤9223372036854775807):Calls G.P 117 #[.pointer (some ⟨sp,0,none⟩)] w fun e w'=>e=.returned (.pointer (some ⟨g,(n - 1)*2,none⟩))∧Ext w w':=by
 obtain⟨k,rfl⟩:∃k,n=k+1:=⟨n - 1,by omega⟩
 rw[Nat.add_sub_cancel]
 refine ae (l:=[_]) Tryz.func117 rfl Tryz.ntmps117 rfl (Ok.start w) ?_
 repeat'(first|refine ar ?_|(refine aw.y (Yl.idx (i:=k) rfl rfl rfl rfl rfl Mj Mj) rfl ?_)|fail)
 all_goals exact ah.aB rfl rfl fun w' hw'=>⟨by simp,hw'.at⟩
theorem lq {l:List (Int×Bool)} {i:Nat} (h:i<l.length):(bO l)[i*2]?=some (.int .i64 (ix l i).1)∧(bO l)[i*2+1]?=some (.bool (ix l i).2):=by
 have h1:=jB mF (s:=2) (fun _=>rfl) l i 0 h Mj
 have h2:=jB mF (s:=2) (fun _=>rfl) l i 1 h Mj
 exact⟨h1,h2⟩
theorem ng {l:List Int} {i:Nat} (h:i<l.length):(aX l)[0+i]?=some (.int .i64 (ix l i)):=by
 unfold aX;rw[Nat.zero_add,List.getElem?_map,gZ h];rfl
theorem aM.Ia {β:Type} {M0 M:List a8} {R:List (World→Prop)} {w w':World} {tf:β→Value} {φ:β→Prop} {M1:β→List a8} (x:β) (hφ:φ x) (h:Ok M R w') (hM:(M1 x).Sublist M) (hR:cg (Mb M0) w∈R):aM M0 w tf φ M1 (.returned (tf x)) w':=
 ⟨x,rfl,hφ,h.sub hM (fun p hp=>absurd hp Mk),h.get hR,fun k ⟨q,hq,hk⟩ hlt=>h.origin hR k ⟨q,hM.subset hq,hk⟩ hlt⟩
theorem jv {sp T2 T3:Nat} {s:bP} {tv pv:Value} {ov:Bool} {n m:Nat} {cs ds:List Value} {M Mr:List a8} (hM:M=.aT sp [tv,pv,.bool ov] iN::.own 0 T2 1 tv n cs::.own 0 T3 2 pv m ds::Mr) (hT:T2=fY) (hT':T3=iO) (h1:n=s.ts.length) (h2:cs=aX s.ts) (h3:m=s.ps.length) (h4:ds=bO s.ps) (h5:ov=eN s):(aS sp s (tv,pv)).Sublist M:=by
 subst hT hT' h1 h2 h3 h4 h5 hM
 exact(List.nil_sublist Mr).cons_cons _ |>.cons_cons _ |>.cons_cons _
theorem xh {D:Nat→Prop} {w:World} {p:Option Addr} {n c:Nat} {xs:List Int} {M:List a8} {R:List (World→Prop)} (h:af D w (.slice p n c) xs) (hR:(fun w=>af D w (.slice p n c) xs)∈R):xs.length=0∨∃bk o,p=some ⟨bk,o,none⟩∧∀w',Ok M R w'→∀j u,(xs.map (Value.int .i64))[j]?=some u→w'.cell? ⟨bk,o+j,none⟩=some u:=by
 obtain⟨p',c',e,hl,h⟩:=h
 cases e
 rcases h with h|⟨b,o,rfl,hF,h⟩
 ·exact .inl (by rw[h];rfl)
 ·refine .inr ⟨b,o,rfl,fun w' hw' j u hj=>?_⟩
  have hI:af D w' (.slice (some ⟨b,o,none⟩) xs.length c) xs:=hw'.get (p:=fun w=>af D w (.slice (some ⟨b,o,none⟩) xs.length c) xs) hR
  have hj':j<xs.length:=by have:=(List.getElem?_eq_some_iff.1 hj).1;simpa using this
  obtain⟨b',o',e,-,hc⟩:=hI.at hj'
  cases e
  rw[hc j hj',←hj,List.getElem?_map,gZ hj'];rfl
theorem aM.iI {β:Type} {M0 M:List a8} {R:List (World→Prop)} {w w':World} {S0:Nat→Prop} {tf:β→Value} {φ:β→Prop} {M1:β→List a8} (x:β) (hφ:φ x) (hS:Mb M0=S0) (h:Ok M R w') (hM:(M1 x).Sublist M) (hR:cg S0 w∈R):aM M0 w tf φ M1 (.returned (tf x)) w':=by
 subst hS;exact aM.Ia x hφ h hM hR
def eF (sp:Nat) (s:bP) (x:Value×Value) (v:Value) (s':bP) (w:World):Ending→World→Prop:=aM (aS sp s x) w (fun _:Value×Value=>v) (fun _=>True) (aS sp s')
set_option maxHeartbeats 4000000 in
theorem fH (D:Nat→Prop) (sp:Nat) (s:bP) (x:Value×Value) (v:Value) (l:List Int) (w:World) (hw:Ok (aS sp s x) [fun w=>af D w v l] w) (hp:0<s.ps.length) (hb:(s.ts.length+l.length)*8≤140737488355328):
  Calls G.P 24 #[.pointer (some ⟨sp,0,none⟩),v] w (eF sp s x (.tuple #[]) (aJ s l) w):=by
 obtain⟨v1,v2⟩:=x;obtain⟨⟨p1,c1,e1,hcap,hg1⟩,⟨p2,c2,e2,hg2⟩,hn1,hn2⟩:=vR sp s (v1,v2) hw (List.Sublist.refl _);dsimp only at e1 e2;subst e1;subst e2;obtain⟨g2,rfl⟩:=hg2 hp
 have hI:af D w v l:=hw.get (p:=fun w=>af D w v l) Mk
 obtain⟨q,d,rfl,hl⟩:=hI.slice
 refine ae (l:=[_,_]) Tryz.func24 rfl Tryz.ntmps24 rfl (Ok.dj hw) ?_
 unfold eF
 generalize hS:Mb (aS sp s (.slice p1 s.ts.length c1,.slice (some ⟨g2,0,none⟩) s.ps.length c2))=S0;unfold aS;dsimp only
 repeat'(first|refine ar ?_|refine KZ ?_|(refine a7 ?_ ?_<;>intro hc_))
 refine aa.he (HE.gA (aX l) rfl rfl (fun _=>aA) (xh hI ak) Me rfl rfl rfl Ml Ml Ml (eV _) hb Mj (fun _ _=>Nat.zero_le _)) rfl ?_
 intro v1 _
 refine aa.pure (φ:=∃p c,v1=.slice p (s.ts.length+l.length) c) (fun w' hw'=>?_) ?_
 ·obtain⟨p,c,e,_⟩:=ax (hw'.own (v:=v1));exact⟨p,c,e⟩
 rintro⟨p3,c3,rfl⟩
 repeat'(first|refine ar ?_|(refine a7 ?_ ?_<;>intro hc_))
 all_goals exact ah.n8 rfl fun w' hw'=>aM.iI (x:=(_,_)) trivial hS hw' (jv rfl rfl rfl (by simp[aJ]) (by simp[aJ,aX]) rfl rfl (by rw[yM];simp[eN,hc_])) ak
set_option maxHeartbeats 4000000 in
theorem lx (sp:Nat) (s:bP) (x:Value×Value) (w:World) (hw:Ok (aS sp s x) [] w) (hp:0<s.ps.length) (h0:0≤s.at_):
  Calls G.P 113 #[.pointer (some ⟨sp,0,none⟩)] w (eF sp s x (.tuple #[.int .i64 (aU s).2.1,.int .i64 (aU s).2.2]) (aU s).1 w):=by
 obtain⟨v1,v2⟩:=x;obtain⟨⟨p1,c1,e1,hcap,hg1⟩,⟨p2,c2,e2,hg2⟩,hn1,hn2⟩:=vR sp s (v1,v2) hw (List.Sublist.refl _);dsimp only at e1 e2;subst e1;subst e2;obtain⟨g2,rfl⟩:=hg2 hp
 have a1:(bO s.ps)[(s.ps.length - 1)*2]?=some (.int .i64 s.at_):=(lq (l:=s.ps) (i:=s.ps.length - 1) Mj).1
 have a2:(bO s.ps)[(s.ps.length - 1)*2+1]?=some (.bool s.loose):=(lq (l:=s.ps) (i:=s.ps.length - 1) Mj).2
 unfold eF
 by_cases hlt:s.at_<s.ts.length
 ·obtain⟨g1,rfl⟩:=hg1 Mj
  have b1:=ng (l:=s.ts) (i:=s.ts.length - 1) Mj
  rw[show aU s=({s with ts:=s.ts.take (s.ts.length - 1)},ix s.ts (s.ts.length - 1),0)from if_pos hlt]
  refine ae (l:=[_]) Tryz.func113 rfl Tryz.ntmps113 rfl (Ok.dj hw) ?_
  generalize hS:Mb (aS sp s (.slice (some ⟨g1,0,none⟩) s.ts.length c1,.slice (some ⟨g2,0,none⟩) s.ps.length c2))=S0
  unfold aS
  dsimp only
  repeat'(first|refine ar ?_|refine KZ ?_|refine K1 ?_|(refine aa.dk ?_;refine aa.y_ (Yl.iD rfl rfl rfl rfl a1 bG) rfl ?_)|(refine aa.dk ?_;refine aa.y_ (Yl.iD rfl rfl rfl rfl a2 bG) rfl ?_)|(refine aa.ek ?_;refine aa.y_ (Yl.gh (i:=s.ts.length - 1) rfl rfl rfl rfl rfl Mj Mj) rfl ?_)|(refine aa.dk ?_;refine aa.y_ (Yl.iD rfl rfl rfl rfl b1 bG) rfl ?_)|(refine aa.y_ (Yl.cO (i:=s.ts.length - 1) rfl rfl rfl rfl rfl Mj Mj) rfl ?_)|(refine a7 ?_ ?_<;>intro hc_))
  all_goals refine ah.mw (s.ts.length - 1) aA Mj ?_
  all_goals exact ah.nz rfl rfl rfl fun w' hw'=>aM.iI (x:=(_,_)) trivial hS hw' (jv rfl rfl rfl Mk (by simp[aX,List.map_take]) rfl rfl rfl) ak
 ·have e:aU s=if s.loose then(s,0,0)else(s,0,13):=if_neg hlt
  rw[e]
  refine ae (l:=[_]) Tryz.func113 rfl Tryz.ntmps113 rfl (Ok.dj hw) ?_
  generalize hS:Mb (aS sp s (.slice p1 s.ts.length c1,.slice (some ⟨g2,0,none⟩) s.ps.length c2))=S0
  unfold aS
  dsimp only
  repeat'(first|refine ar ?_|refine KZ ?_|refine K1 ?_|(refine aa.dk ?_;refine aa.y_ (Yl.iD rfl rfl rfl rfl a1 bG) rfl ?_)|(refine aa.dk ?_;refine aa.y_ (Yl.iD rfl rfl rfl rfl a2 bG) rfl ?_)|(refine a7 ?_ ?_<;>intro hc_))
  all_goals simp only[*,if_true,if_false,Bool.false_eq_true]
  all_goals exact ah.nz rfl rfl rfl fun w' hw'=>aM.iI (x:=(_,_)) trivial hS hw' (jv rfl rfl rfl rfl rfl rfl rfl rfl) ak
section
variable {ops:Array Oper} {md:Region.Mode} {C:World→Prop} {ro:Option Nat} {m:Nat}
theorem tZ {i:Nat} {a:Act} {K:Act→Prop} {K':Act→World→Prop} {Q':Exit→Act→World→Prop} {w:World} (hn:∀(j:Nat) (o:Oper),ops[j]?=some o→jI o.op=true) (hC:C w) (h:∀a w',C w'→K a→K' a w') (hh:qOp G.P ops C i K a):wpOpIn (FW ro) m G.P ops Q' i K' a w:=by
 unfold qOp at hh
 unfold wpOpIn
 split
 ·rename_i ho;simp only[ho]at hh;exact h _ _ hC hh
 ·rename_i o ho
  simp only[ho]at hh
  split
  ·rename_i hw
   simp only[hw,if_true]at hh
   obtain⟨v,h1,h2⟩:=hh
   have h3:=h1 w hC
   have hs:Oper.semAt (FW ro).round a.eval o=execOp a.eval o:=Oper.semAt_eq _ _ _ (by
    have:=hn i o ho
    rintro c e;rw[e]at this;simp[jI]at this)
   refine⟨fun _ _=>trivial,?_⟩
   rw[hs]
   unfold Oper.quietAt at h3
   generalize (execOp a.eval o).run G.P w=r at*
   cases r with
   |ok n w'=>
    cases n<;>simp only[Oper.quietUpon]at h3<;>simp only[Oper.uponIn]
    case value u=>
     obtain⟨e1,e2⟩:=h3
     rw[e1,e2]
     exact h _ _ hC h2
    case skip=>
     obtain⟨e1,e2⟩:=h3
     rw[e1,←e2]
     exact h _ _ hC h2
    case enter f args=>
     obtain⟨e1,hc⟩:=h3
     rw[e1]
     exact⟨fun e=>(by cases e),(oU hc).mono fun e w'' ⟨he,hw''⟩=>by subst he;exact h _ _ hw'' h2⟩
   |halt x w'=>simp only[Oper.quietUpon]at h3
  ·rename_i hw;simp only[hw]at hh;exact⟨fun _ _=>trivial,h _ _ hC hh⟩
theorem lu {Q:Act→Prop} {Q':Exit→Act→World→Prop} (hn:∀(j:Nat) (o:Oper),ops[j]?=some o→jI o.op=true) (hQ:∀a w,C w→Q a→Q' .normal a w):∀(fuel:Nat) (listed:Array Bool) (a:Act) (w:World),C w→
  wpAnyQ G.P md ops C Q fuel listed a→wpAnyIn (FW ro) m G.P md ops Q' fuel listed a w
 |0,_,_,_,hw,h=>⟨h.1,hQ _ _ hw h.2⟩
 |fuel+1,_,_,_,hw,h=>⟨fun h0=>hQ _ _ hw (h.1 h0),fun i hi=>tZ hn hw (fun a' w' hw'=>lu hn hQ fuel _ a' w' hw') (h.2 i hi)⟩
theorem oB {id:Nat} {Q:Exit→Act→World→Prop} {a:Act} {w:World} (hn:∀(j:Nat) (o:Oper),ops[j]?=some o→jI o.op=true) (hB:Region.lexB .any ops=true) (hC:C {w with drawn:=w.drawn+1})
  (h:wpQuiet G.P ops C (fun a'=>∀w',C w'→Q .normal a' w') ops.toList a):(Code.region id ops true).wpIn (FW ro) m G.P Q a w:=by
 simp only[Region.lexB,Bool.and_eq_true]at hB
 refine wpIn_region_any G.mixed (lu (Q:=fun a'=>∀w',C w'→Q .normal a' w') hn (fun _ w' hw' h=>h w' hw') _ _ _ _ hC ?_)
 have:=wpAnyQ_lex (C:=C) (md:=.any) hB.1 ops.toList 0 (Array.replicate ops.size false) a Mk (by simpa using hB.2) h
 simpa using this
end
theorem kr {ops:Array Oper} {C:World→Prop} {ro:Option Nat} {m:Nat} {Q:Act→Prop} {Q':Exit→Act→World→Prop} (hQ:∀a w,C w→Q a→Q' .normal a w):∀(l:List Oper),(∀o,o∈l→jI o.op=true)→∀(a:Act) (w:World),C w→
  wpQuiet G.P ops C Q l a→wpListIn (FW ro) m G.P ops Q' l a w
 |[],_,_,_,hw,h=>hQ _ _ hw h
 |o::rest,hn,a,w,hC,hh=>by
  have ih:=kr (ops:=ops) (ro:=ro) (m:=m) hQ rest (fun o h=>hn o (by simp[h]))
  unfold wpListIn
  simp only[wpQuiet]at hh
  split
  ·rename_i hw
   simp only[hw,if_true]at hh
   obtain⟨v,h1,h2⟩:=hh
   have h3:=h1 w hC
   have hs:Oper.semAt (FW ro).round a.eval o=execOp a.eval o:=Oper.semAt_eq _ _ _ (by
    have:=hn o Mk
    rintro c e;rw[e]at this;simp[jI]at this)
   refine⟨fun _ _=>trivial,?_⟩
   rw[hs]
   unfold Oper.quietAt at h3
   generalize (execOp a.eval o).run G.P w=r at*
   cases r with
   |ok n w'=>
    cases n<;>simp only[Oper.quietUpon]at h3<;>simp only[Oper.uponIn]
    case value u=>
     obtain⟨e1,e2⟩:=h3
     rw[e1,e2]
     exact ih _ _ hC h2
    case skip=>
     obtain⟨e1,e2⟩:=h3
     rw[e1,←e2]
     exact ih _ _ hC h2
    case enter f args=>
     obtain⟨e1,hc⟩:=h3
     rw[e1]
     exact⟨fun e=>(by cases e),(oU hc).mono fun e w'' ⟨he,hw''⟩=>by subst he;exact ih _ _ hw'' h2⟩
   |halt x w'=>simp only[Oper.quietUpon]at h3
  ·rename_i hw;simp only[hw]at hh;exact⟨fun _ _=>trivial,ih _ _ hC hh⟩
section
variable {ro:Option Nat} {D:List Deferred} {ops:Array Oper} {Q:Exit→Act→World→Prop} {n:Nat} {E:Env} {M M':List a8} {R R':List (World→Prop)}
theorem iE.cM {id:Nat} {l:List Oper} (hn:(l.all fun o=>jI o.op)=true) (hB:Region.lexB .any l.toArray=true) (h:aw G l.toArray (.quiet (fun a'=>∀w',Ok M R w'→Q .normal a' w') (Ok M R)) n l E):iE ro [] Q n (.region id l.toArray true) E M R:=
 ⟨fun w hw=>⟨fun a ha=>oB (C:=Ok M R) (fun j o ho=>by
  have hm:o∈l:=List.mem_of_getElem? (by simpa using ho)
  exact List.all_eq_true.1 hn o hm) hB hw.drew (by have:=h.h a ha.Em;simp only[Mode.run]at this;simpa using this)⟩⟩
theorem iE.Eo {id:Nat} {l:List Oper} (hn:(l.all fun o=>jI o.op)=true) (h:aw G l.toArray (.quiet (fun a'=>∀w',Ok M R w'→Q .normal a' w') (Ok M R)) n l E):iE ro [] Q n (.region id l.toArray false) E M R:=
 ⟨fun w hw=>⟨fun a ha=>wpIn_region_lit (kr (C:=Ok M R) (Q:=fun a'=>∀w',Ok M R w'→Q .normal a' w') (fun _ w' hw' h=>h w' hw') l (fun o ho=>List.all_eq_true.1 hn o ho) a w hw (by have:=h.h a ha.Em;simp only[Mode.run]at this;simpa using this))⟩⟩
theorem ah.IP {e:Exit} (h:fO [] Q n e E M R):ah Q n e E M R:=⟨fun w hw=>⟨fun a ha=>(h.h w hw).h a (s7.of ha)⟩⟩
theorem iE.mY {id:Nat} {l:List Oper} (_:(l.all fun o=>nL o.op)=true) (hn:(l.all fun o=>jI o.op)=true) (hB:Region.lexB .any l.toArray=true) (h:aw G l.toArray (.quiet (fun a'=>∀w',Ok M R w'→Q .normal a' w') (Ok M R)) n l E):iE ro [] Q n (.region id l.toArray true) E M R:=iE.cM hn hB h
theorem iE.C0 {id:Nat} {l:List Oper} (_:(l.all fun o=>nL o.op)=true) (hn:(l.all fun o=>jI o.op)=true) (h:aw G l.toArray (.quiet (fun a'=>∀w',Ok M R w'→Q .normal a' w') (Ok M R)) n l E):iE ro [] Q n (.region id l.toArray false) E M R:=iE.Eo hn h
theorem Hp {g g':Prop} (h:g') (hw:dS g'→g:=by(intro hk_;(repeat(first|(refine ah.is ?_;refine ah.IP ?_)|refine HB ?_|(refine bw.is ?_;(first|refine bw.nil ?_|refine bw.y_ (Yl.move rfl) rfl ?_|refine bw.y_ (Yl.assign rfl) rfl ?_|(refine bw.aK ?_;(first|(refine bw.aK (bo:=.lss) ?_;(first|refine bw.y_ (Yl.mj rfl rfl Mj) rfl ?_|refine bw.y_ (Yl.lQ rfl rfl Mj) rfl ?_))|(refine bw.aK (bo:=.eql) ?_;(first|refine bw.y_ (Yl.lH rfl rfl Mj) rfl ?_|refine bw.y_ (Yl.lY rfl rfl Mj) rfl ?_))|(refine bw.aK (bo:=.neq) ?_;(first|refine bw.y_ (Yl.lN rfl rfl Mj) rfl ?_|refine bw.y_ (Yl.lJ rfl rfl Mj) rfl ?_))|(refine bw.aK (bo:=.leq) ?_;(first|refine bw.y_ (Yl.me rfl rfl Mj) rfl ?_|refine bw.y_ (Yl.lV rfl rfl Mj) rfl ?_))|(refine bw.aK (bo:=.gtr) ?_;(first|refine bw.y_ (Yl.lR rfl rfl Mj) rfl ?_|refine bw.y_ (Yl.mc rfl rfl Mj) rfl ?_))|(refine bw.aK (bo:=.geq) ?_;(first|refine bw.y_ (Yl.mq rfl rfl Mj) rfl ?_|refine bw.y_ (Yl.lO rfl rfl Mj) rfl ?_))|refine bw.y_ (Yl.add rfl rfl Mj) rfl ?_|refine bw.y_ (Yl.sub rfl rfl Mj) rfl ?_|refine bw.y_ (Yl.jg rfl rfl rfl rfl) rfl ?_|refine bw.y_ (Yl.tH rfl rfl) rfl ?_|refine bw.y_ (Yl.ml rfl rfl) rfl ?_|refine bw.y_ (Yl.mn rfl rfl Mj) rfl ?_|fail))|(refine bw.dk ?_;(first|refine bw.y_ (Yl.kI rfl rfl rfl Lu) rfl ?_|refine bw.y_ (Yl.ko rfl rfl rfl rfl LE) rfl ?_|refine bw.y_ (Yl.kv rfl rfl rfl rfl LE LA) rfl ?_|refine bw.y_ (Yl.ku rfl rfl rfl Ly rfl) rfl ?_))|refine bw.y_ (Yl.len rfl rfl rfl) rfl ?_|refine bw.y_ (Yl.extract rfl rfl) rfl ?_|refine bw.y_ (Yl.fZ rfl rfl) rfl ?_|refine bw.y_ (Yl.fW rfl rfl) rfl ?_|refine bw.y_ (Yl.nilCheck rfl) rfl ?_|refine bw.y_ (Yl.not rfl) rfl ?_|refine bw.y_ (Yl.makeFunc rfl rfl) rfl ?_|refine bw.y_ (Yl.iV rfl rfl) rfl ?_|refine bw.y_ (Yl.jc rfl rfl rfl Lw Ml) rfl ?_|refine bw.y_ (Yl.iQ rfl rfl rfl Lx) rfl ?_|refine bw.y_ (Yl.fM rfl rfl rfl rfl) rfl ?_|refine bw.y_ (Yl.dw Tryz.underlying9 rfl rfl rfl Mj) rfl ?_|refine bw.y_ (Yl.de Tryz.underlying9 rfl rfl rfl Mj) rfl ?_|refine bw.y_ (Yl.dR Tryz.underlying9 rfl rfl rfl rfl rfl Mj Mj) rfl ?_|refine bw.y_ (Yl.cO rfl rfl rfl rfl rfl rfl Mj) rfl ?_|refine bw.y_ (Yl.lT Tryz.underlying9 rfl) rfl ?_))|(refine iE.is ?_;(first|refine iE.seq ?_|refine iE.mY rfl rfl L9 ?_|refine iE.C0 rfl rfl ?_|refine iE.region ?_|refine iE.block ?_|refine iE.skip ?_|refine iE.ret ?_|refine iE.exit ?_|refine iE.iU rfl ?_|refine iE.iW rfl ?_))|(refine fO.is ?_;(first|refine fO.kY ?_|refine fO.pf ?_|refine fO.lB ?_|refine fO.oZ ?_|refine fO.lj ?_|refine fO.py ?_|fail))));exact hk_.out)):g:=hw ⟨h⟩
end
def bwd (l:List Int):List (Int×Int):=(List.range l.length).reverse.map fun i:Nat=>((i:Int),ix l i)
theorem oz (l:List Int):(bwd l).length=l.length:=by simp[bwd]
theorem CZ {l:List Int} {k:Nat} (h:k<l.length):(bwd l).take (k+1)=(bwd l).take k++[(((l.length - 1 - k:Nat):Int),ix l (l.length - 1 - k))]:=by
 have hl:k<(bwd l).length:=by rw[oz];exact h
 rw[List.take_succ_eq_append_getElem hl]
 congr 2
 simp[bwd,List.getElem_reverse]
def KD (K:Nat→Prop) (W W':World):Prop:=W.heap.size≤W'.heap.size∧∀k,k<W.heap.size→K k→W'.heap[k]?=W.heap[k]?
theorem KD.trans {K:Nat→Prop} {X Y Z:World} (h:KD K X Y) (k:KD K Y Z):KD K X Z:=⟨Nat.le_trans h.1 k.1,fun i hl hi=>(k.2 i (Nat.lt_of_lt_of_le hl h.1) hi).trans (h.2 i hl hi)⟩
theorem KD.cell {K:Nat→Prop} {W W':World} (h:KD K W W') {p:Addr} {v:Value} (hp:K p.block) (hc:W.cell? p=some v):W'.cell? p=some v:=by
 rw[World.cell?_of_block (w:=W) (h.2 p.block (fC hc) hp)];exact hc
theorem KD.put {K:Nat→Prop} {W:World} {l:Nat} {o:Obj} (hK:¬K l):KD K W (W.putObj l o):=⟨by simp[World.putObj],fun k _ hk=>World.putObj_heap_other (by rintro rfl;exact hK hk)⟩
def EW (x:Int×Int):List Value:=[.int .i64 x.1,.int .i64 x.2]
def RB (b1:Nat) (p:Option Addr) (c:Nat) (l:List Int) (W:World):Prop:=W.cell? ⟨b1,0,none⟩=some (.slice p l.length c)∧∀i,i<l.length→∃b o,p=some ⟨b,o,none⟩∧W.cell? ⟨b,o+i,none⟩=some (.int .i64 (ix l i))
def KB (b1:Nat) (p:Option Addr) (n:Nat):Nat→Prop:=fun k=>k=b1∨0<n∧∃a,p=some a∧a.block=k
theorem RB.kd {b1:Nat} {p:Option Addr} {c:Nat} {l:List Int} {W W':World} (h:RB b1 p c l W) (hk:KD (KB b1 p l.length) W W'):RB b1 p c l W':=
 ⟨hk.cell (.inl rfl) h.1,fun i hi=>by obtain⟨b,o,e,hc⟩:=h.2 i hi;exact⟨b,o,e,hk.cell (.inr ⟨by omega,_,e,rfl⟩) hc⟩⟩
theorem RB.ext {b1:Nat} {p:Option Addr} {c:Nat} {l:List Int} {W W':World} (h:RB b1 p c l W) (hk:Ext W W'):RB b1 p c l W':=
 ⟨hk.cell h.1,fun i hi=>by obtain⟨b,o,e,hc⟩:=h.2 i hi;exact⟨b,o,e,hk.cell hc⟩⟩
set_option maxHeartbeats 4000000 in
theorem Dz (b1:Nat) (p:Option Addr) (c:Nat) (l:List Int) (w0:World) (h0:RB b1 p c l w0) (hl:l.length≤9223372036854775807):GI 181 [.pointer (some ⟨b1,0,none⟩)] EW (KD (KB b1 p l.length)) (bwd l) w0:=by
 intro ll J Jx W hW hJ hJx hY hJ0
 have hRW:RB b1 p c l W:=h0.ext (Ext.Ap hW)
 refine enter (G:=G) (l:=[.func (.yield ll) #[] #[],.pointer (some ⟨b1,0,none⟩)]) Tryz.func181 rfl Tryz.ntmps181 rfl ?_
 have hc1:=hRW.1
 refine Gs ?_
 refine Cd.loop (σ:=Nat) (fun k=>[(0,.func (.yield ll) #[] #[]),(1,.pointer (some ⟨b1,0,none⟩)),(3,.int .i64 ((l.length:Int) - 1 - k))]) (fun k wr=>k≤l.length∧J ((bwd l).take k) wr∧RB b1 p c l wr) (fun k=>l.length - k) 0 bJ ⟨by omega,by rw[List.take_zero];exact hJ0,hRW⟩ ?_
 rintro k wr ⟨hk,hJk,hR⟩
 by_cases hlt:k<l.length
 ·obtain⟨i,hi⟩:∃i,i=l.length - 1 - k:=⟨_,rfl⟩
  have hil:i<l.length:=by omega
  obtain⟨b,o,rfl,hce⟩:=hR.2 i hil
  have hc2:=hR.1
  have e1:(l.length:Int) - 1 - k=(i:Int):=by omega
  have hst:=CZ hlt
  rw[←hi]at hst
  have hyk:=hY ((bwd l).take k) ((i:Int),ix l i) wr hJk (by rw[←hst];exact List.take_prefix _ _)
  rw[←hst]at hyk
  rw[e1]
  refine Gs ?_
  refine Cd.Am 0 ?_
  refine Gf ?_
  refine dW.round (m:=0) (vs:=EW ((i:Int),ix l i)) rfl rfl rfl hyk ?_
  rintro e w5 (⟨rfl,hJ5,hK5⟩|⟨rfl,hJx5,hK5⟩)
  ·refine⟨_,rfl,?_⟩
   refine Gf ?_
   refine eJ.ofFin ?_
   refine Gs ?_
   exact Fin.next (k+1) bJ ⟨by omega,hJ5,hR.kd hK5⟩ Mj
  ·refine⟨_,rfl,?_⟩
   refine Gf ?_
   refine eJ.ofFin ?_
   refine Gs ?_
   exact Fin.Ck rfl ⟨⟨_,rfl⟩,.inr ⟨_,List.take_prefix _ _,hJx5⟩⟩
 ·obtain rfl:k=l.length:=by omega
  rw[show(l.length:Int) - 1 - (l.length:Nat)=-1 from by omega]
  refine Gs ?_
  refine Fin.n8 rfl ⟨⟨_,rfl⟩,.inl ?_⟩
  rw[←oz,List.take_length]at hJk;exact hJk
theorem qe (p:Option Addr) (n c:Nat) (w:World):Calls G.P 157 #[.slice p n c] w fun e w'=>e=.returned (.func (.func 181) #[] #[.pointer (some ⟨w.heap.size,0,none⟩)])∧Aw w w' [.slice p n c] 34:=by
 refine enter (G:=G) Tryz.func157 rfl Tryz.ntmps157 rfl ?_
 refine bT ?_
 refine aw.e (ck.box rfl rfl) rfl ?_
 rintro _ w1 ⟨rfl,hn1⟩
 refine bT ?_
 exact Fin.aB rfl rfl ⟨rfl,hn1⟩
end Go.Proofs.YtgbgnipidakdhaaGreatDoor
