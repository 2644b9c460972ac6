/- The operand stack (layer 21): the methods that have no loop. -/
import Derived.Test.YtceedealggognaaGreatDoorJIn
import Derived.Test.YtceedealggognaaGreatDoorJAw
import Derived.Test.YtceedealggognaaGreatDoorJSb
import Derived.Test.YtceedealggognaaGreatDoorJR7
import Derived.Test.YtceedealggognaaGreatDoorJIm
import Derived.OrdersIn
namespace Go.Proofs.YtceedealggognaaGreatDoor
open Go.RowKit
set_option maxRecDepth 100000
abbrev fS:Nat:=136
abbrev fR:Nat:=180
abbrev fl:Nat:=58
def kt (p:Int×Bool):List Value:=[.int .i64 p.1,.bool p.2]
def bw (l:List (Int×Bool)):List Value:=l.flatMap kt
def aU (l:List Int):List Value:=l.map (Value.int .i64)
def cB (s:cZ):Bool:=decide (256<s.mK)
def ay (sp:Nat) (s:cZ) (x:Value×Value):List aV:=[.aJ sp [x.1,x.2,.bool (cB s)] fS,.own 0 fl 1 x.1 s.ts.length (aU s.ts),.own 0 fR 2 x.2 s.ps.length (bw s.ps)]
theorem za {w:World} {B T s n c:Nat} {p:Option Addr} {xs:List Value} (h:w.ownsRow B T s (.slice p n c) n xs) {k:Nat} (hk:k≤n):w.ownsRow B T s (.slice p k c) k (xs.take (k*s)):=by
 obtain⟨h1,h2⟩:=h
 have hm:k*s≤n*s:=Nat.mul_le_mul_right s hk
 refine⟨by rw[List.length_take];omega,?_⟩
 rcases h2 with⟨e,h0⟩|⟨g,cap,cur,e,hg,hh,hn,hc,hs,ht⟩
 ·cases e
  have:k=0:=by omega
  subst this
  exact .inl ⟨rfl,rfl⟩
 ·cases e
  refine .inr ⟨g,c,cur,rfl,hg,hh,by omega,hc,hs,?_⟩
  rw[←ht,List.take_take,Nat.min_eq_left hm]
theorem Ok.jZ {M M':List aV} {R:List (World→Prop)} {w:World} {B T s n c:Nat} {p:Option Addr} {xs:List Value} (h:Ok M R w) (k:Nat) (hk:k≤n) (hM:Up (.own B T s (.slice p n c) n xs) (.own B T s (.slice p k c) k (xs.take (k*s))) M M'):Ok M' R w:=
 h.nL hM (bA.refl _ w) (za (h.m _ hM.mem).1 hk) (fun i hi=>by
  have hi':(Value.slice p n c).ownBlock=some i:=by cases p<;>exact hi
  exact⟨(h.m _ hM.mem).2 i hi',fun _=>hi'⟩)
section
variable {ops:Array Oper} {Q:Exit→Act→World→Prop} {n:Nat} {E:Env} {M M':List aV} {R R':List (World→Prop)} {v:Value} {x y z:Operand} {t t2:TypeId} {C:World→Prop}
theorem Yl.yP {ti:TypeId} {ad:Addr} (ht:G.P.underlying t=some (.pointer ti)) (hx:ev E x=some (.pointer (some ad))) (hy:ev E y=some (.pointer none)):Yl G n (.binOp .neq t x y t2) E C (.bool true):=
 ⟨fun w _ a ha d ty pos aft gd=>by
  have h2:∀m,(Op.equalIn (m+1) t (.pointer (some ad)) (.pointer none)).run G.P w=.ok false w:=by
   intro m;simp[Op.equalIn,run_underlying ht]
  have h3:(Op.equal t (.pointer (some ad)) (.pointer none)).run G.P w=.ok false w:=h2 9999
  simp[execOp,ha.eval hx,ha.eval hy,eqGuard,binOp,h3]⟩
theorem Yl.fM {ti:TI} {B T g m cap i s o:Nat} {xs:List Value} {u:Value} (ht:G.ty t=some ti) (ha:ti.agg=false) (hx:ev E x=some (.pointer (some ⟨g,o,none⟩))) (ho:o=i) (hu:xs[i]?=some u) (hM:aV.own B T s (.slice (some ⟨g,0,none⟩) m cap) m xs∈M):Yl G n (.load t x) E (Ok M R) u:=
 Yl.load ht ha hx fun w hw=>by subst ho;exact dL (hw.m _ hM).1 hu
theorem gj.Bc {ti:TI} {B T g cap m i s o:Nat} {xs:List Value} (ht:G.ty t=some ti) (hs:ti.size=1) (hx:ev E x=some (.pointer (some ⟨g,o,none⟩))) (ho:o=i) (hy:ev E y=some v) (hv:v.oneCell'=true)
  (hM:Up (.own B T s (.slice (some ⟨g,0,none⟩) m cap) m xs) (.own B T s (.slice (some ⟨g,0,none⟩) m cap) m (xs.set i v)) M M') (hi:i<xs.length):gj n (.store t x y) E M R (fun _:Unit=>True) (fun _=>M') (fun _=>R):=
 ⟨fun w hw=>by
  subst ho
  have ho:w.ownsRow B T s (.slice (some ⟨g,0,none⟩) m cap) m xs:=(hw.m _ hM.mem).1
  have hlt:=(hw.m _ hM.mem).2
  refine(bB.store ht hs hx hy hv (dL ho (List.getElem?_eq_getElem hi)) (World.ownsRow.frozenAt ho _)).mono fun _ w' e=>?_
  subst e
  obtain⟨h1,h2⟩:=World.ownsRow.stored ho o v
  refine⟨(),trivial,hw.nL hM ((bA.jd h2).mono fun k _ e=>e) h1 (fun k hk=>⟨?_,fun _=>hk⟩)⟩
  have:=hlt k hk
  have:=(bA.jd h2).size
  omega⟩
theorem ai.jZ {B T s m c:Nat} {p:Option Addr} {xs:List Value} {e:Exit} (k:Nat) (hM:Up (.own B T s (.slice p m c) m xs) (.own B T s (.slice p k c) k (xs.take (k*s))) M M') (hk:k≤m) (h:ai Q n e E M' R):ai Q n e E M R:=⟨fun w hw=>h.h w (hw.jZ k hk hM)⟩
end
theorem uZ (s:cZ) (l:List Int):cB (gg s l)=(cB s || decide (256<((s.ts.length+l.length:Nat):Int))):=by
 unfold cB gg
 rw[Bool.eq_iff_iff]
 simp only[Bool.or_eq_true,decide_eq_true_eq];omega
theorem Ok.c1 {M M':List aV} {R:List (World→Prop)} {w:World} {b T j:Nat} {cs:List Value} {v:Value} (h:Ok M R w) (hM:Up (.aJ b cs T) (.aJ b cs T) M M') (hj:cs[j]?=some v):w.cell? ⟨b,j,none⟩=some v:=(show dZ w b cs T from(h.m _ hM.mem).1).cell hj
theorem sG (sp:Nat) (s:cZ) (x:Value×Value) {M:List aV} {R:List (World→Prop)} {w:World} (h:Ok M R w) (hm:(ay sp s x).Sublist M):(∃p c,x.1=.slice p s.ts.length c∧s.ts.length≤c∧(0<s.ts.length→∃g,p=some ⟨g,0,none⟩))∧(∃p c,x.2=.slice p s.ps.length c∧(0<s.ps.length→∃g,p=some ⟨g,0,none⟩))∧s.ts.length≤9223372036854775807∧s.ps.length≤9223372036854775807:=by
 have h1:w.ownsRow 0 fl 1 x.1 s.ts.length (aU s.ts):=(h.m (.own 0 fl 1 x.1 s.ts.length (aU s.ts)) (hm.subset (by simp[ay]))).1
 have h2:w.ownsRow 0 fR 2 x.2 s.ps.length (bw s.ps):=(h.m (.own 0 fR 2 x.2 s.ps.length (bw s.ps)) (hm.subset (by simp[ay]))).1
 obtain⟨p,c,e,hn,hc,hg⟩:=av h1
 obtain⟨p',c',e',hn',hc',hg'⟩:=av h2
 unfold maxLen at hc hc'
 exact⟨⟨p,c,e,hn,fun h=>by obtain⟨g,e,_⟩:=hg h;exact⟨g,e⟩⟩,⟨p',c',e',fun h=>by obtain⟨g,e,_⟩:=hg' h;exact⟨g,e⟩⟩,by omega,by omega⟩
theorem eD (sp n c:Nat) (p:Option Addr) (w:World) (h1:w.cell? ⟨sp,1,none⟩=some (.slice p n c)) (h0:0<n):Calls G.P 44 #[.pointer (some ⟨sp,0,none⟩)] w fun e w'=>e=.returned (.bool true)∧Ext w w':=by
 refine aj (l:=[_]) Tryz.func44 rfl Tryz.ntmps44 rfl (Ok.start w) ?_
 repeat'(first|refine ax ?_|(refine aa.an ?_;refine aa.y_ (Yl.yP Tryz.underlying109 rfl rfl) rfl ?_)|fail)
 all_goals first|exact ai.aA rfl rfl fun w' hw'=>⟨by rfl,hw'.at⟩|exact ai.aA rfl rfl fun w' hw'=>⟨by simp;omega,hw'.at⟩
theorem jK (sp n c g:Nat) (w:World) (h1:w.cell? ⟨sp,1,none⟩=some (.slice (some ⟨g,0,none⟩) n c)) (h0:0<n) (hn:n≤9223372036854775807):Calls G.P 134 #[.pointer (some ⟨sp,0,none⟩)] w fun e w'=>e=.returned (.pointer (some ⟨g,(n - 1)*2,none⟩))∧Ext w w':=by
 obtain⟨k,rfl⟩:∃k,n=k+1:=⟨n - 1,by omega⟩
 rw[Nat.add_sub_cancel]
 refine aj (l:=[_]) Tryz.func134 rfl Tryz.ntmps134 rfl (Ok.start w) ?_
 repeat'(first|refine ax ?_|(refine ah.y (Yl.idx (i:=k) rfl rfl rfl rfl rfl Hb Hb) rfl ?_)|fail)
 all_goals exact ai.aA rfl rfl fun w' hw'=>⟨by simp,hw'.at⟩
theorem jF {l:List (Int×Bool)} {i:Nat} (h:i<l.length):(bw l)[i*2]?=some (.int .i64 (ix l i).1)∧(bw l)[i*2+1]?=some (.bool (ix l i).2):=by
 have h1:=eT kt (s:=2) (fun _=>rfl) l i 0 h Hb
 have h2:=eT kt (s:=2) (fun _=>rfl) l i 1 h Hb
 exact⟨h1,h2⟩
theorem mX {l:List Int} {i:Nat} (h:i<l.length):(aU l)[0+i]?=some (.int .i64 (ix l i)):=by
 unfold aU;rw[Nat.zero_add,List.getElem?_map,gF h];rfl
theorem aq.Cj {β:Type} {M0 M:List aV} {R:List (World→Prop)} {w w':World} {tf:β→Value} {φ:β→Prop} {M1:β→List aV} (x:β) (hφ:φ x) (h:Ok M R w') (hM:(M1 x).Sublist M) (hR:bA (Mb M0) w∈R):aq M0 w tf φ M1 (.returned (tf x)) w':=
 ⟨x,rfl,hφ,h.sub hM (fun p hp=>absurd hp Hc),h.get hR,fun k ⟨q,hq,hk⟩ hlt=>h.origin hR k ⟨q,hM.subset hq,hk⟩ hlt⟩
theorem gH {sp T2 T3:Nat} {s:cZ} {tv pv:Value} {ov:Bool} {n m:Nat} {cs ds:List Value} {M Mr:List aV} (hM:M=.aJ sp [tv,pv,.bool ov] fS::.own 0 T2 1 tv n cs::.own 0 T3 2 pv m ds::Mr) (hT:T2=fl) (hT':T3=fR) (h1:n=s.ts.length) (h2:cs=aU s.ts) (h3:m=s.ps.length) (h4:ds=bw s.ps) (h5:ov=cB s):(ay sp s (tv,pv)).Sublist M:=by
 subst hT hT' h1 h2 h3 h4 h5 hM
 exact(List.nil_sublist Mr).cons_cons _ |>.cons_cons _ |>.cons_cons _
theorem tF {D:Nat→Prop} {w:World} {p:Option Addr} {n c:Nat} {xs:List Int} {M:List aV} {R:List (World→Prop)} (h:af D w (.slice p n c) xs) (hR:(fun w=>af D w (.slice p n c) xs)∈R):xs.length=0∨∃bk o,p=some ⟨bk,o,none⟩∧∀w',Ok M R w'→∀j u,(xs.map (Value.int .i64))[j]?=some u→w'.cell? ⟨bk,o+j,none⟩=some u:=by
 obtain⟨p',c',e,hl,h⟩:=h
 cases e
 rcases h with h|⟨b,o,rfl,hF,h⟩
 ·exact .inl (by rw[h];rfl)
 ·refine .inr ⟨b,o,rfl,fun w' hw' j u hj=>?_⟩
  have hI:af D w' (.slice (some ⟨b,o,none⟩) xs.length c) xs:=hw'.get (p:=fun w=>af D w (.slice (some ⟨b,o,none⟩) xs.length c) xs) hR
  have hj':j<xs.length:=by have:=(List.getElem?_eq_some_iff.1 hj).1;simpa using this
  obtain⟨b',o',e,-,hc⟩:=hI.at hj'
  cases e
  rw[hc j hj',←hj,List.getElem?_map,gF hj'];rfl
theorem aq.nj {β:Type} {M0 M:List aV} {R:List (World→Prop)} {w w':World} {S0:Nat→Prop} {tf:β→Value} {φ:β→Prop} {M1:β→List aV} (x:β) (hφ:φ x) (hS:Mb M0=S0) (h:Ok M R w') (hM:(M1 x).Sublist M) (hR:bA S0 w∈R):aq M0 w tf φ M1 (.returned (tf x)) w':=by
 subst hS;exact aq.Cj x hφ h hM hR
def dr (sp:Nat) (s:cZ) (x:Value×Value) (v:Value) (s':cZ) (w:World):Ending→World→Prop:=aq (ay sp s x) w (fun _:Value×Value=>v) (fun _=>True) (ay sp s')
set_option maxHeartbeats 4000000 in
theorem eB (D:Nat→Prop) (sp:Nat) (s:cZ) (x:Value×Value) (v:Value) (l:List Int) (w:World) (hw:Ok (ay sp s x) [fun w=>af D w v l] w) (hp:0<s.ps.length) (hb:(s.ts.length+l.length)*8≤140737488355328):
  Calls G.P 91 #[.pointer (some ⟨sp,0,none⟩),v] w (dr sp s x (.tuple #[]) (gg s l) w):=by
 obtain⟨v1,v2⟩:=x;obtain⟨⟨p1,c1,e1,hcap,hg1⟩,⟨p2,c2,e2,hg2⟩,hn1,hn2⟩:=sG sp s (v1,v2) hw (List.Sublist.refl _);dsimp only at e1 e2;subst e1;subst e2;obtain⟨g2,rfl⟩:=hg2 hp
 have hI:af D w v l:=hw.get (p:=fun w=>af D w v l) Hc
 obtain⟨q,d,rfl,hl⟩:=hI.slice
 refine aj (l:=[_,_]) Tryz.func91 rfl Tryz.ntmps91 rfl (Ok.bW hw) ?_
 unfold dr
 generalize hS:Mb (ay sp s (.slice p1 s.ts.length c1,.slice (some ⟨g2,0,none⟩) s.ps.length c2))=S0;unfold ay;dsimp only
 repeat'(first|refine ax ?_|refine Gt ?_|(refine aO ?_ ?_<;>intro hc_))
 refine aa.he (HE.kF (aU l) rfl rfl (fun _=>bJ) (tF hI ao) (by simp[aU]) rfl rfl rfl Hd Hd Hd (gL _) hb Hb (fun _ _=>Nat.zero_le _)) rfl ?_
 intro v1 _
 refine aa.pure (φ:=∃p c,v1=.slice p (s.ts.length+l.length) c) (fun w' hw'=>?_) ?_
 ·obtain⟨p,c,e,_⟩:=av (hw'.own (v:=v1));exact⟨p,c,e⟩
 rintro⟨p3,c3,rfl⟩
 repeat'(first|refine ax ?_|(refine aO ?_ ?_<;>intro hc_))
 all_goals exact ai.kJ rfl fun w' hw'=>aq.nj (x:=(_,_)) trivial hS hw' (gH rfl rfl rfl (by simp[gg]) (by simp[gg,aU]) rfl rfl (by rw[uZ];simp[cB,hc_])) ao
set_option maxHeartbeats 4000000 in
theorem jJ (sp:Nat) (s:cZ) (x:Value×Value) (w:World) (hw:Ok (ay sp s x) [] w) (hp:0<s.ps.length) (h0:0≤s.at_):
  Calls G.P 96 #[.pointer (some ⟨sp,0,none⟩)] w (dr sp s x (.tuple #[.int .i64 (aZ s).2.1,.int .i64 (aZ s).2.2]) (aZ s).1 w):=by
 obtain⟨v1,v2⟩:=x;obtain⟨⟨p1,c1,e1,hcap,hg1⟩,⟨p2,c2,e2,hg2⟩,hn1,hn2⟩:=sG sp s (v1,v2) hw (List.Sublist.refl _);dsimp only at e1 e2;subst e1;subst e2;obtain⟨g2,rfl⟩:=hg2 hp
 have a1:(bw s.ps)[(s.ps.length - 1)*2]?=some (.int .i64 s.at_):=(jF (l:=s.ps) (i:=s.ps.length - 1) Hb).1
 have a2:(bw s.ps)[(s.ps.length - 1)*2+1]?=some (.bool s.loose):=(jF (l:=s.ps) (i:=s.ps.length - 1) Hb).2
 unfold dr
 by_cases hlt:s.at_<s.ts.length
 ·obtain⟨g1,rfl⟩:=hg1 Hb
  have b1:=mX (l:=s.ts) (i:=s.ts.length - 1) Hb
  rw[show aZ s=({s with ts:=s.ts.take (s.ts.length - 1)},ix s.ts (s.ts.length - 1),0)from if_pos hlt]
  refine aj (l:=[_]) Tryz.func96 rfl Tryz.ntmps96 rfl (Ok.bW hw) ?_
  generalize hS:Mb (ay sp s (.slice (some ⟨g1,0,none⟩) s.ts.length c1,.slice (some ⟨g2,0,none⟩) s.ps.length c2))=S0
  unfold ay
  dsimp only
  repeat'(first|refine ax ?_|refine Gt ?_|refine Gu ?_|(refine aa.bX ?_;refine aa.y_ (Yl.fM rfl rfl rfl rfl a1 gi) rfl ?_)|(refine aa.bX ?_;refine aa.y_ (Yl.fM rfl rfl rfl rfl a2 gi) rfl ?_)|(refine aa.dK ?_;refine aa.y_ (Yl.fX (i:=s.ts.length - 1) rfl rfl rfl rfl rfl Hb Hb) rfl ?_)|(refine aa.bX ?_;refine aa.y_ (Yl.fM rfl rfl rfl rfl b1 gi) rfl ?_)|(refine aa.y_ (Yl.cn (i:=s.ts.length - 1) rfl rfl rfl rfl rfl Hb Hb) rfl ?_)|(refine aO ?_ ?_<;>intro hc_))
  all_goals refine ai.jZ (s.ts.length - 1) bJ Hb ?_
  all_goals exact ai.iD rfl rfl rfl fun w' hw'=>aq.nj (x:=(_,_)) trivial hS hw' (gH rfl rfl rfl Hc (by simp[aU,List.map_take]) rfl rfl rfl) ao
 ·have e:aZ s=if s.loose then(s,0,0)else(s,0,13):=if_neg hlt
  rw[e]
  refine aj (l:=[_]) Tryz.func96 rfl Tryz.ntmps96 rfl (Ok.bW hw) ?_
  generalize hS:Mb (ay sp s (.slice p1 s.ts.length c1,.slice (some ⟨g2,0,none⟩) s.ps.length c2))=S0
  unfold ay
  dsimp only
  repeat'(first|refine ax ?_|refine Gt ?_|refine Gu ?_|(refine aa.bX ?_;refine aa.y_ (Yl.fM rfl rfl rfl rfl a1 gi) rfl ?_)|(refine aa.bX ?_;refine aa.y_ (Yl.fM rfl rfl rfl rfl a2 gi) rfl ?_)|(refine aO ?_ ?_<;>intro hc_))
  all_goals simp only[*,if_true,if_false,Bool.false_eq_true]
  all_goals exact ai.iD rfl rfl rfl fun w' hw'=>aq.nj (x:=(_,_)) trivial hS hw' (gH rfl rfl rfl rfl rfl rfl rfl rfl) ao
section
variable {ops:Array Oper} {md:Region.Mode} {C:World→Prop} {ro:Option Nat} {m:Nat}
theorem qw {i:Nat} {a:Act} {K:Act→Prop} {K':Act→World→Prop} {Q':Exit→Act→World→Prop} {w:World} (hn:∀(j:Nat) (o:Oper),ops[j]?=some o→gW o.op=true) (hC:C w) (h:∀a w',C w'→K a→K' a w') (hh:qOp G.P ops C i K a):wpOpIn (FW ro) m G.P ops Q' i K' a w:=by
 unfold qOp at hh
 unfold wpOpIn
 split
 ·rename_i ho;simp only[ho]at hh;exact h _ _ hC hh
 ·rename_i o ho
  simp only[ho]at hh
  split
  ·rename_i hw
   simp only[hw,if_true]at hh
   obtain⟨v,h1,h2⟩:=hh
   have h3:=h1 w hC
   have hs:Oper.semAt (FW ro).round a.eval o=execOp a.eval o:=Oper.semAt_eq _ _ _ (by
    have:=hn i o ho
    rintro c e;rw[e]at this;simp[gW]at this)
   refine⟨fun _ _=>trivial,?_⟩
   rw[hs]
   unfold Oper.quietAt at h3
   generalize (execOp a.eval o).run G.P w=r at*
   cases r with
   |ok n w'=>
    cases n<;>simp only[Oper.quietUpon]at h3<;>simp only[Oper.uponIn]
    case value u=>
     obtain⟨e1,e2⟩:=h3
     rw[e1,e2]
     exact h _ _ hC h2
    case skip=>
     obtain⟨e1,e2⟩:=h3
     rw[e1,←e2]
     exact h _ _ hC h2
    case enter f args=>
     obtain⟨e1,hc⟩:=h3
     rw[e1]
     exact⟨fun e=>(by cases e),(mq hc).mono fun e w'' ⟨he,hw''⟩=>by subst he;exact h _ _ hw'' h2⟩
   |halt x w'=>simp only[Oper.quietUpon]at h3
  ·rename_i hw;simp only[hw]at hh;exact⟨fun _ _=>trivial,h _ _ hC hh⟩
theorem jN {Q:Act→Prop} {Q':Exit→Act→World→Prop} (hn:∀(j:Nat) (o:Oper),ops[j]?=some o→gW o.op=true) (hQ:∀a w,C w→Q a→Q' .normal a w):∀(fuel:Nat) (listed:Array Bool) (a:Act) (w:World),C w→
  wpAnyQ G.P md ops C Q fuel listed a→wpAnyIn (FW ro) m G.P md ops Q' fuel listed a w
 |0,_,_,_,hw,h=>⟨h.1,hQ _ _ hw h.2⟩
 |fuel+1,_,_,_,hw,h=>⟨fun h0=>hQ _ _ hw (h.1 h0),fun i hi=>qw hn hw (fun a' w' hw'=>jN hn hQ fuel _ a' w' hw') (h.2 i hi)⟩
theorem m4 {id:Nat} {Q:Exit→Act→World→Prop} {a:Act} {w:World} (hn:∀(j:Nat) (o:Oper),ops[j]?=some o→gW o.op=true) (hB:Region.lexB .any ops=true) (hC:C {w with drawn:=w.drawn+1})
  (h:wpQuiet G.P ops C (fun a'=>∀w',C w'→Q .normal a' w') ops.toList a):(Code.region id ops true).wpIn (FW ro) m G.P Q a w:=by
 simp only[Region.lexB,Bool.and_eq_true]at hB
 refine wpIn_region_any G.mixed (jN (Q:=fun a'=>∀w',C w'→Q .normal a' w') hn (fun _ w' hw' h=>h w' hw') _ _ _ _ hC ?_)
 have:=wpAnyQ_lex (C:=C) (md:=.any) hB.1 ops.toList 0 (Array.replicate ops.size false) a Hc (by simpa using hB.2) h
 simpa using this
end
theorem jl {ops:Array Oper} {C:World→Prop} {ro:Option Nat} {m:Nat} {Q:Act→Prop} {Q':Exit→Act→World→Prop} (hQ:∀a w,C w→Q a→Q' .normal a w):∀(l:List Oper),(∀o,o∈l→gW o.op=true)→∀(a:Act) (w:World),C w→
  wpQuiet G.P ops C Q l a→wpListIn (FW ro) m G.P ops Q' l a w
 |[],_,_,_,hw,h=>hQ _ _ hw h
 |o::rest,hn,a,w,hC,hh=>by
  have ih:=jl (ops:=ops) (ro:=ro) (m:=m) hQ rest (fun o h=>hn o (by simp[h]))
  unfold wpListIn
  simp only[wpQuiet]at hh
  split
  ·rename_i hw
   simp only[hw,if_true]at hh
   obtain⟨v,h1,h2⟩:=hh
   have h3:=h1 w hC
   have hs:Oper.semAt (FW ro).round a.eval o=execOp a.eval o:=Oper.semAt_eq _ _ _ (by
    have:=hn o Hc
    rintro c e;rw[e]at this;simp[gW]at this)
   refine⟨fun _ _=>trivial,?_⟩
   rw[hs]
   unfold Oper.quietAt at h3
   generalize (execOp a.eval o).run G.P w=r at*
   cases r with
   |ok n w'=>
    cases n<;>simp only[Oper.quietUpon]at h3<;>simp only[Oper.uponIn]
    case value u=>
     obtain⟨e1,e2⟩:=h3
     rw[e1,e2]
     exact ih _ _ hC h2
    case skip=>
     obtain⟨e1,e2⟩:=h3
     rw[e1,←e2]
     exact ih _ _ hC h2
    case enter f args=>
     obtain⟨e1,hc⟩:=h3
     rw[e1]
     exact⟨fun e=>(by cases e),(mq hc).mono fun e w'' ⟨he,hw''⟩=>by subst he;exact ih _ _ hw'' h2⟩
   |halt x w'=>simp only[Oper.quietUpon]at h3
  ·rename_i hw;simp only[hw]at hh;exact⟨fun _ _=>trivial,ih _ _ hC hh⟩
section
variable {ro:Option Nat} {D:List Deferred} {ops:Array Oper} {Q:Exit→Act→World→Prop} {n:Nat} {E:Env} {M M':List aV} {R R':List (World→Prop)}
theorem fJ.ef {id:Nat} {l:List Oper} (hn:(l.all fun o=>gW o.op)=true) (hB:Region.lexB .any l.toArray=true) (h:ah G l.toArray (.quiet (fun a'=>∀w',Ok M R w'→Q .normal a' w') (Ok M R)) n l E):fJ ro [] Q n (.region id l.toArray true) E M R:=
 ⟨fun w hw=>⟨fun a ha=>m4 (C:=Ok M R) (fun j o ho=>by
  have hm:o∈l:=List.mem_of_getElem? (by simpa using ho)
  exact List.all_eq_true.1 hn o hm) hB hw.drew (by have:=h.h a ha.AK;simp only[Mode.run]at this;simpa using this)⟩⟩
theorem fJ.AD {id:Nat} {l:List Oper} (hn:(l.all fun o=>gW o.op)=true) (h:ah G l.toArray (.quiet (fun a'=>∀w',Ok M R w'→Q .normal a' w') (Ok M R)) n l E):fJ ro [] Q n (.region id l.toArray false) E M R:=
 ⟨fun w hw=>⟨fun a ha=>wpIn_region_lit (jl (C:=Ok M R) (Q:=fun a'=>∀w',Ok M R w'→Q .normal a' w') (fun _ w' hw' h=>h w' hw') l (fun o ho=>List.all_eq_true.1 hn o ho) a w hw (by have:=h.h a ha.AK;simp only[Mode.run]at this;simpa using this))⟩⟩
theorem ai.E5 {e:Exit} (h:ec [] Q n e E M R):ai Q n e E M R:=⟨fun w hw=>⟨fun a ha=>(h.h w hw).h a (oC.of ha)⟩⟩
theorem fJ.kS {id:Nat} {l:List Oper} (_:(l.all fun o=>mn o.op)=true) (hn:(l.all fun o=>gW o.op)=true) (hB:Region.lexB .any l.toArray=true) (h:ah G l.toArray (.quiet (fun a'=>∀w',Ok M R w'→Q .normal a' w') (Ok M R)) n l E):fJ ro [] Q n (.region id l.toArray true) E M R:=fJ.ef hn hB h
theorem fJ.zl {id:Nat} {l:List Oper} (_:(l.all fun o=>mn o.op)=true) (hn:(l.all fun o=>gW o.op)=true) (h:ah G l.toArray (.quiet (fun a'=>∀w',Ok M R w'→Q .normal a' w') (Ok M R)) n l E):fJ ro [] Q n (.region id l.toArray false) E M R:=fJ.AD hn h
theorem zI {g g':Prop} (h:g') (hw:ek g'→g:=by(intro hk_;(repeat(first|(refine ai.is ?_;refine ai.E5 ?_)|refine AO ?_|(refine aP.is ?_;(first|refine aP.nil ?_|refine aP.y_ (Yl.move rfl) rfl ?_|refine aP.y_ (Yl.assign rfl) rfl ?_|(refine aP.an ?_;(first|(refine aP.an (bo:=.lss) ?_;(first|refine aP.y_ (Yl.iU rfl rfl Hb) rfl ?_|refine aP.y_ (Yl.iT rfl rfl Hb) rfl ?_))|(refine aP.an (bo:=.eql) ?_;(first|refine aP.y_ (Yl.iL rfl rfl Hb) rfl ?_|refine aP.y_ (Yl.iK rfl rfl Hb) rfl ?_))|(refine aP.an (bo:=.neq) ?_;(first|refine aP.y_ (Yl.iW rfl rfl Hb) rfl ?_|refine aP.y_ (Yl.iV rfl rfl Hb) rfl ?_))|(refine aP.an (bo:=.leq) ?_;(first|refine aP.y_ (Yl.iS rfl rfl Hb) rfl ?_|refine aP.y_ (Yl.iR rfl rfl Hb) rfl ?_))|(refine aP.an (bo:=.gtr) ?_;(first|refine aP.y_ (Yl.iQ rfl rfl Hb) rfl ?_|refine aP.y_ (Yl.iP rfl rfl Hb) rfl ?_))|(refine aP.an (bo:=.geq) ?_;(first|refine aP.y_ (Yl.iO rfl rfl Hb) rfl ?_|refine aP.y_ (Yl.iN rfl rfl Hb) rfl ?_))|refine aP.y_ (Yl.add rfl rfl Hb) rfl ?_|refine aP.y_ (Yl.sub rfl rfl Hb) rfl ?_|refine aP.y_ (Yl.fF rfl rfl rfl rfl) rfl ?_|refine aP.y_ (Yl.jr Tryz.underlying4 rfl rfl) rfl ?_|refine aP.y_ (Yl.qJ rfl rfl) rfl ?_|refine aP.y_ (Yl.kA rfl rfl) rfl ?_|refine aP.y_ (Yl.ky rfl rfl Hb) rfl ?_|fail))|(refine aP.bX ?_;(first|refine aP.y_ (Yl.jC rfl rfl rfl GH) rfl ?_|refine aP.y_ (Yl.jA rfl rfl rfl rfl GQ) rfl ?_|refine aP.y_ (Yl.jD rfl rfl rfl rfl GQ GN) rfl ?_|refine aP.y_ (Yl.jB rfl rfl rfl GL rfl) rfl ?_))|refine aP.y_ (Yl.len rfl rfl rfl) rfl ?_|refine aP.y_ (Yl.extract rfl rfl) rfl ?_|refine aP.y_ (Yl.dP rfl rfl) rfl ?_|refine aP.y_ (Yl.dO rfl rfl) rfl ?_|refine aP.y_ (Yl.nilCheck rfl) rfl ?_|refine aP.y_ (Yl.not rfl) rfl ?_|refine aP.y_ (Yl.fp rfl rfl rfl rfl rfl Hb) rfl ?_|refine aP.y_ (Yl.makeFunc rfl rfl) rfl ?_|refine aP.y_ (Yl.gw rfl rfl) rfl ?_|refine aP.y_ (Yl.gx rfl rfl rfl GJ Hd) rfl ?_|refine aP.y_ (Yl.gy rfl rfl rfl GK) rfl ?_|refine aP.y_ (Yl.eo rfl rfl rfl rfl) rfl ?_|refine aP.y_ (Yl.cX Tryz.underlying9 rfl rfl rfl Hb) rfl ?_|refine aP.y_ (Yl.cq Tryz.underlying9 rfl rfl rfl Hb) rfl ?_|refine aP.y_ (Yl.cn rfl rfl rfl rfl rfl rfl Hb) rfl ?_|refine aP.y_ (Yl.kz Tryz.underlying9 rfl) rfl ?_))|(refine fJ.is ?_;(first|refine fJ.seq ?_|refine fJ.kS rfl rfl G7 ?_|refine fJ.zl rfl rfl ?_|refine fJ.region ?_|refine fJ.block ?_|refine fJ.skip ?_|refine fJ.ret ?_|refine fJ.exit ?_|refine fJ.fC rfl ?_|refine fJ.fB rfl ?_))|(refine ec.is ?_;(first|refine ec.iG ?_|refine ec.lT ?_|refine ec.iH ?_|refine ec.lU ?_|refine ec.iI ?_|refine ec.lV ?_|fail))));exact hk_.out)):g:=hw ⟨h⟩
end
def bwd (l:List Int):List (Int×Int):=(List.range l.length).reverse.map fun i:Nat=>((i:Int),ix l i)
theorem mF (l:List Int):(bwd l).length=l.length:=by simp[bwd]
theorem yq {l:List Int} {k:Nat} (h:k<l.length):(bwd l).take (k+1)=(bwd l).take k++[(((l.length - 1 - k:Nat):Int),ix l (l.length - 1 - k))]:=by
 have hl:k<(bwd l).length:=by rw[mF];exact h
 rw[List.take_succ_eq_append_getElem hl]
 congr 2
 simp[bwd,List.getElem_reverse]
def KD (K:Nat→Prop) (W W':World):Prop:=W.heap.size≤W'.heap.size∧∀k,k<W.heap.size→K k→W'.heap[k]?=W.heap[k]?
theorem KD.trans {K:Nat→Prop} {X Y Z:World} (h:KD K X Y) (k:KD K Y Z):KD K X Z:=⟨Nat.le_trans h.1 k.1,fun i hl hi=>(k.2 i (Nat.lt_of_lt_of_le hl h.1) hi).trans (h.2 i hl hi)⟩
theorem KD.cell {K:Nat→Prop} {W W':World} (h:KD K W W') {p:Addr} {v:Value} (hp:K p.block) (hc:W.cell? p=some v):W'.cell? p=some v:=by
 rw[World.cell?_of_block (w:=W) (h.2 p.block (ed hc) hp)];exact hc
theorem KD.put {K:Nat→Prop} {W:World} {l:Nat} {o:Obj} (hK:¬K l):KD K W (W.putObj l o):=⟨by simp[World.putObj],fun k _ hk=>World.putObj_heap_other (by rintro rfl;exact hK hk)⟩
def Bx (x:Int×Int):List Value:=[.int .i64 x.1,.int .i64 x.2]
def RB (b1:Nat) (p:Option Addr) (c:Nat) (l:List Int) (W:World):Prop:=W.cell? ⟨b1,0,none⟩=some (.slice p l.length c)∧∀i,i<l.length→∃b o,p=some ⟨b,o,none⟩∧W.cell? ⟨b,o+i,none⟩=some (.int .i64 (ix l i))
def KB (b1:Nat) (p:Option Addr) (n:Nat):Nat→Prop:=fun k=>k=b1∨0<n∧∃a,p=some a∧a.block=k
theorem RB.kd {b1:Nat} {p:Option Addr} {c:Nat} {l:List Int} {W W':World} (h:RB b1 p c l W) (hk:KD (KB b1 p l.length) W W'):RB b1 p c l W':=
 ⟨hk.cell (.inl rfl) h.1,fun i hi=>by obtain⟨b,o,e,hc⟩:=h.2 i hi;exact⟨b,o,e,hk.cell (.inr ⟨by omega,_,e,rfl⟩) hc⟩⟩
theorem RB.ext {b1:Nat} {p:Option Addr} {c:Nat} {l:List Int} {W W':World} (h:RB b1 p c l W) (hk:Ext W W'):RB b1 p c l W':=
 ⟨hk.cell h.1,fun i hi=>by obtain⟨b,o,e,hc⟩:=h.2 i hi;exact⟨b,o,e,hk.cell hc⟩⟩
set_option maxHeartbeats 4000000 in
theorem zX (b1:Nat) (p:Option Addr) (c:Nat) (l:List Int) (w0:World) (h0:RB b1 p c l w0) (hl:l.length≤9223372036854775807):Co 186 [.pointer (some ⟨b1,0,none⟩)] Bx (KD (KB b1 p l.length)) (bwd l) w0:=by
 intro ll J Jx W hW hJ hJx hY hJ0
 have hRW:RB b1 p c l W:=h0.ext (Ext.vU hW)
 refine enter (G:=G) (l:=[.func (.yield ll) #[] #[],.pointer (some ⟨b1,0,none⟩)]) Tryz.func186 rfl Tryz.ntmps186 rfl ?_
 have hc1:=hRW.1
 refine vA ?_
 refine Cd.loop (σ:=Nat) (fun k=>[(0,.func (.yield ll) #[] #[]),(1,.pointer (some ⟨b1,0,none⟩)),(3,.int .i64 ((l.length:Int) - 1 - k))]) (fun k wr=>k≤l.length∧J ((bwd l).take k) wr∧RB b1 p c l wr) (fun k=>l.length - k) 0 bR ⟨by omega,by rw[List.take_zero];exact hJ0,hRW⟩ ?_
 rintro k wr ⟨hk,hJk,hR⟩
 by_cases hlt:k<l.length
 ·obtain⟨i,hi⟩:∃i,i=l.length - 1 - k:=⟨_,rfl⟩
  have hil:i<l.length:=by omega
  obtain⟨b,o,rfl,hce⟩:=hR.2 i hil
  have hc2:=hR.1
  have e1:(l.length:Int) - 1 - k=(i:Int):=by omega
  have hst:=yq hlt
  rw[←hi]at hst
  have hyk:=hY ((bwd l).take k) ((i:Int),ix l i) wr hJk (by rw[←hst];exact List.take_prefix _ _)
  rw[←hst]at hyk
  rw[e1]
  refine vA ?_
  refine Cd.vW 0 ?_
  refine um ?_
  refine cQ.round (m:=0) (vs:=Bx ((i:Int),ix l i)) rfl rfl rfl hyk ?_
  rintro e w5 (⟨rfl,hJ5,hK5⟩|⟨rfl,hJx5,hK5⟩)
  ·refine⟨_,rfl,?_⟩
   refine um ?_
   refine dt.ofFin ?_
   refine vA ?_
   exact Fin.next (k+1) bR ⟨by omega,hJ5,hR.kd hK5⟩ Hb
  ·refine⟨_,rfl,?_⟩
   refine um ?_
   refine dt.ofFin ?_
   refine vA ?_
   exact Fin.zm rfl ⟨⟨_,rfl⟩,.inr ⟨_,List.take_prefix _ _,hJx5⟩⟩
 ·obtain rfl:k=l.length:=by omega
  rw[show(l.length:Int) - 1 - (l.length:Nat)=-1 from by omega]
  refine vA ?_
  refine Fin.kJ rfl ⟨⟨_,rfl⟩,.inl ?_⟩
  rw[←mF,List.take_length]at hJk;exact hJk
theorem od (p:Option Addr) (n c:Nat) (w:World):Calls G.P 167 #[.slice p n c] w fun e w'=>e=.returned (.func (.func 186) #[] #[.pointer (some ⟨w.heap.size,0,none⟩)])∧uv w w' [.slice p n c] 49:=by
 refine enter (G:=G) Tryz.func167 rfl Tryz.ntmps167 rfl ?_
 refine bF ?_
 refine ah.e (bB.box rfl rfl) rfl ?_
 rintro _ w1 ⟨rfl,hn1⟩
 refine bF ?_
 exact Fin.aA rfl rfl ⟨rfl,hn1⟩
end Go.Proofs.YtceedealggognaaGreatDoor
