/- The operand stack (layer 21): the methods that have no loop. -/
import Derived.Test.YtdkcljdfbemnbaaGreatDoorJAu
import Derived.Test.YtdkcljdfbemnbaaGreatDoorJAw
import Derived.Test.YtdkcljdfbemnbaaGreatDoorJSb
import Derived.Test.YtdkcljdfbemnbaaGreatDoorJTy
import Derived.Test.YtdkcljdfbemnbaaGreatDoorJRt
namespace Go.Proofs.YtdkcljdfbemnbaaGreatDoor
open Go.RowKit _root_.Go.Proofs.Tryz
set_option maxHeartbeats 4000000
set_option maxRecDepth 100000
abbrev jH:Nat:=132
abbrev jG:Nat:=177
abbrev fT:Nat:=59
def nI (p:Int×Bool):List Value:=[.int .i64 p.1,.bool p.2]
def cg (l:List (Int×Bool)):List Value:=l.flatMap nI
def aZ (l:List Int):List Value:=l.map (Value.int .i64)
def dB (s:ck):Bool:=decide (256<s.bQ)
def aX (sp:Nat) (s:ck) (x:Value×Value):List bu:=[.aV sp [x.1,x.2,.bool (dB s)] jH,.own 0 fT 1 x.1 s.ts.length (aZ s.ts),.own 0 jG 2 x.2 s.ps.length (cg s.ps)]
theorem FH {w:World} {B T s n c:Nat} {p:Option Addr} {xs:List Value} (h:w.ownsRow B T s (.slice p n c) n xs) {k:Nat} (hk:k≤n):w.ownsRow B T s (.slice p k c) k (xs.take (k*s)):=by
 obtain⟨h1,h2⟩:=h
 have hm:k*s≤n*s:=Nat.mul_le_mul_right s hk
 refine⟨by rw[List.length_take];omega,?_⟩
 rcases h2 with⟨e,h0⟩|⟨g,cap,cur,e,hg,hh,hn,hc,hs,ht⟩
 ·cases e
  have:k=0:=by omega
  subst this
  exact .inl ⟨rfl,rfl⟩
 ·cases e
  refine .inr ⟨g,c,cur,rfl,hg,hh,by omega,hc,hs,?_⟩
  rw[←ht,List.take_take,Nat.min_eq_left hm]
theorem Ok.nh {M M':List bu} {R:List (World→Prop)} {w:World} {B T s n c:Nat} {p:Option Addr} {xs:List Value} (h:Ok M R w) (k:Nat) (hk:k≤n) (hM:Up (.own B T s (.slice p n c) n xs) (.own B T s (.slice p k c) k (xs.take (k*s))) M M'):Ok M' R w:=
 h.qd hM (bX.refl _ w) (FH (h.m _ hM.mem).1 hk) (fun i hi=>by
  have hi':(Value.slice p n c).ownBlock=some i:=by cases p<;>exact hi
  exact⟨(h.m _ hM.mem).2 i hi',fun _=>hi'⟩)
section
variable {ops:Array Oper} {Q:Exit→Act→World→Prop} {n:Nat} {E:Env} {M M':List bu} {R R':List (World→Prop)} {v:Value} {x y z:Operand} {t t2:TypeId} {C:World→Prop}
theorem Yl.Fv {ti:TypeId} {ad:Addr} (ht:G.P.underlying t=some (.pointer ti)) (hx:ev E x=some (.pointer (some ad))) (hy:ev E y=some (.pointer none)):Yl G n (.binOp .neq t x y t2) E C (.bool true):=
 ⟨fun w _ a ha d ty pos aft gd=>by
  have h2:∀m,(Op.equalIn (m+1) t (.pointer (some ad)) (.pointer none)).run G.P w=.ok false w:=by
   intro m;simp[Op.equalIn,run_underlying ht]
  have h3:(Op.equal t (.pointer (some ad)) (.pointer none)).run G.P w=.ok false w:=h2 9999
  simp[execOp,ha.eval hx,ha.eval hy,eqGuard,binOp,h3]⟩
theorem Yl.jw {ti:TI} {B T g m cap i s o:Nat} {xs:List Value} {u:Value} (ht:G.ty t=some ti) (ha:ti.agg=false) (hx:ev E x=some (.pointer (some ⟨g,o,none⟩))) (ho:o=i) (hu:xs[i]?=some u) (hM:bu.own B T s (.slice (some ⟨g,0,none⟩) m cap) m xs∈M):Yl G n (.load t x) E (Ok M R) u:=
 Yl.load ht ha hx fun w hw=>by subst ho;exact dO (hw.m _ hM).1 hu
theorem gj.HC {ti:TI} {B T g cap m i s o:Nat} {xs:List Value} (ht:G.ty t=some ti) (hs:ti.size=1) (hx:ev E x=some (.pointer (some ⟨g,o,none⟩))) (ho:o=i) (hy:ev E y=some v) (hv:v.oneCell'=true)
  (hM:Up (.own B T s (.slice (some ⟨g,0,none⟩) m cap) m xs) (.own B T s (.slice (some ⟨g,0,none⟩) m cap) m (xs.set i v)) M M') (hi:i<xs.length):gj n (.store t x y) E M R (fun _:Unit=>True) (fun _=>M') (fun _=>R):=
 ⟨fun w hw=>by
  subst ho
  have ho:w.ownsRow B T s (.slice (some ⟨g,0,none⟩) m cap) m xs:=(hw.m _ hM.mem).1
  have hlt:=(hw.m _ hM.mem).2
  refine(bU.store ht hs hx hy hv (dO ho (List.getElem?_eq_getElem hi)) (World.ownsRow.frozenAt ho _)).mono fun _ w' e=>?_
  subst e
  obtain⟨h1,h2⟩:=World.ownsRow.stored ho o v
  refine⟨(),trivial,hw.qd hM ((bX.lX h2).mono fun k _ e=>e) h1 (fun k hk=>⟨?_,fun _=>hk⟩)⟩
  have:=hlt k hk
  have:=(bX.lX h2).size
  omega⟩
theorem ah.nh {B T s m c:Nat} {p:Option Addr} {xs:List Value} {e:Exit} (k:Nat) (hM:Up (.own B T s (.slice p m c) m xs) (.own B T s (.slice p k c) k (xs.take (k*s))) M M') (hk:k≤m) (h:ah Q n e E M' R):ah Q n e E M R:=⟨fun w hw=>h.h w (hw.nh k hk hM)⟩
end
variable {β:Type} (sp:Nat) (s:ck) (x:Value×Value)
theorem Bx (l:List Int):dB (aS s l)=(dB s || decide (256<((s.ts.length+l.length:Nat):Int))):=by
 unfold dB aS
 rw[Bool.eq_iff_iff]
 simp only[Bool.or_eq_true,decide_eq_true_eq];omega
theorem Ok.c1 {M M':List bu} {R:List (World→Prop)} {w:World} {b T j:Nat} {cs:List Value} {v:Value} (h:Ok M R w) (hM:Up (.aV b cs T) (.aV b cs T) M M') (hj:cs[j]?=some v):w.cell? ⟨b,j,none⟩=some v:=(show gO w b cs T from(h.m _ hM.mem).1).cell hj
theorem yS {M:List bu} {R:List (World→Prop)} {w:World} (h:Ok M R w) (hm:(aX sp s x).Sublist M):(∃p c,x.1=.slice p s.ts.length c∧s.ts.length≤c∧(0<s.ts.length→∃g,p=some ⟨g,0,none⟩))∧(∃p c,x.2=.slice p s.ps.length c∧(0<s.ps.length→∃g,p=some ⟨g,0,none⟩))∧s.ts.length≤9223372036854775807∧s.ps.length≤9223372036854775807:=by
 have h1:w.ownsRow 0 fT 1 x.1 s.ts.length (aZ s.ts):=(h.m (.own 0 fT 1 x.1 s.ts.length (aZ s.ts)) (hm.subset (by simp[aX]))).1
 have h2:w.ownsRow 0 jG 2 x.2 s.ps.length (cg s.ps):=(h.m (.own 0 jG 2 x.2 s.ps.length (cg s.ps)) (hm.subset (by simp[aX]))).1
 obtain⟨p,c,e,hn,hc,hg⟩:=aw h1
 obtain⟨p',c',e',hn',hc',hg'⟩:=aw h2
 unfold maxLen at hc hc'
 exact⟨⟨p,c,e,hn,fun h=>by obtain⟨g,e,_⟩:=hg h;exact⟨g,e⟩⟩,⟨p',c',e',fun h=>by obtain⟨g,e,_⟩:=hg' h;exact⟨g,e⟩⟩,by omega,by omega⟩
theorem gY (sp n c:Nat) (p:Option Addr) (w:World) (h1:w.cell? ⟨sp,1,none⟩=some (.slice p n c)) (h0:0<n):Calls G.P 41 #[.pointer (some ⟨sp,0,none⟩)] w fun e w'=>e=.returned (.bool true)∧Ext w w':=by
 refine ae (l:=[_]) func41 rfl ntmps41 rfl (Ok.start w) ?_
 repeat'(first|refine ar ?_|(refine aa.aG ?_;refine aa.y_ (Yl.Fv underlying105 rfl rfl) rfl ?_)|fail)
 all_goals first|exact ah.aF rfl rfl fun w' hw'=>⟨by rfl,hw'.at⟩|exact ah.aF rfl rfl fun w' hw'=>⟨by simp;omega,hw'.at⟩
theorem mU (sp n c g:Nat) (w:World) (h1:w.cell? ⟨sp,1,none⟩=some (.slice (some ⟨g,0,none⟩) n c)) (h0:0<n) (hn:n≤9223372036854775807):Calls G.P 131 #[.pointer (some ⟨sp,0,none⟩)] w fun e w'=>e=.returned (.pointer (some ⟨g,(n - 1)*2,none⟩))∧Ext w w':=by
 obtain⟨k,rfl⟩:∃k,n=k+1:=⟨n - 1,by omega⟩
 rw[Nat.add_sub_cancel]
 refine ae (l:=[_]) func131 rfl ntmps131 rfl (Ok.start w) ?_
 repeat'(first|refine ar ?_|(refine aq.y (Yl.idx (i:=k) rfl rfl rfl rfl rfl Pc Pc) rfl ?_)|fail)
 all_goals exact ah.aF rfl rfl fun w' hw'=>⟨by simp,hw'.at⟩
theorem mM {l:List (Int×Bool)} {i:Nat} (h:i<l.length):(cg l)[i*2]?=some (.int .i64 (ix l i).1)∧(cg l)[i*2+1]?=some (.bool (ix l i).2):=by
 have h1:=jA nI (s:=2) (fun _=>rfl) l i 0 h Pc
 have h2:=jA nI (s:=2) (fun _=>rfl) l i 1 h Pc
 exact⟨h1,h2⟩
theorem oR {l:List Int} {i:Nat} (h:i<l.length):(aZ l)[0+i]?=some (.int .i64 (ix l i)):=by
 unfold aZ;rw[Nat.zero_add,List.getElem?_map,iy h];rfl
theorem aC.Iw {M0 M:List bu} {R:List (World→Prop)} {w w':World} {tf:β→Value} {φ:β→Prop} {M1:β→List bu} (x:β) (hφ:φ x) (h:Ok M R w') (hM:(M1 x).Sublist M) (hR:bX (Mb M0) w∈R):aC M0 w tf φ M1 (.returned (tf x)) w':=
 ⟨x,rfl,hφ,h.sub hM (fun p hp=>absurd hp Pd),h.get hR,fun k ⟨q,hq,hk⟩ hlt=>h.origin hR k ⟨q,hM.subset hq,hk⟩ hlt⟩
theorem km {sp T2 T3:Nat} {s:ck} {tv pv:Value} {ov:Bool} {n m:Nat} {cs ds:List Value} {M Mr:List bu} (hM:M=.aV sp [tv,pv,.bool ov] jH::.own 0 T2 1 tv n cs::.own 0 T3 2 pv m ds::Mr) (hT:T2=fT) (hT':T3=jG) (h1:n=s.ts.length) (h2:cs=aZ s.ts) (h3:m=s.ps.length) (h4:ds=cg s.ps) (h5:ov=dB s):(aX sp s (tv,pv)).Sublist M:=by
 subst hT hT' h1 h2 h3 h4 h5 hM
 exact(List.nil_sublist Mr).cons_cons _ |>.cons_cons _ |>.cons_cons _
theorem zJ {D:Nat→Prop} {w:World} {p:Option Addr} {n c:Nat} {xs:List Int} {M:List bu} {R:List (World→Prop)} (h:ai D w (.slice p n c) xs) (hR:(fun w=>ai D w (.slice p n c) xs)∈R):xs.length=0∨∃bk o,p=some ⟨bk,o,none⟩∧∀w',Ok M R w'→∀j u,(xs.map (Value.int .i64))[j]?=some u→w'.cell? ⟨bk,o+j,none⟩=some u:=by
 obtain⟨p',c',e,hl,h⟩:=h
 cases e
 rcases h with h|⟨b,o,rfl,hF,h⟩
 ·exact .inl (by rw[h];rfl)
 ·refine .inr ⟨b,o,rfl,fun w' hw' j u hj=>?_⟩
  have hI:ai D w' (.slice (some ⟨b,o,none⟩) xs.length c) xs:=hw'.get (p:=fun w=>ai D w (.slice (some ⟨b,o,none⟩) xs.length c) xs) hR
  have hj':j<xs.length:=by have:=(List.getElem?_eq_some_iff.1 hj).1;simpa using this
  obtain⟨b',o',e,-,hc⟩:=hI.at hj'
  cases e
  rw[hc j hj',←hj,List.getElem?_map,iy hj'];rfl
theorem aC.jm {M0 M:List bu} {R:List (World→Prop)} {w w':World} {S0:Nat→Prop} {tf:β→Value} {φ:β→Prop} {M1:β→List bu} (x:β) (hφ:φ x) (hS:Mb M0=S0) (h:Ok M R w') (hM:(M1 x).Sublist M) (hR:bX S0 w∈R):aC M0 w tf φ M1 (.returned (tf x)) w':=by
 subst hS;exact aC.Iw x hφ h hM hR
def fe (sp:Nat) (s:ck) (x:Value×Value) (v:Value) (s':ck) (w:World):Ending→World→Prop:=aC (aX sp s x) w (fun _:Value×Value=>v) (fun _=>True) (aX sp s')
theorem gX (D:Nat→Prop) (sp:Nat) (s:ck) (x:Value×Value) (v:Value) (l:List Int) (w:World) (hw:Ok (aX sp s x) [fun w=>ai D w v l] w) (hp:0<s.ps.length) (hb:(s.ts.length+l.length)*8≤140737488355328):
  Calls G.P 88 #[.pointer (some ⟨sp,0,none⟩),v] w (fe sp s x (.tuple #[]) (aS s l) w):=by
 obtain⟨v1,v2⟩:=x;obtain⟨⟨p1,c1,e1,hcap,hg1⟩,⟨p2,c2,e2,hg2⟩,hn1,hn2⟩:=yS sp s (v1,v2) hw (List.Sublist.refl _);dsimp only at e1 e2;subst e1;subst e2;obtain⟨g2,rfl⟩:=hg2 hp
 have hI:ai D w v l:=hw.get (p:=fun w=>ai D w v l) Pd
 obtain⟨q,d,rfl,hl⟩:=hI.slice
 refine ae (l:=[_,_]) func88 rfl ntmps88 rfl (Ok.dk hw) ?_
 unfold fe
 generalize hS:Mb (aX sp s (.slice p1 s.ts.length c1,.slice (some ⟨g2,0,none⟩) s.ps.length c2))=S0;unfold aX;dsimp only
 repeat'(first|refine ar ?_|refine N3 ?_|(refine bC ?_ ?_<;>intro hc_))
 refine aa.he (HE.gP (aZ l) rfl rfl (fun _=>aH) (zJ hI ak) O9 rfl rfl rfl Pe Pe Pe (fj _) hb Pc (fun _ _=>Nat.zero_le _)) rfl ?_
 intro v1 _
 refine aa.pure (φ:=∃p c,v1=.slice p (s.ts.length+l.length) c) (fun w' hw'=>?_) ?_
 ·obtain⟨p,c,e,_⟩:=aw (hw'.own (v:=v1));exact⟨p,c,e⟩
 rintro⟨p3,c3,rfl⟩
 repeat'(first|refine ar ?_|(refine bC ?_ ?_<;>intro hc_))
 all_goals exact ah.nY rfl fun w' hw'=>aC.jm (x:=(_,_)) trivial hS hw' (km rfl rfl rfl (by simp[aS]) (by simp[aS,aZ]) rfl rfl (by rw[Bx];simp[dB,hc_])) ak
theorem mT (w:World) (hw:Ok (aX sp s x) [] w) (hp:0<s.ps.length) (h0:0≤s.at_):
  Calls G.P 93 #[.pointer (some ⟨sp,0,none⟩)] w (fe sp s x (.tuple #[.int .i64 (aY s).2.1,.int .i64 (aY s).2.2]) (aY s).1 w):=by
 obtain⟨v1,v2⟩:=x;obtain⟨⟨p1,c1,e1,hcap,hg1⟩,⟨p2,c2,e2,hg2⟩,hn1,hn2⟩:=yS sp s (v1,v2) hw (List.Sublist.refl _);dsimp only at e1 e2;subst e1;subst e2;obtain⟨g2,rfl⟩:=hg2 hp
 have a1:(cg s.ps)[(s.ps.length - 1)*2]?=some (.int .i64 s.at_):=(mM (l:=s.ps) (i:=s.ps.length - 1) Pc).1
 have a2:(cg s.ps)[(s.ps.length - 1)*2+1]?=some (.bool s.loose):=(mM (l:=s.ps) (i:=s.ps.length - 1) Pc).2
 unfold fe
 by_cases hlt:s.at_<s.ts.length
 ·obtain⟨g1,rfl⟩:=hg1 Pc
  have b1:=oR (l:=s.ts) (i:=s.ts.length - 1) Pc
  rw[show aY s=({s with ts:=s.ts.take (s.ts.length - 1)},ix s.ts (s.ts.length - 1),0)from if_pos hlt]
  refine ae (l:=[_]) func93 rfl ntmps93 rfl (Ok.dk hw) ?_
  generalize hS:Mb (aX sp s (.slice (some ⟨g1,0,none⟩) s.ts.length c1,.slice (some ⟨g2,0,none⟩) s.ps.length c2))=S0
  unfold aX
  dsimp only
  repeat'(first|refine ar ?_|refine N3 ?_|refine N5 ?_|(refine aa.dn ?_;refine aa.y_ (Yl.jw rfl rfl rfl rfl a1 bO) rfl ?_)|(refine aa.dn ?_;refine aa.y_ (Yl.jw rfl rfl rfl rfl a2 bO) rfl ?_)|(refine aa.eM ?_;refine aa.y_ (Yl.gn (i:=s.ts.length - 1) rfl rfl rfl rfl rfl Pc Pc) rfl ?_)|(refine aa.dn ?_;refine aa.y_ (Yl.jw rfl rfl rfl rfl b1 bO) rfl ?_)|(refine aa.y_ (Yl.cZ (i:=s.ts.length - 1) rfl rfl rfl rfl rfl Pc Pc) rfl ?_)|(refine bC ?_ ?_<;>intro hc_))
  all_goals refine ah.nh (s.ts.length - 1) aH Pc ?_
  all_goals exact ah.iq rfl rfl rfl fun w' hw'=>aC.jm (x:=(_,_)) trivial hS hw' (km rfl rfl rfl Pd (by simp[aZ,List.map_take]) rfl rfl rfl) ak
 ·have e:aY s=if s.loose then(s,0,0)else(s,0,13):=if_neg hlt
  rw[e]
  refine ae (l:=[_]) func93 rfl ntmps93 rfl (Ok.dk hw) ?_
  generalize hS:Mb (aX sp s (.slice p1 s.ts.length c1,.slice (some ⟨g2,0,none⟩) s.ps.length c2))=S0
  unfold aX
  dsimp only
  repeat'(first|refine ar ?_|refine N3 ?_|refine N5 ?_|(refine aa.dn ?_;refine aa.y_ (Yl.jw rfl rfl rfl rfl a1 bO) rfl ?_)|(refine aa.dn ?_;refine aa.y_ (Yl.jw rfl rfl rfl rfl a2 bO) rfl ?_)|(refine bC ?_ ?_<;>intro hc_))
  all_goals simp only[*,if_true,if_false,Bool.false_eq_true]
  all_goals exact ah.iq rfl rfl rfl fun w' hw'=>aC.jm (x:=(_,_)) trivial hS hw' (km rfl rfl rfl rfl rfl rfl rfl rfl) ak
end Go.Proofs.YtdkcljdfbemnbaaGreatDoor
