/- Plain laws: the operand stack of types, as the program (it counts what remains) and the reference (it pops one by one) go through it. -/
import Derived.Test.YtceedealggognaaGreatDoorJP1
import Derived.Test.YtceedealggognaaGreatDoorJIn
import Derived.Test.YtceedealggognaaGreatDoorJAw
import Derived.Test.YtceedealggognaaGreatDoorJR7
import Derived.Test.YtceedealggognaaGreatDoorJRt
import Derived.OrdersIn
import Derived.Test.YtceedealggognaaGreatDoorJM4
namespace Go.Proofs.YtceedealggognaaGreatDoor
structure cU where
 ts:List Int
 ps:List (Int×Bool)
 lS:Nat
 deriving Inhabited
def cU.at_ (s:cU):Int:=(ix s.ps (s.ps.length - 1)).1
def cU.loose (s:cU):Bool:=(ix s.ps (s.ps.length - 1)).2
structure cU.Ok (s:cU):Prop where
 some:0<s.ps.length
 le:∀i,i<s.ps.length→0≤(ix s.ps i).1∧(ix s.ps i).1≤s.ts.length
def aZ (s:cU):cU×Int×Int:=if s.at_<s.ts.length then({s with ts:=s.ts.take (s.ts.length - 1)},ix s.ts (s.ts.length - 1),0)else if s.loose then(s,0,0)else(s,0,13)
def fV (s:cU):List Int→Nat→Nat×Int
 |[],n=>(n,0)
 |x::r,n=>if(n:Int)=s.at_ then(if s.loose then fV s r n else(0,13))else
   if ix s.ts (n - 1)≠x∧ix s.ts (n - 1)≠0∧x≠0 then(0,12)else fV s r (n - 1)
def aO (s:cU) (l:List Int):cU×Int:=
 let r:=fV s l.reverse s.ts.length
 if r.2=0 then({s with ts:=s.ts.take r.1},0)else(s,r.2)
def fO (s:cU) (l:List Int):cU:={s with ts:=s.ts++l,lS:=max s.lS (s.ts.length+l.length)}
def eM (s:cU):cU:={s with ps:=s.ps++[((s.ts.length:Int),false)]}
def fZ (s:cU):cU:={s with ts:=s.ts.take s.at_.toNat,ps:=s.ps.set (s.ps.length - 1) (s.at_,true)}
def dv (s:cU) (l:List Int):cU×Int:=
 let r:=fV s l.reverse s.ts.length
 if r.2≠0 then(s,r.2)else if s.at_<r.1 then(s,14)else
  ({s with ts:=s.ts.take r.1,ps:=if s.ps.length=1 then[(0,false)]else s.ps.take (s.ps.length - 1)},0)
theorem jn {s:cU}:∀(l:List Int) (n:Nat),s.at_≤n→(fV s l n).2=0→s.at_≤(fV s l n).1∧(fV s l n).1≤n
 |[],n,h,_=>⟨h,Nat.le_refl _⟩
 |x::r,n,h,he=>by
  rw[fV]at he ⊢
  split at he
  ·split at he
   ·rename_i h1 h2
    rw[if_pos h1,if_pos h2];exact jn r n h he
   ·cases he
  ·rename_i h1
   split at he
   ·cases he
   ·rename_i h2
    rw[if_neg h1,if_neg h2]
    have:=jn r (n - 1) FY he
    omega
open Go.RowKit
set_option maxRecDepth 100000
abbrev fH:Nat:=136
abbrev fG:Nat:=180
abbrev eV:Nat:=58
def ka (p:Int×Bool):List Value:=[.int .i64 p.1,.bool p.2]
def bw (l:List (Int×Bool)):List Value:=l.flatMap ka
def aR (l:List Int):List Value:=l.map (Value.int .i64)
def cE (s:cU):Bool:=decide (256<s.lS)
def ax (sp:Nat) (s:cU) (x:Value×Value):List aU:=[.aH sp [x.1,x.2,.bool (cE s)] fH,.own 0 eV 1 x.1 s.ts.length (aR s.ts),.own 0 fG 2 x.2 s.ps.length (bw s.ps)]
theorem xW {w:World} {B T s n c:Nat} {p:Option Addr} {xs:List Value} (h:w.ownsRow B T s (.slice p n c) n xs) {k:Nat} (hk:k≤n):w.ownsRow B T s (.slice p k c) k (xs.take (k*s)):=by
 obtain⟨h1,h2⟩:=h
 have hm:k*s≤n*s:=Nat.mul_le_mul_right s hk
 refine⟨by rw[List.length_take];omega,?_⟩
 rcases h2 with⟨e,h0⟩|⟨g,cap,cur,e,hg,hh,hn,hc,hs,ht⟩
 ·cases e
  have:k=0:=by omega
  subst this
  exact .inl ⟨rfl,rfl⟩
 ·cases e
  refine .inr ⟨g,c,cur,rfl,hg,hh,by omega,hc,hs,?_⟩
  rw[←ht,List.take_take,Nat.min_eq_left hm]
theorem Ok.jM {M M':List aU} {R:List (World→Prop)} {w:World} {B T s n c:Nat} {p:Option Addr} {xs:List Value} (h:Ok M R w) (k:Nat) (hk:k≤n) (hM:Up (.own B T s (.slice p n c) n xs) (.own B T s (.slice p k c) k (xs.take (k*s))) M M'):Ok M' R w:=
 h.nA hM (bz.refl _ w) (xW (h.m _ hM.mem).1 hk) (fun i hi=>by
  have hi':(Value.slice p n c).ownBlock=some i:=by cases p<;>exact hi
  exact⟨(h.m _ hM.mem).2 i hi',fun _=>hi'⟩)
section
variable {ops:Array Oper} {Q:Exit→Act→World→Prop} {n:Nat} {E:Env} {M M':List aU} {R R':List (World→Prop)} {v:Value} {x y z:Operand} {t t2:TypeId} {C:World→Prop}
theorem Yl.xN {ti:TypeId} {ad:Addr} (ht:G.P.underlying t=some (.pointer ti)) (hx:ev E x=some (.pointer (some ad))) (hy:ev E y=some (.pointer none)):Yl G n (.binOp .neq t x y t2) E C (.bool true):=
 ⟨fun w _ a ha d ty pos aft gd=>by
  have h2:∀m,(Op.equalIn (m+1) t (.pointer (some ad)) (.pointer none)).run G.P w=.ok false w:=by
   intro m;simp[Op.equalIn,run_underlying ht]
  have h3:(Op.equal t (.pointer (some ad)) (.pointer none)).run G.P w=.ok false w:=h2 9999
  simp[execOp,ha.eval hx,ha.eval hy,eqGuard,binOp,h3]⟩
theorem Yl.fB {ti:TI} {B T g m cap i s o:Nat} {xs:List Value} {u:Value} (ht:G.ty t=some ti) (ha:ti.agg=false) (hx:ev E x=some (.pointer (some ⟨g,o,none⟩))) (ho:o=i) (hu:xs[i]?=some u) (hM:aU.own B T s (.slice (some ⟨g,0,none⟩) m cap) m xs∈M):Yl G n (.load t x) E (Ok M R) u:=
 Yl.load ht ha hx fun w hw=>by subst ho;exact dJ (hw.m _ hM).1 hu
theorem gI.Ac {ti:TI} {B T g cap m i s o:Nat} {xs:List Value} (ht:G.ty t=some ti) (hs:ti.size=1) (hx:ev E x=some (.pointer (some ⟨g,o,none⟩))) (ho:o=i) (hy:ev E y=some v) (hv:v.oneCell'=true)
  (hM:Up (.own B T s (.slice (some ⟨g,0,none⟩) m cap) m xs) (.own B T s (.slice (some ⟨g,0,none⟩) m cap) m (xs.set i v)) M M') (hi:i<xs.length):gI n (.store t x y) E M R (fun _:Unit=>True) (fun _=>M') (fun _=>R):=
 ⟨fun w hw=>by
  subst ho
  have ho:w.ownsRow B T s (.slice (some ⟨g,0,none⟩) m cap) m xs:=(hw.m _ hM.mem).1
  have hlt:=(hw.m _ hM.mem).2
  refine(bC.store ht hs hx hy hv (dJ ho (List.getElem?_eq_getElem hi)) (World.ownsRow.frozenAt ho _)).mono fun _ w' e=>?_
  subst e
  obtain⟨h1,h2⟩:=World.ownsRow.stored ho o v
  refine⟨(),trivial,hw.nA hM ((bz.iP h2).mono fun k _ e=>e) h1 (fun k hk=>⟨?_,fun _=>hk⟩)⟩
  have:=hlt k hk
  have:=(bz.iP h2).size
  omega⟩
theorem ai.jM {B T s m c:Nat} {p:Option Addr} {xs:List Value} {e:Exit} (k:Nat) (hM:Up (.own B T s (.slice p m c) m xs) (.own B T s (.slice p k c) k (xs.take (k*s))) M M') (hk:k≤m) (h:ai Q n e E M' R):ai Q n e E M R:=⟨fun w hw=>h.h w (hw.jM k hk hM)⟩
end
theorem tX (s:cU) (l:List Int):cE (fO s l)=(cE s || decide (256<((s.ts.length+l.length:Nat):Int))):=by
 unfold cE fO
 rw[Bool.eq_iff_iff]
 simp only[Bool.or_eq_true,decide_eq_true_eq];omega
theorem Ok.c1 {M M':List aU} {R:List (World→Prop)} {w:World} {b T j:Nat} {cs:List Value} {v:Value} (h:Ok M R w) (hM:Up (.aH b cs T) (.aH b cs T) M M') (hj:cs[j]?=some v):w.cell? ⟨b,j,none⟩=some v:=(show eA w b cs T from(h.m _ hM.mem).1).cell hj
theorem rE (sp:Nat) (s:cU) (x:Value×Value) {M:List aU} {R:List (World→Prop)} {w:World} (h:Ok M R w) (hm:(ax sp s x).Sublist M):(∃p c,x.1=.slice p s.ts.length c∧s.ts.length≤c∧(0<s.ts.length→∃g,p=some ⟨g,0,none⟩))∧(∃p c,x.2=.slice p s.ps.length c∧(0<s.ps.length→∃g,p=some ⟨g,0,none⟩))∧s.ts.length≤9223372036854775807∧s.ps.length≤9223372036854775807:=by
 have h1:w.ownsRow 0 eV 1 x.1 s.ts.length (aR s.ts):=(h.m (.own 0 eV 1 x.1 s.ts.length (aR s.ts)) (hm.subset (by simp[ax]))).1
 have h2:w.ownsRow 0 fG 2 x.2 s.ps.length (bw s.ps):=(h.m (.own 0 fG 2 x.2 s.ps.length (bw s.ps)) (hm.subset (by simp[ax]))).1
 obtain⟨p,c,e,hn,hc,hg⟩:=au h1
 obtain⟨p',c',e',hn',hc',hg'⟩:=au h2
 unfold maxLen at hc hc'
 exact⟨⟨p,c,e,hn,fun h=>by obtain⟨g,e,_⟩:=hg h;exact⟨g,e⟩⟩,⟨p',c',e',fun h=>by obtain⟨g,e,_⟩:=hg' h;exact⟨g,e⟩⟩,by omega,by omega⟩
theorem gh (sp n c:Nat) (p:Option Addr) (w:World) (h1:w.cell? ⟨sp,1,none⟩=some (.slice p n c)) (h0:0<n):Calls G.P 44 #[.pointer (some ⟨sp,0,none⟩)] w fun e w'=>e=.returned (.bool true)∧Ext w w':=by
 refine aj (l:=[_]) Tryz.func44 rfl Tryz.ntmps44 rfl (Ok.start w) ?_
 repeat'(first|refine ay ?_|(refine aa.an ?_;refine aa.y_ (Yl.xN Tryz.underlying109 rfl rfl) rfl ?_)|fail)
 all_goals first|exact ai.aA rfl rfl fun w' hw'=>⟨by rfl,hw'.at⟩|exact ai.aA rfl rfl fun w' hw'=>⟨by simp;omega,hw'.at⟩
theorem qt (sp n c g:Nat) (w:World) (h1:w.cell? ⟨sp,1,none⟩=some (.slice (some ⟨g,0,none⟩) n c)) (h0:0<n) (hn:n≤9223372036854775807):Calls G.P 134 #[.pointer (some ⟨sp,0,none⟩)] w fun e w'=>e=.returned (.pointer (some ⟨g,(n - 1)*2,none⟩))∧Ext w w':=by
 obtain⟨k,rfl⟩:∃k,n=k+1:=⟨n - 1,by omega⟩
 rw[Nat.add_sub_cancel]
 refine aj (l:=[_]) Tryz.func134 rfl Tryz.ntmps134 rfl (Ok.start w) ?_
 repeat'(first|refine ay ?_|(refine ah.y (Yl.idx (i:=k) rfl rfl rfl rfl rfl FY FY) rfl ?_)|fail)
 all_goals exact ai.aA rfl rfl fun w' hw'=>⟨by simp,hw'.at⟩
theorem ju {l:List (Int×Bool)} {i:Nat} (h:i<l.length):(bw l)[i*2]?=some (.int .i64 (ix l i).1)∧(bw l)[i*2+1]?=some (.bool (ix l i).2):=by
 have h1:=fE ka (s:=2) (fun _=>rfl) l i 0 h FY
 have h2:=fE ka (s:=2) (fun _=>rfl) l i 1 h FY
 exact⟨h1,h2⟩
theorem mj {l:List Int} {i:Nat} (h:i<l.length):(aR l)[0+i]?=some (.int .i64 (ix l i)):=by
 unfold aR;rw[Nat.zero_add,List.getElem?_map,gq h];rfl
theorem aq.A2 {β:Type} {M0 M:List aU} {R:List (World→Prop)} {w w':World} {tf:β→Value} {φ:β→Prop} {M1:β→List aU} (x:β) (hφ:φ x) (h:Ok M R w') (hM:(M1 x).Sublist M) (hR:bz (Mb M0) w∈R):aq M0 w tf φ M1 (.returned (tf x)) w':=
 ⟨x,rfl,hφ,h.sub hM (fun p hp=>absurd hp FZ),h.get hR,fun k ⟨q,hq,hk⟩ hlt=>h.origin hR k ⟨q,hM.subset hq,hk⟩ hlt⟩
theorem gx {sp T2 T3:Nat} {s:cU} {tv pv:Value} {ov:Bool} {n m:Nat} {cs ds:List Value} {M Mr:List aU} (hM:M=.aH sp [tv,pv,.bool ov] fH::.own 0 T2 1 tv n cs::.own 0 T3 2 pv m ds::Mr) (hT:T2=eV) (hT':T3=fG) (h1:n=s.ts.length) (h2:cs=aR s.ts) (h3:m=s.ps.length) (h4:ds=bw s.ps) (h5:ov=cE s):(ax sp s (tv,pv)).Sublist M:=by
 subst hT hT' h1 h2 h3 h4 h5 hM
 exact(List.nil_sublist Mr).cons_cons _ |>.cons_cons _ |>.cons_cons _
theorem sA {D:Nat→Prop} {w:World} {p:Option Addr} {n c:Nat} {xs:List Int} {M:List aU} {R:List (World→Prop)} (h:af D w (.slice p n c) xs) (hR:(fun w=>af D w (.slice p n c) xs)∈R):xs.length=0∨∃bk o,p=some ⟨bk,o,none⟩∧∀w',Ok M R w'→∀j u,(xs.map (Value.int .i64))[j]?=some u→w'.cell? ⟨bk,o+j,none⟩=some u:=by
 obtain⟨p',c',e,hl,h⟩:=h
 cases e
 rcases h with h|⟨b,o,rfl,hF,h⟩
 ·exact .inl (by rw[h];rfl)
 ·refine .inr ⟨b,o,rfl,fun w' hw' j u hj=>?_⟩
  have hI:af D w' (.slice (some ⟨b,o,none⟩) xs.length c) xs:=hw'.get (p:=fun w=>af D w (.slice (some ⟨b,o,none⟩) xs.length c) xs) hR
  have hj':j<xs.length:=by have:=(List.getElem?_eq_some_iff.1 hj).1;simpa using this
  obtain⟨b',o',e,-,hc⟩:=hI.at hj'
  cases e
  rw[hc j hj',←hj,List.getElem?_map,gq hj'];rfl
theorem aq.mZ {β:Type} {M0 M:List aU} {R:List (World→Prop)} {w w':World} {S0:Nat→Prop} {tf:β→Value} {φ:β→Prop} {M1:β→List aU} (x:β) (hφ:φ x) (hS:Mb M0=S0) (h:Ok M R w') (hM:(M1 x).Sublist M) (hR:bz S0 w∈R):aq M0 w tf φ M1 (.returned (tf x)) w':=by
 subst hS;exact aq.A2 x hφ h hM hR
def dh (sp:Nat) (s:cU) (x:Value×Value) (v:Value) (s':cU) (w:World):Ending→World→Prop:=aq (ax sp s x) w (fun _:Value×Value=>v) (fun _=>True) (ax sp s')
set_option maxHeartbeats 4000000 in
theorem eo (D:Nat→Prop) (sp:Nat) (s:cU) (x:Value×Value) (v:Value) (l:List Int) (w:World) (hw:Ok (ax sp s x) [fun w=>af D w v l] w) (hp:0<s.ps.length) (hb:(s.ts.length+l.length)*8≤140737488355328):
  Calls G.P 91 #[.pointer (some ⟨sp,0,none⟩),v] w (dh sp s x (.tuple #[]) (fO s l) w):=by
 obtain⟨v1,v2⟩:=x;obtain⟨⟨p1,c1,e1,hcap,hg1⟩,⟨p2,c2,e2,hg2⟩,hn1,hn2⟩:=rE sp s (v1,v2) hw (List.Sublist.refl _);dsimp only at e1 e2;subst e1;subst e2;obtain⟨g2,rfl⟩:=hg2 hp
 have hI:af D w v l:=hw.get (p:=fun w=>af D w v l) FZ
 obtain⟨q,d,rfl,hl⟩:=hI.slice
 refine aj (l:=[_,_]) Tryz.func91 rfl Tryz.ntmps91 rfl (Ok.bV hw) ?_
 unfold dh
 generalize hS:Mb (ax sp s (.slice p1 s.ts.length c1,.slice (some ⟨g2,0,none⟩) s.ps.length c2))=S0;unfold ax;dsimp only
 repeat'(first|refine ay ?_|refine Fg ?_|(refine aY ?_ ?_<;>intro hc_))
 refine aa.he (HE.lL (aR l) rfl rfl (fun _=>bM) (sA hI ao) (by simp[aR]) rfl rfl rfl F0 F0 F0 (gB _) hb FY (fun _ _=>Nat.zero_le _)) rfl ?_
 intro v1 _
 refine aa.pure (φ:=∃p c,v1=.slice p (s.ts.length+l.length) c) (fun w' hw'=>?_) ?_
 ·obtain⟨p,c,e,_⟩:=au (hw'.own (v:=v1));exact⟨p,c,e⟩
 rintro⟨p3,c3,rfl⟩
 repeat'(first|refine ay ?_|(refine aY ?_ ?_<;>intro hc_))
 all_goals exact ai.km rfl fun w' hw'=>aq.mZ (x:=(_,_)) trivial hS hw' (gx rfl rfl rfl (by simp[fO]) (by simp[fO,aR]) rfl rfl (by rw[tX];simp[cE,hc_])) ao
theorem uW {g g':Prop} (h:g') (hw:dP g'→g:=by(intro hk_;(first|refine Fg ?_|(refine aa.ak (f:=134) ?_;refine aa.az rfl rfl rfl (fun w' hw'=>qt sp s.ps.length c2 g2 w' (hw'.c1 bM F0) hp hn2) ?_));exact hk_.out)):g:=hw ⟨h⟩
set_option maxHeartbeats 4000000 in
theorem jx (sp:Nat) (s:cU) (x:Value×Value) (w:World) (hw:Ok (ax sp s x) [] w) (hp:0<s.ps.length) (h0:0≤s.at_):
  Calls G.P 96 #[.pointer (some ⟨sp,0,none⟩)] w (dh sp s x (.tuple #[.int .i64 (aZ s).2.1,.int .i64 (aZ s).2.2]) (aZ s).1 w):=by
 obtain⟨v1,v2⟩:=x;obtain⟨⟨p1,c1,e1,hcap,hg1⟩,⟨p2,c2,e2,hg2⟩,hn1,hn2⟩:=rE sp s (v1,v2) hw (List.Sublist.refl _);dsimp only at e1 e2;subst e1;subst e2;obtain⟨g2,rfl⟩:=hg2 hp
 have a1:(bw s.ps)[(s.ps.length - 1)*2]?=some (.int .i64 s.at_):=(ju (l:=s.ps) (i:=s.ps.length - 1) FY).1
 have a2:(bw s.ps)[(s.ps.length - 1)*2+1]?=some (.bool s.loose):=(ju (l:=s.ps) (i:=s.ps.length - 1) FY).2
 unfold dh
 by_cases hlt:s.at_<s.ts.length
 ·obtain⟨g1,rfl⟩:=hg1 FY
  have b1:=mj (l:=s.ts) (i:=s.ts.length - 1) FY
  rw[show aZ s=({s with ts:=s.ts.take (s.ts.length - 1)},ix s.ts (s.ts.length - 1),0)from if_pos hlt]
  refine aj (l:=[_]) Tryz.func96 rfl Tryz.ntmps96 rfl (Ok.bV hw) ?_
  generalize hS:Mb (ax sp s (.slice (some ⟨g1,0,none⟩) s.ts.length c1,.slice (some ⟨g2,0,none⟩) s.ps.length c2))=S0
  unfold ax
  dsimp only
  repeat'(first|refine ay ?_|refine uW ?_|(refine aa.bW ?_;refine aa.y_ (Yl.fB rfl rfl rfl rfl a1 gG) rfl ?_)|(refine aa.bW ?_;refine aa.y_ (Yl.fB rfl rfl rfl rfl a2 gG) rfl ?_)|(refine aa.dX ?_;refine aa.y_ (Yl.fL (i:=s.ts.length - 1) rfl rfl rfl rfl rfl FY FY) rfl ?_)|(refine aa.bW ?_;refine aa.y_ (Yl.fB rfl rfl rfl rfl b1 gG) rfl ?_)|(refine aa.y_ (Yl.ck (i:=s.ts.length - 1) rfl rfl rfl rfl rfl FY FY) rfl ?_)|(refine aY ?_ ?_<;>intro hc_))
  all_goals refine ai.jM (s.ts.length - 1) bM FY ?_
  all_goals exact ai.gb rfl rfl rfl fun w' hw'=>aq.mZ (x:=(_,_)) trivial hS hw' (gx rfl rfl rfl FZ (by simp[aR,List.map_take]) rfl rfl rfl) ao
 ·have e:aZ s=if s.loose then(s,0,0)else(s,0,13):=if_neg hlt
  rw[e]
  refine aj (l:=[_]) Tryz.func96 rfl Tryz.ntmps96 rfl (Ok.bV hw) ?_
  generalize hS:Mb (ax sp s (.slice p1 s.ts.length c1,.slice (some ⟨g2,0,none⟩) s.ps.length c2))=S0
  unfold ax
  dsimp only
  repeat'(first|refine ay ?_|refine uW ?_|(refine aa.bW ?_;refine aa.y_ (Yl.fB rfl rfl rfl rfl a1 gG) rfl ?_)|(refine aa.bW ?_;refine aa.y_ (Yl.fB rfl rfl rfl rfl a2 gG) rfl ?_)|(refine aY ?_ ?_<;>intro hc_))
  all_goals simp only[*,if_true,if_false,Bool.false_eq_true]
  all_goals exact ai.gb rfl rfl rfl fun w' hw'=>aq.mZ (x:=(_,_)) trivial hS hw' (gx rfl rfl rfl rfl rfl rfl rfl rfl) ao
section
variable {ops:Array Oper} {md:Region.Mode} {C:World→Prop} {ro:Option Nat} {m:Nat}
theorem pM {i:Nat} {a:Act} {K:Act→Prop} {K':Act→World→Prop} {Q':Exit→Act→World→Prop} {w:World} (hn:∀(j:Nat) (o:Oper),ops[j]?=some o→gO o.op=true) (hC:C w) (h:∀a w',C w'→K a→K' a w') (hh:qOp G.P ops C i K a):wpOpIn (FW ro) m G.P ops Q' i K' a w:=by
 unfold qOp at hh
 unfold wpOpIn
 split
 ·rename_i ho;simp only[ho]at hh;exact h _ _ hC hh
 ·rename_i o ho
  simp only[ho]at hh
  split
  ·rename_i hw
   simp only[hw,if_true]at hh
   obtain⟨v,h1,h2⟩:=hh
   have h3:=h1 w hC
   have hs:Oper.semAt (FW ro).round a.eval o=execOp a.eval o:=Oper.semAt_eq _ _ _ (by
    have:=hn i o ho
    rintro c e;rw[e]at this;simp[gO]at this)
   refine⟨fun _ _=>trivial,?_⟩
   rw[hs]
   unfold Oper.quietAt at h3
   generalize (execOp a.eval o).run G.P w=r at*
   cases r with
   |ok n w'=>
    cases n<;>simp only[Oper.quietUpon]at h3<;>simp only[Oper.uponIn]
    case value u=>
     obtain⟨e1,e2⟩:=h3
     rw[e1,e2]
     exact h _ _ hC h2
    case skip=>
     obtain⟨e1,e2⟩:=h3
     rw[e1,←e2]
     exact h _ _ hC h2
    case enter f args=>
     obtain⟨e1,hc⟩:=h3
     rw[e1]
     exact⟨fun e=>(by cases e),(lI hc).mono fun e w'' ⟨he,hw''⟩=>by subst he;exact h _ _ hw'' h2⟩
   |halt x w'=>simp only[Oper.quietUpon]at h3
  ·rename_i hw;simp only[hw]at hh;exact⟨fun _ _=>trivial,h _ _ hC hh⟩
theorem jB {Q:Act→Prop} {Q':Exit→Act→World→Prop} (hn:∀(j:Nat) (o:Oper),ops[j]?=some o→gO o.op=true) (hQ:∀a w,C w→Q a→Q' .normal a w):∀(fuel:Nat) (listed:Array Bool) (a:Act) (w:World),C w→
  wpAnyQ G.P md ops C Q fuel listed a→wpAnyIn (FW ro) m G.P md ops Q' fuel listed a w
 |0,_,_,_,hw,h=>⟨h.1,hQ _ _ hw h.2⟩
 |fuel+1,_,_,_,hw,h=>⟨fun h0=>hQ _ _ hw (h.1 h0),fun i hi=>pM hn hw (fun a' w' hw'=>jB hn hQ fuel _ a' w' hw') (h.2 i hi)⟩
theorem mn {id:Nat} {Q:Exit→Act→World→Prop} {a:Act} {w:World} (hn:∀(j:Nat) (o:Oper),ops[j]?=some o→gO o.op=true) (hB:Region.lexB .any ops=true) (hC:C {w with drawn:=w.drawn+1})
  (h:wpQuiet G.P ops C (fun a'=>∀w',C w'→Q .normal a' w') ops.toList a):(Code.region id ops true).wpIn (FW ro) m G.P Q a w:=by
 simp only[Region.lexB,Bool.and_eq_true]at hB
 refine wpIn_region_any G.mixed (jB (Q:=fun a'=>∀w',C w'→Q .normal a' w') hn (fun _ w' hw' h=>h w' hw') _ _ _ _ hC ?_)
 have:=wpAnyQ_lex (C:=C) (md:=.any) hB.1 ops.toList 0 (Array.replicate ops.size false) a FZ (by simpa using hB.2) h
 simpa using this
end
theorem iW {ops:Array Oper} {C:World→Prop} {ro:Option Nat} {m:Nat} {Q:Act→Prop} {Q':Exit→Act→World→Prop} (hQ:∀a w,C w→Q a→Q' .normal a w):∀(l:List Oper),(∀o,o∈l→gO o.op=true)→∀(a:Act) (w:World),C w→
  wpQuiet G.P ops C Q l a→wpListIn (FW ro) m G.P ops Q' l a w
 |[],_,_,_,hw,h=>hQ _ _ hw h
 |o::rest,hn,a,w,hC,hh=>by
  have ih:=iW (ops:=ops) (ro:=ro) (m:=m) hQ rest (fun o h=>hn o (by simp[h]))
  unfold wpListIn
  simp only[wpQuiet]at hh
  split
  ·rename_i hw
   simp only[hw,if_true]at hh
   obtain⟨v,h1,h2⟩:=hh
   have h3:=h1 w hC
   have hs:Oper.semAt (FW ro).round a.eval o=execOp a.eval o:=Oper.semAt_eq _ _ _ (by
    have:=hn o FZ
    rintro c e;rw[e]at this;simp[gO]at this)
   refine⟨fun _ _=>trivial,?_⟩
   rw[hs]
   unfold Oper.quietAt at h3
   generalize (execOp a.eval o).run G.P w=r at*
   cases r with
   |ok n w'=>
    cases n<;>simp only[Oper.quietUpon]at h3<;>simp only[Oper.uponIn]
    case value u=>
     obtain⟨e1,e2⟩:=h3
     rw[e1,e2]
     exact ih _ _ hC h2
    case skip=>
     obtain⟨e1,e2⟩:=h3
     rw[e1,←e2]
     exact ih _ _ hC h2
    case enter f args=>
     obtain⟨e1,hc⟩:=h3
     rw[e1]
     exact⟨fun e=>(by cases e),(lI hc).mono fun e w'' ⟨he,hw''⟩=>by subst he;exact ih _ _ hw'' h2⟩
   |halt x w'=>simp only[Oper.quietUpon]at h3
  ·rename_i hw;simp only[hw]at hh;exact⟨fun _ _=>trivial,ih _ _ hC hh⟩
section
variable {ro:Option Nat} {D:List Deferred} {ops:Array Oper} {Q:Exit→Act→World→Prop} {n:Nat} {E:Env} {M M':List aU} {R R':List (World→Prop)}
theorem fz.dR {id:Nat} {l:List Oper} (hn:(l.all fun o=>gO o.op)=true) (hB:Region.lexB .any l.toArray=true) (h:ah G l.toArray (.quiet (fun a'=>∀w',Ok M R w'→Q .normal a' w') (Ok M R)) n l E):fz ro [] Q n (.region id l.toArray true) E M R:=
 ⟨fun w hw=>⟨fun a ha=>mn (C:=Ok M R) (fun j o ho=>by
  have hm:o∈l:=List.mem_of_getElem? (by simpa using ho)
  exact List.all_eq_true.1 hn o hm) hB hw.drew (by have:=h.h a ha.zy;simp only[Mode.run]at this;simpa using this)⟩⟩
theorem fz.zo {id:Nat} {l:List Oper} (hn:(l.all fun o=>gO o.op)=true) (h:ah G l.toArray (.quiet (fun a'=>∀w',Ok M R w'→Q .normal a' w') (Ok M R)) n l E):fz ro [] Q n (.region id l.toArray false) E M R:=
 ⟨fun w hw=>⟨fun a ha=>wpIn_region_lit (iW (C:=Ok M R) (Q:=fun a'=>∀w',Ok M R w'→Q .normal a' w') (fun _ w' hw' h=>h w' hw') l (fun o ho=>List.all_eq_true.1 hn o ho) a w hw (by have:=h.h a ha.zy;simp only[Mode.run]at this;simpa using this))⟩⟩
theorem ai.DP {e:Exit} (h:dO [] Q n e E M R):ai Q n e E M R:=⟨fun w hw=>⟨fun a ha=>(h.h w hw).h a (nM.of ha)⟩⟩
theorem fz.ku {id:Nat} {l:List Oper} (_:(l.all fun o=>lH o.op)=true) (hn:(l.all fun o=>gO o.op)=true) (hB:Region.lexB .any l.toArray=true) (h:ah G l.toArray (.quiet (fun a'=>∀w',Ok M R w'→Q .normal a' w') (Ok M R)) n l E):fz ro [] Q n (.region id l.toArray true) E M R:=fz.dR hn hB h
theorem fz.ye {id:Nat} {l:List Oper} (_:(l.all fun o=>lH o.op)=true) (hn:(l.all fun o=>gO o.op)=true) (h:ah G l.toArray (.quiet (fun a'=>∀w',Ok M R w'→Q .normal a' w') (Ok M R)) n l E):fz ro [] Q n (.region id l.toArray false) E M R:=fz.zo hn h
theorem yy {g g':Prop} (h:g') (hw:dP g'→g:=by(intro hk_;(repeat(first|(refine ai.is ?_;refine ai.DP ?_)|refine zD ?_|(refine aQ.is ?_;(first|refine aQ.nil ?_|refine aQ.y_ (Yl.move rfl) rfl ?_|refine aQ.y_ (Yl.assign rfl) rfl ?_|(refine aQ.an ?_;(first|(refine aQ.an (bo:=.lss) ?_;(first|refine aQ.y_ (Yl.iG rfl rfl FY) rfl ?_|refine aQ.y_ (Yl.iF rfl rfl FY) rfl ?_))|(refine aQ.an (bo:=.eql) ?_;(first|refine aQ.y_ (Yl.iw rfl rfl FY) rfl ?_|refine aQ.y_ (Yl.iu rfl rfl FY) rfl ?_))|(refine aQ.an (bo:=.neq) ?_;(first|refine aQ.y_ (Yl.iI rfl rfl FY) rfl ?_|refine aQ.y_ (Yl.iH rfl rfl FY) rfl ?_))|(refine aQ.an (bo:=.leq) ?_;(first|refine aQ.y_ (Yl.iE rfl rfl FY) rfl ?_|refine aQ.y_ (Yl.iD rfl rfl FY) rfl ?_))|(refine aQ.an (bo:=.gtr) ?_;(first|refine aQ.y_ (Yl.iC rfl rfl FY) rfl ?_|refine aQ.y_ (Yl.iB rfl rfl FY) rfl ?_))|(refine aQ.an (bo:=.geq) ?_;(first|refine aQ.y_ (Yl.iA rfl rfl FY) rfl ?_|refine aQ.y_ (Yl.iz rfl rfl FY) rfl ?_))|refine aQ.y_ (Yl.add rfl rfl FY) rfl ?_|refine aQ.y_ (Yl.sub rfl rfl FY) rfl ?_|refine aQ.y_ (Yl.fu rfl rfl rfl rfl) rfl ?_|refine aQ.y_ (Yl.je Tryz.underlying4 rfl rfl) rfl ?_|refine aQ.y_ (Yl.pY rfl rfl) rfl ?_|refine aQ.y_ (Yl.kf rfl rfl) rfl ?_|refine aQ.y_ (Yl.kc rfl rfl FY) rfl ?_|fail))|(refine aQ.bW ?_;(first|refine aQ.y_ (Yl.jr rfl rfl rfl Fu) rfl ?_|refine aQ.y_ (Yl.jo rfl rfl rfl rfl FD) rfl ?_|refine aQ.y_ (Yl.js rfl rfl rfl rfl FD FA) rfl ?_|refine aQ.y_ (Yl.jq rfl rfl rfl Fy rfl) rfl ?_))|refine aQ.y_ (Yl.len rfl rfl rfl) rfl ?_|refine aQ.y_ (Yl.extract rfl rfl) rfl ?_|refine aQ.y_ (Yl.dF rfl rfl) rfl ?_|refine aQ.y_ (Yl.dE rfl rfl) rfl ?_|refine aQ.y_ (Yl.nilCheck rfl) rfl ?_|refine aQ.y_ (Yl.not rfl) rfl ?_|refine aQ.y_ (Yl.makeFunc rfl rfl) rfl ?_|refine aQ.y_ (Yl.fW rfl rfl) rfl ?_|refine aQ.y_ (Yl.fX rfl rfl rfl Fw F0) rfl ?_|refine aQ.y_ (Yl.fY rfl rfl rfl Fx) rfl ?_|refine aQ.y_ (Yl.dU rfl rfl rfl rfl) rfl ?_|refine aQ.y_ (Yl.cR Tryz.underlying9 rfl rfl rfl FY) rfl ?_|refine aQ.y_ (Yl.cm Tryz.underlying9 rfl rfl rfl FY) rfl ?_|refine aQ.y_ (Yl.ck rfl rfl rfl rfl rfl rfl FY) rfl ?_|refine aQ.y_ (Yl.ke Tryz.underlying9 rfl) rfl ?_))|(refine fz.is ?_;(first|refine fz.seq ?_|refine fz.ku rfl rfl FT ?_|refine fz.ye rfl rfl ?_|refine fz.region ?_|refine fz.block ?_|refine fz.skip ?_|refine fz.ret ?_|refine fz.exit ?_|refine fz.fp rfl ?_|refine fz.fm rfl ?_))|(refine dO.is ?_;(first|refine dO.ij ?_|refine dO.lj ?_|refine dO.il ?_|refine dO.ln ?_|refine dO.iq ?_|refine dO.lq ?_|fail))));exact hk_.out)):g:=hw ⟨h⟩
end
def bwd (l:List Int):List (Int×Int):=(List.range l.length).reverse.map fun i:Nat=>((i:Int),ix l i)
theorem lN (l:List Int):(bwd l).length=l.length:=by simp[bwd]
theorem xq {l:List Int} {k:Nat} (h:k<l.length):(bwd l).take (k+1)=(bwd l).take k++[(((l.length - 1 - k:Nat):Int),ix l (l.length - 1 - k))]:=by
 have hl:k<(bwd l).length:=by rw[lN];exact h
 rw[List.take_succ_eq_append_getElem hl]
 congr 2
 simp[bwd,List.getElem_reverse]
def KD (K:Nat→Prop) (W W':World):Prop:=W.heap.size≤W'.heap.size∧∀k,k<W.heap.size→K k→W'.heap[k]?=W.heap[k]?
theorem KD.trans {K:Nat→Prop} {X Y Z:World} (h:KD K X Y) (k:KD K Y Z):KD K X Z:=⟨Nat.le_trans h.1 k.1,fun i hl hi=>(k.2 i (Nat.lt_of_lt_of_le hl h.1) hi).trans (h.2 i hl hi)⟩
theorem KD.cell {K:Nat→Prop} {W W':World} (h:KD K W W') {p:Addr} {v:Value} (hp:K p.block) (hc:W.cell? p=some v):W'.cell? p=some v:=by
 rw[World.cell?_of_block (w:=W) (h.2 p.block (dQ hc) hp)];exact hc
theorem KD.put {K:Nat→Prop} {W:World} {l:Nat} {o:Obj} (hK:¬K l):KD K W (W.putObj l o):=⟨by simp[World.putObj],fun k _ hk=>World.putObj_heap_other (by rintro rfl;exact hK hk)⟩
def Av (x:Int×Int):List Value:=[.int .i64 x.1,.int .i64 x.2]
def RB (b1:Nat) (p:Option Addr) (c:Nat) (l:List Int) (W:World):Prop:=W.cell? ⟨b1,0,none⟩=some (.slice p l.length c)∧∀i,i<l.length→∃b o,p=some ⟨b,o,none⟩∧W.cell? ⟨b,o+i,none⟩=some (.int .i64 (ix l i))
def KB (b1:Nat) (p:Option Addr) (n:Nat):Nat→Prop:=fun k=>k=b1∨0<n∧∃a,p=some a∧a.block=k
theorem RB.kd {b1:Nat} {p:Option Addr} {c:Nat} {l:List Int} {W W':World} (h:RB b1 p c l W) (hk:KD (KB b1 p l.length) W W'):RB b1 p c l W':=
 ⟨hk.cell (.inl rfl) h.1,fun i hi=>by obtain⟨b,o,e,hc⟩:=h.2 i hi;exact⟨b,o,e,hk.cell (.inr ⟨by omega,_,e,rfl⟩) hc⟩⟩
theorem RB.ext {b1:Nat} {p:Option Addr} {c:Nat} {l:List Int} {W W':World} (h:RB b1 p c l W) (hk:Ext W W'):RB b1 p c l W':=
 ⟨hk.cell h.1,fun i hi=>by obtain⟨b,o,e,hc⟩:=h.2 i hi;exact⟨b,o,e,hk.cell hc⟩⟩
set_option maxHeartbeats 4000000 in
theorem yK (b1:Nat) (p:Option Addr) (c:Nat) (l:List Int) (w0:World) (h0:RB b1 p c l w0) (hl:l.length≤9223372036854775807):A8 186 [.pointer (some ⟨b1,0,none⟩)] Av (KD (KB b1 p l.length)) (bwd l) w0:=by
 intro ll J Jx W hW hJ hJx hY hJ0
 have hRW:RB b1 p c l W:=h0.ext (Ext.uU hW)
 refine enter (G:=G) (l:=[.func (.yield ll) #[] #[],.pointer (some ⟨b1,0,none⟩)]) Tryz.func186 rfl Tryz.ntmps186 rfl ?_
 have hc1:=hRW.1
 refine uA ?_
 refine Cd.loop (σ:=Nat) (fun k=>[(0,.func (.yield ll) #[] #[]),(1,.pointer (some ⟨b1,0,none⟩)),(3,.int .i64 ((l.length:Int) - 1 - k))]) (fun k wr=>k≤l.length∧J ((bwd l).take k) wr∧RB b1 p c l wr) (fun k=>l.length - k) 0 bP ⟨by omega,by rw[List.take_zero];exact hJ0,hRW⟩ ?_
 rintro k wr ⟨hk,hJk,hR⟩
 by_cases hlt:k<l.length
 ·obtain⟨i,hi⟩:∃i,i=l.length - 1 - k:=⟨_,rfl⟩
  have hil:i<l.length:=by omega
  obtain⟨b,o,rfl,hce⟩:=hR.2 i hil
  have hc2:=hR.1
  have e1:(l.length:Int) - 1 - k=(i:Int):=by omega
  have hst:=xq hlt
  rw[←hi]at hst
  have hyk:=hY ((bwd l).take k) ((i:Int),ix l i) wr hJk (by rw[←hst];exact List.take_prefix _ _)
  rw[←hst]at hyk
  rw[e1]
  refine uA ?_
  refine Cd.uZ 0 ?_
  refine tl ?_
  refine cQ.round (m:=0) (vs:=Av ((i:Int),ix l i)) rfl rfl rfl hyk ?_
  rintro e w5 (⟨rfl,hJ5,hK5⟩|⟨rfl,hJx5,hK5⟩)
  ·refine⟨_,rfl,?_⟩
   refine tl ?_
   refine dj.ofFin ?_
   refine uA ?_
   exact Fin.next (k+1) bP ⟨by omega,hJ5,hR.kd hK5⟩ FY
  ·refine⟨_,rfl,?_⟩
   refine tl ?_
   refine dj.ofFin ?_
   refine uA ?_
   exact Fin.yf rfl ⟨⟨_,rfl⟩,.inr ⟨_,List.take_prefix _ _,hJx5⟩⟩
 ·obtain rfl:k=l.length:=by omega
  rw[show(l.length:Int) - 1 - (l.length:Nat)=-1 from by omega]
  refine uA ?_
  refine Fin.km rfl ⟨⟨_,rfl⟩,.inl ?_⟩
  rw[←lN,List.take_length]at hJk;exact hJk
theorem ny (p:Option Addr) (n c:Nat) (w:World):Calls G.P 167 #[.slice p n c] w fun e w'=>e=.returned (.func (.func 186) #[] #[.pointer (some ⟨w.heap.size,0,none⟩)])∧tr w w' [.slice p n c] 49:=by
 refine enter (G:=G) Tryz.func167 rfl Tryz.ntmps167 rfl ?_
 refine bE ?_
 refine ah.e (bC.box rfl rfl) rfl ?_
 rintro _ w1 ⟨rfl,hn1⟩
 refine bE ?_
 exact Fin.aA rfl rfl ⟨rfl,hn1⟩
abbrev vq:Nat:=109
abbrev uG:Nat:=219
abbrev vp:Nat:=36
abbrev nF:Nat:=3
theorem qq {fn:Func} {n:Nat} {E:Env} {w:World} {a T b T':Nat} {ti ti':TI} {v u:Value} {ad bd:Addr} (hr:fn.results=#[.cell a T,.cell b T']) (ha:lk E a=some (.pointer (some ad))) (hT:G.ty T=some ti) (hag:ti.agg=false) (hc:w.cell? ad=some v)
  (hb:lk E b=some (.pointer (some bd))) (hT':G.ty T'=some ti') (hag':ti'.agg=false) (hc':w.cell? bd=some u):∀ac,Ag n ac E→(results fn ac.tmps).run G.P w=.ok (.tuple #[v,u]) w:=fun ac hac=>by
 have h1:=(G.fx T ti hT).agg w
 rw[hag]at h1
 have h2:=(G.fx T' ti' hT').agg w
 rw[hag']at h2
 have g1:ac.tmps[a]?.getD undef=.pointer (some ad):=by have:=(hac.eq a _ ha).2;simpa using this
 have g2:ac.tmps[b]?.getD undef=.pointer (some bd):=by have:=(hac.eq b _ hb).2;simpa using this
 simp[results,hr,g1,g2,asAddr,loadVar,h1,hc,h2,hc']
theorem lO {W:World} {D:Nat} {o:Obj} {p:Addr} {v:Value} (h:W.cell? p=some v) (hne:p.block≠D):(W.putObj D o).cell? p=some v:=by
 rw[World.cell?_of_block (w:=W) (World.putObj_heap_other hne)];exact h
theorem yJ {l:List Int} {pre:List (Int×Int)} {x:Int×Int} (h:pre++[x]<+:bwd l):pre.length<l.length∧l.reverse.drop pre.length=x.2::l.reverse.drop (pre.length+1):=by
 obtain⟨r,hr⟩:=h
 have hl:pre.length<l.length:=by rw[←lN,←hr];simp
 refine⟨hl,?_⟩
 have h1:(bwd l)[pre.length]?=some x:=by rw[←hr];simp
 have h2:(bwd l)[pre.length]?=some (((l.length - 1 - pre.length:Nat):Int),ix l (l.length - 1 - pre.length)):=by
  rw[List.getElem?_eq_getElem (by rw[lN];exact hl)]
  congr 1
  simp[bwd,List.getElem_reverse]
 rw[h1]at h2
 cases h2
 rw[List.drop_eq_getElem_cons (by simpa using hl)]
 congr 1
 rw[List.getElem_reverse,cI FY]
set_option maxHeartbeats 8000000 in
theorem oZ (D:Nat→Prop) (sp:Nat) (s:cU) (x:Value×Value) (v:Value) (l:List Int) (w:World) (hw:Ok (ax sp s x) [fun w=>af D w v l] w) (hp:0<s.ps.length) (h0:0≤s.at_) (hle:s.at_≤s.ts.length):
  Calls G.P 133 #[.pointer (some ⟨sp,0,none⟩),v] w fun e w'=>e=.returned (.tuple #[.int .i64 ((fV s l.reverse s.ts.length).1:Nat),.int .i64 (fV s l.reverse s.ts.length).2])∧Ext w w':=by
 obtain⟨v1,v2⟩:=x
 obtain⟨⟨p1,c1,e1,hcap,hg1⟩,⟨p2,c2,e2,hg2⟩,hn1,hn2⟩:=rE sp s (v1,v2) hw (List.Sublist.refl _)
 dsimp only at e1 e2
 subst e1;subst e2
 obtain⟨g2,rfl⟩:=hg2 hp
 have hI:af D w v l:=hw.get (p:=fun w=>af D w v l) FZ
 obtain⟨q,d,rfl,hl⟩:=hI.slice
 have k0:w.cell? ⟨sp,0,none⟩=some (.slice p1 s.ts.length c1):=hw.c1 (T:=fH) (cs:=[.slice p1 s.ts.length c1,.slice (some ⟨g2,0,none⟩) s.ps.length c2,.bool (cE s)]) Up.head rfl
 have k1:w.cell? ⟨sp,1,none⟩=some (.slice (some ⟨g2,0,none⟩) s.ps.length c2):=hw.c1 (T:=fH) (cs:=[.slice p1 s.ts.length c1,.slice (some ⟨g2,0,none⟩) s.ps.length c2,.bool (cE s)]) Up.head rfl
 have o1:w.ownsRow 0 eV 1 (.slice p1 s.ts.length c1) s.ts.length (aR s.ts):=(hw.m (.own 0 eV 1 (.slice p1 s.ts.length c1) s.ts.length (aR s.ts)) (by simp[ax])).1
 have o2:w.ownsRow 0 fG 2 (.slice (some ⟨g2,0,none⟩) s.ps.length c2) s.ps.length (bw s.ps):=(hw.m (.own 0 fG 2 (.slice (some ⟨g2,0,none⟩) s.ps.length c2) s.ps.length (bw s.ps)) (by simp[ax])).1
 have a1:w.cell? ⟨g2,(s.ps.length - 1)*2,none⟩=some (.int .i64 s.at_):=dJ o2 (ju (l:=s.ps) (i:=s.ps.length - 1) FY).1
 have a2:w.cell? ⟨g2,(s.ps.length - 1)*2+1,none⟩=some (.bool s.loose):=dJ o2 (ju (l:=s.ps) (i:=s.ps.length - 1) FY).2
 refine Ax (l:=[.pointer (some ⟨sp,0,none⟩),.slice q l.length d]) Tryz.func133 rfl Tryz.ntmps133 rfl (Ok.start w) ?_
 refine yz ?_
 refine aQ.he (HE.box [.pointer (some ⟨sp,0,none⟩)] rfl rfl) rfl rfl ?_
 intro b2 _
 refine yz ?_
 refine aQ.he (HE.alloc [.int .i64 0] rfl rfl) rfl rfl ?_
 intro b4 _
 refine yz ?_
 refine aQ.he (HE.alloc [.int .i64 0] rfl rfl) rfl rfl ?_
 intro b5 _
 refine yz ?_
 refine fz.DM ?_
 refine aP.du [.aH b5 [.int .i64 0] vp,.aH b4 [.int .i64 0] nF,.aH b2 [.pointer (some ⟨sp,0,none⟩)] vq] [Ext w] bN aX ?_
 refine aN.zS (α:=Nat×Nat) (fun y=>[(1,.slice q l.length d),(2,.pointer (some ⟨b2,0,none⟩)),(4,.pointer (some ⟨b4,0,none⟩)),(5,.pointer (some ⟨b5,0,none⟩)),(6,.pointer (some ⟨y.1,0,none⟩)),(7,.pointer (some ⟨y.2,0,none⟩))]) (fun y=>[.aH y.1 [.int .i64 s.ts.length] nF,.aH y.2 [.pointer (some ⟨g2,(s.ps.length - 1)*2,none⟩)] uG,.aH b5 [.int .i64 0] vp,.aH b4 [.int .i64 0] nF,.aH b2 [.pointer (some ⟨sp,0,none⟩)] vq]) (fun _=>[Ext w]) ?_ fun hrest=>?_
 ·rintro⟨b6,b7⟩
  dsimp only
  refine ai.BJ ?_
  refine yz ?_
  refine aQ.he (HE.call (β:=Nat) (tf:=fun b=>.func (.func 186) #[] #[.pointer (some ⟨b,0,none⟩)]) (φ:=fun _=>True) (Mf:=fun b=>.aH b [.slice q l.length d] 49::[.aH b6 [.int .i64 s.ts.length] nF,.aH b7 [.pointer (some ⟨g2,(s.ps.length - 1)*2,none⟩)] uG,.aH b5 [.int .i64 0] vp,.aH b4 [.int .i64 0] nF,.aH b2 [.pointer (some ⟨sp,0,none⟩)] vq]) (Rf:=fun _=>[Ext w]) rfl rfl (fun w' hw'=>(ny q l.length d w').mono fun e w'' ⟨e1,hn⟩=>⟨w'.heap.size,e1,trivial,hw'.push hn.ext hn.aH (qG hn)⟩)) rfl rfl ?_
  intro b9 _
  refine yz ?_
  refine⟨fun w1 hw1=>?_⟩
  have hx1:Ext w w1:=hw1.at
  have f9:b9<w1.heap.size:=(hw1.m (.aH b9 _ _) gG).2 b9 rfl
  have f6:b6<w1.heap.size:=(hw1.m (.aH b6 _ _) gG).2 b6 rfl
  have f7:b7<w1.heap.size:=(hw1.m (.aH b7 _ _) gG).2 b7 rfl
  have f5:b5<w1.heap.size:=(hw1.m (.aH b5 _ _) gG).2 b5 rfl
  have f4:b4<w1.heap.size:=(hw1.m (.aH b4 _ _) gG).2 b4 rfl
  have f2:b2<w1.heap.size:=(hw1.m (.aH b2 _ _) gG).2 b2 rfl
  have hRB:RB b9 q d l w1:=⟨hw1.c1 (cs:=[.slice q l.length d]) bM rfl,fun i hi=>by
   obtain⟨b,o,e,-,hc⟩:=hI.at hi
   exact⟨b,o,e,hx1.cell (hc i hi)⟩⟩
  have lowG:∀(x6 x5 x4:Int) (r:Nat),Mb [.aH b6 [.int .i64 x6] nF,.aH b7 [.pointer (some ⟨g2,(s.ps.length - 1)*2,none⟩)] uG,.aH b5 [.int .i64 x5] vp,.aH b4 [.int .i64 x4] nF,.aH b2 [.pointer (some ⟨sp,0,none⟩)] vq] r→r<w1.heap.size:=fun x6 x5 x4 r ⟨q',hq,hk⟩=>by
   simp only[List.mem_cons,List.not_mem_nil,or_false]at hq
   rcases hq with rfl|rfl|rfl|rfl|rfl<;>(have hk':r=_:=hk;omega)
  have lowM:∀(nn:Nat) (r:Nat),Mb [.aH b6 [.int .i64 ((nn:Nat):Int)] nF,.aH b7 [.pointer (some ⟨g2,(s.ps.length - 1)*2,none⟩)] uG,.aH b5 [.int .i64 0] vp,.aH b4 [.int .i64 0] nF,.aH b2 [.pointer (some ⟨sp,0,none⟩)] vq] r→r<w1.heap.size:=fun nn r ⟨q',hq,hk⟩=>by
   simp only[List.mem_cons,List.not_mem_nil,or_false]at hq
   rcases hq with rfl|rfl|rfl|rfl|rfl<;>(have hk':r=_:=hk;omega)
  have lowX:∀(ee:Int) (r:Nat),Mb [.aH b7 [.pointer (some ⟨g2,(s.ps.length - 1)*2,none⟩)] uG,.aH b5 [.int .i64 ee] vp,.aH b4 [.int .i64 0] nF,.aH b2 [.pointer (some ⟨sp,0,none⟩)] vq] r→r<w1.heap.size:=fun ee r ⟨q',hq,hk⟩=>by
   simp only[List.mem_cons,List.not_mem_nil,or_false]at hq
   rcases hq with rfl|rfl|rfl|rfl<;>(have hk':r=_:=hk;omega)
  have hqb:∀a,0<l.length→q=some a→a.block<w.heap.size:=fun a h e=>by
   obtain⟨b,o,e',-,hc⟩:=hI.at (i:=0) h
   rw[e]at e';cases e'
   exact dQ (hc 0 h)
  have hne:b9≠b6∧b9≠b7∧b9≠b5∧b9≠b4∧b9≠b2:=by
   have hd:=(List.pairwise_cons.1 hw1.d).1
   exact⟨hd (.aH b6 _ _) gG b9 rfl,hd (.aH b7 _ _) gG b9 rfl,hd (.aH b5 _ _) gG b9 rfl,hd (.aH b4 _ _) gG b9 rfl,hd (.aH b2 _ _) gG b9 rfl⟩
  have keepM:∀(nn:Nat) (W:World),Ok [.aH b6 [.int .i64 ((nn:Nat):Int)] nF,.aH b7 [.pointer (some ⟨g2,(s.ps.length - 1)*2,none⟩)] uG,.aH b5 [.int .i64 0] vp,.aH b4 [.int .i64 0] nF,.aH b2 [.pointer (some ⟨sp,0,none⟩)] vq] [Ext w] W→∀k,KB b9 q l.length k→¬Mb [.aH b6 [.int .i64 ((nn:Nat):Int)] nF,.aH b7 [.pointer (some ⟨g2,(s.ps.length - 1)*2,none⟩)] uG,.aH b5 [.int .i64 0] vp,.aH b4 [.int .i64 0] nF,.aH b2 [.pointer (some ⟨sp,0,none⟩)] vq] k:=fun nn W hok k hk hm=>by
   rcases hk with rfl|⟨h,a,e,rfl⟩
   ·obtain⟨q',hq,hk⟩:=hm
    simp only[List.mem_cons,List.not_mem_nil,or_false]at hq
    obtain⟨n1,n2,n3,n4,n5⟩:=hne
    rcases hq with rfl|rfl|rfl|rfl|rfl
    ·exact n1 hk
    ·exact n2 hk
    ·exact n3 hk
    ·exact n4 hk
    ·exact n5 hk
   ·exact hok.origin (S:=fun _=>False) FZ _ hm (hqb a h e)
  refine gH.AT (encs:=Av) (Kp:=KD (KB b9 q l.length)) (full:=bwd l) rfl rfl (yK b9 q d l w1 hRB FY) (fun h k=>h.trans k) (fun W l' r r' hW hl' _=>KD.put ?_) (fun _=>rfl) rfl
   (fun pre W=>∃nn:Nat,Ok [.aH b6 [.int .i64 ((nn:Nat):Int)] nF,.aH b7 [.pointer (some ⟨g2,(s.ps.length - 1)*2,none⟩)] uG,.aH b5 [.int .i64 0] vp,.aH b4 [.int .i64 0] nF,.aH b2 [.pointer (some ⟨sp,0,none⟩)] vq] [Ext w] W∧s.at_≤nn∧nn≤s.ts.length∧fV s (l.reverse.drop pre.length) nn=fV s l.reverse s.ts.length)
   (fun c pre W=>c=.ret∧∃ee:Int,Ok [.aH b7 [.pointer (some ⟨g2,(s.ps.length - 1)*2,none⟩)] uG,.aH b5 [.int .i64 ee] vp,.aH b4 [.int .i64 0] nF,.aH b2 [.pointer (some ⟨sp,0,none⟩)] vq] [Ext w] W∧fV s l.reverse s.ts.length=(0,ee)) ?_ ?_ ⟨s.ts.length,hw1.sub bN (fun _ h=>h),hle,Nat.le_refl _,rfl⟩
   (fun x=>[(9,.int .i64 x.2),(1,.slice q l.length d),(2,.pointer (some ⟨b2,0,none⟩)),(4,.pointer (some ⟨b4,0,none⟩)),(5,.pointer (some ⟨b5,0,none⟩)),(6,.pointer (some ⟨b6,0,none⟩)),(7,.pointer (some ⟨b7,0,none⟩))]) ?_ ?_ ?_ ?_
  ·intro hk
   have hlt:l'<w1.heap.size:=by
    rcases hk with rfl|⟨h,a,e,rfl⟩
    ·exact f9
    ·exact Nat.lt_of_lt_of_le (hqb a h e) hx1.size
   omega
  ·rintro pre A A' row ⟨nn,h,h1,h2,h3⟩ hg hr
   exact⟨nn,h.grow hx1.size hg hr fun r o h1 h2 h3 h4=>absurd (lowM nn r h4) FY,h1,h2,h3⟩
  ·rintro c pre A A' row ⟨e,ee,h,h3⟩ hg hr
   exact⟨e,ee,h.grow hx1.size hg hr fun r o h1 h2 h3 h4=>absurd (lowX ee r h4) FY,h3⟩
  ·intro l' x W2 K hK
   refine tl ?_
   exact dj.Ae (fun a ha=>hK a (ha.sub bP))
  ·rintro l' pre x W2 ⟨nn,hok,h1,h2,h3⟩ hN
   obtain⟨hpl,hdr⟩:=yJ hN
   rw[hdr,fV]at h3
   obtain⟨S0,hS0⟩:∃S0,S0=Mb [.aH b6 [.int .i64 ((nn:Nat):Int)] nF,.aH b7 [.pointer (some ⟨g2,(s.ps.length - 1)*2,none⟩)] uG,.aH b5 [.int .i64 0] vp,.aH b4 [.int .i64 0] nF,.aH b2 [.pointer (some ⟨sp,0,none⟩)] vq]:=⟨_,rfl⟩
   have hok':=hok.bV
   rw[←hS0]at hok'
   have fin:∀{W':World},bz S0 W2 W'→rM #[20,21] w1.heap.size W2 W'∧KD (KB b9 q l.length) W2 W':=fun{W'} hc=>by
    have hk0:=keepM nn W2 hok
    rw[←hS0]at hk0
    refine⟨⟨hc.size,fun k o hk ho _=>?_⟩,hc.size,fun k hlt hk=>hc.block k hlt (hk0 k hk)⟩
    rw[hc.block k (Array.getElem?_eq_some_iff.1 ho).1 (fun hs=>by rw[hS0]at hs;have:=lowM nn k hs;omega)];exact ho
   refine fz.at hok' ?_
   by_cases he:(nn:Int)=s.at_
   ·rw[if_pos he]at h3
    obtain⟨lo,hlo⟩:∃b,s.loose=b:=⟨_,rfl⟩
    rw[hlo]at a2 h3
    cases lo with
    |true=>
     rw[if_pos rfl]at h3
     refine yy ?_
     refine⟨fun W' hw'=>⟨fun a ha=>?_⟩⟩
     obtain⟨k1,k2⟩:=fin hw'.at
     exact⟨k1,k2,nn,hw'.sub bN aX,h1,h2,by rw[←h3];simp⟩
    |false=>
     rw[if_neg FZ]at h3
     refine yy ?_
     refine aQ.nc (gI.aL [.int .i64 0] rfl rfl rfl rfl rfl rfl bM rfl) rfl ?_
     rintro⟨⟩ _
     refine yy ?_
     refine aQ.nc (gI.aL [.int .i64 13] rfl rfl rfl rfl rfl rfl bM rfl) rfl ?_
     rintro⟨⟩ _
     refine yy ?_
     refine⟨fun W' hw'=>⟨fun a ha=>?_⟩⟩
     obtain⟨k1,k2⟩:=fin hw'.at
     exact⟨k1,k2,rfl,13,hw'.sub bN aX,h3.symm⟩
   ·rw[if_neg he]at h3
    obtain⟨g1,rfl⟩:=hg1 FY
    have b1:=dJ o1 (mj (l:=s.ts) (i:=nn - 1) FY)
    have e1:(nn:Int) - 1=((nn - 1:Nat):Int):=by omega
    by_cases hM:ix s.ts (nn - 1)≠x.2∧ix s.ts (nn - 1)≠0∧x.2≠0
    ·rw[if_pos hM]at h3
     obtain⟨m1,m2,m3⟩:=hM
     refine yy ?_
     refine aQ.nc (gI.aL [.int .i64 ((nn:Int) - 1)] rfl rfl rfl rfl rfl rfl bM rfl) rfl ?_
     rintro⟨⟩ _
     rw[e1]
     refine yy ?_
     refine aQ.nc (gI.aL [.int .i64 0] rfl rfl rfl rfl rfl rfl bM rfl) rfl ?_
     rintro⟨⟩ _
     refine yy ?_
     refine aQ.nc (gI.aL [.int .i64 12] rfl rfl rfl rfl rfl rfl bM rfl) rfl ?_
     rintro⟨⟩ _
     refine yy ?_
     refine⟨fun W' hw'=>⟨fun a ha=>?_⟩⟩
     obtain⟨k1,k2⟩:=fin hw'.at
     exact⟨k1,k2,rfl,12,hw'.sub bN aX,h3.symm⟩
    ·rw[if_neg hM]at h3
     rcases(show(ix s.ts (nn - 1)=x.2)∨(ix s.ts (nn - 1)≠x.2∧ix s.ts (nn - 1)=0)∨(ix s.ts (nn - 1)≠x.2∧ix s.ts (nn - 1)≠0∧x.2=0)from by omega)with m1|⟨m1,m2⟩|⟨m1,m2,m3⟩
     all_goals
      refine yy ?_
      refine aQ.nc (gI.aL [.int .i64 ((nn:Int) - 1)] rfl rfl rfl rfl rfl rfl bM rfl) rfl ?_
      rintro⟨⟩ _
      rw[e1]
      refine yy ?_
      refine⟨fun W' hw'=>⟨fun a ha=>?_⟩⟩
      obtain⟨k1,k2⟩:=fin hw'.at
      exact⟨k1,k2,nn - 1,hw'.sub bN aX,by omega,by omega,by rw[←h3];simp⟩
  ·rintro Dn W2 hD ⟨nn,hok,h1,h2,h3⟩ hK
   rw[lN,show l.length=l.reverse.length from by simp,List.drop_length,fV]at h3
   rw[←h3]
   have hok2:Ok [.aH b6 [.int .i64 ((nn:Nat):Int)] nF,.aH b7 [.pointer (some ⟨g2,(s.ps.length - 1)*2,none⟩)] uG,.aH b5 [.int .i64 0] vp,.aH b4 [.int .i64 0] nF,.aH b2 [.pointer (some ⟨sp,0,none⟩)] vq] [fun W=>W.heap[Dn]?=some (.deferred (some [])),Ext w] W2:=hok.add fun w' hc=>by
    rw[hc.block Dn (Array.getElem?_eq_some_iff.1 hK).1 (fun hs=>by have:=lowM nn Dn hs;omega)];exact hK
   refine dO.at hok2 ?_
   refine yz ?_
   refine aQ.nc (gI.aL [.int .i64 nn] rfl rfl rfl rfl rfl rfl bM rfl) rfl ?_
   rintro⟨⟩ _
   refine yz ?_
   refine aQ.nc (gI.aL [.int .i64 0] rfl rfl rfl rfl rfl rfl bM rfl) rfl ?_
   rintro⟨⟩ _
   refine yz ?_
   refine⟨fun W' hw'=>?_⟩
   have hK':W'.heap[Dn]?=some (.deferred (some [])):=hw'.at
   have hx':Ext w (W'.putObj Dn (.deferred none)):=(hw'.sub (List.Sublist.refl _) (R':=[Ext w]) aX |>.grow (row:=some Dn) (B:=w1.heap.size) hx1.size (grownBy_putObj' W' Dn (.deferred none)) (fun r e=>by cases e;exact⟨hD,_,hK',rfl⟩) (fun r o h1 h2 h3 h4=>absurd (lowG _ _ _ r h4) FY)).at
   have q4:W'.cell? ⟨b4,0,none⟩=some (.int .i64 nn):=hw'.c1 bM rfl
   have q5:W'.cell? ⟨b5,0,none⟩=some (.int .i64 0):=hw'.c1 bM rfl
   refine dj.zq (.inl rfl) hK' (qq rfl rfl rfl rfl (lO q4 (show b4≠Dn by omega)) rfl rfl rfl (lO q5 (show b5≠Dn by omega))) ⟨rfl,hx'⟩
  ·rintro Dn c pre W2 hD hpre ⟨rfl,ee,hok,h3⟩ hK
   rw[h3]
   have hok2:Ok [.aH b7 [.pointer (some ⟨g2,(s.ps.length - 1)*2,none⟩)] uG,.aH b5 [.int .i64 ee] vp,.aH b4 [.int .i64 0] nF,.aH b2 [.pointer (some ⟨sp,0,none⟩)] vq] [fun W=>W.heap[Dn]?=some (.deferred (some [])),Ext w] W2:=hok.add fun w' hc=>by
    rw[hc.block Dn (Array.getElem?_eq_some_iff.1 hK).1 (fun hs=>by have:=lowX ee Dn hs;omega)];exact hK
   refine fz.at hok2 ?_
   refine yz ?_
   refine⟨fun W' hw'=>?_⟩
   have hK':W'.heap[Dn]?=some (.deferred (some [])):=hw'.at
   have hx':Ext w (W'.putObj Dn (.deferred none)):=(hw'.sub (List.Sublist.refl _) (R':=[Ext w]) aX |>.grow (row:=some Dn) (B:=w1.heap.size) hx1.size (grownBy_putObj' W' Dn (.deferred none)) (fun r e=>by cases e;exact⟨hD,_,hK',rfl⟩) (fun r o h1 h2 h3 h4=>absurd (lowX ee r h4) FY)).at
   have q4:W'.cell? ⟨b4,0,none⟩=some (.int .i64 0):=hw'.c1 bM rfl
   have q5:W'.cell? ⟨b5,0,none⟩=some (.int .i64 ee):=hw'.c1 bM rfl
   refine dj.zq (.inl rfl) hK' (qq rfl rfl rfl rfl (lO q4 (show b4≠Dn by omega)) rfl rfl rfl (lO q5 (show b5≠Dn by omega))) ⟨rfl,hx'⟩
 ·repeat'(first|refine tx ?_|(refine aK.AH nF ?_;refine aK.he rfl rfl (HE.alloc (t:=nF) [.int .i64 0] rfl rfl) (fun _=>bN) (fun _=>aX) ?_;intro b_ _)|(refine aK.AH uG ?_;refine aK.he rfl rfl (HE.alloc (t:=uG) [.pointer none] rfl rfl) (fun _=>bN) (fun _=>aX) ?_;intro b_ _)|(refine aK.fe 134 ?_;refine aK.he rfl rfl (HE.kl rfl rfl (fun w' hw'=>qt sp s.ps.length c2 g2 w' ((show Ext w w' from hw'.at).cell k1) hp hn2)) (fun _=>bN) (fun _=>aX) ?_;rintro⟨⟩ _)|(refine aK.yX ?_;refine aK.nc rfl (gI.aL _ rfl rfl rfl rfl rfl rfl bM rfl) (fun _=>bN) (fun _=>aX) ?_;rintro⟨⟩ _)|refine aN.nil FR ?_|refine aN.any FR ?_|exact aE.fin rfl|refine aE.skip FR ?_|refine aE.go ?_ ?_)
  all_goals exact ai.bT (hrest (_,_)) bP cM aX
set_option maxHeartbeats 4000000 in
theorem dN (D:Nat→Prop) (sp:Nat) (s:cU) (x:Value×Value) (v:Value) (l:List Int) (w:World) (hw:Ok (ax sp s x) [fun w=>af D w v l] w) (hp:0<s.ps.length) (h0:0≤s.at_) (hle:s.at_≤s.ts.length):
  Calls G.P 85 #[.pointer (some ⟨sp,0,none⟩),v] w (dh sp s x (.int .i64 (aO s l).2) (aO s l).1 w):=by
 obtain⟨v1,v2⟩:=x;obtain⟨⟨p1,c1,e1,hcap,hg1⟩,⟨p2,c2,e2,hg2⟩,hn1,hn2⟩:=rE sp s (v1,v2) hw (List.Sublist.refl _);dsimp only at e1 e2;subst e1;subst e2;obtain⟨g2,rfl⟩:=hg2 hp
 have hI:af D w v l:=hw.get (p:=fun w=>af D w v l) FZ
 obtain⟨q,d,rfl,hl⟩:=hI.slice
 refine aj (l:=[_,_]) Tryz.func85 rfl Tryz.ntmps85 rfl (Ok.bV hw) ?_
 unfold dh
 obtain⟨r,hr⟩:∃r,fV s l.reverse s.ts.length=r:=⟨_,rfl⟩
 obtain⟨n,e⟩:=r
 have hlf:∀w',Ok (ax sp s (.slice p1 s.ts.length c1,.slice (some ⟨g2,0,none⟩) s.ps.length c2)) [fun w=>af D w (.slice q l.length d) l] w'→Calls G.P 133 #[.pointer (some ⟨sp,0,none⟩),.slice q l.length d] w' fun ee w''=>ee=.returned (.tuple #[.int .i64 (n:Nat),.int .i64 e])∧Ext w' w'':=fun w' hw'=>by
  have:=oZ D sp s _ _ l w' hw' hp h0 hle
  rw[hr]at this;exact this
 have hwk:aO s l=if e=0 then({s with ts:=s.ts.take n},0)else(s,e):=by unfold aO;rw[hr]
 have hnl:e=0→n≤s.ts.length:=fun h=>by
  have:=jn l.reverse s.ts.length hle (by rw[hr];exact h)
  rw[hr]at this;exact this.2
 rw[hwk]
 generalize hS:Mb (ax sp s (.slice p1 s.ts.length c1,.slice (some ⟨g2,0,none⟩) s.ps.length c2))=S0;unfold ax;dsimp only
 repeat'(first|refine ay ?_|refine Fg ?_|(refine aa.ak (f:=133) ?_;refine aa.az rfl rfl rfl (fun w' hw'=>hlf w' (hw'.sub (List.Sublist.refl _) aX)) ?_)|(refine aa.y_ (Yl.ck (i:=n) rfl rfl rfl rfl rfl rfl (Nat.le_trans (hnl hc_) hcap)) rfl ?_)|(refine aY ?_ ?_<;>intro hc_))
 ·subst hc_
  rw[if_pos rfl]
  dsimp only
  refine ai.jM n bM (hnl rfl) ?_
  exact ai.aA rfl rfl fun w' hw'=>by
   have hn:=hnl rfl
   refine aq.mZ (x:=(_,_)) trivial hS hw' (gx rfl rfl rfl (by simp;omega) (by simp[aR,List.map_take]) rfl rfl rfl) ao
 ·rw[if_neg hc_]
  dsimp only
  exact gt
theorem m4:∀(l:List (Int×Bool)) (k:Nat),(bw l).take (k*2)=bw (l.take k)
 |[],k=>by simp[bw]
 |a::r,0=>by simp[bw]
 |a::r,k+1=>by
  have ih:=m4 r k
  have e:(k+1)*2=k*2+2:=by omega
  show((ka a)++bw r).take ((k+1)*2)=ka a++bw (r.take k)
  rw[←ih,e]
  simp[ka]
theorem oE:∀(l:List (Int×Bool)) (k:Nat) (b:Bool),(bw l).set (k*2+1) (.bool b)=bw (l.set k ((ix l k).1,b))
 |[],k,b=>by simp[bw]
 |a::r,0,b=>by
  show((ka a)++bw r).set 1 (.bool b)=ka (a.1,b)++bw r
  rfl
 |a::r,k+1,b=>by
  have ih:=oE r k b
  have e:(k+1)*2+1=k*2+1+1+1:=by omega
  show((ka a)++bw r).set ((k+1)*2+1) (.bool b)=ka a++bw (r.set k ((ix (a::r) (k+1)).1,b))
  rw[show ix (a::r) (k+1)=ix r k from by simp[ix],←ih,e]
  rfl
theorem tZ (l:List (Int×Bool)) (a:Int×Bool):bw (l++[a])=bw l++ka a:=by unfold bw;rw[List.flatMap_append];simp
set_option maxHeartbeats 4000000 in
theorem oX (sp:Nat) (s:cU) (x:Value×Value) (w:World) (hw:Ok (ax sp s x) [] w) (hp:0<s.ps.length) (hpl:s.ps.length≤1000000):
  Calls G.P 50 #[.pointer (some ⟨sp,0,none⟩)] w (dh sp s x (.tuple #[]) (eM s) w):=by
 obtain⟨v1,v2⟩:=x;obtain⟨⟨p1,c1,e1,hcap,hg1⟩,⟨p2,c2,e2,hg2⟩,hn1,hn2⟩:=rE sp s (v1,v2) hw (List.Sublist.refl _);dsimp only at e1 e2;subst e1;subst e2;obtain⟨g2,rfl⟩:=hg2 hp
 refine aj (l:=[_]) Tryz.func50 rfl Tryz.ntmps50 rfl (Ok.bV hw) ?_
 unfold dh
 generalize hS:Mb (ax sp s (.slice p1 s.ts.length c1,.slice (some ⟨g2,0,none⟩) s.ps.length c2))=S0;unfold ax;dsimp only
 repeat'(first|refine ay ?_|refine Fg ?_|fail)
 refine aP.cq [0,1,2,3,4,5,6,7,8,9,10,11,12,13,14] 15 [.aH sp [.slice p1 s.ts.length c1,.slice (some ⟨g2,0,none⟩) s.ps.length c2,.bool (cE s)] fH,.own 0 eV 1 (.slice p1 s.ts.length c1) s.ts.length (aR s.ts)] [] FT bN aX ?_
 refine jA ?_
 refine EA ?_
 intro b3 _
 refine EB ?_
 intro v2 _
 refine aM.pure (φ:=∃p c,v2=.slice p (s.ps.length+1) c) (fun w' hw'=>?_) ?_
 ·obtain⟨p,c,e,_⟩:=au (hw'.own (v:=v2));exact⟨p,c,e⟩
 rintro⟨p3,c3,rfl⟩
 refine jA ?_
 refine aM.gR (gI.dZ rfl rfl rfl rfl rfl bM lE) rfl ?_
 rintro⟨⟩ _
 refine dr ?_
 exact ai.km rfl fun w' hw'=>aq.mZ (x:=(_,_)) trivial hS (hw'.bT (M':=[.aH sp [.slice p1 s.ts.length c1,.slice p3 (s.ps.length+1) c3,.bool (cE s)] fH,.own 0 eV 1 (.slice p1 s.ts.length c1) s.ts.length (aR s.ts),.own 0 fG 2 (.slice p3 (s.ps.length+1) c3) (s.ps.length+1) _]) cM (fun _ h=>h)) (gx rfl rfl rfl rfl rfl (by simp[eM]) (by simp[eM,tZ];rfl) rfl) ao
set_option maxHeartbeats 4000000 in
theorem oY (D:Nat→Prop) (sp:Nat) (s:cU) (x:Value×Value) (v:Value) (l:List Int) (w:World) (hw:Ok (ax sp s x) [fun w=>af D w v l] w) (h2p:2≤s.ps.length) (h0:0≤s.at_) (hle:s.at_≤s.ts.length):
  Calls G.P 88 #[.pointer (some ⟨sp,0,none⟩),v] w (dh sp s x (.int .i64 (dv s l).2) (dv s l).1 w):=by
 have hp:0<s.ps.length:=by omega
 obtain⟨v1,v2⟩:=x;obtain⟨⟨p1,c1,e1,hcap,hg1⟩,⟨p2,c2,e2,hg2⟩,hn1,hn2⟩:=rE sp s (v1,v2) hw (List.Sublist.refl _);dsimp only at e1 e2;subst e1;subst e2;obtain⟨g2,rfl⟩:=hg2 hp
 have hcap2:s.ps.length≤c2:=by
  obtain⟨p',c',e,h,-⟩:=au (show w.ownsRow 0 fG 2 (.slice (some ⟨g2,0,none⟩) s.ps.length c2) s.ps.length (bw s.ps)from(hw.m (.own 0 fG 2 (.slice (some ⟨g2,0,none⟩) s.ps.length c2) s.ps.length (bw s.ps)) (by simp[ax])).1)
  cases e;exact h
 have hI:af D w v l:=hw.get (p:=fun w=>af D w v l) FZ
 obtain⟨q,d,rfl,hl⟩:=hI.slice
 have a1:(bw s.ps)[(s.ps.length - 1)*2]?=some (.int .i64 s.at_):=(ju (l:=s.ps) (i:=s.ps.length - 1) FY).1
 refine aj (l:=[_,_]) Tryz.func88 rfl Tryz.ntmps88 rfl (Ok.bV hw) ?_
 unfold dh
 obtain⟨r,hr⟩:∃r,fV s l.reverse s.ts.length=r:=⟨_,rfl⟩
 obtain⟨n,e⟩:=r
 have hlf:∀w',Ok (ax sp s (.slice p1 s.ts.length c1,.slice (some ⟨g2,0,none⟩) s.ps.length c2)) [fun w=>af D w (.slice q l.length d) l] w'→Calls G.P 133 #[.pointer (some ⟨sp,0,none⟩),.slice q l.length d] w' fun ee w''=>ee=.returned (.tuple #[.int .i64 (n:Nat),.int .i64 e])∧Ext w' w'':=fun w' hw'=>by
  have:=oZ D sp s _ _ l w' hw' hp h0 hle
  rw[hr]at this;exact this
 have hwk:dv s l=if e≠0 then(s,e)else if s.at_<n then(s,14)else({s with ts:=s.ts.take n,ps:=s.ps.take (s.ps.length - 1)},0):=by
  unfold dv;rw[hr];dsimp only;rw[if_neg (show¬s.ps.length=1 by omega)]
 have hnl:e=0→n≤s.ts.length:=fun h=>by
  have:=jn l.reverse s.ts.length hle (by rw[hr];exact h)
  rw[hr]at this;exact this.2
 rw[hwk]
 generalize hS:Mb (ax sp s (.slice p1 s.ts.length c1,.slice (some ⟨g2,0,none⟩) s.ps.length c2))=S0;unfold ax;dsimp only
 repeat'(first|refine ay ?_|refine uW ?_|(refine aa.ak (f:=133) ?_;refine aa.az rfl rfl rfl (fun w' hw'=>hlf w' (hw'.sub (List.Sublist.refl _) aX)) ?_)|(refine aa.bW ?_;refine aa.y_ (Yl.fB rfl rfl rfl rfl a1 gG) rfl ?_)|(refine aa.y_ (Yl.ck (i:=n) rfl rfl rfl rfl rfl rfl (Nat.le_trans (hnl FY) hcap)) rfl ?_)|(refine aY ?_ ?_<;>intro hc_))
 ·rw[if_pos hc_]
  dsimp only
  exact gt
 ·rw[if_neg FU,if_pos FU]
  dsimp only
  exact gt
 ·have hn:=hnl FY
  rw[if_neg FU,if_neg FU]
  dsimp only
  refine aP.cq [0,1,2,3,4,5,6,7,8,9,10,11,12,13] 14 _ _ FT (List.Sublist.refl _) (fun _ h=>h) ?_
  refine jA ?_
  refine aM.y_ (Yl.ck (i:=s.ps.length - 1) rfl rfl rfl rfl rfl FY FY) rfl ?_
  refine jA ?_
  refine aM.gR (gI.dZ rfl rfl rfl rfl rfl bM lE) rfl ?_
  rintro⟨⟩ _
  refine dr ?_
  refine ai.jM n bM hn ?_
  refine ai.jM (s.ps.length - 1) (bM (q:=.own 0 fG 2 _ _ _)) FY ?_
  exact ai.aA rfl rfl fun w' hw'=>aq.mZ (x:=(_,_)) trivial hS hw' (gx rfl rfl rfl (by simp;omega) (by simp[aR,List.map_take]) FZ (m4 _ _) rfl) ao
set_option maxHeartbeats 4000000 in
theorem sZ (sp:Nat) (s:cU) (x:Value×Value) (w:World) (hw:Ok (ax sp s x) [] w) (hp:0<s.ps.length) (h0:0≤s.at_) (hle:s.at_≤s.ts.length):
  Calls G.P 92 #[.pointer (some ⟨sp,0,none⟩)] w (dh sp s x (.tuple #[]) (fZ s) w):=by
 obtain⟨v1,v2⟩:=x;obtain⟨⟨p1,c1,e1,hcap,hg1⟩,⟨p2,c2,e2,hg2⟩,hn1,hn2⟩:=rE sp s (v1,v2) hw (List.Sublist.refl _);dsimp only at e1 e2;subst e1;subst e2;obtain⟨g2,rfl⟩:=hg2 hp
 have e0:(bw s.ps).set ((s.ps.length - 1)*2+1) (.bool true)=bw (s.ps.set (s.ps.length - 1) (s.at_,true)):=oE _ _ _
 have hsl:(s.ps.set (s.ps.length - 1) (s.at_,true)).length=s.ps.length:=List.length_set
 have a1:(bw (s.ps.set (s.ps.length - 1) (s.at_,true)))[(s.ps.length - 1)*2]?=some (.int .i64 s.at_):=by
  have:=(ju (l:=s.ps.set (s.ps.length - 1) (s.at_,true)) (i:=s.ps.length - 1) (by rw[hsl];omega)).1
  rw[this]
  congr 2
  rw[cI (by rw[hsl];omega)];simp
 refine aj (l:=[_]) Tryz.func92 rfl Tryz.ntmps92 rfl (Ok.bV hw) ?_
 unfold dh
 generalize hS:Mb (ax sp s (.slice p1 s.ts.length c1,.slice (some ⟨g2,0,none⟩) s.ps.length c2))=S0;unfold ax;dsimp only
 repeat'(first|refine ay ?_|refine uW ?_|fail)
 refine aa.nc (gI.Ac rfl rfl rfl rfl rfl rfl bM (by unfold bw;rw[gA ka (s:=2) (fun _=>rfl)];omega)) ?_
 rintro⟨⟩ _
 rw[e0]
 refine dr ?_
 refine aP.cq [0,1,2,3,4,5,6,7,8,9,10,11] 12 _ _ FT (List.Sublist.refl _) (fun _ h=>h) ?_
 refine jA ?_
 refine aM.y_ (Yl.fB rfl rfl rfl rfl a1 gG) rfl ?_
 refine jA ?_
 refine aM.y_ (Yl.ck (i:=s.at_.toNat) rfl rfl rfl rfl rfl FY FY) rfl ?_
 refine jA ?_
 refine aM.gR (gI.dZ rfl rfl rfl rfl rfl bM lE) rfl ?_
 rintro⟨⟩ _
 refine dr ?_
 refine ai.jM s.at_.toNat bM FY ?_
 exact ai.km rfl fun w' hw'=>aq.mZ (x:=(_,_)) trivial hS hw' (gx rfl rfl rfl (by simp[fZ];omega) (by simp[fZ,aR,List.map_take]) (by simp[fZ]) rfl rfl) ao
set_option maxHeartbeats 4000000 in
theorem kV (xs:List Int) (p:Option Addr) (c:Nat) (w:World) (hrd:xs.length=0∨∃bk o,p=some ⟨bk,o,none⟩∧∀j u,(aR xs)[j]?=some u→w.cell? ⟨bk,o+j,none⟩=some u) (hl:xs.length≤17592186044416):
  Calls G.P 45 #[.slice p xs.length c] w (aq [] w (fun u:Value=>u) (fun _=>True) (fun u=>[.own 0 eV 1 u xs.length (aR xs)])):=by
 refine aj (l:=[_]) Tryz.func45 rfl Tryz.ntmps45 rfl (Ok.start w) ?_
 repeat'(first|refine ay ?_|(refine aY ?_ ?_<;>intro hc_))
 ·have hp:p=none:=by cases p with|none=>rfl|some a=>cases hc_
  subst hp
  have h0:xs.length=0:=by
   rcases hrd with h|⟨bk,o,e,-⟩
   ·exact h
   ·cases e
  have hx:xs=[]:=List.eq_nil_of_length_eq_zero h0
  subst hx
  exact ai.aA rfl rfl fun w' hw'=>aq.tw (x:=Value.slice none 0 0) trivial (hw'.ia 0 eV 1) (by exact List.Sublist.refl _) ao
 ·refine EC ?_
  intro b _
  refine aa.s6 1 bM rfl (Nat.zero_le _) ?_
  refine dr ?_
  refine aa.he (HE.lL (aR xs) rfl rfl (fun _=>bM) (hrd.imp id fun⟨bk,o,e,h⟩=>⟨bk,o,e,fun w' hw' j u hj=>(show Ext w w' from hw'.at).cell (h j u hj)⟩) (by simp[aR]) rfl rfl rfl F0 F0 F0 (gB _) (by show(0+xs.length)*8≤_;omega) FY (fun _ _=>Nat.zero_le _)) rfl ?_
  intro u _
  simp only[Nat.zero_add,List.nil_append]
  refine dr ?_
  exact ai.aA rfl rfl fun w' hw'=>aq.tw (x:=u) trivial hw' bN ao
theorem wE (sp:Nat) (s:cU) (x:Value×Value) (w:World) (hw:Ok (ax sp s x) [] w) (hp:0<s.ps.length) (hl:s.ts.length≤17592186044416):
  Calls G.P 30 #[.pointer (some ⟨sp,0,none⟩)] w (aq [] w (fun u:Value=>u) (fun _=>True) (fun u=>[.own 0 eV 1 u s.ts.length (aR s.ts)])):=by
 obtain⟨v1,v2⟩:=x;obtain⟨⟨p1,c1,e1,hcap,hg1⟩,⟨p2,c2,e2,hg2⟩,hn1,hn2⟩:=rE sp s (v1,v2) hw (List.Sublist.refl _);dsimp only at e1 e2;subst e1;subst e2;obtain⟨g2,rfl⟩:=hg2 hp
 have k0:w.cell? ⟨sp,0,none⟩=some (.slice p1 s.ts.length c1):=hw.c1 (T:=fH) (cs:=[.slice p1 s.ts.length c1,.slice (some ⟨g2,0,none⟩) s.ps.length c2,.bool (cE s)]) Up.head rfl
 have k1:w.cell? ⟨sp,1,none⟩=some (.slice (some ⟨g2,0,none⟩) s.ps.length c2):=hw.c1 (T:=fH) (cs:=[.slice p1 s.ts.length c1,.slice (some ⟨g2,0,none⟩) s.ps.length c2,.bool (cE s)]) Up.head rfl
 have o1:w.ownsRow 0 eV 1 (.slice p1 s.ts.length c1) s.ts.length (aR s.ts):=(hw.m (.own 0 eV 1 (.slice p1 s.ts.length c1) s.ts.length (aR s.ts)) (by simp[ax])).1
 have hrd:s.ts.length=0∨∃bk o,p1=some ⟨bk,o,none⟩∧∀j u,(aR s.ts)[j]?=some u→w.cell? ⟨bk,o+j,none⟩=some u:=by
  by_cases h0:s.ts.length=0
  ·exact .inl h0
  ·obtain⟨g,rfl⟩:=hg1 FY
   exact .inr ⟨g,0,rfl,fun j u hj=>by rw[Nat.zero_add];exact dJ o1 hj⟩
 refine aj (l:=[_]) Tryz.func30 rfl Tryz.ntmps30 rfl (Ok.start w) ?_
 repeat'(first|refine ay ?_|refine Fc ?_|fail)
 refine aa.he (HE.nV (M0:=[]) rfl rfl (fun w' hw'=>kV s.ts p1 c1 w' (hrd.imp id fun⟨bk,o,e,h⟩=>⟨bk,o,e,fun j u hj=>(show Ext w w' from hw'.at).cell (h j u hj)⟩) hl)) rfl ?_
 intro u _
 refine dr ?_
 exact ai.aA rfl rfl fun w' hw'=>aq.tw (x:=u) trivial hw' (List.Sublist.refl _) ao
set_option maxHeartbeats 4000000 in
theorem wF (w:World):Calls G.P 49 #[] w (aq [] w (fun y:Nat×Value×Value=>.pointer (some ⟨y.1,0,none⟩)) (fun _=>True) (fun y=>ax y.1 ⟨[],[(0,false)],0⟩ y.2)):=by
 refine aj (l:=[]) Tryz.func49 rfl Tryz.ntmps49 rfl (Ok.start w) ?_
 repeat'(first|refine ay ?_|(refine fP fun b_ _=>?_)|(refine br fun b_=>?_)|fail)
 all_goals exact ai.aA rfl rfl fun w' hw'=>aq.tw (x:=(_,_,_)) trivial ((((hw'.s6 (s:=2) (len:=1) (Up.tail Up.head) rfl FN).ia 0 eV 1)).front (Rm.tail Rm.head)) (by exact List.Sublist.refl _) ao
structure mP where
 kind:Int
 par:List Int
 res:List Int
 other:Bool
 yu:Bool
 deriving Inhabited
structure dq where
 aF:cU
 fs:List mP
 results:List Int
 live:Bool
 broken:Int
def dq.top (c:dq):mP:=ix c.fs (c.fs.length - 1)
def iJ (results:List Int):dq:=⟨⟨[],[(0,false),(0,false)],0⟩,[⟨0,[],results,false,true⟩],results,true,0⟩
def lh (c:dq) (s:cU) (fs:List mP) (f:mP):dq:={c with aF:=fO (eM s) f.par,fs:=fs++[f],live:=f.yu}
def hO (c:dq) (op:Int) (par res:List Int):dq×Int:=
 if c.broken≠0 then(c,c.broken)else if op≠2∧op≠3∧op≠4 then(c,1)else if c.fs.length=0 then(c,16)else
  let a:=if op=4 then aO c.aF [1]else(c.aF,0)
  if a.2≠0 then({c with broken:=a.2},a.2)else
   let b:=aO a.1 par
   if b.2≠0 then({c with aF:=a.1,broken:=b.2},b.2)else(lh c b.1 c.fs ⟨op,par,res,false,c.live⟩,0)
def lP (c:dq):dq×Int:=
 if c.broken≠0 then(c,c.broken)else if c.fs.length=0∨c.top.kind≠4∨c.top.other=true then(c,16)else
  let a:=dv c.aF c.top.res
  if a.2≠0 then({c with broken:=a.2},a.2)else(lh c a.1 (c.fs.take (c.fs.length - 1)) {c.top with other:=true},0)
def jL (c:dq):dq×Int:=
 if c.broken≠0 then(c,c.broken)else if c.fs.length=0 then(c,16)else
  let a:=dv c.aF c.top.res
  if a.2≠0 then({c with broken:=a.2},a.2)else
   if c.top.kind=4∧c.top.other=false∧c.top.par≠c.top.res then({c with aF:=a.1,fs:=c.fs.take (c.fs.length - 1),broken:=12},12)else
    ({c with aF:=fO a.1 c.top.res,fs:=c.fs.take (c.fs.length - 1),live:=c.top.yu},0)
def bR (c:dq) (n:Int):List Int×Int:=
 if c.broken≠0 then([],c.broken)else if n<0∨c.fs.length≤n then([],15)else
  let f:=ix c.fs (c.fs.length - 1 - n.toNat)
  (if f.kind=3 then f.par else f.res,0)
def rj (c:dq):List Int:=if c.broken≠0 then[]else c.results
def fq (c:dq):dq:=if c.broken≠0∨c.fs.length=0 then c else{c with aF:=fZ c.aF,live:=false}
theorem cU.Bc {s:cU} {a:Int} {b:Bool} {r:List (Int×Bool)} (h:s.ps=r++[(a,b)]):s.at_=a∧s.loose=b:=by
 have e:ix s.ps (s.ps.length - 1)=(a,b):=by rw[h,List.length_append,List.length_singleton,Nat.add_sub_cancel,h9 (Nat.le_refl _),Nat.sub_self];rfl
 unfold cU.at_ cU.loose;rw[e];exact⟨rfl,rfl⟩
theorem cU.Ok.at_ {s:cU} (h:s.Ok):0≤s.at_∧s.at_≤s.ts.length:=by
 have:=h.some
 exact h.le _ FY
structure cU.Wf (s:cU):Prop where
 some:0<s.ps.length
 pos:∀i,i<s.ps.length→0≤(ix s.ps i).1
 mono:∀i j,i≤j→j<s.ps.length→(ix s.ps i).1≤(ix s.ps j).1
 top:s.at_≤s.ts.length
theorem cU.Wf.ok {s:cU} (h:s.Wf):s.Ok:=⟨h.some,fun i hi=>⟨h.pos i hi,by
 have:=h.mono i (s.ps.length - 1) FY FY
 have h2:(ix s.ps (s.ps.length - 1)).1≤s.ts.length:=h.top
 omega⟩⟩
theorem cU.Wf.at_ {s:cU} (h:s.Wf):0≤s.at_∧s.at_≤s.ts.length:=h.ok.at_
theorem lZ {s:cU} (h:s.Wf) (l:List Int):(fO s l).Wf:=⟨h.some,h.pos,h.mono,by have:=h.top;show s.at_≤((s.ts++l).length:Int);rw[List.length_append];omega⟩
theorem xV {s:cU} (h:s.Wf):(eM s).Wf:=by
 have e:(eM s).at_=(s.ts.length:Int):=(cU.Bc (s:=eM s) (a:=(s.ts.length:Int)) (b:=false) (r:=s.ps) rfl).1
 have e2:∀i,i<s.ps.length→ix (eM s).ps i=ix s.ps i:=fun i hi=>jm hi
 have e3:(ix (eM s).ps s.ps.length).1=(s.ts.length:Int):=by show(ix (s.ps++[((s.ts.length:Int),false)]) s.ps.length).1=_;rw[h9 (Nat.le_refl _),Nat.sub_self];rfl
 have hl:(eM s).ps.length=s.ps.length+1:=by simp[eM]
 refine⟨by rw[hl];omega,fun i hi=>?_,fun i j hij hj=>?_,by rw[e];exact Int.le_refl _⟩
 ·by_cases hlt:i<s.ps.length
  ·rw[e2 i hlt];exact h.pos i hlt
  ·have:i=s.ps.length:=by omega
   subst this;rw[e3];omega
 ·by_cases hlt:j<s.ps.length
  ·rw[e2 i FY,e2 j hlt];exact h.mono i j hij hlt
  ·have:j=s.ps.length:=by omega
   subst this
   rw[e3]
   by_cases hi:i<s.ps.length
   ·rw[e2 i hi];exact(h.ok.le i hi).2
   ·have:i=s.ps.length:=by omega
    subst this;rw[e3];exact Int.le_refl _
theorem ve {s:cU} (h:s.Wf) {n:Nat} (hn:s.at_≤n) (hl:n≤s.ts.length):({s with ts:=s.ts.take n}:cU).Wf:=⟨h.some,h.pos,h.mono,by show s.at_≤((s.ts.take n).length:Int);rw[List.length_take];omega⟩
theorem dp {s:cU} (h:s.Wf) (l:List Int):(aO s l).1.Wf:=by
 unfold aO
 dsimp only
 split
 ·rename_i h0
  have:=jn l.reverse s.ts.length h.top h0
  exact ve h this.1 this.2
 ·exact h
theorem ec (s:cU) (l:List Int):(aO s l).1.ps=s.ps:=by unfold aO;dsimp only;split<;>rfl
theorem jP {s:cU} (h:s.Wf):(aZ s).1.Wf:=by
 unfold aZ
 split
 ·exact ve h FY FY
 ·split<;>exact h
theorem vV {s:cU} (h:s.Wf):(fZ s).Wf:=by
 have h0:=h.some
 have e:∀i,i<s.ps.length→(ix (s.ps.set (s.ps.length - 1) (s.at_,true)) i).1=(ix s.ps i).1:=fun i hi=>by
  rw[cI (by simpa using hi),List.getElem_set,cI hi]
  split
  ·rename_i e;subst e
   show s.at_=_
   unfold cU.at_;rw[cI FY]
  ·rfl
 have ea:(fZ s).at_=s.at_:=by
  show(ix (s.ps.set (s.ps.length - 1) (s.at_,true)) ((s.ps.set (s.ps.length - 1) (s.at_,true)).length - 1)).1=_
  rw[List.length_set,e _ FY];rfl
 have hl:(fZ s).ps.length=s.ps.length:=List.length_set
 have h2:=h.at_
 refine⟨by rw[hl];exact h0,fun i hi=>?_,fun i j hij hj=>?_,?_⟩
 ·rw[hl]at hi
  show 0≤(ix (s.ps.set (s.ps.length - 1) (s.at_,true)) i).1
  rw[e i hi];exact h.pos i hi
 ·rw[hl]at hj
  show(ix (s.ps.set (s.ps.length - 1) (s.at_,true)) i).1≤(ix (s.ps.set (s.ps.length - 1) (s.at_,true)) j).1
  rw[e i FY,e j hj];exact h.mono i j hij hj
 ·rw[ea]
  show s.at_≤((s.ts.take s.at_.toNat).length:Int)
  rw[List.length_take];omega
theorem jK {α:Type} [Inhabited α] {l:List α} {n i:Nat} (hi:i<n) (hl:n≤l.length):ix (l.take n) i=ix l i:=by
 rw[cI FJ,cI FY];simp
theorem oT {s:cU} (h:s.Wf) (l:List Int):(dv s l).1.Wf:=by
 unfold dv
 dsimp only
 split
 ·exact h
 ·rename_i h0
  split
  ·exact h
  ·rename_i h1
   have h2:=jn l.reverse s.ts.length h.top FY
   have h3:=h.at_
   have h4:=h.some
   by_cases h5:s.ps.length=1
   ·rw[if_pos h5]
    refine⟨by simp,fun i hi=>?_,fun i j hij hj=>?_,?_⟩
    ·have:i=0:=by simpa using hi
     subst this;exact Int.le_refl _
    ·have:j=0:=by simpa using hj
     subst this
     have:i=0:=by omega
     subst this;exact Int.le_refl _
    ·show(0:Int)≤((s.ts.take _).length:Int);omega
   ·rw[if_neg h5]
    have hl:(s.ps.take (s.ps.length - 1)).length=s.ps.length - 1:=by rw[List.length_take];omega
    refine⟨by dsimp only;rw[hl];omega,fun i hi=>?_,fun i j hij hj=>?_,?_⟩
    ·dsimp only at hi ⊢;rw[hl]at hi;rw[jK hi FY];exact h.pos i FY
    ·dsimp only at hj ⊢;rw[hl]at hj;rw[jK hj FY,jK FY FY];exact h.mono i j hij FY
    ·show(ix (s.ps.take (s.ps.length - 1)) ((s.ps.take (s.ps.length - 1)).length - 1)).1≤((s.ts.take (fV s l.reverse s.ts.length).1).length:Int)
     rw[hl,jK FY FY]
     have h6:=h.mono (s.ps.length - 1 - 1) (s.ps.length - 1) FY FY
     have h7:(ix s.ps (s.ps.length - 1)).1=s.at_:=rfl
     rw[List.length_take];omega
theorem oS {s:cU} {l:List Int} (h:(dv s l).2=0):(dv s l).1.ps=if s.ps.length=1 then[(0,false)]else s.ps.take (s.ps.length - 1):=by
 unfold dv at h ⊢
 dsimp only at h ⊢
 split at h
 ·contradiction
 ·rename_i h0
  rw[if_neg h0]
  split at h
  ·cases h
  ·rename_i h1
   rw[if_neg h1]
structure rL (fs:List mP):Prop where
 kinds:∀i,i<fs.length→(ix fs i).kind=0∨(ix fs i).kind=2∨(ix fs i).kind=3∨(ix fs i).kind=4
 other:∀i,i<fs.length→(ix fs i).other=true→(ix fs i).kind=4
 first:0<fs.length→(ix fs 0).yu=true∧(ix fs 0).kind=0
theorem rL.snoc {fs:List mP} {f:mP} (h:rL fs) (hk:f.kind=0∨f.kind=2∨f.kind=3∨f.kind=4) (ho:f.other=true→f.kind=4) (hw:0<fs.length):rL (fs++[f]):=by
 have hl:(fs++[f]).length=fs.length+1:=by simp
 have e:∀i,i<fs.length→ix (fs++[f]) i=ix fs i:=fun i hi=>jm hi
 have e2:ix (fs++[f]) fs.length=f:=by rw[h9 (Nat.le_refl _),Nat.sub_self];rfl
 refine⟨fun i hi=>?_,fun i hi=>?_,fun _=>by rw[e 0 hw];exact h.first hw⟩
 ·by_cases hlt:i<fs.length
  ·rw[e i hlt];exact h.kinds i hlt
  ·have:i=fs.length:=by omega
   subst this;rw[e2];exact hk
 ·by_cases hlt:i<fs.length
  ·rw[e i hlt];exact h.other i hlt
  ·have:i=fs.length:=by omega
   subst this;rw[e2];exact ho
theorem rL.take {fs:List mP} (h:rL fs) {n:Nat} (hn:n≤fs.length):rL (fs.take n):=by
 have hl:(fs.take n).length=n:=by rw[List.length_take];omega
 refine⟨fun i hi=>?_,fun i hi=>?_,fun h0=>?_⟩
 ·rw[hl]at hi;rw[jK hi hn];exact h.kinds i FY
 ·rw[hl]at hi;rw[jK hi hn];exact h.other i FY
 ·rw[hl]at h0;rw[jK h0 hn];exact h.first FY
structure dq.Wf (c:dq):Prop where
 aF:c.aF.Wf
 many:c.aF.ps.length=c.fs.length+1
 fr:rL c.fs
 ended:c.fs.length=0→c.live=true
theorem zf (r:List Int):(iJ r).Wf:=by
 refine⟨⟨by simp[iJ],fun i hi=>?_,fun i j hij hj=>?_,show(0:Int)≤0 from Int.le_refl _⟩,rfl,⟨fun i hi=>?_,fun i hi h=>?_,fun _=>⟨rfl,rfl⟩⟩,fun h=>by simp[iJ]at h⟩
 ·have:i=0∨i=1:=by simp[iJ]at hi;omega
  rcases this with rfl|rfl<;>simp[iJ,ix]
 ·have:(i=0∨i=1)∧(j=0∨j=1):=by simp[iJ]at hj;omega
  obtain⟨rfl|rfl,rfl|rfl⟩:=this<;>simp[iJ,ix]
 ·have:i=0:=by simp[iJ]at hi;exact hi
  subst this;exact .inl rfl
 ·have:i=0:=by simp[iJ]at hi;exact hi
  subst this;cases h
theorem pT {c:dq} {s:cU} {fs:List mP} {f:mP} (hs:s.Wf) (hm:s.ps.length=fs.length+1) (hf:rL (fs++[f])):(lh c s fs f).Wf:=
 ⟨lZ (xV hs) _,by show(s.ps++[((s.ts.length:Int),false)]).length=(fs++[f]).length+1;simp[hm],hf,fun h=>by have h':(fs++[f]).length=0:=h;simp at h'⟩
theorem vD {c:dq} (h:c.Wf) (op:Int) (par res:List Int):(hO c op par res).1.Wf:=by
 unfold hO
 split
 ·exact h
 ·split
  ·exact h
  ·rename_i hop
   split
   ·exact h
   ·rename_i hn
    have ha:(if op=4 then aO c.aF [1]else(c.aF,0)).1.Wf∧(if op=4 then aO c.aF [1]else(c.aF,0)).1.ps=c.aF.ps:=by
     split
     ·exact⟨dp h.aF _,ec _ _⟩
     ·exact⟨h.aF,rfl⟩
    revert ha
    generalize (if op=4 then aO c.aF [1]else(c.aF,0))=a
    intro ha
    dsimp only
    split
    ·exact⟨h.aF,h.many,h.fr,h.ended⟩
    ·split
     ·exact⟨ha.1,by show a.1.ps.length=_;rw[ha.2];exact h.many,h.fr,h.ended⟩
     ·exact pT (dp ha.1 _) (by rw[ec,ha.2];exact h.many) (h.fr.snoc FP (fun h=>by cases h) FY)
theorem xy {c:dq} (h:c.Wf):(lP c).1.Wf:=by
 unfold lP
 split
 ·exact h
 ·split
  ·exact h
  ·rename_i hb hn
   simp only[not_or,Bool.not_eq_true]at hn
   obtain⟨h0,h4,h5⟩:=hn
   have h4':c.top.kind=4:=by omega
   dsimp only
   split
   ·exact⟨h.aF,h.many,h.fr,h.ended⟩
   ·rename_i he
    have hl:1<c.fs.length:=by
     rcases Nat.lt_or_ge 1 c.fs.length with h1|h1
     ·exact h1
     ·have h6:c.fs.length - 1=0:=by omega
      have:=(h.fr.first FY).2
      have h7:(ix c.fs (c.fs.length - 1)).kind=4:=h4'
      rw[h6]at h7;omega
    refine pT (oT h.aF _) ?_ ?_
    ·have hm:=h.many
     rw[oS FY,if_neg FY,List.length_take,List.length_take];omega
    ·exact(h.fr.take FY).snoc (.inr (.inr (.inr h4'))) (fun _=>h4') FJ
theorem vT {c:dq} (h:c.Wf):(jL c).1.Wf:=by
 unfold jL
 split
 ·exact h
 ·split
  ·exact h
  ·rename_i hb h0
   dsimp only
   have hm:=h.many
   split
   ·exact⟨h.aF,h.many,h.fr,h.ended⟩
   ·rename_i he
    have hps:(dv c.aF c.top.res).1.ps.length=c.fs.length:=by
     rw[oS FY,if_neg FY,List.length_take];omega
    have hfl:(c.fs.take (c.fs.length - 1)).length=c.fs.length - 1:=by rw[List.length_take];omega
    split
    ·rename_i hk
     refine⟨oT h.aF _,by show(dv c.aF c.top.res).1.ps.length=(c.fs.take (c.fs.length - 1)).length+1;omega,h.fr.take FY,fun hz=>?_⟩
     have hz':(c.fs.take (c.fs.length - 1)).length=0:=hz
     have h6:c.fs.length - 1=0:=by omega
     have h7:(ix c.fs (c.fs.length - 1)).kind=4:=hk.1
     rw[h6]at h7
     have:=(h.fr.first FY).2
     omega
    ·refine⟨lZ (oT h.aF _) _,by show(dv c.aF c.top.res).1.ps.length=(c.fs.take (c.fs.length - 1)).length+1;omega,h.fr.take FY,fun hz=>?_⟩
     have hz':(c.fs.take (c.fs.length - 1)).length=0:=hz
     have h6:c.fs.length - 1=0:=by omega
     show(ix c.fs (c.fs.length - 1)).yu=true
     rw[h6];exact(h.fr.first FY).1
theorem xw {c:dq} (h:c.Wf):(fq c).Wf:=by
 unfold fq
 split
 ·exact h
 ·rename_i hn
  simp only[not_or]at hn
  exact⟨vV h.aF,by show(c.aF.ps.set _ _).length=_;rw[List.length_set];exact h.many,h.fr,fun hz=>absurd hz hn.2⟩
abbrev fl:Nat:=132
abbrev m8:Nat:=143
def aU.iy {β:Type} (V:(Nat→Prop)→World→β→Prop) (hV:Aj V) (D:Nat→Prop) (x:β):aU:=⟨D,fun w=>V D w x,fun h hc hd=>hV h hc hd⟩
def fg (D:Nat→Prop) (w:World) (L:List (aC×Value×Value)):Prop:=∀y∈L,eO y.1 D w y.2
theorem fg.fr:Aj fg:=fun h hc hd y hy=>eO.fr y.1 (h y hy) hc hd
structure fJ where
 sp:Nat
 tv:Value
 pv:Value
 bv:Value
 rv:Value
 fv:List (Value×Value)
 D:Nat→Prop
 L:List (aC×Value×Value)
def eH (f:mP) (x:Value×Value):List Value:=[.int .i64 f.kind,x.1,x.2,.bool f.other,.bool f.yu]
def cH:List mP→List (Value×Value)→List Value
 |f::r,x::s=>eH f x++cH r s
 |_,_=>[]
abbrev mP.fn (f:mP):aC:=⟨f.par,f.res⟩
structure fJ.Good (v:fJ) (c:dq):Prop where
 len:v.fv.length=c.fs.length
 fr:∀i,i<c.fs.length→((ix c.fs i).fn,ix v.fv i)∈v.L
 rs:(⟨[],c.results⟩,.slice none 0 0,v.rv)∈v.L
def aw (cp:Nat) (c:dq) (v:fJ):List aU:=.aH cp [.pointer (some ⟨v.sp,0,none⟩),v.bv,v.rv,.bool c.live,.int .i64 c.broken] fl::(ax v.sp c.aF (v.tv,v.pv)++[.own 0 m8 5 v.bv c.fs.length (cH c.fs v.fv),.iy fg fg.fr v.D v.L])
structure pO (cp:Nat) (c:dq) (v:fJ) (w:World):Prop where
 b:eA w cp [.pointer (some ⟨v.sp,0,none⟩),v.bv,v.rv,.bool c.live,.int .i64 c.broken] fl
 o:w.ownsRow 0 m8 5 v.bv c.fs.length (cH c.fs v.fv)
 l:fg v.D w v.L
theorem Ok.uM {cp:Nat} {c:dq} {v:fJ} {M:List aU} {R:List (World→Prop)} {w:World} (h:Ok M R w) (hM:(aw cp c v).Sublist M):pO cp c v w:=
 ⟨(h.m (.aH cp _ fl) (hM.subset (by simp[aw]))).1,(h.m (.own 0 m8 5 v.bv c.fs.length (cH c.fs v.fv)) (hM.subset (by simp[aw]))).1,(h.m (.iy fg fg.fr v.D v.L) (hM.subset (by simp[aw]))).1⟩
theorem jl:∀(fs:List mP) (fv:List (Value×Value)) (i j:Nat),fv.length=fs.length→i<fs.length→j<5→(cH fs fv)[i*5+j]?=(eH (ix fs i) (ix fv i))[j]?
 |[],_,i,j,_,h,_=>by simp at h
 |f::r,[],i,j,h,_,_=>by simp at h
 |f::r,x::s,0,j,_,_,hj=>by
  show(eH f x++cH r s)[0*5+j]?=_
  rw[Nat.zero_mul,Nat.zero_add,List.getElem?_append_left (by simp[eH];omega)]
  rfl
 |f::r,x::s,i+1,j,h,hi,hj=>by
  have ih:=jl r s i j FS (by simpa using hi) hj
  show(eH f x++cH r s)[(i+1)*5+j]?=_
  rw[List.getElem?_append_right (by simp[eH];omega),show(i+1)*5+j - (eH f x).length=i*5+j from by simp[eH];omega,ih]
  simp[ix]
theorem qe:∀(fs:List mP) (fv:List (Value×Value)) (f:mP) (x:Value×Value),fv.length=fs.length→cH (fs++[f]) (fv++[x])=cH fs fv++eH f x
 |[],[],f,x,_=>by simp[cH]
 |[],y::s,_,_,h=>by simp at h
 |g::r,[],_,_,h=>by simp at h
 |g::r,y::s,f,x,h=>by
  show eH g y++cH (r++[f]) (s++[x])=eH g y++cH r s++eH f x
  rw[qe r s f x FS,List.append_assoc]
theorem nZ:∀(fs:List mP) (fv:List (Value×Value)) (k:Nat),fv.length=fs.length→(cH fs fv).take (k*5)=cH (fs.take k) (fv.take k)
 |[],[],k,_=>by simp[cH]
 |[],y::s,_,h=>by simp at h
 |g::r,[],_,h=>by simp at h
 |g::r,y::s,0,h=>by simp[cH]
 |g::r,y::s,k+1,h=>by
  have ih:=nZ r s k FS
  show(eH g y++cH r s).take ((k+1)*5)=eH g y++cH (r.take k) (s.take k)
  rw[←ih,show(k+1)*5=(eH g y).length+k*5 from by simp[eH];omega,List.take_length_add_append]
theorem pX (cp:Nat) (a:Addr) (w:World) (h:w.cell? ⟨cp,0,none⟩=some (.pointer (some a))):Calls G.P 43 #[.pointer (some ⟨cp,0,none⟩)] w fun e w'=>e=.returned (.bool true)∧Ext w w':=by
 refine aj (l:=[_]) Tryz.func43 rfl Tryz.ntmps43 rfl (Ok.start w) ?_
 repeat'(first|refine ay ?_|(refine aa.an ?_;refine aa.y_ (Yl.xN Tryz.underlying78 rfl rfl) rfl ?_)|(refine aa.an ?_;refine aa.yg (by first|rfl|fail) (Yl.xN Tryz.underlying109 rfl rfl) rfl ?_)|fail)
 all_goals exact ii
theorem eh (cp:Nat) (a:Addr) (e0:Int) (w:World) (h:w.cell? ⟨cp,0,none⟩=some (.pointer (some a))) (h4:w.cell? ⟨cp,4,none⟩=some (.int .i64 e0)):Calls G.P 42 #[.pointer (some ⟨cp,0,none⟩)] w fun e w'=>e=.returned (.int .i64 e0)∧Ext w w':=by
 refine aj (l:=[_]) Tryz.func42 rfl Tryz.ntmps42 rfl (Ok.start w) ?_
 repeat'(first|refine ay ?_|(refine aa.ak (f:=43) ?_;refine aa.az rfl rfl rfl (fun w' hw'=>pX cp a w' ((show Ext w w' from hw'.at).cell h)) ?_)|fail)
 all_goals exact ii
theorem da (cp:Nat) (a:Addr) (w:World) (h:w.cell? ⟨cp,0,none⟩=some (.pointer (some a))):Calls G.P 29 #[.pointer (some ⟨cp,0,none⟩)] w fun e w'=>e=.returned (.pointer (some a))∧Ext w w':=by
 refine aj (l:=[_]) Tryz.func29 rfl Tryz.ntmps29 rfl (Ok.start w) ?_
 repeat'(first|refine ay ?_|(refine aa.ak (f:=43) ?_;refine aa.az rfl rfl rfl (fun w' hw'=>pX cp a w' ((show Ext w w' from hw'.at).cell h)) ?_)|fail)
 all_goals exact ii
theorem uX {g g':Prop} (h:g') (hw:dP g'→g:=by(intro hk_;(first|(refine aa.ak (f:=42) ?_;refine aa.az rfl rfl rfl (fun w' hw'=>eh cp ⟨v.sp,0,none⟩ c.broken w' ((show Ext w w' from hw'.at).cell k0) ((show Ext w w' from hw'.at).cell k4)) ?_));exact hk_.out)):g:=hw ⟨h⟩
theorem vC (cp:Nat) (c:dq) (v:fJ) (w:World) (h:pO cp c v w) (hb:c.broken=0):Calls G.P 28 #[.pointer (some ⟨cp,0,none⟩)] w fun e w'=>e=.returned (.bool c.live)∧Ext w w':=by
 have k0:=h.b.cell (j:=0) rfl
 have k3:=h.b.cell (j:=3) rfl
 have k4:=h.b.cell (j:=4) rfl
 refine aj (l:=[_]) Tryz.func28 rfl Tryz.ntmps28 rfl (Ok.start w) ?_
 repeat'(first|refine ay ?_|refine uX ?_|fail)
 all_goals first|omega|exact ai.aA rfl rfl fun w' hw'=>⟨by rfl,hw'.at⟩
inductive k9:List aU→List aU→List aU→Prop
 |nil {M:List aU}:k9 [] M M
 |cons {q:aU} {M M1 M0 Mr:List aU} (hr:Rm q M M1) (h:k9 M0 M1 Mr):k9 (q::M0) M Mr
theorem k9.perm {M0 M Mr:List aU} (h:k9 M0 M Mr):M.Perm (M0++Mr):=by
 induction h with
 |nil=>exact List.Perm.refl _
 |cons hr _ ih=>exact hr.perm.trans (ih.cons _)
theorem cv {M0 M Mr:List aU} (h:k9 M0 M Mr:=by(repeat(first|exact k9.nil|(apply k9.cons;·(repeat(first|with_reducible exact Rm.head|apply Rm.tail)))))):k9 M0 M Mr:=h
section
variable {n:Nat} {E:Env} {M M0 Mr:List aU} {R:List (World→Prop)} {β:Type} {tf:β→Value} {φ:β→Prop} {M1:β→List aU} {f:Nat} {args:List Operand} {tys:Array TypeId} {vs:List Value}
theorem HE.aS (hr:k9 M0 M Mr) (hf:G.fb[f]?=some true) (ha:ji E args=some vs)
  (hc:∀w,Ok M R w→Calls G.P f vs.toArray w (aq M0 w tf φ M1)):HE n (.call ⟨.value (.func f),args.toArray,tys⟩) E M R φ tf (fun x=>M1 x++Mr) (fun _=>R):=
 HE.call tf hf ha fun w hw=>(hc w hw).mono fun _e _w' ⟨x,e1,h1,h2,h3,h4⟩=>⟨x,e1,h1,(hw.perm hr.perm).frame h2 h3 h4⟩
end
theorem oa {D:Nat→Prop} {w:World} {p:Option Addr} {n c:Nat} {xs:List Int} (h:af D w (.slice p n c) xs):xs.length=0∨∃bk o,p=some ⟨bk,o,none⟩∧∀j u,(aR xs)[j]?=some u→w.cell? ⟨bk,o+j,none⟩=some u:=by
 obtain⟨p',c',e,hl,h⟩:=h
 cases e
 rcases h with h|⟨b,o,rfl,hF,h⟩
 ·exact .inl (by rw[h];rfl)
 ·refine .inr ⟨b,o,rfl,fun j u hj=>?_⟩
  have hj':j<xs.length:=by have:=(List.getElem?_eq_some_iff.1 hj).1;simpa[aR]using this
  rw[h j hj',←hj]
  unfold aR
  rw[List.getElem?_map,gq hj'];rfl
theorem cK {D:Nat→Prop} (xs:List Int) (v:Value) (w:World) (h:af D w v xs):
  Calls G.P 45 #[v] w (aq [] w (fun u:Value=>u) (fun _=>True) (fun u=>[.own 0 eV 1 u xs.length (aR xs)])):=by
 obtain⟨p,c,rfl,hl⟩:=h.slice
 exact kV xs p c w (oa h) hl
def fK {β:Type} (w:World) (tf:β→Value) (M1:β→List aU):Ending→World→Prop:=aq [] w tf (fun _=>True) M1
theorem iK (cp:Nat) (c:dq) (v:fJ) (w:World) (h:pO cp c v w) (hg:v.Good c) (hb:c.broken=0):Calls G.P 93 #[.pointer (some ⟨cp,0,none⟩)] w (fK w (fun u:Value=>u) (fun u=>[.own 0 eV 1 u c.results.length (aR c.results)])):=by
 have k0:=h.b.cell (j:=0) rfl
 have k2:=h.b.cell (j:=2) rfl
 have k4:=h.b.cell (j:=4) rfl
 have hI:=(h.l _ hg.rs).2
 dsimp only at hI
 unfold fK
 refine aj (l:=[_]) Tryz.func93 rfl Tryz.ntmps93 rfl (Ok.start w) ?_
 repeat'(first|refine ay ?_|refine uX ?_|fail)
 all_goals first|omega|skip
 refine aa.he (HE.nV (M0:=[]) rfl rfl (fun w' hw'=>cK c.results v.rv w' (hI.aB (show Ext w w' from hw'.at) (fun _ _ _ h=>h)))) rfl ?_
 intro u _
 refine dr ?_
 exact ai.aA rfl rfl fun w' hw'=>aq.tw (x:=u) trivial hw' (List.Sublist.refl _) ao
set_option maxHeartbeats 8000000 in
theorem ly (cp:Nat) (c:dq) (v:fJ) (n:Int) (w:World) (h:pO cp c v w) (hg:v.Good c) (hb:c.broken=0):Calls G.P 94 #[.pointer (some ⟨cp,0,none⟩),.int .i64 n] w (fK w (fun u:Value=>.tuple #[u,.int .i64 (bR c n).2]) (fun u=>[.own 0 eV 1 u (bR c n).1.length (aR (bR c n).1)])):=by
 have k0:=h.b.cell (j:=0) rfl
 have k1:=h.b.cell (j:=1) rfl
 have k4:=h.b.cell (j:=4) rfl
 obtain⟨p,cc,e,hcp,hmx,hgg⟩:=au h.o
 unfold maxLen at hmx
 have ho:=h.o
 rw[e]at k1 ho
 unfold fK bR
 rw[if_neg FY]
 by_cases hr:n<0∨c.fs.length≤n
 ·rw[if_pos hr]
  refine aj (l:=[_,_]) Tryz.func94 rfl Tryz.ntmps94 rfl (Ok.start w) ?_
  repeat'(first|refine ay ?_|refine uX ?_|(refine aY ?_ ?_<;>intro hc_))
  all_goals first|omega|exact ai.gb rfl rfl rfl fun w' hw'=>aq.tw (x:=Value.slice none 0 0) trivial (hw'.ia 0 eV 1) (List.Sublist.refl _) ao
 ·rw[if_neg hr]
  dsimp only
  obtain⟨k,rfl⟩:=Int.eq_ofNat_of_zero_le (show 0≤n by omega)
  obtain⟨g,rfl,-⟩:=hgg FY
  have hi:c.fs.length - 1 - k<c.fs.length:=by omega
  rw[Int.toNat_natCast]
  obtain⟨i,hie⟩:∃i,i=c.fs.length - 1 - k:=⟨_,rfl⟩
  rw[←hie]at hi ⊢
  have hfr:=h.l _ (hg.fr i hi)
  have hc5:∀j,j<5→w.cell? ⟨g,0+i*5+j,none⟩=(eH (ix c.fs i) (ix v.fv i))[j]?:=fun j hj=>by
   have h5:=jl c.fs v.fv i j hg.len hi hj
   have hlt:j<(eH (ix c.fs i) (ix v.fv i)).length:=hj
   rw[List.getElem?_eq_getElem hlt]at h5 ⊢
   rw[Nat.zero_add]
   exact dJ ho h5
  generalize ix c.fs i=f at*
  generalize ix v.fv i=x at*
  obtain⟨x1,x2⟩:=x
  obtain⟨q1,q2⟩:=hfr
  dsimp only[mP.fn]at q1 q2
  obtain⟨u1,d1,rfl,-⟩:=q1.slice
  obtain⟨u2,d2,rfl,-⟩:=q2.slice
  dsimp only[eH]at hc5
  refine aj (l:=[_,_]) Tryz.func94 rfl Tryz.ntmps94 rfl (Ok.start w) ?_
  repeat'(first|refine ay ?_|refine uX ?_|(refine aY ?_ ?_<;>intro hc_))
  refine aP.du [] [Ext w] bN aX ?_
  repeat'(first|refine tx ?_|(refine aN.qy 12 rfl (Yl.idx (i:=i) rfl rfl rfl rfl rfl FY FY) ?_)|(refine aN.qy 13 rfl (Yl.gC rfl rfl rfl ao F0 F0 hc5) ?_)|(refine aK.AH m8 ?_;refine aK.he rfl rfl (HE.alloc (t:=m8) [.int .i64 0,.slice none 0 0,.slice none 0 0,.bool false,.bool false] rfl rfl) (fun _=>bN) (fun _=>aX) ?_;intro b_ _)|(refine aK.yX ?_;refine aK.nc rfl (gI.aL _ rfl rfl rfl rfl rfl rfl bM rfl) (fun _=>bN) (fun _=>aX) ?_;rintro⟨⟩ _)|refine aN.nil FR ?_|refine aN.any FR ?_|exact aE.fin rfl|refine aE.skip FR ?_|refine aE.go ?_ ?_)
  have hq1:=q1
  have hq2:=q2
  repeat'(first|refine ay ?_|(refine aY ?_ ?_<;>intro hc_))
  ·rw[if_pos hc_]
   refine aa.he (HE.nV (M0:=[]) rfl rfl (fun w' hw'=>cK f.par _ w' (q1.aB (show Ext w w' from hw'.at) (fun _ _ _ h=>h)))) rfl ?_
   intro u _
   dsimp only[List.cons_append,List.nil_append]
   refine dr ?_
   exact ai.gb rfl rfl rfl fun w' hw'=>aq.tw (x:=u) trivial hw' bN ao
  ·rw[if_neg hc_]
   refine aa.he (HE.nV (M0:=[]) rfl rfl (fun w' hw'=>cK f.res _ w' (q2.aB (show Ext w w' from hw'.at) (fun _ _ _ h=>h)))) rfl ?_
   intro u _
   dsimp only[List.cons_append,List.nil_append]
   refine dr ?_
   exact ai.gb rfl rfl rfl fun w' hw'=>aq.tw (x:=u) trivial hw' bN ao
theorem aq.lU {β:Type} {M0 M:List aU} {R:List (World→Prop)} {w w':World} {S0:Nat→Prop} {tf:β→Value} {φ:β→Prop} {M1:β→List aU} (x:β) (hφ:φ x) (hS:Mb M0=S0) (h:Ok M R w') (hM:gz (M1 x) M) (hR:bz S0 w∈R):aq M0 w tf φ M1 (.returned (tf x)) w':=by
 obtain⟨M2,hp⟩:=hM.perm
 exact aq.mZ x hφ hS (h.perm hp) (List.sublist_append_left _ _) hR
theorem Ok.merge {q1 q2 q:aU} {M:List aU} {R:List (World→Prop)} {w:World} (h:Ok (q1::q2::M) R w) (hF:∀k,q.F k→q1.F k∨q2.F k) (hP:q1.P w→q2.P w→q.P w):Ok (q::M) R w:=by
 have h1:=h.m q1 FZ
 have h2:=h.m q2 FZ
 have hd:=h.d
 rw[List.pairwise_cons,List.pairwise_cons]at hd
 refine h.step (bz.refl _ w) (fun x hx=>?_) (List.pairwise_cons.2 ⟨fun x hx k hk hk'=>?_,hd.2.2⟩) (fun k ⟨x,hx,hk⟩ _=>?_)
 ·rcases List.mem_cons.1 hx with rfl|hx
  ·exact⟨hP h1.1 h2.1,fun k hk=>(hF k hk).elim (h1.2 k) (h2.2 k)⟩
  ·exact h.m x (by simp[hx])
 ·rcases hF k hk with h|h
  ·exact hd.1 x (by simp[hx]) k h hk'
  ·exact hd.2.1 x hx k h hk'
 ·rcases List.mem_cons.1 hx with rfl|hx
  ·rcases hF k hk with h|h
   ·exact⟨q1,by simp,h⟩
   ·exact⟨q2,by simp,h⟩
  ·exact⟨x,by simp[hx],hk⟩
def nE (M0:List aU) (cp:Nat) (r:Value) (c':dq) (w:World):Ending→World→Prop:=aq M0 w (fun _:fJ=>r) (fun v'=>v'.Good c') (aw cp c')
theorem fJ.Good.mono {v v':fJ} {c c':dq} (h:v.Good c) (hfs:c'.fs=c.fs) (hrs:c'.results=c.results) (hfv:v'.fv=v.fv) (hrv:v'.rv=v.rv) (hL:∀y,y∈v.L→y∈v'.L):v'.Good c':=
 ⟨by rw[hfs,hfv];exact h.len,fun i hi=>by rw[hfs]at hi ⊢;rw[hfv];exact hL _ (h.fr i hi),by rw[hrs,hrv];exact hL _ h.rs⟩
set_option maxHeartbeats 8000000 in
theorem kF (cp:Nat) (c:dq) (v:fJ) (w:World) (hw:Ok (aw cp c v) [] w) (hg:v.Good c) (hb:c.broken=0) (hwf:c.Wf):Calls G.P 56 #[.pointer (some ⟨cp,0,none⟩)] w (nE (aw cp c v) cp (.tuple #[]) (fq c) w):=by
 obtain⟨sp,tv,pv,bv,rv,fv,D,L⟩:=v
 have hrd:=hw.uM (List.Sublist.refl _)
 obtain⟨p,cc,e,hcp,hmx,-⟩:=au hrd.o
 dsimp only at e
 subst e
 have hat:=hwf.aF.at_
 have hps:=hwf.aF.some
 refine aj (l:=[_]) Tryz.func56 rfl Tryz.ntmps56 rfl (Ok.bV hw) ?_
 unfold nE
 generalize hS:Mb (aw cp c ⟨sp,tv,pv,.slice p c.fs.length cc,rv,fv,D,L⟩)=S0
 dsimp only[aw,ax,List.cons_append,List.nil_append]
 by_cases h0:c.fs.length=0
 ·have e:fq c=c:=if_pos (.inr h0)
  rw[e]
  repeat'(first|refine ay ?_|refine Fe ?_|fail)
  all_goals first|omega|exact ai.yf rfl fun w' hw'=>aq.lU (x:=⟨sp,tv,pv,.slice p c.fs.length cc,rv,fv,D,L⟩) hg hS hw' FC ao
 ·have e:fq c={c with aF:=fZ c.aF,live:=false}:=if_neg (by rintro(h|h)<;>omega)
  rw[e]
  repeat'(first|refine ay ?_|refine Fe ?_|fail)
  all_goals first|omega|skip
  refine aa.he (HE.aS (M0:=[.aH sp [tv,pv,.bool (cE c.aF)] fH,.own 0 eV 1 tv c.aF.ts.length (aR c.aF.ts),.own 0 fG 2 pv c.aF.ps.length (bw c.aF.ps)]) cv rfl rfl (fun w' hw'=>sZ sp c.aF (tv,pv) w' (hw'.bT cM (fun p h=>by cases h)) hps hat.1 hat.2)) rfl ?_
  rintro⟨tv2,pv2⟩ _
  dsimp only[aw,ax,List.cons_append,List.nil_append]
  repeat'(first|refine ay ?_|fail)
  exact ai.km rfl fun w' hw'=>aq.lU (x:=⟨sp,tv2,pv2,.slice p c.fs.length cc,rv,fv,D,L⟩) (hg.mono rfl rfl rfl rfl (fun _ h=>h)) hS hw' FC ao
theorem fA (cp:Nat) (a b r l e0:Value) (e:Int) (w:World) (hw:Ok [.aH cp [a,b,r,l,e0] fl] [] w):Calls G.P 86 #[.pointer (some ⟨cp,0,none⟩),.int .i64 e] w (aq [.aH cp [a,b,r,l,e0] fl] w (fun _:Unit=>.int .i64 e) (fun _=>True) (fun _=>[.aH cp [a,b,r,l,.int .i64 e] fl])):=by
 refine aj (l:=[_,_]) Tryz.func86 rfl Tryz.ntmps86 rfl (Ok.bV hw) ?_
 repeat'(first|refine ay ?_|fail)
 exact ai.aA rfl rfl fun w' hw'=>aq.lU (x:=()) trivial rfl hw' cM ao
end Go.Proofs.YtceedealggognaaGreatDoor
