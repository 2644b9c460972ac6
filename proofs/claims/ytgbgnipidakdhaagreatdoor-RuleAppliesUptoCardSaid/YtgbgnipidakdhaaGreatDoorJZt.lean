/- law08.Few and law23.few: what their being true tells. -/
import Derived.Test.YtgbgnipidakdhaaGreatDoorJLz
import Derived.Test.YtgbgnipidakdhaaGreatDoorJSf
import Derived.Test.YtgbgnipidakdhaaGreatDoorJGu
import Derived.Test.YtgbgnipidakdhaaGreatDoorCards
import Derived.Test.YtgbgnipidakdhaaGreatDoorTie
import Derived.Deep.DeepHandedRow
import Derived.Deep.DeepWitnessRowRef
import Derived.Lib.LaidTab
import Derived.Lib.Space
import Derived.Lib.SpaceR
import Derived.Shelf.Vars
namespace Go.Proofs.YtgbgnipidakdhaaGreatDoor
open Go.RowKit
set_option maxRecDepth 100000
set_option maxHeartbeats 8000000 in
theorem AH (F:Nat→Prop) (m:aj) (cs:List Value) (w:World) (hm:ay F w cs m):Calls G.P 33 #[.agg cs.toArray] w (ni (xS m) w):=by
 obtain⟨v0,v1,v2,v3,v4,v5,v6,v7,v8,v9,rfl,r0,r1,r2,r3,r4,r5,r6,r7,r8,r9,g0⟩:=hm;obtain⟨p0,c0,rfl,l0⟩:=r0.slice;obtain⟨p1,c1,rfl,l1⟩:=r1.slice;obtain⟨p2,c2,rfl,l2⟩:=r2.slice;obtain⟨p3,c3,rfl,l3⟩:=r3.slice;obtain⟨p4,c4,rfl,l4⟩:=r4.slice;obtain⟨p5,c5,rfl,l5⟩:=r5.slice;obtain⟨p6,c6,rfl,l6⟩:=r6.slice;obtain⟨p7,c7,rfl,l7⟩:=r7.slice;obtain⟨p8,c8,rfl,l8⟩:=r8.slice;obtain⟨p9,c9,rfl,l9⟩:=r9.slice
 refine ae (l:=[.agg (([Value.slice p0 m.types.length c0,Value.slice p1 m.imports.length c1,Value.slice p2 m.funcs.length c2,Value.slice p3 m.tables.length c3,Value.slice p4 m.da.length c4,Value.slice p5 m.globals.length c5,Value.slice p6 m.bh.length c6,Value.bool m.br,Value.int .i64 m.start,Value.slice p7 m.elems.length c7,Value.slice p8 m.bD.length c8,Value.slice p9 m.dI.length c9]:List Value)).toArray]) Tryz.func33 rfl Tryz.ntmps33 rfl (Ok.start w) ?_
 refine bQ ?_
 refine aa.box ([Value.slice p0 m.types.length c0,Value.slice p1 m.imports.length c1,Value.slice p2 m.funcs.length c2,Value.slice p3 m.tables.length c3,Value.slice p4 m.da.length c4,Value.slice p5 m.globals.length c5,Value.slice p6 m.bh.length c6,Value.bool m.br,Value.int .i64 m.start,Value.slice p7 m.elems.length c7,Value.slice p8 m.bD.length c8,Value.slice p9 m.dI.length c9]:List Value) rfl rfl rfl fun b=>?_
 refine bQ ?_
 refine aZ.loop (σ:=Nat×Int) (fun s=>[(1,.pointer (some ⟨b,0,none⟩)),(3,.int .i64 s.2),(4,.int .i64 s.1)]) (fun _=>[.aT b ([Value.slice p0 m.types.length c0,Value.slice p1 m.imports.length c1,Value.slice p2 m.funcs.length c2,Value.slice p3 m.tables.length c3,Value.slice p4 m.da.length c4,Value.slice p5 m.globals.length c5,Value.slice p6 m.bh.length c6,Value.bool m.br,Value.int .i64 m.start,Value.slice p7 m.elems.length c7,Value.slice p8 m.bD.length c8,Value.slice p9 m.dI.length c9]:List Value) kU]) (fun _=>[Ext w]) (fun s=>s.1≤m.elems.length∧0≤s.2∧s.2≤100000000000000000) (fun s=>m.elems.length - s.1) (0,0) bJ bc aV ⟨by omega,by decide,by decide⟩ ?_
 rintro⟨i,q⟩ ⟨hi,hq0,hq⟩
 dsimp only at hi hq0 hq ⊢
 by_cases hlt:i<m.elems.length
 ·obtain⟨b1,o1,rfl,hF,he⟩:=r7.el hlt
  obtain⟨u,hu,hr⟩:=he.items
  obtain⟨x2,y2,rfl,z2⟩:=hr.slice
  repeat'(first|refine ar ?_|(refine a7 ?_ ?_<;>intro hc_))
  all_goals first|exact ah.next (i+1,q+(ix m.elems i).items.length) bJ bc aV ⟨by dsimp only;omega,by dsimp only;omega,by dsimp only;omega⟩ LT|refine ah.aB rfl rfl fun w' hw'=>⟨⟨_,rfl,fun h_=>?_⟩,hw'.at⟩
  all_goals first|(cases h_;done)|(have hh_:=of_decide_eq_true h_;refine⟨?_,?_,?_,?_,?_,?_,?_,?_,?_⟩<;>omega)
 ·repeat'(first|refine ar ?_|(refine a7 ?_ ?_<;>intro hc_))
  all_goals first|omega|refine ah.aB rfl rfl fun w' hw'=>⟨⟨_,rfl,fun h_=>?_⟩,hw'.at⟩
  all_goals first|(cases h_;done)|(have hh_:=of_decide_eq_true h_;refine⟨?_,?_,?_,?_,?_,?_,?_,?_,?_⟩<;>omega)
def Gl (m:aj) (nl:Nat) (l:List cJ):Prop:=xS m∧nl≤80∧l.length≤60∧∀i,i<l.length→(ix l i).labels.length≤300∧(ix l i).types.length≤300
set_option maxHeartbeats 8000000 in
theorem AU (F:Nat→Prop) (m:aj) (locals:List Int) (l:List cJ) (cs:List Value) (lp:Option Addr) (lc:Nat) (bv:Value) (w:World) (hm:ay F w cs m) (hl:gR F w bv l):Calls G.P 9 #[.agg cs.toArray,.slice lp locals.length lc,bv] w (ni (Gl m locals.length l) w):=by
 have hm0:=hm
 obtain⟨v0,v1,v2,v3,v4,v5,v6,v7,v8,v9,rfl,r0,r1,r2,r3,r4,r5,r6,r7,r8,r9,g0⟩:=hm;obtain⟨p0,c0,rfl,l0⟩:=r0.slice;obtain⟨p1,c1,rfl,l1⟩:=r1.slice;obtain⟨p2,c2,rfl,l2⟩:=r2.slice;obtain⟨p3,c3,rfl,l3⟩:=r3.slice;obtain⟨p4,c4,rfl,l4⟩:=r4.slice;obtain⟨p5,c5,rfl,l5⟩:=r5.slice;obtain⟨p6,c6,rfl,l6⟩:=r6.slice;obtain⟨p7,c7,rfl,l7⟩:=r7.slice;obtain⟨p8,c8,rfl,l8⟩:=r8.slice;obtain⟨p9,c9,rfl,l9⟩:=r9.slice
 obtain⟨pb,cb,rfl,hb⟩:=hl.slice
 obtain⟨S,hS⟩:∃S:Nat→Int,∀k,S k=((l.take k).map fun x=>((x.labels.length+x.types.length:Nat):Int)).sum:=⟨_,fun _=>rfl⟩
 have hS0:S 0=0:=by rw[hS];rfl
 have hSn:∀k,k<l.length→S (k+1)=S k+(((ix l k).labels.length+(ix l k).types.length:Nat):Int):=fun k hk=>by rw[hS,hS,bE hk];simp
 have hfw:∀w',Ext w w'→Calls G.P 33 #[.agg (([Value.slice p0 m.types.length c0,Value.slice p1 m.imports.length c1,Value.slice p2 m.funcs.length c2,Value.slice p3 m.tables.length c3,Value.slice p4 m.da.length c4,Value.slice p5 m.globals.length c5,Value.slice p6 m.bh.length c6,Value.bool m.br,Value.int .i64 m.start,Value.slice p7 m.elems.length c7,Value.slice p8 m.bD.length c8,Value.slice p9 m.dI.length c9]:List Value)).toArray] w' (ni (xS m) w'):=fun w' hx=>AH F m _ w' (hm0.aO hx (fun _ _ _ h=>h))
 refine ae (l:=[.agg (([Value.slice p0 m.types.length c0,Value.slice p1 m.imports.length c1,Value.slice p2 m.funcs.length c2,Value.slice p3 m.tables.length c3,Value.slice p4 m.da.length c4,Value.slice p5 m.globals.length c5,Value.slice p6 m.bh.length c6,Value.bool m.br,Value.int .i64 m.start,Value.slice p7 m.elems.length c7,Value.slice p8 m.bD.length c8,Value.slice p9 m.dI.length c9]:List Value)).toArray,_,_]) Tryz.func9 rfl Tryz.ntmps9 rfl (Ok.start w) ?_
 refine bQ ?_
 refine aa.box ([Value.slice p0 m.types.length c0,Value.slice p1 m.imports.length c1,Value.slice p2 m.funcs.length c2,Value.slice p3 m.tables.length c3,Value.slice p4 m.da.length c4,Value.slice p5 m.globals.length c5,Value.slice p6 m.bh.length c6,Value.bool m.br,Value.int .i64 m.start,Value.slice p7 m.elems.length c7,Value.slice p8 m.bD.length c8,Value.slice p9 m.dI.length c9]:List Value) rfl rfl rfl fun b=>?_
 refine bQ ?_
 refine aZ.loop (σ:=Nat) (fun i=>[(1,.slice lp locals.length lc),(2,.slice pb l.length cb),(3,.pointer (some ⟨b,0,none⟩)),(7,.int .i64 (S i)),(8,.int .i64 i)]) (fun _=>[.aT b ([Value.slice p0 m.types.length c0,Value.slice p1 m.imports.length c1,Value.slice p2 m.funcs.length c2,Value.slice p3 m.tables.length c3,Value.slice p4 m.da.length c4,Value.slice p5 m.globals.length c5,Value.slice p6 m.bh.length c6,Value.bool m.br,Value.int .i64 m.start,Value.slice p7 m.elems.length c7,Value.slice p8 m.bD.length c8,Value.slice p9 m.dI.length c9]:List Value) kU]) (fun _=>[Ext w]) (fun i=>i≤l.length∧0≤S i∧S i≤100000000000000000∧(∀k,k<i→((ix l k).labels.length:Int)≤S i∧((ix l k).types.length:Int)≤S i)) (fun i=>l.length - i) 0 (by rw[hS0];exact bJ) bc aV ⟨by omega,by omega,by omega,fun k hk=>by omega⟩ ?_
 rintro i ⟨hi,hq0,hq,hall⟩
 by_cases hlt:i<l.length
 ·obtain⟨b1,o1,rfl,hF,he⟩:=hl.at hlt
  obtain⟨tv,ct,htv⟩:=(he i hlt).types
  obtain⟨lv,cl_,hlv⟩:=(he i hlt).labels
  obtain⟨pl,cpl,rfl,hll⟩:=hlv.slice
  obtain⟨pt,cpt,rfl,htl⟩:=htv.slice
  have hst:=hSn i hlt
  repeat'(first|refine ar ?_|(refine a7 ?_ ?_<;>intro hc_))
  all_goals first|exact ah.next (i+1) bJ bc aV ⟨by omega,by omega,by omega,fun k hk=>by
   by_cases e:k=i
   ·subst e;omega
   ·have:=hall k Mj;omega⟩ Mj|(refine aa.he (HE.BN rfl rfl (fun w' hw'=>hfw w' hw'.at)) rfl ?_;rintro fb hfb;cases fb)
  all_goals repeat'(first|refine ar ?_|(refine a7 ?_ ?_<;>intro hc_))
  all_goals first|omega|refine ah.aB rfl rfl fun w' hw'=>⟨⟨_,rfl,fun h_=>?_⟩,hw'.at⟩
  all_goals first|(cases h_;done)|skip
  all_goals(have hh_:=of_decide_eq_true h_;exfalso;omega)
 ·obtain rfl:i=l.length:=by omega
  generalize S l.length=q at*
  repeat'(first|refine ar ?_|(refine a7 ?_ ?_<;>intro hc_))
  all_goals refine aa.he (HE.BN rfl rfl (fun w' hw'=>hfw w' hw'.at)) rfl ?_
  all_goals rintro fb hfb
  all_goals cases fb
  all_goals repeat'(first|refine ar ?_|(refine a7 ?_ ?_<;>intro hc_))
  all_goals first|omega|refine ah.aB rfl rfl fun w' hw'=>⟨⟨_,rfl,fun h_=>?_⟩,hw'.at⟩
  all_goals first|(cases h_;done)|skip
  all_goals(have hh_:=of_decide_eq_true h_;refine⟨hfb rfl,by omega,by omega,fun k hk=>?_⟩;have:=hall k hk;omega)
section
variable {n:Nat} {E:Env} {M:List a8} {R:List (World→Prop)} {f:Nat} {args:List Operand} {tys:Array TypeId} {vs:List Value}
theorem HE.BO {m:aj} (hf:G.fb[f]?=some true) (ha:jQ E args=some vs) (hc:∀w,Ok M R w→Calls G.P f vs.toArray w (vg m w)):
  HE n (.call ⟨.value (.func f),args.toArray,tys⟩) E M R (fun _:Nat×Value=>True) (fun x=>x.2) (fun _=>M) (fun x=>(fun w=>bL x.1 m w x.2)::R):=
 ⟨fun w hw=>(ck.call hf ha (hc w hw) (fun e w' h=>by obtain⟨⟨x,e1,_⟩,_⟩:=h;exact⟨_,e1⟩)).mono fun v w' ⟨⟨x,e1,hv⟩,hx⟩=>by
  cases e1
  refine⟨(w.heap.size,v),trivial,rfl,(hw.ext hx).add fun w2 h2=>hv.aO h2 fun k hk hm=>?_⟩
  obtain⟨q,hq,hk'⟩:=hm
  have:=(hw.m q hq).2 k hk';omega⟩
theorem HE.EV {β:Type} {V:(Nat→Prop)→World→β→Prop} (hV:tp V) {tf:β→Value} (hf:G.fb[f]?=some true) (ha:jQ E args=some vs) (hc:∀w,Ok M R w→Calls G.P f vs.toArray w (bg V tf (fun _=>False) w)):
  HE n (.call ⟨.value (.func f),args.toArray,tys⟩) E M R (fun _:(Nat→Prop)×β=>True) (fun x=>tf x.2) (fun _=>M) (fun x=>(fun w=>V x.1 w x.2)::R):=
 ⟨fun w hw=>(ck.call hf ha (hc w hw) (fun e w' h=>by obtain⟨⟨x,e1,_⟩,_⟩:=h;exact⟨_,e1⟩)).mono fun v w' ⟨⟨x,e1,hv⟩,hx⟩=>by
  cases e1
  refine⟨(fun k=>False∨w.heap.size≤k,x),trivial,rfl,(hw.ext hx).add fun w2 h2=>hV hv h2 fun k _ hk hm=>?_⟩
  rcases hk with hk|hk
  ·exact hk
  ·obtain⟨q,hq,hk'⟩:=hm
   have:=(hw.m q hq).2 k hk';omega⟩
end
theorem aD.xO {M0:List a8} {cp:Nat} {r:di×Int} {w w':World} {e:Ending} (h:aD M0 cp r w e w') (hr:r.2=0):aM M0 w (fun _:iY=>.int .i64 0) (fun v'=>v'.Good r.1) (aQ cp r.1) e w':=by
 obtain⟨x,e1,h2,h3,h4,h5⟩:=h
 dsimp only at h3 h5
 rw[if_pos hr]at h3
 simp only[if_pos hr]at h5
 rw[hr]at e1
 exact⟨x,e1,h2 hr,h3,h4,h5⟩
theorem aD.bad {M0:List a8} {cp:Nat} {r:di×Int} {w w':World} {e:Ending} (h:aD M0 cp r w e w') {q:Int} (hr:r.2=q) (hq:q≠0):aM M0 w (fun _:iY=>.int .i64 q) (fun _=>True) (fun _=>[]) e w':=by
 obtain⟨x,e1,h2,h3,h4,h5⟩:=h
 dsimp only at h3 h5
 rw[if_neg Mj]at h3
 simp only[if_neg (show¬r.2=0 by omega)]at h5
 rw[hr]at e1
 exact⟨x,e1,trivial,h3,h4,h5⟩
theorem Ok.FC {M:List a8} {R:List (World→Prop)} {w0 w:World} {b T:Nat} {cs:List Value} (h:Ok M R w) (hR:Ext w0∈R) (hm:a8.aT b cs T∈M):gO w b cs T∧w0.heap.size≤b:=by
 refine⟨(h.m _ hm).1,?_⟩
 rcases Nat.lt_or_ge b w0.heap.size with hlt|hge
 ·exact(h.origin (S:=fun _=>False) hR b ⟨_,hm,rfl⟩ hlt).elim
 ·exact hge
theorem qN {w:World} {b T:Nat} {cs:List Value} (h:gO w b cs T) {s:Nat} (hs:cs.length=s):∀j,j<s→w.cell? ⟨b,0+0*s+j,none⟩=cs[j]?:=fun j hj=>by
 rw[Nat.zero_mul,Nat.zero_add,List.getElem?_eq_getElem Mj]
 exact h.cell (List.getElem?_eq_getElem Mj)
def yE:aj:=⟨[⟨[2],[]⟩],[],[],[⟨3,⟨0,0,false⟩⟩],[],[⟨⟨1,false⟩,[]⟩],[],false,0,[],[],[]⟩
theorem G6.fr (m:aj):tp (fun D w cs=>ay D w cs m):=fun h hc hd=>h.aO hc hd
theorem wb (w:World):Calls G.P 15 #[] w (bg (fun D w cs=>ay D w cs yE) (fun cs:List Value=>.agg cs.toArray) (fun _=>False) w):=by
 refine ae (l:=[]) Tryz.func15 rfl Tryz.ntmps15 rfl (Ok.start w) ?_
 refine bQ ?_
 refine aa.alloc (t:=kU) [.slice none 0 0,.slice none 0 0,.slice none 0 0,.slice none 0 0,.slice none 0 0,.slice none 0 0,.slice none 0 0,.bool false,.int .i64 0,.slice none 0 0,.slice none 0 0,.slice none 0 0] rfl rfl rfl fun b0=>?_
 repeat'(first|refine ar ?_|(refine eH fun b_ _=>?_)|fail)
 rename_i k1 _ k2 _ k3 _ _
 refine J4 ?_
 intro w' hw'
 obtain⟨B2,n2⟩:=hw'.FC (b:=k2) (w0:=w) ak bG
 obtain⟨B3,n3⟩:=hw'.FC (b:=k3) (w0:=w) ak bG
 obtain⟨B4,n4⟩:=hw'.FC (b:=b_) (w0:=w) ak bG
 refine⟨⟨_,rfl,_,_,_,_,_,_,_,_,_,_,rfl,⟨_,_,rfl,by decide,.inr ⟨k2,0,rfl,.inr n2,fun i hi=>?_⟩⟩,gy.nil,gy.nil,⟨_,_,rfl,by decide,.inr ⟨b_,0,rfl,.inr n4,fun i hi=>?_⟩⟩,gy.nil,⟨_,_,rfl,by decide,.inr ⟨k3,0,rfl,.inr n3,fun i hi=>?_⟩⟩,gy.nil,gy.nil,gy.nil,gy.nil,by show dV 0;unfold dV;omega⟩,hw'.at⟩
 ·obtain rfl:i=0:=by have:i<1:=hi;omega
  exact⟨[.slice (some ⟨k1,0,none⟩) 1 1,.slice none 0 0],⟨_,_,rfl,lg [2] hw' ak (hD:=fun _ h=>.inr h),af.bR _ _⟩,qN B2 rfl⟩
 ·obtain rfl:i=0:=by have:i<1:=hi;omega
  exact⟨[.int .i64 3,.int .i64 0,.int .i64 0,.bool false],⟨rfl,by show dV 3;unfold dV;omega,by show dV 0;unfold dV;omega,by show dV 0;unfold dV;omega⟩,qN B4 rfl⟩
 ·obtain rfl:i=0:=by have:i<1:=hi;omega
  exact⟨[.int .i64 1,.bool false,.slice none 0 0],⟨_,rfl,⟨_,0,rfl,by decide,.inl rfl⟩,by show dV 1;unfold dV;omega⟩,qN B3 rfl⟩
def E9:cJ:={op:=36,a:=0,b:=0,n:=0,kind:=0,val:=0,index:=0,types:=[],labels:=[]}
def Fz:cJ:={op:=65,a:=0,b:=0,n:=5,kind:=0,val:=0,index:=0,types:=[],labels:=[]}
def Gn:cJ:={op:=17,a:=0,b:=0,n:=0,kind:=0,val:=0,index:=0,types:=[],labels:=[]}
theorem Ez:ed yE [] E9=(dy,18):=by kernel_rfl
theorem EI:ed yE [] Fz=(⟨[],[1]⟩,0):=by kernel_rfl
theorem Gw:kP yE [] Gn=(⟨[2,1],[]⟩,0):=by kernel_rfl
theorem CN:kx yE:=fun f hf=>by
 have:f=⟨[2],[]⟩:=by simpa[yE]using hf
 subst this;decide
theorem BZ {M:List a8} {R:List (World→Prop)} {w:World} {B:Nat} {m:aj} {sv:Value} (x:cJ) (hx:x.types=[]) (hx2:x.labels=[]) (h:Ok M R w) (he:fu∈R) (hs:(fun w=>bL B m w sv)∈R):Ok M (nP B (fun _=>False) m sv ([]:List Int) (.slice none ([]:List Int).length 0) x (.slice none x.types.length 0) (.slice none x.labels.length 0)) w:=by
 refine⟨h.m,h.d,fun p hp w2 h2=>?_⟩
 simp only[nP,List.mem_cons,List.not_mem_nil,or_false]at hp
 rcases hp with rfl|rfl|rfl|rfl|rfl
 ·exact h.r _ he w2 h2
 ·exact h.r _ hs w2 h2
 ·exact t8
 ·dsimp only;rw[hx];exact af.bR _ _
 ·dsimp only;rw[hx2];exact af.bR _ _
abbrev HV:di:=(n9 (jd [1]) (⟨[],[1]⟩,0)).1
theorem E3:(n9 (jd [1]) (⟨[],[1]⟩,0)).2=0:=by kernel_rfl
theorem El:HV.ao.ts.length=1:=by kernel_rfl
set_option maxHeartbeats 8000000 in
theorem kl (w:World) (h0:fu w):Calls G.P 10 #[] w fun e w'=>e=.returned (.bool true)∧Ext w w':=by
 refine ae (l:=[]) Tryz.func10 rfl Tryz.ntmps10 rfl (Ok.start w) ?_
 refine aZ.lL fu (fun w' h=>h0.ext (h (Ext w) ak)) ?_
 repeat'(first|refine ar ?_|fail)
 refine aa.he (HE.EV (V:=fun D w (cs:List Value)=>ay D w cs yE) (tf:=fun cs=>.agg cs.toArray) (G6.fr yE) rfl rfl (fun w' hw'=>wb w')) rfl ?_
 rintro⟨D0,cs⟩ _
 refine aa.he (HE.BO (m:=yE) rfl rfl (fun w' hw'=>xa D0 yE cs w' (hw'.get (p:=fun w=>ay D0 w cs yE) ak) (by unfold xS;decide))) rfl ?_
 rintro⟨B,sv⟩ _
 repeat'(first|refine ar ?_|fail)
 refine aa.he (HE.bC (M0:=[]) ox.nil rfl rfl (fun w' hw'=>sx (fun _=>False) [] (.slice none 0 0) w' (af.bR _ _))) rfl ?_
 rintro⟨cp,sp,tv,pv,bv,rv,fv,D,L⟩ hg
 dsimp only[aQ,aS,List.cons_append,List.nil_append]at hg ⊢
 repeat'(first|refine ar ?_|fail)
 refine aa.he (HE.bC (M0:=aQ cp (jd []) ⟨sp,tv,pv,bv,rv,fv,D,L⟩) dt rfl rfl (fun w' hw'=>by
  have:=jt B (fun _=>False) cp (jd []) ⟨sp,tv,pv,bv,rv,fv,D,L⟩ yE [] sv E9 none none none 0 0 0 w' (BZ E9 rfl rfl (hw'.cF dM (fun _ h=>h)) ak ak) hg (oP _) L9 L9 CN (by rw[Ez];decide)
  exact this.mono fun _ _ h=>h.bad (q:=18) (by rw[Ez];rfl) Mh)) rfl ?_
 rintro _ _
 dsimp only[List.nil_append]
 repeat'(first|refine ar ?_|fail)
 refine JM ?_
 intro b1 _
 refine aa.he (HE.bC (M0:=[]) ox.nil rfl rfl (fun w' hw'=>sx (fun k=>k=b1) [1] (.slice (some ⟨b1,0,none⟩) 1 1) w' (cZ (hw'.m (.aT b1 [.int .i64 1] 37) bG).1))) rfl ?_
 rintro⟨cp2,sp2,tv2,pv2,bv2,rv2,fv2,D2,L2⟩ hg2
 dsimp only[aQ,aS,List.cons_append,List.nil_append]at hg2 ⊢
 repeat'(first|refine ar ?_|fail)
 refine aa.he (HE.bC (M0:=aQ cp2 (jd [1]) ⟨sp2,tv2,pv2,bv2,rv2,fv2,D2,L2⟩) dt rfl rfl (fun w' hw'=>by
  have:=jt B (fun _=>False) cp2 (jd [1]) ⟨sp2,tv2,pv2,bv2,rv2,fv2,D2,L2⟩ yE [] sv Fz none none none 0 0 0 w' (BZ Fz rfl rfl (hw'.cF dM (fun _ h=>h)) ak ak) hg2 (oP _) L9 L9 CN (by rw[EI];decide)
  rw[EI]at this
  exact this.mono fun _ _ h=>h.xO E3)) rfl ?_
 rintro⟨sp3,tv3,pv3,bv3,rv3,fv3,D3,L3⟩ hg3
 dsimp only[aQ,aS,List.cons_append,List.nil_append]at hg3 ⊢
 repeat'(first|refine ar ?_|fail)
 refine aa.he (HE.Fg (r:=(⟨[2,1],[]⟩,0)) rfl rfl (fun w' hw'=>by
  have:=zb B (fun _=>False) yE [] sv Gn none none none 0 0 0 w' (hw'.get (p:=fu) ak) (hw'.get (p:=fun w=>bL B yE w sv) ak) (af.bR _ _) (af.bR _ _) (af.bR _ _) CN
  rw[Gw]at this;exact this)) rfl ?_
 rintro⟨D4,p4,c4,q4,d4⟩ _
 dsimp only
 refine aa.pure (φ:=∃b o,p4=some ⟨b,o,none⟩) (fun w' hw'=>?_) ?_
 ·have h1:af D4 w' (.slice p4 2 c4) [2,1]:=(hw'.get (p:=qJ ⟨[2,1],[]⟩ ⟨D4,p4,c4,q4,d4⟩) ak).1
  obtain⟨b,o,e,-⟩:=h1.at (i:=0) Mh
  exact⟨b,o,e⟩
 rintro⟨b5,o5,rfl⟩
 have hcell:∀w2,qJ ⟨[2,1],[]⟩ ⟨D4,some ⟨b5,o5,none⟩,c4,q4,d4⟩ w2→w2.cell? ⟨b5,o5+0,none⟩=some (.int .i64 2)∧w2.cell? ⟨b5,o5+1,none⟩=some (.int .i64 1):=fun w2 h=>by
  have h1:af D4 w2 (.slice (some ⟨b5,o5,none⟩) 2 c4) [2,1]:=h.1
  obtain⟨b,o,e,-,hc⟩:=h1.at (i:=0) Mh
  cases e
  exact⟨hc 0 Mh,hc 1 Mh⟩
 refine aa.lL (cl b5 (o5+0) (.int .i64 2)) (fun w2 h=>(hcell w2 (h _ ak)).1) ?_
 refine aa.lL (cl b5 (o5+1) (.int .i64 1)) (fun w2 h=>(hcell w2 (h (qJ ⟨[2,1],[]⟩ ⟨D4,some ⟨b5,o5,none⟩,c4,q4,d4⟩) ak)).2) ?_
 repeat'(first|refine ar ?_|(refine au fun b_=>?_)|fail)
 refine aa.bV rfl rfl rfl rfl (fun w' hw'=>fi cp2 ⟨sp3,0,none⟩ w' (hw'.c1 aA Ml)) ?_
 refine aa.bV (v:=.int .i64 1) rfl rfl rfl rfl (fun w' hw'=>by
  have:=BG sp3 HV.ao (tv3,pv3) w' (hw'.cF dM (fun p hp=>absurd hp Mk)) Mh
  rw[El]at this;exact this) ?_
 repeat'(first|refine ar ?_|(refine aa.As ?_;refine aa.ek ?_;refine aa.yg Ml (Yl.gh (i:=0) rfl rfl rfl rfl rfl rfl Mh) rfl ?_)|(refine aa.As ?_;refine aa.ek ?_;refine aa.yg Ml (Yl.gh (i:=1) rfl rfl rfl rfl rfl rfl Mh) rfl ?_)|fail)
 all_goals exact am
structure FK (w:World) (x:cJ) (tv bv:Value):Prop where
 t:af (fun _=>True) w tv x.types
 l:af (fun _=>True) w bv x.labels
 op:dV x.op
 a:dV x.a
theorem FK.ext {w w':World} {x:cJ} {tv bv:Value} (h:FK w x tv bv) (hx:Ext w w'):FK w' x tv bv:=⟨h.t.aO hx (fun _ _ _ h=>h),h.l.aO hx (fun _ _ _ h=>h),h.op,h.a⟩
theorem CK {w:World} {b T:Nat} {x:cJ} {pt pl:Option Addr} {ct cl c:Nat} (h:gO w b [Value.int .i64 x.op,Value.int .i64 x.a,Value.int .i64 x.b,Value.int .u64 x.n,Value.int .i64 x.kind,Value.int .i64 x.val,Value.int .i64 x.index,Value.slice pt x.types.length ct,Value.slice pl x.labels.length cl] T) (hx:FK w x (.slice pt x.types.length ct) (.slice pl x.labels.length cl)):gR (fun _=>True) w (.slice (some ⟨b,0,none⟩) 1 c) [x]:=by
 refine⟨_,c,rfl,by show 1≤1353247013952;omega,.inr ⟨b,0,rfl,trivial,fun i hi=>?_⟩⟩
 obtain rfl:i=0:=by have:i<1:=hi;omega
 have hc:∀j v,([Value.int .i64 x.op,Value.int .i64 x.a,Value.int .i64 x.b,Value.int .u64 x.n,Value.int .i64 x.kind,Value.int .i64 x.val,Value.int .i64 x.index,Value.slice pt x.types.length ct,Value.slice pl x.labels.length cl]:List Value)[j]?=some v→w.cell? ⟨b,0+0*9+j,none⟩=some v:=fun j v hj=>by rw[Nat.zero_mul,Nat.zero_add];exact h.cell hj
 exact⟨hc 0 _ rfl,hc 1 _ rfl,hc 2 _ rfl,hc 3 _ rfl,hc 4 _ rfl,hc 5 _ rfl,hc 6 _ rfl,⟨_,hc 7 _ rfl,hx.t⟩,⟨_,hc 8 _ rfl,hx.l⟩,hx.op,hx.a⟩
open Go.ChangeShapes Go.WideShapes Go.ChangeAt Go.RowKit
theorem vz {P:Program} {W:World} {name n0:String} {d0:DataW Unit} {k:IntKind} {zs:List Int} {rest:List (String×DataW Unit)} {g:Nat} {t e:TypeId} {n:Nat}
  (hg:P.globalNamed name=some g) (hty:(P.globals[g]?).map (·.type)=some t) (ht:P.underlying t=some (.array n e)) (he:P.underlying e=some (.int k)) (hce:P.cellsOf e=1) (hct:P.cellsOf t=n)
  (h:laidMet P ((n0,d0)::(name,Lib.tabData k zs)::rest) W):Lib.TabIs P W name k zs:=by
 obtain⟨ps,⟨_,_,_,_,_,_,_,_,_,_,⟨g',t',cs,fuel,p,q,hg',ht',hvar,hd,_,_⟩,_⟩,_⟩:=h
 obtain rfl:=Option.some.inj (hg.symm.trans hg')
 obtain rfl:=Option.some.inj (hty.symm.trans ht')
 unfold Lib.TabIs
 rw[hvar,←Lib.cells_of_tab ht he hce hct hd]
theorem CU:(Rows.laid_strings_asciiSpace:DataW Unit)=Lib.tabData .u8 Lib.asciiSpaceTab:=by kernel_rfl
def GA:List (String×DataW Unit):=[("unicode.White_Space",Rows.laid_unicode_White_Space),("strings.asciiSpace",Rows.laid_strings_asciiSpace)]
theorem Gq:Tryz.prog.globalNamed "strings.asciiSpace" =some 0:=by kernel_rfl
theorem DJ {W:World} (hL:laidMetH Tryz.prog GA W) (hsh:W.ShapedOpen Tryz.prog):fu W:=by
 have hL':laidMet Tryz.prog [("unicode.White_Space",Rows.laid_unicode_White_Space),("strings.asciiSpace",Lib.tabData .u8 Lib.asciiSpaceTab)] W:=by
  have:laidMet Tryz.prog [("unicode.White_Space",Rows.laid_unicode_White_Space),("strings.asciiSpace",Rows.laid_strings_asciiSpace)] W:=hL
  rwa[CU]at this
 have ht:=vz (t:=252) (e:=5) (n:=256) Gq L9 L9 Tryz.underlying5 L9 L9 hL'
 refine⟨fun c hc=>?_,cell_of_shapedOpen_int (zero:=#[.int .i64 0]) (t:=3) hsh (of_decide_eq_true L9) L9 rfl L9 L9 Tryz.underlying3⟩
 have:=ht.cell Gq c (by unfold Lib.asciiSpaceTab;simp;exact hc)
 rw[this]
 unfold Lib.asciiSpaceTab
 simp[List.getD_eq_getElem?_getD,hc]
section
variable {H:Type} {enc:TypeId×Value→H} {w:World} {t e:TypeId} {v:Value} {d:DataW H} {ps:List MemPlace}
theorem xG {bs:Nat} (ht:G.P.underlying t=some (.slice e)) (he:G.P.underlying e=some (.int .i64)) (hc:G.P.cellsOf e=1) (hby:G.P.bytesOf e=8) (ho:Value.okWide G.P w .any bs t v) (h:DataW.Trod enc G.P w 0 (fun _=>true) true t v d ps) (hw:∀n∈d.weights G.P t,n≤reachBytes):∃xs,af (fun _=>True) w v xs:=by
 obtain⟨p0,l0,c0,rfl⟩:=okWide_slice ht ho
 obtain⟨u,xs,e,hb⟩:=(BW h hw).ints ht he hc hby
 cases e
 exact⟨xs,hb⟩
end
theorem EZ {w:World} {cs:List Value} (hcl:cs.length=9) (h:Tr w 42 cs):∃(x:cJ) (pt pl:Option Addr) (ct cl:Nat),cs=[.int .i64 x.op,.int .i64 x.a,.int .i64 x.b,.int .u64 x.n,.int .i64 x.kind,.int .i64 x.val,.int .i64 x.index,.slice pt x.types.length ct,.slice pl x.labels.length cl]∧FK w x (.slice pt x.types.length ct) (.slice pl x.labels.length cl):=by
 obtain⟨c0,c1,c2,c3,c4,c5,c6,c7,c8,rfl⟩:=Gm hcl
 obtain⟨-,hf⟩:=h.struct Tryz.underlying42
 obtain⟨n0,e0,w0⟩:=(show Tr w _ [c0]from Tr.gB hf 0 0 1 rfl L9).int Tryz.underlying35
 obtain⟨n1,e1,w1⟩:=(show Tr w _ [c1]from Tr.gB hf 1 1 1 rfl L9).int Tryz.underlying3
 obtain⟨n2,e2,w2⟩:=(show Tr w _ [c2]from Tr.gB hf 2 2 1 rfl L9).int Tryz.underlying3
 obtain⟨n3,e3,w3⟩:=(show Tr w _ [c3]from Tr.gB hf 3 3 1 rfl L9).int Tryz.underlying36
 obtain⟨-,hg⟩:=(show Tr w _ [c4,c5,c6]from Tr.gB hf 4 4 3 rfl L9).struct Tryz.underlying39
 obtain⟨n4,e4,w4⟩:=(show Tr w _ [c4]from Tr.gB hg 0 0 1 rfl L9).int Tryz.underlying3
 obtain⟨n5,e5,w5⟩:=(show Tr w _ [c5]from Tr.gB hg 1 1 1 rfl L9).int Tryz.underlying37
 obtain⟨n6,e6,w6⟩:=(show Tr w _ [c6]from Tr.gB hg 2 2 1 rfl L9).int Tryz.underlying3
 obtain⟨v7,x7,e7,r7⟩:=(show Tr w _ [c7]from Tr.gB hf 5 7 1 rfl L9).ints Tryz.underlying34 Tryz.underlying37 L9 L9
 obtain⟨v8,x8,e8,r8⟩:=(show Tr w _ [c8]from Tr.gB hf 6 8 1 rfl L9).ints Tryz.underlying40 Tryz.underlying3 L9 L9
 cases e0;cases e1;cases e2;cases e3;cases e4;cases e5;cases e6;cases e7;cases e8
 obtain⟨p7,k7,rfl,z7⟩:=r7.slice
 obtain⟨p8,k8,rfl,z8⟩:=r8.slice
 exact⟨⟨n0,n1,n2,n3,n4,n5,n6,x7,x8⟩,p7,p8,k7,k8,rfl,r7,r8,ss w0,ss w1⟩
set_option maxHeartbeats 4000000 in
theorem sR (B:Nat) (F:Nat→Prop) (cp:Nat) (c:di) (v:iY) (m:aj) (locals:List Int) (sv:Value) (x:cJ) (lp pt pl:Option Addr) (lc ct cl:Nat) (w:World) (hw:Ok (aQ cp c v) (nP B F m sv locals (.slice lp locals.length lc) x (.slice pt x.types.length ct) (.slice pl x.labels.length cl)) w) (hg:v.Good c) (hwf:c.Wf) (hb:c.broken=0) (hp:cq x=true) (hop:x.op=0):Calls G.P 16 #[.pointer (some ⟨cp,0,none⟩),sv,.slice lp locals.length lc,.agg #[Value.int .i64 x.op,Value.int .i64 x.a,Value.int .i64 x.b,Value.int .u64 x.n,Value.int .i64 x.kind,Value.int .i64 x.val,Value.int .i64 x.index,Value.slice pt x.types.length ct,Value.slice pl x.labels.length cl]] w (aD (aQ cp c v) cp (gi c,0) w):=by
 refine ae (l:=[_,_,_,_]) Tryz.func16 rfl Tryz.ntmps16 rfl (Ok.dj hw) ?_
 generalize hS:Mb (aQ cp c v)=S0
 unfold nP
 obtain⟨sp,tv,pv,bv,rv,fv,D,L⟩:=v
 dsimp only[aQ,aS,List.cons_append,List.nil_append]
 have hno:=fun w' M (hw':Ok M _ w')=>kn (B:=B) (F:=F) (m:=m) (locals:=locals) (sv:=sv) (lv:=.slice lp locals.length lc) (x:=x) (pt:=pt) (pl:=pl) (ct:=ct) (cl:=cl) hw'
 rw[hp]at hno
 repeat'(first|refine ar ?_|(refine aC fun b_=>?_)|refine Ls ?_|refine K3 ?_|refine K2 ?_|fail)
 refine aa.he (HE.bC (M0:=aQ cp c ⟨sp,tv,pv,bv,rv,fv,D,L⟩) dt rfl rfl (fun w' hw'=>lC cp c ⟨sp,tv,pv,bv,rv,fv,D,L⟩ w' (hw'.cF dM (fun p hp=>absurd hp Mk)) hg hb hwf)) rfl ?_
 rintro⟨sp2,tv2,pv2,bv2,rv2,fv2,D2,L2⟩ hg2
 dsimp only[aQ,aS,List.cons_append,List.nil_append]at hg2 ⊢
 repeat'(first|refine ar ?_|fail)
 exact ah.aB rfl rfl fun w' hw'=>aD.ok (r:=(gi c,0)) (⟨sp2,tv2,pv2,bv2,rv2,fv2,D2,L2⟩:iY) rfl hg2 hS hw' LD ak
theorem C7 {M:List a8} {R:List (World→Prop)} {w0 w:World} {B:Nat} {m:aj} {sv lv tv bv:Value} {locals:List Int} {x:cJ} (h:Ok M R w) (hR:Ext w0∈R) (h0:fu w0) (hs:(fun w=>bL B m w sv)∈R) (hl:af (fun _=>True) w0 lv locals) (ht:af (fun _=>True) w0 tv x.types) (hb:af (fun _=>True) w0 bv x.labels):Ok M (nP B (fun _=>True) m sv locals lv x tv bv) w:=by
 refine⟨h.m,h.d,fun p hp w2 h2=>?_⟩
 have hx:Ext w0 w2:=h.r _ hR w2 h2
 simp only[nP,List.mem_cons,List.not_mem_nil,or_false]at hp
 rcases hp with rfl|rfl|rfl|rfl|rfl
 ·exact h0.ext hx
 ·exact h.r _ hs w2 h2
 ·exact hl.aO hx (fun _ _ _ h=>h)
 ·exact ht.aO hx (fun _ _ _ h=>h)
 ·exact hb.aO hx (fun _ _ _ h=>h)
theorem zU {w:World} {u:Value} (h:Tr w 34 [u]) {p:Option Addr} {n c:Nat} (e:u=.slice p n c):n≤17592186043904:=by
 obtain⟨p',n',c',e',hl,-⟩:=h.slice (s:=1) (bt:=8) Tryz.underlying34 L9 L9 Mj
 subst e
 simp only[List.cons.injEq,Value.slice.injEq,and_true]at e'
 omega
theorem FF {w:World} {cs:List Value} {m:aj} (h:Tr w 33 cs) (hm:ay (fun _=>True) w cs m):kx m:=by
 obtain⟨v0,v1,v2,v3,v4,v5,v6,v7,v8,v9,rfl,r0,-⟩:=hm
 obtain⟨-,hf⟩:=h.struct Tryz.underlying33
 obtain⟨p,len,cap,e,-,hx⟩:=(show Tr w _ [v0]from Tr.gB hf 0 0 1 rfl L9).slice (s:=2) (bt:=48) Tryz.underlying22 L9 L9 Mj
 simp only[List.cons.injEq,and_true]at e
 subst e
 obtain⟨p',c',e',-⟩:=r0.slice
 simp only[Value.slice.injEq]at e'
 obtain⟨rfl,rfl,rfl⟩:=e'
 intro f hfm
 obtain⟨i,hi,rfl⟩:=List.getElem_of_mem hfm
 obtain⟨b,o,rfl,-,cs2,⟨u0,u1,rfl,q0,q1⟩,hc⟩:=r0.el hi
 obtain⟨b',o',e2,hx⟩:=hx.resolve_left Mj
 cases e2
 obtain⟨cs',hl',hcc,ht⟩:=hx i hi
 match cs',hl' with
 |[a0,a1],_=>
  have e0:a0=u0:=by
   have h1:=hcc 0 Mj;have h2:=hc 0 Mj
   rw[h1]at h2;simpa using h2
  have e1:a1=u1:=by
   have h1:=hcc 1 Mj;have h2:=hc 1 Mj
   rw[h1]at h2;simpa using h2
  subst e0 e1
  obtain⟨-,hg⟩:=ht.struct Tryz.underlying47
  rw[cD hi]at q0 q1
  obtain⟨x0,y0,z0,-⟩:=q0.slice
  obtain⟨x1,y1,z1,-⟩:=q1.slice
  exact⟨zU (show Tr w _ [a0]from Tr.gB hg 0 0 1 rfl L9) z0,zU (show Tr w _ [a1]from Tr.gB hg 1 1 1 rfl L9) z1⟩
end Go.Proofs.YtgbgnipidakdhaaGreatDoor
