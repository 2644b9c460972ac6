/- Layer 23: rule.typed whole, rule.Wants. -/
import Derived.Test.YtgbgnipidakdhaaGreatDoorJWi
import Derived.Test.YtgbgnipidakdhaaGreatDoorJEn
import Derived.Test.YtgbgnipidakdhaaGreatDoorJLv
import Derived.Test.YtgbgnipidakdhaaGreatDoorJRw
import Derived.Test.YtgbgnipidakdhaaGreatDoorJVh
import Derived.Test.YtgbgnipidakdhaaGreatDoorJRg
namespace Go.Proofs.YtgbgnipidakdhaaGreatDoor
open Go.RowKit
set_option maxRecDepth 100000
theorem wS (B:Nat) (m:aj) (v:Value) (x:cJ) (pt pl:Option Addr) (ct cl:Nat) (w:World) (h0:fu w) (h:bL B m w v):Calls G.P 83 #[v,.agg #[Value.int .i64 x.op,Value.int .i64 x.a,Value.int .i64 x.b,Value.int .u64 x.n,Value.int .i64 x.kind,Value.int .i64 x.val,Value.int .i64 x.index,Value.slice pt x.types.length ct,Value.slice pl x.labels.length cl]] w fun e w'=>e=.returned (.int .i64 (jK m x))∧Ext w w':=by
 have ho:∀w',Ext w w'→Calls G.P 76 #[.int .i64 x.op] w' fun e w2=>e=.returned (.int .i64 (dZ x.op))∧Ext w' w2:=fun w' hx=>gI x.op w' (h0.ext hx)
 have ha:∀w',Ext w w'→Calls G.P 138 #[.int .i64 x.op] w' fun e w2=>e=.returned (.int .i64 (kO x.op))∧Ext w' w2:=fun w' hx=>wy x.op w' (h0.ext hx)
 unfold jK
 generalize dZ x.op=k at ho ⊢
 exact tB B m v _ _ _ _ _ _ _ _ _ _ _ _ _ k _ w h ho ha
set_option maxHeartbeats 4000000 in
theorem vN (B:Nat) (F:Nat→Prop) (m:aj) (locals:List Int) (v:Value) (x:cJ) (lp pt pl:Option Addr) (lc ct cl:Nat) (w:World) (h0:fu w) (h:bL B m w v) (_hl:af F w (.slice lp locals.length lc) locals) (_ht:af F w (.slice pt x.types.length ct) x.types) (hk:dZ x.op≠4∧dZ x.op≠5∧dZ x.op≠6∧dZ x.op≠7∧dZ x.op≠8∧dZ x.op≠9∧dZ x.op≠20):Calls G.P 36 #[v,.slice lp locals.length lc,.agg #[Value.int .i64 x.op,Value.int .i64 x.a,Value.int .i64 x.b,Value.int .u64 x.n,Value.int .i64 x.kind,Value.int .i64 x.val,Value.int .i64 x.index,Value.slice pt x.types.length ct,Value.slice pl x.labels.length cl]] w (ia (if jK m x≠0 then(dy,jK m x)else((ft x.op).getD dy,0)) (fun _=>False) w):=by
 have hof:∀w',Ext w w'→Calls G.P 76 #[.int .i64 x.op] w' fun e w2=>e=.returned (.int .i64 (dZ x.op))∧Ext w' w2:=fun w' hx=>gI x.op w' (h0.ext hx)
 have hth:∀w',Ext w w'→Calls G.P 83 #[v,.agg #[Value.int .i64 x.op,Value.int .i64 x.a,Value.int .i64 x.b,Value.int .u64 x.n,Value.int .i64 x.kind,Value.int .i64 x.val,Value.int .i64 x.index,Value.slice pt x.types.length ct,Value.slice pl x.labels.length cl]] w' fun e w2=>e=.returned (.int .i64 (jK m x))∧Ext w' w2:=fun w' hx=>wS B m v x pt pl ct cl w' (h0.ext hx) (h.aO hx (fun _ _ h=>h))
 obtain⟨k1,k2,k3,k4,k5,k6,k7⟩:=hk
 generalize dZ x.op=k at*
 generalize jK m x=e0 at*
 by_cases he:e0=0
 ·rw[if_neg Mj]
  refine Kn ?_
  repeat'(first|refine ar ?_|(refine KS fun b_=>?_)|refine Lh ?_|(refine aa.ai (f:=83) ?_;refine aa.aq rfl rfl rfl (fun w' hw'=>hth w' hw'.at) ?_)|(refine aa.ai (f:=85) ?_;refine aa.he (HE.mM (r:=ft x.op) ak rfl rfl (fun w' hw'=>xF x.op w' (h0.ext hw'.at))) rfl ?_;rintro⟨D_,p_,c_,q_,d_⟩ hD_;dsimp only)|fail)
  all_goals(refine ah.aF (.inl rfl) rfl rfl rfl rfl rfl aA rfl rfl ?_;exact fun w' hw'=>bg.iI (f0:=(ft x.op).getD dy) (tf:=fun y:Value×Value=>.tuple #[.agg #[y.1,y.2],.int .i64 0]) ⟨D_,p_,c_,q_,d_⟩ hw' ak ak hD_)
 ·rw[if_pos he]
  refine Kn ?_
  repeat'(first|refine ar ?_|(refine KS fun b_=>?_)|refine Lh ?_|(refine aa.ai (f:=83) ?_;refine aa.aq rfl rfl rfl (fun w' hw'=>hth w' hw'.at) ?_)|(refine aa.ai (f:=84) ?_;refine aa.aq rfl rfl rfl (fun w' hw'=>rq _ w') ?_)|fail)
  all_goals exact gc
theorem sU (B:Nat) (F:Nat→Prop) (m:aj) (locals:List Int) (v:Value) (x:cJ) (lp pt pl:Option Addr) (lc ct cl:Nat) (w:World) (h0:fu w) (h:bL B m w v) (hl:af F w (.slice lp locals.length lc) locals) (ht:af F w (.slice pt x.types.length ct) x.types) (hp:cq x=true) (hT:kx m):Calls G.P 36 #[v,.slice lp locals.length lc,.agg #[Value.int .i64 x.op,Value.int .i64 x.a,Value.int .i64 x.b,Value.int .u64 x.n,Value.int .i64 x.kind,Value.int .i64 x.val,Value.int .i64 x.index,Value.slice pt x.types.length ct,Value.slice pl x.labels.length cl]] w (ia (ed m locals x) (fun _=>False) w):=by
 unfold ed
 dsimp only
 split
 ·exact vv B F m locals v x lp pt pl lc ct cl w h0 h hl ht hp hT Md
 split
 ·exact wk B F m locals v x lp pt pl lc ct cl w h0 h hl ht hp hT Md
 split
 ·exact vY B F m locals v x lp pt pl lc ct cl w h0 h hl ht hp hT Md
 split
 ·exact wc B F m locals v x lp pt pl lc ct cl w h0 h hl ht hp hT Md
 split
 ·exact vL B F m locals v x lp pt pl lc ct cl w h0 h hl ht hp hT Md
 split
 ·exact vx B F m locals v x lp pt pl lc ct cl w h0 h hl ht hp hT Md
 split
 ·exact uu B F m locals v x lp pt pl lc ct cl w h0 h hl ht hp hT Md
 exact vN B F m locals v x lp pt pl lc ct cl w h0 h hl ht ⟨by assumption,by assumption,by assumption,by assumption,by assumption,by assumption,by assumption⟩
def kP (m:aj) (locals:List Int) (x:cJ):aL×Int:=if cq x=false then(dy,10)else if ij x.op=true then(dy,1)else ed m locals x
set_option maxHeartbeats 4000000 in
theorem zb (B:Nat) (F:Nat→Prop) (m:aj) (locals:List Int) (v:Value) (x:cJ) (lp pt pl:Option Addr) (lc ct cl:Nat) (w:World) (h0:fu w) (h:bL B m w v) (hl:af F w (.slice lp locals.length lc) locals) (ht:af F w (.slice pt x.types.length ct) x.types) (hl2:af F w (.slice pl x.labels.length cl) x.labels) (hT:kx m):Calls G.P 11 #[v,.slice lp locals.length lc,.agg #[Value.int .i64 x.op,Value.int .i64 x.a,Value.int .i64 x.b,Value.int .u64 x.n,Value.int .i64 x.kind,Value.int .i64 x.val,Value.int .i64 x.index,Value.slice pt x.types.length ct,Value.slice pl x.labels.length cl]] w (ia (kP m locals x) (fun _=>False) w):=by
 have hno:∀w',Ext w w'→Calls G.P 35 #[v,.agg #[Value.int .i64 x.op,Value.int .i64 x.a,Value.int .i64 x.b,Value.int .u64 x.n,Value.int .i64 x.kind,Value.int .i64 x.val,Value.int .i64 x.index,Value.slice pt x.types.length ct,Value.slice pl x.labels.length cl]] w' fun e w2=>e=.returned (.int .i64 (if cq x=false then 10 else 0))∧Ext w' w2:=fun w' hx=>uC B m v x pt pl ct cl w' (h.aO hx (fun _ _ h=>h)) fun w2 hx2=>oS F x pt pl ct cl w2 (h0.ext (hx.trans hx2)) (ht.aO (hx.trans hx2) (fun _ _ _ h=>h)) (hl2.aO (hx.trans hx2) (fun _ _ _ h=>h))
 unfold kP
 cases hp:cq x with
 |false=>
  rw[hp]at hno
  rw[if_pos rfl]
  refine ae (l:=[_,_,_]) Tryz.func11 rfl Tryz.ntmps11 rfl (Ok.start w) ?_
  repeat'(first|refine ar ?_|(refine KS fun b_=>?_)|refine Li ?_|(refine a7 ?_ ?_<;>intro hc_))
  all_goals exact gc
 |true=>
  rw[hp]at hno
  rw[if_neg Mh]
  have hty:∀w',Ext w w'→Calls G.P 36 #[v,.slice lp locals.length lc,.agg #[Value.int .i64 x.op,Value.int .i64 x.a,Value.int .i64 x.b,Value.int .u64 x.n,Value.int .i64 x.kind,Value.int .i64 x.val,Value.int .i64 x.index,Value.slice pt x.types.length ct,Value.slice pl x.labels.length cl]] w' (ia (ed m locals x) (fun _=>False) w'):=fun w' hx=>sU B F m locals v x lp pt pl lc ct cl w' (h0.ext hx) (h.aO hx (fun _ _ h=>h)) (hl.aO hx (fun _ _ _ h=>h)) (ht.aO hx (fun _ _ _ h=>h)) hp hT
  cases ha:ij x.op with
  |true=>
   rw[if_pos rfl]
   have hop:x.op=2∨x.op=3∨x.op=4∨x.op=5∨x.op=11∨x.op=0∨x.op=12∨x.op=13∨x.op=14∨x.op=15∨x.op=26∨x.op=27∨x.op=209:=by simpa[ij,or_assoc]using ha
   refine ae (l:=[_,_,_]) Tryz.func11 rfl Tryz.ntmps11 rfl (Ok.start w) ?_
   repeat'(first|refine ar ?_|(refine KS fun b_=>?_)|refine Li ?_|(refine a7 ?_ ?_<;>intro hc_))
   all_goals exact gc
  |false=>
   rw[if_neg Mh]
   have hop:x.op≠2∧x.op≠3∧x.op≠4∧x.op≠5∧x.op≠11∧x.op≠0∧x.op≠12∧x.op≠13∧x.op≠14∧x.op≠15∧x.op≠26∧x.op≠27∧x.op≠209:=by simpa[ij,and_assoc]using ha
   refine ae (l:=[_,_,_]) Tryz.func11 rfl Tryz.ntmps11 rfl (Ok.start w) ?_
   repeat'(first|refine ar ?_|(refine KS fun b_=>?_)|refine Li ?_|(refine aa.ai (f:=36) ?_;refine aa.he (HE.A3 (r:=ed m locals x) ak rfl rfl (fun w' hw'=>hty w' hw'.at)) rfl ?_;rintro⟨D_,p_,c_,q_,d_⟩ hD_;dsimp only)|(refine a7 ?_ ?_<;>intro hc_))
   all_goals(refine ah.aF (.inl rfl) rfl rfl rfl rfl rfl aA rfl rfl ?_;exact fun w' hw'=>bg.iI (f0:=(ed m locals x).1) (tf:=fun y:Value×Value=>.tuple #[.agg #[y.1,y.2],.int .i64 (ed m locals x).2]) ⟨D_,p_,c_,q_,d_⟩ hw' ak ak hD_)
def fy (s:bP) (f:aL):bP×Int:=if(aE s f.params).2≠0 then aE s f.params else(aJ (aE s f.params).1 f.results,0)
theorem EF {s:bP} (p:List Int) {n:Nat} (h:(s.ts.length+n)*8≤140737488355328):(aE s p).2=0→((aE s p).1.ts.length+n)*8≤140737488355328:=fun _=>by have:=dp s p;omega
set_option maxHeartbeats 4000000 in
theorem uX (sp:Nat) (s:bP) (y:Value×Value) (f:aL) (a:AM) (w:World) (hw:Ok (aS sp s y) [qJ f a] w) (hwf:s.Wf) (hb:(aE s f.params).2=0→((aE s f.params).1.ts.length+f.results.length)*8≤140737488355328):
  Calls G.P 48 #[.pointer (some ⟨sp,0,none⟩),.agg #[.slice a.p f.params.length a.c,.slice a.q f.results.length a.d]] w (eF sp s y (.int .i64 (fy s f).2) (fy s f).1 w):=by
 obtain⟨tv,pv⟩:=y
 have hp:=hwf.some
 have h0:=hwf.at_.1
 have hle:=hwf.at_.2
 refine ae (l:=[_,_]) Tryz.func48 rfl Tryz.ntmps48 rfl (Ok.dj hw) ?_
 unfold eF
 generalize hS:Mb (aS sp s (tv,pv))=S0
 unfold fy
 have hw1:=dn hwf f.params
 have hts:=dp s f.params
 obtain⟨r,hr⟩:∃r,aE s f.params=r:=⟨_,rfl⟩
 obtain⟨s1,e1⟩:=r
 rw[hr]at hw1 hts hb ⊢
 dsimp only at hw1 hts hb ⊢
 have hp1:=hw1.some
 have hwant:=fun w' hw'=>fK a.D sp s (tv,pv) (.slice a.p f.params.length a.c) f.params w' hw' hp h0 hle
 rw[hr]at hwant
 dsimp only at hwant
 dsimp only[aS]
 repeat'(first|refine ar ?_|(refine aC fun b_=>?_)|fail)
 refine aa.he (HE.bC (M0:=aS sp s (tv,pv)) dt rfl rfl (fun w' hw'=>hwant w' ((hw'.lL (p:=fun w=>af a.D w (.slice a.p f.params.length a.c) f.params) (fun w2 h=>(h (qJ f a) ak).1)).cF dM aV))) rfl ?_
 rintro⟨tv1,pv1⟩ _
 dsimp only[aS,List.cons_append,List.nil_append]
 by_cases he:e1=0
 ·subst he
  have hb:=hb rfl
  rw[if_neg Mh]
  repeat'(first|refine ar ?_|fail)
  refine aa.he (HE.bC (M0:=aS sp s1 (tv1,pv1)) dt rfl rfl (fun w' hw'=>fH a.D sp s1 (tv1,pv1) (.slice a.q f.results.length a.d) f.results w' ((hw'.lL (p:=fun w=>af a.D w (.slice a.q f.results.length a.d) f.results) (fun w2 h=>(h (qJ f a) ak).2)).cF dM aV) hp1 Mj)) rfl ?_
  rintro⟨tv2,pv2⟩ _
  dsimp only[aS,List.cons_append,List.nil_append]
  repeat'(first|refine ar ?_|fail)
  all_goals exact ah.aB rfl rfl fun w' hw'=>aM.oY (x:=(tv2,pv2)) trivial hS hw' dM ak
 ·rw[if_pos he]
  repeat'(first|refine ar ?_|fail)
  all_goals exact mt
def Ao (c:di) (f:aL):di×Int:=({c with ao:=(fy c.ao f).1},(fy c.ao f).2)
theorem HE.Fg {n:Nat} {E:Env} {M:List a8} {R:List (World→Prop)} {f:Nat} {args:List Operand} {tys:Array TypeId} {vs:List Value} {r:aL×Int} (hf:G.fb[f]?=some true) (ha:jQ E args=some vs) (hc:∀w,Ok M R w→Calls G.P f vs.toArray w (ia r (fun _=>False) w)):
  HE n (.call ⟨.value (.func f),args.toArray,tys⟩) E M R (fun _:AM=>True) (fun x=>.tuple #[.agg #[.slice x.p r.1.params.length x.c,.slice x.q r.1.results.length x.d],.int .i64 r.2]) (fun _=>M) (fun x=>qJ r.1 x::R):=
 ⟨fun w hw=>(ck.call hf ha (hc w hw) (fun e w' h=>by obtain⟨⟨x,e1,_⟩,_⟩:=h;exact⟨_,e1⟩)).mono fun v w' ⟨⟨⟨x1,x2⟩,e1,hv⟩,hx⟩=>by
  cases e1
  obtain⟨⟨p,c,rfl⟩,⟨q,d,rfl⟩⟩:=hv.shape
  refine⟨⟨fun k=>False∨w.heap.size≤k,p,c,q,d⟩,trivial,rfl,(hw.ext hx).add fun w2 h2=>dr.fr r.1 hv h2 fun k _ hk hm=>?_⟩
  rcases hk with hk|hk
  ·exact hk
  ·obtain⟨q,hq,hk'⟩:=hm
   have:=(hw.m q hq).2 k hk';omega⟩
def nP (B:Nat) (F:Nat→Prop) (m:aj) (sv:Value) (locals:List Int) (lv:Value) (x:cJ) (tv bv:Value):List (World→Prop):=[fu,fun w=>bL B m w sv,fun w=>af F w lv locals,fun w=>af F w tv x.types,fun w=>af F w bv x.labels]
theorem kn {B:Nat} {F:Nat→Prop} {m:aj} {locals:List Int} {sv lv:Value} {x:cJ} {pt pl:Option Addr} {ct cl:Nat} {M:List a8} {w:World} (hw:Ok M (nP B F m sv locals lv x (.slice pt x.types.length ct) (.slice pl x.labels.length cl)) w):Calls G.P 35 #[sv,.agg #[Value.int .i64 x.op,Value.int .i64 x.a,Value.int .i64 x.b,Value.int .u64 x.n,Value.int .i64 x.kind,Value.int .i64 x.val,Value.int .i64 x.index,Value.slice pt x.types.length ct,Value.slice pl x.labels.length cl]] w fun e w'=>e=.returned (.int .i64 (if cq x=false then 10 else 0))∧Ext w w':=by
 have h0:fu w:=hw.get Mg
 have h:bL B m w sv:=hw.get (p:=fun w=>bL B m w sv) Mg
 have ht:=hw.get (p:=fun w=>af F w (.slice pt x.types.length ct) x.types) Mg
 have hl:=hw.get (p:=fun w=>af F w (.slice pl x.labels.length cl) x.labels) Mg
 exact uC B m sv x pt pl ct cl w h fun w2 hx2=>oS F x pt pl ct cl w2 (h0.ext hx2) (ht.aO hx2 (fun _ _ _ h=>h)) (hl.aO hx2 (fun _ _ _ h=>h))
theorem CH {B:Nat} {F:Nat→Prop} {m:aj} {locals:List Int} {sv:Value} {x:cJ} {lp pt pl:Option Addr} {lc ct cl:Nat} {M:List a8} {w:World} (hw:Ok M (nP B F m sv locals (.slice lp locals.length lc) x (.slice pt x.types.length ct) (.slice pl x.labels.length cl)) w) (hp:cq x=true) (hT:kx m):Calls G.P 36 #[sv,.slice lp locals.length lc,.agg #[Value.int .i64 x.op,Value.int .i64 x.a,Value.int .i64 x.b,Value.int .u64 x.n,Value.int .i64 x.kind,Value.int .i64 x.val,Value.int .i64 x.index,Value.slice pt x.types.length ct,Value.slice pl x.labels.length cl]] w (ia (ed m locals x) (fun _=>False) w):=by
 have h0:fu w:=hw.get Mg
 have h:bL B m w sv:=hw.get (p:=fun w=>bL B m w sv) Mg
 have hl:=hw.get (p:=fun w=>af F w (.slice lp locals.length lc) locals) Mg
 have ht:=hw.get (p:=fun w=>af F w (.slice pt x.types.length ct) x.types) Mg
 exact sU B F m locals sv x lp pt pl lc ct cl w h0 h hl ht hp hT
theorem Hm {g g':Prop} (h:g') (hw:dS g'→g:=by(intro hk_;(first|refine Ls ?_|refine K3 ?_|refine K2 ?_);exact hk_.out)):g:=hw ⟨h⟩
theorem uw (B:Nat) (F:Nat→Prop) (cp:Nat) (c:di) (v:iY) (m:aj) (locals:List Int) (sv:Value) (x:cJ) (lp pt pl:Option Addr) (lc ct cl:Nat) (w:World) (hw:Ok (aQ cp c v) (nP B F m sv locals (.slice lp locals.length lc) x (.slice pt x.types.length ct) (.slice pl x.labels.length cl)) w) (hp:cq x=false):Calls G.P 16 #[.pointer (some ⟨cp,0,none⟩),sv,.slice lp locals.length lc,.agg #[Value.int .i64 x.op,Value.int .i64 x.a,Value.int .i64 x.b,Value.int .u64 x.n,Value.int .i64 x.kind,Value.int .i64 x.val,Value.int .i64 x.index,Value.slice pt x.types.length ct,Value.slice pl x.labels.length cl]] w (aD (aQ cp c v) cp (c,10) w):=by
 refine ae (l:=[_,_,_,_]) Tryz.func16 rfl Tryz.ntmps16 rfl (Ok.dj hw) ?_
 generalize hS:Mb (aQ cp c v)=S0
 unfold nP
 obtain⟨sp,tv,pv,bv,rv,fv,D,L⟩:=v
 dsimp only[aQ,aS,List.cons_append,List.nil_append]
 have hno:=fun w' M (hw':Ok M _ w')=>kn (B:=B) (F:=F) (m:=m) (locals:=locals) (sv:=sv) (lv:=.slice lp locals.length lc) (x:=x) (pt:=pt) (pl:=pl) (ct:=ct) (cl:=cl) hw'
 rw[hp]at hno
 repeat'(first|refine ar ?_|(refine aC fun b_=>?_)|refine Hm ?_|fail)
 all_goals exact ah.aB rfl rfl fun w' hw'=>aD.err 10 rfl Mh hS hw' ak
def n9 (c:di) (r:aL×Int):di×Int:=if r.2≠0 then(c,r.2)else Ao c r.1
set_option maxHeartbeats 8000000 in
theorem jt (B:Nat) (F:Nat→Prop) (cp:Nat) (c:di) (v:iY) (m:aj) (locals:List Int) (sv:Value) (x:cJ) (lp pt pl:Option Addr) (lc ct cl:Nat) (w:World) (hw:Ok (aQ cp c v) (nP B F m sv locals (.slice lp locals.length lc) x (.slice pt x.types.length ct) (.slice pl x.labels.length cl)) w) (hg:v.Good c) (hwf:c.Wf) (hp:cq x=true) (ha:ij x.op=false) (hT:kx m) (hb:(aE c.ao (ed m locals x).1.params).2=0→((aE c.ao (ed m locals x).1.params).1.ts.length+(ed m locals x).1.results.length)*8≤140737488355328):Calls G.P 16 #[.pointer (some ⟨cp,0,none⟩),sv,.slice lp locals.length lc,.agg #[Value.int .i64 x.op,Value.int .i64 x.a,Value.int .i64 x.b,Value.int .u64 x.n,Value.int .i64 x.kind,Value.int .i64 x.val,Value.int .i64 x.index,Value.slice pt x.types.length ct,Value.slice pl x.labels.length cl]] w (aD (aQ cp c v) cp (n9 c (ed m locals x)) w):=by
 have hop:x.op≠2∧x.op≠3∧x.op≠4∧x.op≠5∧x.op≠11∧x.op≠0∧x.op≠12∧x.op≠13∧x.op≠14∧x.op≠15∧x.op≠26∧x.op≠27∧x.op≠209:=by simpa[ij,and_assoc]using ha
 refine ae (l:=[_,_,_,_]) Tryz.func16 rfl Tryz.ntmps16 rfl (Ok.dj hw) ?_
 generalize hS:Mb (aQ cp c v)=S0
 unfold nP
 obtain⟨sp,tv,pv,bv,rv,fv,D,L⟩:=v
 dsimp only[aQ,aS,List.cons_append,List.nil_append]
 have hno:=fun w' M (hw':Ok M _ w')=>kn (B:=B) (F:=F) (m:=m) (locals:=locals) (sv:=sv) (lv:=.slice lp locals.length lc) (x:=x) (pt:=pt) (pl:=pl) (ct:=ct) (cl:=cl) hw'
 rw[hp]at hno
 have hty:=fun w' M (hw':Ok M _ w')=>CH (B:=B) (F:=F) (m:=m) (locals:=locals) (sv:=sv) (x:=x) (lp:=lp) (lc:=lc) (pt:=pt) (pl:=pl) (ct:=ct) (cl:=cl) hw' hp hT
 generalize ed m locals x=r at hty hb ⊢
 obtain⟨f,e0⟩:=r
 dsimp only at hb
 by_cases he:e0=0
 ·subst he
  repeat'(first|refine ar ?_|(refine KS fun b_=>?_)|refine Hm ?_|(refine aa.ai (f:=36) ?_;refine aa.he (HE.Fg (r:=(f,0)) rfl rfl (fun w' hw'=>hty w' _ (hw'.sub (List.Sublist.refl _) aV))) rfl ?_;rintro⟨D_,p_,c_,q_,d_⟩ _;dsimp only)|fail)
  refine aZ.cT [.aT b_ [.slice p_ f.params.length c_,.slice q_ f.results.length d_] rf] [qJ f ⟨D_,p_,c_,q_,d_⟩] bc aV ?_
  repeat'(first|refine og ?_|(refine av.ep 23 ?_;refine av.he rfl rfl (HE.dX rfl rfl (fun w' hw'=>fi cp ⟨sp,0,none⟩ w' (hw'.c1 aA Ml))) (fun _=>bc) (fun _=>aV) ?_;rintro⟨⟩ _)|(refine av.ep 48 ?_;refine av.he rfl rfl (HE.bC (M0:=aS sp c.ao (tv,pv)) dt rfl rfl (fun w' hw'=>uX sp c.ao (tv,pv) f ⟨D_,p_,c_,q_,d_⟩ w' (hw'.cF dM aV) hwf.ao hb)) (fun _=>by dsimp only[aS,List.cons_append,List.nil_append];exact bc) (fun _=>aV) ?_;rintro⟨tvb,pvb⟩ _;dsimp only[aS,List.cons_append,List.nil_append])|refine aP.nil LX ?_|refine aP.any LX ?_|exact aN.fin rfl|refine aN.skip LX ?_|refine aN.go ?_ ?_)
  all_goals
   repeat'(first|refine ar ?_|fail)
   exact ah.aB rfl rfl fun w' hw'=>by
    by_cases h2:(fy c.ao f).2=0
    ·have:=aD.ok (cp:=cp) (r:=({c with ao:=(fy c.ao f).1},(fy c.ao f).2)) (⟨sp,tvb,pvb,bv,rv,fv,D,L⟩:iY) h2 ⟨hg.len,hg.fr,hg.rs⟩ hS hw' LD ak
     rw[h2];exact this
    ·exact aD.err _ rfl h2 hS hw' ak
 ·unfold n9
  rw[if_pos he]
  repeat'(first|refine ar ?_|(refine KS fun b_=>?_)|refine Hm ?_|(refine aa.ai (f:=36) ?_;refine aa.he (HE.Fg (r:=(f,e0)) rfl rfl (fun w' hw'=>hty w' _ (hw'.sub (List.Sublist.refl _) aV))) rfl ?_;rintro⟨D_,p_,c_,q_,d_⟩ _;dsimp only)|fail)
  all_goals first|omega|exact ah.aB rfl rfl fun w' hw'=>aD.err e0 rfl he hS hw' ak
set_option maxHeartbeats 8000000 in
theorem tg (F F':Nat→Prop) (xs ys:List Int) (v u:Value) (w:World) (h:af F w v xs) (h':af F' w u ys):Calls G.P 42 #[v,u] w fun e w'=>e=.returned (.bool (decide (xs=ys)))∧Ext w w':=by
 obtain⟨p,c,rfl,hl⟩:=h.slice
 obtain⟨q,d,rfl,hl'⟩:=h'.slice
 refine ae (l:=[_,_]) Tryz.func42 rfl Tryz.ntmps42 rfl (Ok.start w) ?_
 by_cases hlen:xs.length=ys.length
 ·repeat'(first|refine ar ?_|fail)
  refine J3 ?_
  rintro j ⟨hj,heq⟩
  by_cases hjl:j<xs.length
  ·obtain⟨b7,o7,rfl,-,hc⟩:=h.at hjl
   obtain⟨b8,o8,rfl,-,hc'⟩:=h'.at (show j<ys.length by omega)
   have hcj:=hc j hjl
   have hcj':=hc' j Mj
   have hst:=pd hjl (show j<ys.length by omega) heq
   by_cases he:ix xs j=ix ys j
   ·repeat'(first|refine ar ?_|fail)
    all_goals exact rd
   ·repeat'(first|refine ar ?_|fail)
    all_goals exact rt
  ·obtain rfl:j=xs.length:=by omega
   rw[List.take_length,hlen,List.take_length]at heq
   repeat'(first|refine ar ?_|fail)
   all_goals exact rx
 ·repeat'(first|refine ar ?_|fail)
  all_goals exact t6
def fe (r:aL×Int) (F:Nat→Prop) (w:World):Ending→World→Prop:=bg (dr r.1) (fun y:Value×Value=>.agg #[y.1,y.2,.int .i64 r.2]) F w
section
variable {n:Nat} {E:Env} {M:List a8} {R:List (World→Prop)} {w0:World} {f:Nat} {args:List Operand} {tys:Array TypeId} {vs:List Value} {F:Nat→Prop}
theorem HE.rg {r:aL×Int} (hR:Ext w0∈R) (hF:∀k,F k→k<w0.heap.size) (hf:G.fb[f]?=some true) (ha:jQ E args=some vs) (hc:∀w,Ok M R w→Calls G.P f vs.toArray w (fe r F w)):
  HE n (.call ⟨.value (.func f),args.toArray,tys⟩) E M R (fun x:AM=>∀k,x.D k→F k∨w0.heap.size≤k) (fun x=>.agg #[.slice x.p r.1.params.length x.c,.slice x.q r.1.results.length x.d,.int .i64 r.2]) (fun _=>M) (fun x=>qJ r.1 x::R):=
 HE.C1 (tf:=fun u v=>.agg #[u,v,.int .i64 r.2]) hR hF hf ha hc
end
theorem bz {ops:Array Oper} {Q:Exit→Act→World→Prop} {n:Nat} {rest:List Oper} {E:Env} {M:List a8} {R:List (World→Prop)} {d:Nat} {ty:TypeId} {pos:String} {aft:Array Edge} (h:∀b:Nat,aa ops Q n rest ((d,.pointer (some ⟨b,0,none⟩))::E) (.aT b [Value.slice none 0 0,Value.slice none 0 0,Value.int .i64 0] 120::M) R) (hd:Nat.blt d n=true:=by rfl):aa ops Q n (⟨some d,.alloc 120,ty,pos,aft,none⟩::rest) E M R:=aa.alloc (t:=120) [Value.slice none 0 0,Value.slice none 0 0,Value.int .i64 0] rfl rfl hd h
theorem eY (e0:Int) (w:World):Calls G.P 92 #[.int .i64 e0] w fun e w'=>e=.returned (.agg #[.slice none 0 0,.slice none 0 0,.int .i64 e0])∧Ext w w':=by
 refine ae (l:=[_]) Tryz.func92 rfl Tryz.ntmps92 rfl (Ok.start w) ?_
 repeat'(first|refine ar ?_|(refine bz fun b_=>?_)|fail)
 all_goals exact pm
theorem gk (p0 p1:Option Addr) (n0 n1 c0 c1:Nat) (w:World):Calls G.P 95 #[.slice p0 n0 c0,.slice p1 n1 c1] w fun e w'=>e=.returned (.agg #[.slice p0 n0 c0,.slice p1 n1 c1,.int .i64 0])∧Ext w w':=by
 refine ae (l:=[_,_]) Tryz.func95 rfl Tryz.ntmps95 rfl (Ok.start w) ?_
 repeat'(first|refine ar ?_|(refine bz fun b_=>?_)|fail)
 all_goals exact pm
theorem fJ (p0:Option Addr) (n0 c0:Nat) (w:World):Calls G.P 96 #[.slice p0 n0 c0] w fun e w'=>e=.returned (.slice p0 n0 c0)∧Ext w w':=by
 refine ae (l:=[_]) Tryz.func96 rfl Tryz.ntmps96 rfl (Ok.start w) ?_
 repeat'(first|refine ar ?_|fail)
 all_goals exact dl
theorem uO {g g':Prop} (h:g') (hw:dS g'→g:=by(intro hk_;(first|refine Lo ?_|refine K8 ?_|(refine aa.ai (f:=96) ?_;refine aa.aq rfl rfl rfl (fun w' hw'=>fJ _ _ _ w') ?_));exact hk_.out)):g:=hw ⟨h⟩
def pA (c:fN):fN×Int:=if c.fs.length=0 then(c,16)else if(cw c.ao (ix c.fs (c.fs.length - 1)).res).2≠0 then(c,(cw c.ao (ix c.fs (c.fs.length - 1)).res).2)else if(ix c.fs (c.fs.length - 1)).op=4∧(ix c.fs (c.fs.length - 1)).par≠(ix c.fs (c.fs.length - 1)).res then(c,12)else
  ({c with ao:=aJ (cw c.ao (ix c.fs (c.fs.length - 1)).res).1 (ix c.fs (c.fs.length - 1)).res,fs:=c.fs.take (c.fs.length - 1)},0)
set_option maxHeartbeats 8000000 in
theorem ph (F:Nat→Prop) (c:fN) (y:iP) (w:World) (h:bY c F w y) (hs:c.ao.Wf) (_hfl:c.fs.length≤1000000) (_hpl:c.ao.ps.length≤1000000) (hn:c.fs.length=0):Calls G.P 68 #[.agg (er c y).toArray] w (fT (c,16) F w):=by
 have hp0:=hs.some
 have ha0:=hs.at_.1
 have hle0:=hs.at_.2
 obtain⟨p1,c1,p2,c2,p3,c3,p4,c4,p5,c5,ey,k4,h4,kz⟩:=h.fP
 obtain⟨y,fv,rv,z⟩:=y
 cases ey
 refine ae (l:=[_]) Tryz.func68 rfl Tryz.ntmps68 rfl (Ok.eI (V:=aY c.ao) (aY.fr c.ao) (aY.lt c.ao) h.1) ?_
 dsimp only[er]
 have hn':(c.fs.length:Int)=0:=by omega
 repeat'(first|refine ar ?_|(refine KQ fun b_=>?_)|fail)
 all_goals exact t7
set_option maxHeartbeats 16000000 in
theorem tS (F:Nat→Prop) (c:fN) (y:iP) (w:World) (h:bY c F w y) (hs:c.ao.Wf) (hfl:c.fs.length≤1000000) (_hpl:c.ao.ps.length≤1000000) (hn:c.fs.length≠0) (hp2:2≤c.ao.ps.length) (hb:c.ao.ts.length+(ix c.fs (c.fs.length - 1)).res.length≤17592186044416):Calls G.P 68 #[.agg (er c y).toArray] w (fT (if(cw c.ao (ix c.fs (c.fs.length - 1)).res).2≠0 then(c,(cw c.ao (ix c.fs (c.fs.length - 1)).res).2)else if(ix c.fs (c.fs.length - 1)).op=4∧(ix c.fs (c.fs.length - 1)).par≠(ix c.fs (c.fs.length - 1)).res then(c,12)else
  ({c with ao:=aJ (cw c.ao (ix c.fs (c.fs.length - 1)).res).1 (ix c.fs (c.fs.length - 1)).res,fs:=c.fs.take (c.fs.length - 1)},0)) F w):=by
 have hp0:=hs.some
 have ha0:=hs.at_.1
 have hle0:=hs.at_.2
 obtain⟨p1,c1,p2,c2,p3,c3,p4,c4,p5,c5,ey,k4,h4,kz⟩:=h.fP
 obtain⟨_,_,g1,k1,g2,k2,_,-,e5,hfx,-⟩:=h.frame (i:=c.fs.length - 1) Mj
 have hz:=h.2.1
 have htop:∀w',Ext w w'→Calls G.P 60 #[.agg (er c y).toArray] w' fun e w2=>e=.returned (.agg #[.int .i64 (ix c.fs (c.fs.length - 1)).op,.slice g1 (ix c.fs (c.fs.length - 1)).par.length k1,.slice g2 (ix c.fs (c.fs.length - 1)).res.length k2,.bool (ix c.fs (c.fs.length - 1)).live,.bool (ix c.fs (c.fs.length - 1)).kf])∧Ext w' w2:=fun w' hx=>by
  have:=jm F c y w' (bY.fr c h hx (fun _ _ _ h=>h)) Mj
  rw[e5]at this
  exact this
 obtain⟨y,fv,rv,z⟩:=y
 cases ey
 dsimp only[er]at e5 hz kz hfx htop
 rw[e5]at hfx
 have hI:∀l v,af F w v l→∀D w',Ext w w'→af (AF F w D) w' v l:=fun l v hv D w' hx=>(((hv.mono (fun k hk hF=>⟨hF,hk⟩):af (fun k=>F k∧k<w.heap.size) w _ _)).aO hx (fun _ _ _ h=>h)).mono fun k _ h=>.inl h
 refine ae (l:=[_]) Tryz.func68 rfl Tryz.ntmps68 rfl (Ok.eI (V:=aY c.ao) (aY.fr c.ao) (aY.lt c.ao) h.1) ?_
 dsimp only[er]
 have hn':¬(c.fs.length:Int)=0:=by omega
 obtain⟨r1,hr1⟩:∃r,cw c.ao (ix c.fs (c.fs.length - 1)).res=r:=⟨_,rfl⟩
 obtain⟨s1,e1⟩:=r1
 rw[hr1]
 have hts1:s1.ts.length≤c.ao.ts.length:=by have:=kW c.ao (ix c.fs (c.fs.length - 1)).res;rw[hr1]at this;exact this
 have htk:=(show uj F w (.slice p4 c.fs.length c4) z from hz).take (c.fs.length - 1) Mj
 have htl:(z.take (c.fs.length - 1)).length=c.fs.length - 1:=by rw[List.length_take];omega
 have hsv:∀w',Ext w w'→Calls G.P 42 #[.slice g1 (ix c.fs (c.fs.length - 1)).par.length k1,.slice g2 (ix c.fs (c.fs.length - 1)).res.length k2] w' fun e w2=>e=.returned (.bool (decide ((ix c.fs (c.fs.length - 1)).par=(ix c.fs (c.fs.length - 1)).res)))∧Ext w' w2:=fun w' hx=>tg F F _ _ _ _ w' (hfx.1.aO hx (fun _ _ _ h=>h)) (hfx.2.aO hx (fun _ _ _ h=>h))
 dsimp only
 repeat'(first|refine ar ?_|(refine KQ fun b_=>?_)|(refine aa.ai (f:=60) ?_;refine aa.aq rfl rfl rfl (fun w' hw'=>htop w' hw'.at) ?_)|refine K9 ?_|fail)
 all_goals first|omega|skip
 obtain⟨b4,rfl⟩:∃y:Nat,y=b_:=⟨_,rfl⟩
 by_cases he1:e1=0
 ·subst he1
  rw[if_neg (fun h=>h rfl)]
  refine aa.he (HE.bF (V:=aY c.ao) (V2:=aY s1) (w0:=w) (F:=F) (D:=fun _=>False) (y:=⟨.slice p1 c.ao.ts.length c1,.slice p2 c.ao.ps.length c2,.slice p3 c.ao.ps.length c3⟩) (aY.fr _) (aY.lt _) (aY.mo _) ak bG (fun _=>aA) rfl rfl (fun w' hw' hh=>by have:=mf _ F c.ao ⟨.slice p1 c.ao.ts.length c1,.slice p2 c.ao.ps.length c2,.slice p3 c.ao.ps.length c3⟩ (.slice g2 (ix c.fs (c.fs.length - 1)).res.length k2) (ix c.fs (c.fs.length - 1)).res w' hh (hfx.2.aO (show Ext w w' from hw'.at) (fun _ _ _ h=>h)) hp2 ha0 hle0;rw[hr1]at this;exact this.mono fun _ _ g=>nm.to g)) rfl ?_
  rintro⟨D1,x1⟩ _
  refine aa.pure (φ:=∃q1 d1 q2 d2 q3 d3,x1=⟨.slice q1 s1.ts.length d1,.slice q2 s1.ps.length d2,.slice q3 s1.ps.length d3⟩) (fun w' hw'=>by obtain⟨q1,d1,q2,d2,q3,d3,e,-⟩:=(hw'.an (V:=aY s1) (w0:=w) (F:=F) (D:=D1) (y:=x1) ak bG).fP;exact⟨q1,d1,q2,d2,q3,d3,e⟩) ?_
  rintro⟨r1,rc1,r2,rc2,r3,rc3,rfl⟩
  dsimp only[fI]
  repeat'(first|refine ar ?_|(refine KR fun b_=>?_)|fail)
  refine Ko ?_
  rintro⟨⟩ _
  by_cases hbad:(ix c.fs (c.fs.length - 1)).op=4∧(ix c.fs (c.fs.length - 1)).par≠(ix c.fs (c.fs.length - 1)).res
  ·rw[if_pos hbad]
   obtain⟨ho4,hpr⟩:=hbad
   have hdn:(!decide ((ix c.fs (c.fs.length - 1)).par=(ix c.fs (c.fs.length - 1)).res))=true:=by rw[decide_eq_false hpr];rfl
   repeat'(first|refine ar ?_|(refine KR fun b_=>?_)|(refine aa.ai (f:=59) ?_;refine aa.he (HE.dX rfl rfl (fun w' _=>hO _ _ _ _ _ _ _ _ _ _ _ _ _ _ _ _ _ _ w')) rfl ?_;rintro⟨⟩ _)|(refine aa.cm (f:=42) ?_;refine aa.bV ny rfl rfl rfl (fun w' hw'=>hsv w' hw'.at) ?_)|fail)
   all_goals exact t7
  ·rw[if_neg hbad]
   have hdn:(ix c.fs (c.fs.length - 1)).op=4→(!decide ((ix c.fs (c.fs.length - 1)).par=(ix c.fs (c.fs.length - 1)).res))=false:=fun h=>by
    have:(ix c.fs (c.fs.length - 1)).par=(ix c.fs (c.fs.length - 1)).res:=Classical.byContradiction fun h2=>hbad ⟨h,h2⟩
    rw[decide_eq_true this];rfl
   by_cases ho4:(ix c.fs (c.fs.length - 1)).op=4
   ·have hd2:=hdn ho4
    repeat'(first|refine ar ?_|(refine KR fun b_=>?_)|(refine aa.cm (f:=42) ?_;refine aa.bV ny rfl rfl rfl (fun w' hw'=>hsv w' hw'.at) ?_)|fail)
    all_goals first|omega|skip
    refine Kq ?_
    rintro⟨D4,x4⟩ _
    obtain⟨s4,hs4⟩:∃s,aJ s1 (ix c.fs (c.fs.length - 1)).res=s:=⟨_,rfl⟩
    rw[hs4]
    refine aa.pure (φ:=∃q1 d1 q2 d2 q3 d3,x4=⟨.slice q1 s4.ts.length d1,.slice q2 s4.ps.length d2,.slice q3 s4.ps.length d3⟩) (fun w' hw'=>by obtain⟨q1,d1,q2,d2,q3,d3,e,-⟩:=(hw'.an (V:=aY s4) (w0:=w) (F:=F) (D:=D4) (y:=x4) ak bG).fP;exact⟨q1,d1,q2,d2,q3,d3,e⟩) ?_
    rintro⟨v1,vc1,v2,vc2,v3,vc3,rfl⟩
    dsimp only[fI]
    repeat'(first|refine ar ?_|fail)
    refine Kr ?_
    rintro⟨⟩ _
    repeat'(first|refine ar ?_|fail)
    refine JM ?_
    intro b6 _
    refine aa.iS (b:=b6) (len:=0) 5 aA rfl (Nat.zero_le _) ?_
    repeat'(first|refine ar ?_|(refine aa.y_ (Yl.cO (i:=c.fs.length - 1) rfl rfl rfl rfl rfl Mj Mj) rfl ?_)|fail)
    refine aa.he (HE.gA (j6 (z.take (c.fs.length - 1))) rfl rfl (fun _=>aA) ((rS htk ak).imp_left fun h=>by omega) (by rw[jZ,htl]) rfl rfl rfl Ml Ml Ml (nk _ htk.Dk) LF Mj (fun _ _=>Nat.zero_le _)) rfl ?_
    intro va _
    simp only[Nat.zero_add,List.nil_append]
    refine aa.pure (φ:=∃p cc,va=.slice p (c.fs.length - 1) cc∧c.fs.length - 1≤cc) (fun w' hw'=>by obtain⟨p,cc,e,h,_⟩:=ax (hw'.own (v:=va));exact⟨p,cc,e,h⟩) ?_
    rintro⟨pa,ca,rfl,hca⟩
    repeat'(first|refine ar ?_|fail)
    refine IR ?_
    intro w' hw'
    have hE:Ext w w':=hw'.at
    have hsd:=(bY.fr c h hE (fun _ _ _ h=>h)).mono (H:=fun k=>F k∨w.heap.size≤k) fun _ h=>.inl h
    have g:=nj (F:=F) (z.take (c.fs.length - 1)) hw' ak bG htl.symm rfl Mj (fun a ha=>hsd.2.1.Dk a (List.mem_of_mem_take ha))
    have g1:=hw'.new (V:=aY s4) (w:=w) (F:=F) (D:=D4) (y:=⟨.slice v1 s4.ts.length vc1,.slice v2 s4.ps.length vc2,.slice v3 s4.ps.length vc3⟩) (aY.mo _) ak bG
    exact wd
   ·repeat'(first|refine ar ?_|(refine KR fun b_=>?_)|fail)
    all_goals first|omega|skip
    refine Kq ?_
    rintro⟨D4,x4⟩ _
    obtain⟨s4,hs4⟩:∃s,aJ s1 (ix c.fs (c.fs.length - 1)).res=s:=⟨_,rfl⟩
    rw[hs4]
    refine aa.pure (φ:=∃q1 d1 q2 d2 q3 d3,x4=⟨.slice q1 s4.ts.length d1,.slice q2 s4.ps.length d2,.slice q3 s4.ps.length d3⟩) (fun w' hw'=>by obtain⟨q1,d1,q2,d2,q3,d3,e,-⟩:=(hw'.an (V:=aY s4) (w0:=w) (F:=F) (D:=D4) (y:=x4) ak bG).fP;exact⟨q1,d1,q2,d2,q3,d3,e⟩) ?_
    rintro⟨v1,vc1,v2,vc2,v3,vc3,rfl⟩
    dsimp only[fI]
    repeat'(first|refine ar ?_|fail)
    refine Kr ?_
    rintro⟨⟩ _
    repeat'(first|refine ar ?_|fail)
    refine JM ?_
    intro b6 _
    refine aa.iS (b:=b6) (len:=0) 5 aA rfl (Nat.zero_le _) ?_
    repeat'(first|refine ar ?_|(refine aa.y_ (Yl.cO (i:=c.fs.length - 1) rfl rfl rfl rfl rfl Mj Mj) rfl ?_)|fail)
    refine aa.he (HE.gA (j6 (z.take (c.fs.length - 1))) rfl rfl (fun _=>aA) ((rS htk ak).imp_left fun h=>by omega) (by rw[jZ,htl]) rfl rfl rfl Ml Ml Ml (nk _ htk.Dk) LF Mj (fun _ _=>Nat.zero_le _)) rfl ?_
    intro va _
    simp only[Nat.zero_add,List.nil_append]
    refine aa.pure (φ:=∃p cc,va=.slice p (c.fs.length - 1) cc∧c.fs.length - 1≤cc) (fun w' hw'=>by obtain⟨p,cc,e,h,_⟩:=ax (hw'.own (v:=va));exact⟨p,cc,e,h⟩) ?_
    rintro⟨pa,ca,rfl,hca⟩
    repeat'(first|refine ar ?_|fail)
    refine IR ?_
    intro w' hw'
    have hE:Ext w w':=hw'.at
    have hsd:=(bY.fr c h hE (fun _ _ _ h=>h)).mono (H:=fun k=>F k∨w.heap.size≤k) fun _ h=>.inl h
    have g:=nj (F:=F) (z.take (c.fs.length - 1)) hw' ak bG htl.symm rfl Mj (fun a ha=>hsd.2.1.Dk a (List.mem_of_mem_take ha))
    have g1:=hw'.new (V:=aY s4) (w:=w) (F:=F) (D:=D4) (y:=⟨.slice v1 s4.ts.length vc1,.slice v2 s4.ps.length vc2,.slice v3 s4.ps.length vc3⟩) (aY.mo _) ak bG
    exact wd
 ·rw[if_pos he1]
  refine aa.he (HE.bF (V:=aY c.ao) (V2:=jD) (w0:=w) (F:=F) (D:=fun _=>False) (y:=⟨.slice p1 c.ao.ts.length c1,.slice p2 c.ao.ps.length c2,.slice p3 c.ao.ps.length c3⟩) jD.fr jD.lt jD.mo ak bG (fun _=>aA) rfl rfl (fun w' hw' hh=>by have:=mf _ F c.ao ⟨.slice p1 c.ao.ts.length c1,.slice p2 c.ao.ps.length c2,.slice p3 c.ao.ps.length c3⟩ (.slice g2 (ix c.fs (c.fs.length - 1)).res.length k2) (ix c.fs (c.fs.length - 1)).res w' hh (hfx.2.aO (show Ext w w' from hw'.at) (fun _ _ _ h=>h)) hp2 ha0 hle0;rw[hr1]at this;exact this.mono fun _ _ g=>nm.oQ g)) rfl ?_
  rintro⟨D2,x2⟩ _
  refine JJ ?_
  rintro⟨q1,n1,d1,q2,n2,d2,q3,n3,d3,rfl⟩
  dsimp only[fI]
  repeat'(first|refine ar ?_|(refine KR fun b_=>?_)|(refine aa.ai (f:=59) ?_;refine aa.he (HE.dX rfl rfl (fun w' _=>hO _ _ _ _ _ _ _ _ _ _ _ _ _ _ _ _ _ _ w')) rfl ?_;rintro⟨⟩ _)|fail)
  all_goals first|omega|skip
  all_goals(refine ah.aF (.inl rfl) rfl rfl rfl rfl rfl aA rfl rfl ?_;exact fun w' hw'=>fT.err (e:=_) (fh.mk ..) LO hw'.at)
theorem jw {F:Nat→Prop} {w w':World} {v:Value} {l:List Int} (h:af F w v l) (hx:Ext w w') (D:Nat→Prop):af (AF F w D) w' v l:=(((h.mono (fun _ hk hF=>⟨hF,hk⟩):af (fun k=>F k∧k<w.heap.size) w _ _)).aO hx (fun _ _ _ h=>h)).mono fun _ _ h=>.inl h
theorem fT.ao {c:fN} {F D:Nat→Prop} {s:bP} {w w':World} {y:iP} {M:List a8} {R:List (World→Prop)} (x:jq) (h:bY c F w y) (hw:Ok M R w') (hR:Ext w∈R) (hM:a8.an (aY s) w F D x∈M):fT ({c with ao:=s},0) F w (.returned (.tuple #[.agg (er {c with ao:=s} {y with r:=x}).toArray,.int .i64 0])) w':=by
 have hE:Ext w w':=hw.get hR
 have hsd:=(bY.fr c h hE (fun _ _ _ h=>h)).mono (H:=fun k=>F k∨w.heap.size≤k) fun _ h=>.inl h
 exact fT.ok (c:={c with ao:=s}) {y with r:=x} ⟨hw.new (V:=aY s) (aY.mo _) hR hM,hsd.2⟩ hE
theorem aa.nV {ops:Array Oper} {Q:Exit→Act→World→Prop} {n:Nat} {l:List Oper} {E:Env} {M M':List a8} {R:List (World→Prop)} {β β2:Type} {V:(Nat→Prop)→World→β→Prop} {V2:(Nat→Prop)→World→β2→Prop} {w0:World} {F D:Nat→Prop} {y:β} (y2:β2) (hM:Up (a8.an V w0 F D y) (a8.an V2 w0 F D y2) M M') (hp:∀D w,V D w y→V2 D w y2) (h:aa ops Q n l E M' R):aa ops Q n l E M R:=⟨fun w hw=>h.h w (hw.nV y2 hM hp)⟩
theorem th {s:bP} (h:s.Wf) (f:aL):(fy s f).1.Wf:=by
 unfold fy
 split
 ·exact dn h _
 ·exact mZ (dn h _) _
theorem sN (s:bP) (f:aL):(fy s f).1.ps=s.ps:=by
 unfold fy
 split
 ·exact eM _ _
 ·exact eM _ _
def jl (c:fN) (f:aL):fN×Int:=({c with ao:=(fy c.ao f).1},(fy c.ao f).2)
set_option maxHeartbeats 8000000 in
theorem mR (F:Nat→Prop) (c:fN) (y:iP) (w:World) (h:bY c F w y) (f:aL) (fp fq:Option Addr) (fc fd:Nat) (hf:dr f F w (.slice fp f.params.length fc,.slice fq f.results.length fd)) (hs:c.ao.Wf) (hb:c.ao.ts.length+f.results.length≤17592186044416):Calls G.P 72 #[.agg (er c y).toArray,.agg #[.slice fp f.params.length fc,.slice fq f.results.length fd]] w (fT (jl c f) F w):=by
 obtain⟨p1,c1,p2,c2,p3,c3,p4,c4,p5,c5,ey,k4,h4,kz⟩:=h.fP
 obtain⟨y,fv,rv,z⟩:=y
 cases ey
 unfold jl fy
 obtain⟨r1,hr1⟩:∃r,aE c.ao f.params=r:=⟨_,rfl⟩
 obtain⟨s1,e1⟩:=r1
 rw[hr1]
 have hts1:s1.ts.length≤c.ao.ts.length:=by have:=dp c.ao f.params;rw[hr1]at this;exact this
 refine ae (l:=[_,_]) Tryz.func72 rfl Tryz.ntmps72 rfl (Ok.eI (V:=aY c.ao) (aY.fr c.ao) (aY.lt c.ao) h.1) ?_
 dsimp only[er]
 refine ar ?_
 refine aa.box [.slice p1 c.ao.ts.length c1,.slice p2 c.ao.ps.length c2,.slice p3 c.ao.ps.length c3,.int .i64 c.ao.bH,.slice p4 c.fs.length c4,.slice p5 c.results.length c5,.int .i64 0] rfl rfl rfl fun b2=>?_
 refine aa.box [.slice fp f.params.length fc,.slice fq f.results.length fd] rfl rfl rfl fun b3=>?_
 repeat'(first|refine ar ?_|(refine KR fun b_=>?_)|fail)
 by_cases he1:e1=0
 ·subst he1
  rw[if_neg (fun h=>h rfl)]
  refine aa.he (HE.bF (V:=aY c.ao) (V2:=aY s1) (w0:=w) (F:=F) (D:=(fun _=>False)) (y:=⟨.slice p1 c.ao.ts.length c1,.slice p2 c.ao.ps.length c2,.slice p3 c.ao.ps.length c3⟩) (aY.fr _) (aY.lt _) (aY.mo _) ak bG (fun _=>aA) rfl rfl (fun w' hw' hh=>by have:=eC _ _ c.ao ⟨.slice p1 c.ao.ts.length c1,.slice p2 c.ao.ps.length c2,.slice p3 c.ao.ps.length c3⟩ (.slice fp f.params.length fc) f.params w' hh (hf.1.aO (show Ext w w' from hw'.at) (fun _ _ _ h=>h)) hs.some hs.at_.1 hs.at_.2;rw[hr1]at this;exact this.mono fun _ _ g=>nm.to g)) rfl ?_
  rintro⟨D1,x1⟩ _
  refine aa.pure (φ:=∃q1 d1 q2 d2 q3 d3,x1=⟨.slice q1 s1.ts.length d1,.slice q2 s1.ps.length d2,.slice q3 s1.ps.length d3⟩) (fun w' hw'=>by obtain⟨q1,d1,q2,d2,q3,d3,e,-⟩:=(hw'.an (V:=aY s1) (w0:=w) (F:=F) (D:=D1) (y:=x1) ak bG).fP;exact⟨q1,d1,q2,d2,q3,d3,e⟩) ?_
  rintro⟨r1,rc1,r2,rc2,r3,rc3,rfl⟩
  dsimp only[fI]
  repeat'(first|refine ar ?_|(refine KR fun b_=>?_)|fail)
  refine aa.he (HE.bF (V:=aY s1) (V2:=aY (aJ s1 f.results)) (tf:=fun y=>.agg (fI (aJ s1 f.results) y).toArray) (w0:=w) (F:=F) (D:=D1) (y:=⟨.slice r1 s1.ts.length rc1,.slice r2 s1.ps.length rc2,.slice r3 s1.ps.length rc3⟩) (aY.fr _) (aY.lt _) (aY.mo _) ak bG (fun _=>aA) rfl rfl (fun w' hw' hh=>iH _ s1 ⟨.slice r1 s1.ts.length rc1,.slice r2 s1.ps.length rc2,.slice r3 s1.ps.length rc3⟩ (.slice fq f.results.length fd) f.results w' hh (jw hf.2 hw'.at _) Mj)) rfl ?_
  rintro⟨D4,x4⟩ _
  dsimp only
  obtain⟨s4,hs4⟩:∃s,aJ s1 f.results=s:=⟨_,rfl⟩
  rw[hs4]
  refine aa.pure (φ:=∃q1 d1 q2 d2 q3 d3,x4=⟨.slice q1 s4.ts.length d1,.slice q2 s4.ps.length d2,.slice q3 s4.ps.length d3⟩) (fun w' hw'=>by obtain⟨q1,d1,q2,d2,q3,d3,e,-⟩:=(hw'.an (V:=aY s4) (w0:=w) (F:=F) (D:=D4) (y:=x4) ak bG).fP;exact⟨q1,d1,q2,d2,q3,d3,e⟩) ?_
  rintro⟨v1,vc1,v2,vc2,v3,vc3,rfl⟩
  dsimp only[fI]
  repeat'(first|refine ar ?_|fail)
  refine Kr ?_
  rintro⟨⟩ _
  repeat'(first|refine ar ?_|fail)
  refine IR ?_
  exact fun w' hw'=>fT.ao (D:=D4) ⟨.slice v1 s4.ts.length vc1,.slice v2 s4.ps.length vc2,.slice v3 s4.ps.length vc3⟩ h hw' ak bG
 ·rw[if_pos he1]
  refine aa.he (HE.bF (V:=aY c.ao) (V2:=jD) (w0:=w) (F:=F) (D:=(fun _=>False)) (y:=⟨.slice p1 c.ao.ts.length c1,.slice p2 c.ao.ps.length c2,.slice p3 c.ao.ps.length c3⟩) jD.fr jD.lt jD.mo ak bG (fun _=>aA) rfl rfl (fun w' hw' hh=>by have:=eC _ _ c.ao ⟨.slice p1 c.ao.ts.length c1,.slice p2 c.ao.ps.length c2,.slice p3 c.ao.ps.length c3⟩ (.slice fp f.params.length fc) f.params w' hh (hf.1.aO (show Ext w w' from hw'.at) (fun _ _ _ h=>h)) hs.some hs.at_.1 hs.at_.2;rw[hr1]at this;exact this.mono fun _ _ g=>nm.oQ g)) rfl ?_
  rintro⟨D2,x2⟩ _
  refine JJ ?_
  rintro⟨q1,n1,d1,q2,n2,d2,q3,n3,d3,rfl⟩
  dsimp only[fI]
  repeat'(first|refine ar ?_|(refine KR fun b_=>?_)|fail)
  all_goals exact t7
def fF (c:fN):fN:=if c.fs.length=0 then c else nD c
set_option maxHeartbeats 8000000 in
theorem km (F:Nat→Prop) (c:fN) (y:iP) (w:World) (h:bY c F w y) (hfl:c.fs.length≤1000000) (hs:c.ao.Wf) (hpl:c.ao.ps.length≤1000000):Calls G.P 22 #[.agg (er c y).toArray] w (bg (bY (fF c)) (fun y=>.agg (er (fF c) y).toArray) F w):=by
 by_cases hn:c.fs.length=0
 ·rw[show fF c=c from if_pos hn]
  have hn':(c.fs.length:Int)=0:=by omega
  obtain⟨p1,c1,p2,c2,p3,c3,p4,c4,p5,c5,ey,k4,h4,kz⟩:=h.fP
  obtain⟨y,fv,rv,z⟩:=y
  cases ey
  refine ae (l:=[_]) Tryz.func22 rfl Tryz.ntmps22 rfl (Ok.eI (V:=aY c.ao) (aY.fr c.ao) (aY.lt c.ao) h.1) ?_
  dsimp only[er]
  repeat'(first|refine ar ?_|(refine KQ fun b_=>?_)|fail)
  all_goals first|omega|skip
  refine J4 ?_
  intro w' hw'
  have hE:Ext w w':=hw'.at
  exact⟨⟨(⟨⟨.slice p1 c.ao.ts.length c1,.slice p2 c.ao.ps.length c2,.slice p3 c.ao.ps.length c3⟩,.slice p4 c.fs.length c4,.slice p5 c.results.length c5,z⟩:iP),rfl,(bY.fr c h hE (fun _ _ _ h=>h)).mono fun _ h=>.inl h⟩,hE⟩
 ·rw[show fF c=nD c from if_neg hn]
  exact zi F c y w h Mj hfl hs.some hs.at_.1 hs.at_.2 hpl
def kp (c:fN) (l:List Int) (e:Int):fN×Int:=if e≠0 then(c,e)else if(jl c ⟨l,[]⟩).2≠0 then(c,(jl c ⟨l,[]⟩).2)else(fF (jl c ⟨l,[]⟩).1,0)
set_option maxHeartbeats 8000000 in
theorem oG (F:Nat→Prop) (c:fN) (y:iP) (w:World) (h:bY c F w y) (l:List Int) (lp:Option Addr) (ln lc:Nat) (e:Int) (hl:e=0→ln=l.length∧af F w (.slice lp ln lc) l) (hfl:c.fs.length≤1000000) (hs:c.ao.Wf) (hpl:c.ao.ps.length≤1000000) (hb:c.ao.ts.length≤17592186044416):Calls G.P 69 #[.agg (er c y).toArray,.slice lp ln lc,.int .i64 e] w (fT (kp c l e) F w):=by
 have hh:=h
 obtain⟨p1,c1,p2,c2,p3,c3,p4,c4,p5,c5,ey,k4,h4,kz⟩:=h.fP
 obtain⟨y,fv,rv,z⟩:=y
 cases ey
 unfold kp
 by_cases he:e=0
 ·subst he
  obtain⟨rfl,hl⟩:=hl rfl
  rw[if_neg (fun h=>h rfl)]
  have htk:∀w',Ext w w'→Calls G.P 72 #[.agg (er c ⟨⟨.slice p1 c.ao.ts.length c1,.slice p2 c.ao.ps.length c2,.slice p3 c.ao.ps.length c3⟩,.slice p4 c.fs.length c4,.slice p5 c.results.length c5,z⟩).toArray,.agg #[.slice lp l.length lc,.slice none 0 0]] w' (fT (jl c ⟨l,[]⟩) (AF F w (fun _=>False)) w'):=fun w' hx=>mR _ c _ w' ((bY.fr c (bY.lt c h) hx (fun _ _ _ h=>h)).mono fun _ hk=>.inl hk) ⟨l,[]⟩ lp none lc 0 ⟨jw hl hx _,af.bR _ _⟩ hs (by show c.ao.ts.length+0≤_;omega)
  generalize htt:jl c ⟨l,[]⟩=r at htk ⊢
  obtain⟨cc,e2⟩:=r
  have hcf:cc.fs=c.fs∧cc.results=c.results∧cc.ao.Wf∧cc.ao.ps=c.ao.ps:=by
   have h1:(jl c ⟨l,[]⟩).1=cc:=by rw[htt]
   rw[←h1]
   exact⟨rfl,rfl,th hs _,sN _ _⟩
  refine ae (l:=[_,_,_]) Tryz.func69 rfl Tryz.ntmps69 rfl (Ok.eI (V:=bY c) (bY.fr c) (bY.lt c) h) ?_
  dsimp only[er]at htk ⊢
  repeat'(first|refine ar ?_|(refine KQ fun b_=>?_)|fail)
  refine aa.he (HE.bF (V:=bY c) (V2:=fm (cc,e2)) (tf:=fun x=>.tuple #[.agg x.2.toArray,.int .i64 e2]) (w0:=w) (F:=F) (D:=fun _=>False) (y:=⟨⟨.slice p1 c.ao.ts.length c1,.slice p2 c.ao.ps.length c2,.slice p3 c.ao.ps.length c3⟩,.slice p4 c.fs.length c4,.slice p5 c.results.length c5,z⟩) (fm.fr _) (fm.lt _) (fm.mo _) ak bG (fun _=>aA) rfl rfl (fun w' hw' _=>htk w' hw'.at)) rfl ?_
  rintro⟨D1,y1,l1⟩ _
  by_cases he2:e2=0
  ·subst he2
   rw[if_neg (fun h=>h rfl)]
   refine aa.pure (φ:=∃a1 k1 a2 k2 a3 k3 a4 k4 a5 k5,∃zz:List rU,y1=⟨⟨.slice a1 cc.ao.ts.length k1,.slice a2 cc.ao.ps.length k2,.slice a3 cc.ao.ps.length k3⟩,.slice a4 cc.fs.length k4,.slice a5 cc.results.length k5,zz⟩∧l1=er cc y1) (fun w' hw'=>by have hv:=hw'.an (V:=fm (cc,0)) (w0:=w) (F:=F) (D:=D1) (y:=(y1,l1)) ak bG;obtain⟨h1,h2⟩:=hv.2 rfl;obtain⟨p1,c1,p2,c2,p3,c3,p4,c4,p5,c5,e,-⟩:=h2.fP;exact⟨p1,c1,p2,c2,p3,c3,p4,c4,p5,c5,_,e,h1⟩) ?_
   rintro⟨a1,k1,a2,k2,a3,k3,a4,k4',a5,k5,zz,rfl,rfl⟩
   refine aa.nV (V:=fm (cc,0)) (V2:=bY cc) (w0:=w) (F:=F) (D:=D1) (⟨⟨.slice a1 cc.ao.ts.length k1,.slice a2 cc.ao.ps.length k2,.slice a3 cc.ao.ps.length k3⟩,.slice a4 cc.fs.length k4',.slice a5 cc.results.length k5,zz⟩:iP) aA (fun D w h=>(h.2 rfl).2) ?_
   dsimp only[er]
   repeat'(first|refine ar ?_|(refine KR fun b_=>?_)|fail)
   refine aa.he (HE.bF (V:=bY cc) (V2:=bY (fF cc)) (tf:=fun y=>.agg (er (fF cc) y).toArray) (w0:=w) (F:=F) (D:=D1) (y:=⟨⟨.slice a1 cc.ao.ts.length k1,.slice a2 cc.ao.ps.length k2,.slice a3 cc.ao.ps.length k3⟩,.slice a4 cc.fs.length k4',.slice a5 cc.results.length k5,zz⟩) (bY.fr _) (bY.lt _) (bY.mo _) ak bG (fun _=>aA) rfl rfl (fun w' _ hh=>km _ cc ⟨⟨.slice a1 cc.ao.ts.length k1,.slice a2 cc.ao.ps.length k2,.slice a3 cc.ao.ps.length k3⟩,.slice a4 cc.fs.length k4',.slice a5 cc.results.length k5,zz⟩ w' hh (by rw[hcf.1];exact hfl) hcf.2.2.1 (by rw[hcf.2.2.2];exact hpl))) rfl ?_
   rintro⟨D5,y5⟩ _
   refine aa.pure (φ:=∃a1 n1 c1 a2 n2 c2 a3 n3 c3 a4 n4 c4 a5 n5 c5,∃z:List rU,y5=⟨⟨.slice a1 n1 c1,.slice a2 n2 c2,.slice a3 n3 c3⟩,.slice a4 n4 c4,.slice a5 n5 c5,z⟩) (fun w' hw'=>by obtain⟨p1,c1,p2,c2,p3,c3,p4,c4,p5,c5,e,-⟩:=(hw'.an (V:=bY (fF cc)) (w0:=w) (F:=F) (D:=D5) (y:=y5) ak bG).fP;exact⟨p1,_,c1,p2,_,c2,p3,_,c3,p4,_,c4,p5,_,c5,_,e⟩) ?_
   rintro⟨t1,m1,j1,t2,m2,j2,t3,m3,j3,t4,m4,j4,t5,m5,j5,z5,rfl⟩
   dsimp only[er]
   repeat'(first|refine ar ?_|fail)
   refine IR ?_
   exact fun w' hw'=>fT.ok (c:=fF cc) ⟨⟨.slice t1 m1 j1,.slice t2 m2 j2,.slice t3 m3 j3⟩,.slice t4 m4 j4,.slice t5 m5 j5,z5⟩ (hw'.new (V:=bY (fF cc)) (w:=w) (F:=F) (D:=D5) (y:=⟨⟨.slice t1 m1 j1,.slice t2 m2 j2,.slice t3 m3 j3⟩,.slice t4 m4 j4,.slice t5 m5 j5,z5⟩) (bY.mo _) ak bG) hw'.at
  ·rw[if_pos he2]
   refine aa.pure (φ:=fh l1) (fun w' hw'=>(hw'.an (V:=fm (cc,e2)) (w0:=w) (F:=F) (D:=D1) (y:=(y1,l1)) ak bG).1) ?_
   rintro⟨a1,n1,k1,a2,n2,k2,a3,n3,k3,mm,a4,n4,k4',a5,n5,k5,bb,rfl⟩
   dsimp only
   repeat'(first|refine ar ?_|(refine KR fun b_=>?_)|fail)
   all_goals exact t7
 ·rw[if_pos he]
  refine ae (l:=[_,_,_]) Tryz.func69 rfl Tryz.ntmps69 rfl (Ok.eI (V:=aY c.ao) (aY.fr c.ao) (aY.lt c.ao) h.1) ?_
  dsimp only[er]
  repeat'(first|refine ar ?_|(refine KQ fun b_=>?_)|fail)
  all_goals exact t7
def pP (c:di) (i:Nat):Dg:=⟨(ix c.fs i).op,(ix c.fs i).par,(ix c.fs i).res,c.gK i,(ix c.fs i).kf⟩
def bB (c:di):fN:=⟨c.ao,(List.range c.fs.length).map (pP c),c.results⟩
theorem cB (c:di):(bB c).fs.length=c.fs.length:=by simp[bB]
theorem hZ (c:di) {i:Nat} (h:i<c.fs.length):ix (bB c).fs i=pP c i:=by
 rw[cD (by rw[cB];exact h)]
 simp[bB]
theorem yK {a b:List Dg} (hl:a.length=b.length) (h:∀i,i<a.length→ix a i=ix b i):a=b:=by
 apply List.ext_getElem hl
 intro i h1 h2
 have:=h i h1
 rwa[cD h1,cD h2]at this
theorem qL (c:di) (h:0<c.fs.length):c.gK (c.fs.length - 1)=c.live:=by unfold di.gK;rw[if_neg Mj]
theorem C4 (l:List Int):bB (jd l)=tU l:=rfl
theorem yk (c:di) (s:bP):bB {c with ao:=s}={bB c with ao:=s}:=rfl
theorem yS (c:di) (s:bP) (f:mK) (hf:f.kf=c.live):bB (gw c s c.fs f)={bB c with ao:=aJ (aR s) f.par,fs:=(bB c).fs++[⟨f.op,f.par,f.res,c.live,c.live⟩]}:=by
 have e:(bB (gw c s c.fs f)).fs=(bB c).fs++[⟨f.op,f.par,f.res,c.live,c.live⟩]:=by
  have hl:(gw c s c.fs f).fs.length=c.fs.length+1:=by simp[gw]
  refine yK (by rw[cB,hl,List.length_append,cB];rfl) fun i hi=>?_
  rw[cB,hl]at hi
  rw[hZ _ (by rw[hl];exact hi)]
  rcases Nat.lt_or_ge i c.fs.length with h|h
  ·rw[iy (by rw[cB];exact h),hZ c h]
   have h1:ix (gw c s c.fs f).fs i=ix c.fs i:=iy h
   have h2:(gw c s c.fs f).gK i=c.gK i:=by
    unfold di.gK
    rw[hl,if_pos Mj]
    by_cases h3:i+1<c.fs.length
    ·rw[if_pos h3];show(ix (c.fs++[f]) (i+1)).kf=_;rw[iy h3]
    ·rw[if_neg h3];show(ix (c.fs++[f]) (i+1)).kf=_;rw[gD Mj,show i+1 - c.fs.length=0 by omega];exact hf
   unfold pP
   rw[h1,h2]
  ·obtain rfl:i=c.fs.length:=by omega
   rw[gD (by rw[cB];exact Nat.le_refl _),cB,Nat.sub_self]
   have h1:ix (gw c s c.fs f).fs c.fs.length=f:=by show ix (c.fs++[f]) c.fs.length=f;rw[gD (Nat.le_refl _),Nat.sub_self];rfl
   have h2:(gw c s c.fs f).gK c.fs.length=c.live:=by
    unfold di.gK;rw[hl,if_neg Mj];exact hf
   unfold pP
   rw[h1,h2,hf];rfl
 show(⟨_,(bB (gw c s c.fs f)).fs,_⟩:fN)=_
 rw[e];rfl
theorem E6 {k:Int} (h:k=2∨k=3∨k=4) (par res:List Int) (b:Bool):(⟨k,par,res,false,b⟩:mK).op=k:=by
 unfold mK.op
 dsimp only
 rw[if_neg Mj,if_neg Mh]
theorem xX (c:di) (op:Int) (f:aL) (hb:c.broken=0):(fL c op f.params f.results).2=(lS (bB c) op f).2∧((fL c op f.params f.results).2=0→bB (fL c op f.params f.results).1=(lS (bB c) op f).1):=by
 unfold fL lS
 rw[if_neg (fun h=>h hb)]
 by_cases h1:op≠2∧op≠3∧op≠4
 ·rw[if_pos h1,if_pos h1];exact⟨rfl,fun _=>rfl⟩
 rw[if_neg h1,if_neg h1,cB]
 by_cases h2:c.fs.length=0
 ·rw[if_pos h2,if_pos h2];exact⟨rfl,fun _=>rfl⟩
 rw[if_neg h2,if_neg h2]
 rw[show(bB c).ao=c.ao from rfl]
 dsimp only
 obtain⟨a,ha⟩:∃a,(if op=4 then aE c.ao [1]else(c.ao,0))=a:=⟨_,rfl⟩
 rw[ha]
 by_cases h3:a.2≠0
 ·rw[if_pos h3,if_pos h3];exact⟨rfl,fun h=>absurd h h3⟩
 rw[if_neg h3,if_neg h3]
 by_cases h4:(aE a.1 f.params).2≠0
 ·rw[if_pos h4,if_pos h4];exact⟨rfl,fun h=>absurd h h4⟩
 rw[if_neg h4,if_neg h4]
 refine⟨rfl,fun _=>?_⟩
 dsimp only
 rw[yS c _ ⟨op,f.params,f.results,false,c.live⟩ rfl,E6 Mj,hZ c Mj]
 unfold pP
 rw[qL c Mj]
theorem F5 {c:di} (h:c.Ok) {i:Nat} (hi:i<c.fs.length):(ix c.fs i).op=3↔(ix c.fs i).kind=3:=by
 have h1:=h.other i hi
 unfold mK.op
 by_cases h0:(ix c.fs i).kind=0
 ·rw[if_pos h0];omega
 rw[if_neg h0]
 by_cases h2:(ix c.fs i).other=true
 ·rw[if_pos h2];have:=h1 h2;omega
 ·rw[if_neg h2]
theorem FP {c:di} (_h:c.Ok) {i:Nat} (_hi:i<c.fs.length):(ix c.fs i).op=4↔(ix c.fs i).kind=4∧(ix c.fs i).other=false:=by
 unfold mK.op
 by_cases h0:(ix c.fs i).kind=0
 ·rw[if_pos h0];omega
 rw[if_neg h0]
 cases h2:(ix c.fs i).other with
 |true=>rw[if_pos rfl];simp
 |false=>rw[if_neg Mh];simp
theorem CS (c:di) (n:Int) (hb:c.broken=0) (hk:c.Ok):cy c n=if n<0∨(bB c).fs.length≤n then([],15)else(if(ix (bB c).fs ((bB c).fs.length - 1 - n.toNat)).op=3 then(ix (bB c).fs ((bB c).fs.length - 1 - n.toNat)).par else(ix (bB c).fs ((bB c).fs.length - 1 - n.toNat)).res,0):=by
 unfold cy
 rw[if_neg (fun h=>h hb),cB]
 by_cases h:n<0∨(c.fs.length:Int)≤n
 ·rw[if_pos h,if_pos h]
 have hi:c.fs.length - 1 - n.toNat<c.fs.length:=by omega
 rw[if_neg h,if_neg h,hZ c hi]
 dsimp only
 by_cases h3:(ix c.fs (c.fs.length - 1 - n.toNat)).kind=3
 ·rw[if_pos h3,if_pos (show(pP c (c.fs.length - 1 - n.toNat)).op=3 from(F5 hk hi).2 h3)];rfl
 ·rw[if_neg h3,if_neg (show¬(pP c (c.fs.length - 1 - n.toNat)).op=3 from fun h=>h3 ((F5 hk hi).1 h))];rfl
theorem AL (c:di) (hb:c.broken=0):oC c=(bB c).results:=by unfold oC;rw[if_neg (fun h=>h hb)];rfl
theorem CF (c:di) (s:bP) (hn:0<c.fs.length):bB {c with ao:=s,fs:=c.fs.take (c.fs.length - 1),live:=c.top.kf}={bB c with ao:=s,fs:=(bB c).fs.take (c.fs.length - 1)}:=by
 have hl:(c.fs.take (c.fs.length - 1)).length=c.fs.length - 1:=by rw[List.length_take];omega
 have e:(bB {c with ao:=s,fs:=c.fs.take (c.fs.length - 1),live:=c.top.kf}).fs=(bB c).fs.take (c.fs.length - 1):=by
  refine yK (by rw[cB];show(c.fs.take _).length=_;rw[hl,List.length_take,cB];omega) fun i hi=>?_
  rw[cB]at hi
  have hi:i<c.fs.length - 1:=by rw[←hl];exact hi
  rw[hZ _ (by show i<(c.fs.take _).length;rw[hl];exact hi),iB hi (by rw[cB];omega),hZ c Mj]
  have h1:ix (c.fs.take (c.fs.length - 1)) i=ix c.fs i:=iB hi Mj
  have h2:({c with ao:=s,fs:=c.fs.take (c.fs.length - 1),live:=c.top.kf}:di).gK i=c.gK i:=by
   unfold di.gK
   dsimp only
   rw[hl,if_pos (show i+1<c.fs.length by omega)]
   by_cases h3:i+1<c.fs.length - 1
   ·rw[if_pos h3,iB h3 Mj]
   ·rw[if_neg h3]
    unfold di.top
    rw[show c.fs.length - 1=i+1 by omega]
  unfold pP
  rw[h2]
  dsimp only
  rw[h1]
 show(⟨_,(bB {c with ao:=s,fs:=c.fs.take (c.fs.length - 1),live:=c.top.kf}).fs,_⟩:fN)=_
 rw[e];rfl
theorem CM (c:di) (hb:c.broken=0) (hk:c.Ok):(jj c).2=(pA (bB c)).2∧((jj c).2=0→bB (jj c).1=(pA (bB c)).1):=by
 unfold jj pA
 rw[if_neg (fun h=>h hb),cB]
 by_cases h2:c.fs.length=0
 ·rw[if_pos h2,if_pos h2];exact⟨rfl,fun _=>rfl⟩
 rw[if_neg h2,if_neg h2,hZ c Mj,show(bB c).ao=c.ao from rfl]
 have h4:=FP hk (i:=c.fs.length - 1) Mj
 dsimp only
 by_cases h3:(cw c.ao c.top.res).2≠0
 ·rw[if_pos h3,if_pos (show(cw c.ao (pP c (c.fs.length - 1)).res).2≠0 from h3)];exact⟨rfl,fun h=>absurd h h3⟩
 rw[if_neg h3,if_neg (show¬(cw c.ao (pP c (c.fs.length - 1)).res).2≠0 from h3)]
 by_cases h5:c.top.kind=4∧c.top.other=false∧c.top.par≠c.top.res
 ·rw[if_pos h5,if_pos (show(pP c (c.fs.length - 1)).op=4∧(pP c (c.fs.length - 1)).par≠(pP c (c.fs.length - 1)).res from⟨h4.2 ⟨h5.1,h5.2.1⟩,h5.2.2⟩)]
  exact⟨rfl,fun h=>by cases h⟩
 ·rw[if_neg h5,if_neg (show¬((pP c (c.fs.length - 1)).op=4∧(pP c (c.fs.length - 1)).par≠(pP c (c.fs.length - 1)).res)from fun h=>h5 ⟨(h4.1 h.1).1,(h4.1 h.1).2,h.2⟩)]
  refine⟨rfl,fun _=>?_⟩
  exact CF c _ Mj
theorem uI (c c2:di) (g:Dg) (hn:0<c.fs.length) (hr:c2.results=c.results) (hl:c2.fs.length=c.fs.length) (hp:∀i,i<c.fs.length - 1→ix c2.fs i=ix c.fs i) (hw:(ix c2.fs (c.fs.length - 1)).kf=c.top.kf) (hg:pP c2 (c.fs.length - 1)=g):bB c2={bB c with ao:=c2.ao,fs:=(bB c).fs.take ((bB c).fs.length - 1)++[g]}:=by
 have e:(bB c2).fs=(bB c).fs.take ((bB c).fs.length - 1)++[g]:=by
  have ht:((bB c).fs.take ((bB c).fs.length - 1)).length=c.fs.length - 1:=by rw[List.length_take,cB];omega
  refine yK (by rw[cB,hl,List.length_append,ht];show _=_+1;omega) fun i hi=>?_
  rw[cB,hl]at hi
  rw[hZ _ (by rw[hl];exact hi)]
  rcases Nat.lt_or_ge i (c.fs.length - 1)with h|h
  ·rw[iy (by rw[ht];exact h),iB (by rw[cB];exact h) Mj,hZ c hi]
   have h2:c2.gK i=c.gK i:=by
    unfold di.gK
    rw[hl,if_pos (show i+1<c.fs.length by omega),if_pos (show i+1<c.fs.length by omega)]
    by_cases h3:i+1<c.fs.length - 1
    ·rw[hp _ h3]
    ·have h4:i+1=c.fs.length - 1:=by omega
     rw[h4,hw];rfl
   unfold pP
   rw[h2,hp i h]
  ·obtain rfl:i=c.fs.length - 1:=by omega
   rw[gD (by rw[ht];exact Nat.le_refl _),ht,Nat.sub_self,hg];rfl
 show(⟨_,(bB c2).fs,c2.results⟩:fN)=_
 rw[e,hr];rfl
theorem qD (c:di) (hb:c.broken=0):bB (gi c)=fF (bB c):=by
 unfold gi fF
 rw[cB]
 by_cases hn:c.fs.length=0
 ·rw[if_pos (.inr hn),if_pos hn]
 rw[if_neg (fun h=>h.elim (fun h=>h hb) hn),if_neg hn]
 unfold nD
 rw[uI c {c with ao:=dq c.ao,live:=false} {ix (bB c).fs ((bB c).fs.length - 1)with live:=false} Mj rfl rfl (fun _ _=>rfl) rfl ?_]
 ·rfl
 ·rw[cB,hZ c Mj]
  unfold pP
  have:({c with ao:=dq c.ao,live:=false}:di).gK (c.fs.length - 1)=false:=by unfold di.gK;rw[if_neg (show¬c.fs.length - 1+1<c.fs.length by omega)]
  rw[this]
theorem else_eq (c:di) (hb:c.broken=0) (hk:c.Ok):(lF c).2=(uN (bB c)).2∧((lF c).2=0→bB (lF c).1=(uN (bB c)).1):=by
 unfold lF uN
 rw[if_neg (fun h=>h hb),cB]
 by_cases h2:c.fs.length=0
 ·rw[if_pos (.inl h2),if_pos (.inl h2)];exact⟨rfl,fun _=>rfl⟩
 have h4:=FP hk (i:=c.fs.length - 1) Mj
 rw[hZ c Mj,show(bB c).ao=c.ao from rfl]
 by_cases h1:c.top.kind≠4∨c.top.other=true
 ·have h5:(pP c (c.fs.length - 1)).op≠4:=fun h=>by
   have:=h4.1 h
   rcases h1 with h1|h1
   ·exact h1 this.1
   ·have h6:c.top.other=false:=this.2
    rw[h6]at h1;cases h1
  rw[if_pos (.inr h1),if_pos (.inr h5)];exact⟨rfl,fun _=>rfl⟩
 have hk4:c.top.kind=4:=Classical.byContradiction fun h=>h1 (.inl h)
 have ho:c.top.other=false:=by
  cases h:c.top.other with
  |false=>rfl
  |true=>exact absurd (.inr h) h1
 have h5:(pP c (c.fs.length - 1)).op=4:=h4.2 ⟨hk4,ho⟩
 rw[if_neg (show¬(c.fs.length=0∨c.top.kind≠4∨c.top.other=true)from fun h=>h.elim h2 h1),if_neg (show¬(c.fs.length=0∨(pP c (c.fs.length - 1)).op≠4)from fun h=>h.elim h2 fun h=>h h5)]
 dsimp only
 by_cases h3:(cw c.ao c.top.res).2≠0
 ·rw[if_pos h3,if_pos (show(cw c.ao (pP c (c.fs.length - 1)).res).2≠0 from h3)];exact⟨rfl,fun h=>absurd h h3⟩
 rw[if_neg h3,if_neg (show¬(cw c.ao (pP c (c.fs.length - 1)).res).2≠0 from h3)]
 refine⟨rfl,fun _=>?_⟩
 have ht:(c.fs.take (c.fs.length - 1)).length=c.fs.length - 1:=by rw[List.length_take];omega
 have hl:(c.fs.take (c.fs.length - 1)++[{c.top with other:=true}]).length=c.fs.length:=by rw[List.length_append,ht];show _+1=_;omega
 have hlast:ix (c.fs.take (c.fs.length - 1)++[{c.top with other:=true}]) (c.fs.length - 1)={c.top with other:=true}:=by rw[gD (by rw[ht];exact Nat.le_refl _),ht,Nat.sub_self];rfl
 have:=uI c (gw c (cw c.ao c.top.res).1 (c.fs.take (c.fs.length - 1)) {c.top with other:=true}) {pP c (c.fs.length - 1)with op:=5,live:=c.top.kf} Mj rfl hl (fun i hi=>by
  show ix (c.fs.take (c.fs.length - 1)++[{c.top with other:=true}]) i=_
  rw[iy (by rw[ht];exact hi),iB hi Mj]) (by
  show(ix (c.fs.take (c.fs.length - 1)++[{c.top with other:=true}]) (c.fs.length - 1)).kf=_
  rw[hlast]) (by
  unfold pP
  have e1:(gw c (cw c.ao c.top.res).1 (c.fs.take (c.fs.length - 1)) {c.top with other:=true}).gK (c.fs.length - 1)=c.top.kf:=by
   unfold di.gK
   refine(if_neg ?_).trans rfl
   show¬c.fs.length - 1+1<(c.fs.take (c.fs.length - 1)++[{c.top with other:=true}]).length
   rw[hl];omega
  rw[e1]
  rw[show ix (gw c (cw c.ao c.top.res).1 (c.fs.take (c.fs.length - 1)) {c.top with other:=true}).fs (c.fs.length - 1)={c.top with other:=true}from hlast]
  have e2:({c.top with other:=true}:mK).op=5:=by unfold mK.op;dsimp only;rw[if_neg (by rw[hk4];decide),if_pos rfl]
  rw[e2];rfl)
 rw[this]
 rw[cB]
 rfl
theorem DH (c:di) (_hb:c.broken=0) (hn:0<c.fs.length):(ix (bB c).fs ((bB c).fs.length - 1)).live=c.live:=by
 rw[cB,hZ c Mj]
 exact qL c hn
def gH (s:bP) (op:Int):bP×Int:=
 if(if op=27 then aE s [1]else(s,0)).2≠0 then(if op=27 then aE s [1]else(s,0))else
 if(aU (if op=27 then aE s [1]else(s,0)).1).2.2≠0 then((aU (if op=27 then aE s [1]else(s,0)).1).1,(aU (if op=27 then aE s [1]else(s,0)).1).2.2)else
 if op=26 then((aU s).1,0)else
 if op=209 then(if(aU s).2.1=1∨(aU s).2.1=2 then((aU s).1,12)else(aJ (aU s).1 [1],0))else
 if(aU (aU (aE s [1]).1).1).2.2≠0 then((aU (aU (aE s [1]).1).1).1,(aU (aU (aE s [1]).1).1).2.2)else
 if(aU (aE s [1]).1).2.1=3∨(aU (aE s [1]).1).2.1=4∨(aU (aU (aE s [1]).1).1).2.1=3∨(aU (aU (aE s [1]).1).1).2.1=4∨((aU (aE s [1]).1).2.1≠(aU (aU (aE s [1]).1).1).2.1∧(aU (aE s [1]).1).2.1≠0∧(aU (aU (aE s [1]).1).1).2.1≠0)then((aU (aU (aE s [1]).1).1).1,12)
 else(aJ (aU (aU (aE s [1]).1).1).1 [if(aU (aE s [1]).1).2.1=0 then(aU (aU (aE s [1]).1).1).2.1 else(aU (aE s [1]).1).2.1],0)
theorem ja (s:bP):(aU s).1.ts.length≤s.ts.length:=by
 unfold aU
 split
 ·dsimp only;rw[List.length_take];omega
 ·split<;>exact Nat.le_refl _
set_option maxHeartbeats 8000000 in
theorem nb (F D2:Nat→Prop) (s:bP) (y:jq) (v:Value) (xs:List Int) (w:World) (h:aY s F w y) (hI:af D2 w v xs) (hb:s.ts.length+xs.length≤17592186044416):Calls G.P 25 #[.agg (fI s y).toArray,v] w (GJ (aJ s xs) F w):=by
 obtain⟨p1,c1,p2,c2,p3,c3,rfl,k1,k2,k3⟩:=h.fP
 obtain⟨h1,h2,h3,-⟩:=h
 obtain⟨q,d,rfl,hl⟩:=hI.slice
 dsimp only at h1 h2 h3
 refine ae (l:=[_,_]) Tryz.func25 rfl Tryz.ntmps25 rfl (Ok.start w) ?_
 dsimp only[fI]
 repeat'(first|refine ar ?_|(refine aC fun b_=>?_)|(refine dc fun b_=>?_)|fail)
 refine aa.ji 0 fY 1 ?_
 refine aa.he (HE.gA (aX s.ts) rfl rfl (fun _=>aA) (iT h1 ak) Me rfl rfl rfl Ml Ml Ml (eV _) (by show(0+s.ts.length)*8≤_;omega) Mj (fun _ _=>Nat.zero_le _)) rfl ?_
 intro v1 _
 simp only[Nat.zero_add,List.nil_append]
 refine aa.pure (φ:=∃p c,v1=.slice p s.ts.length c) (fun w' hw'=>?_) ?_
 ·obtain⟨p,c,e,_⟩:=ax (hw'.own (v:=v1));exact⟨p,c,e⟩
 rintro⟨p4,c4,rfl⟩
 repeat'(first|refine ar ?_|fail)
 refine aa.he (HE.gA (aX xs) rfl rfl (fun _=>aA) (iT hI ak) Me rfl rfl rfl Ml Ml Ml (eV _) (by show(s.ts.length+xs.length)*8≤_;omega) Mj (fun _ _=>Nat.zero_le _)) rfl ?_
 intro v2 _
 refine aa.pure (φ:=∃p c,v2=.slice p (s.ts.length+xs.length) c∧s.ts.length+xs.length≤c) (fun w' hw'=>?_) ?_
 ·obtain⟨p,c,e,h,_⟩:=ax (hw'.own (v:=v2));exact⟨p,c,e,h⟩
 rintro⟨p5,c5,rfl,k5⟩
 repeat'(first|refine ar ?_|fail)
 refine aa.he (HE.yl (Yl.FT rfl rfl)) rfl ?_
 rintro⟨⟩ _
 repeat'(first|refine ar ?_|fail)
 refine ah.a6 (.inl rfl) rfl rfl rfl rfl rfl aA rfl fun w' hw'=>⟨⟨(⟨.slice p5 (s.ts.length+xs.length) c5,.slice p2 s.ps.length c2,.slice p3 s.ps.length c3⟩:jq),?_,mX (s.ts++xs) hw' ak bG Mk Me Ma,h2.ki hw' ak,iG.ki h3 hw' ak,k5,k2,k3⟩,hw'.at⟩
 dsimp only[fI,aJ]
 rw[zT]
set_option maxHeartbeats 8000000 in
theorem sC (F:Nat→Prop) (c:fN) (y:iP) (w:World) (h:bY c F w y) (op:Int) (ho:op=26) (hs:c.ao.Wf):Calls G.P 74 #[.agg (er c y).toArray,.int .i64 op] w (fT (if(aU c.ao).2.2≠0 then(c,(aU c.ao).2.2)else({c with ao:=(aU c.ao).1},0)) F w):=by
 obtain⟨p1,c1,p2,c2,p3,c3,p4,c4,p5,c5,ey,k4,h4,kz⟩:=h.fP
 obtain⟨y,fv,rv,z⟩:=y
 cases ey
 refine Kk ?_
 dsimp only[er]
 repeat'(first|refine ar ?_|(refine KQ fun b_=>?_)|fail)
 obtain⟨b6,rfl⟩:∃y:Nat,y=b_:=⟨_,rfl⟩
 refine Ks ?_
 rintro⟨D1,x1⟩ _
 obtain⟨pr1,hpr1⟩:∃r,aU c.ao=r:=⟨_,rfl⟩
 rw[hpr1]
 have wf1:pr1.1.Wf:=by rw[←hpr1];exact iC hs
 have pl1:pr1.1.ts.length≤c.ao.ts.length:=by rw[←hpr1];exact ja c.ao
 obtain⟨s1,a1,e1⟩:=pr1
 dsimp only at wf1 pl1 ⊢
 refine aa.pure (φ:=∃q1 d1 q2 d2 q3 d3,x1=⟨.slice q1 s1.ts.length d1,.slice q2 s1.ps.length d2,.slice q3 s1.ps.length d3⟩) (fun w' hw'=>by obtain⟨q1,d1,q2,d2,q3,d3,e,-⟩:=(hw'.an (V:=aY s1) (w0:=w) (F:=F) (D:=D1) (y:=x1) ak bG).fP;exact⟨q1,d1,q2,d2,q3,d3,e⟩) ?_
 rintro⟨r1,rc1,r2,rc2,r3,rc3,rfl⟩
 dsimp only[fI]
 by_cases he:e1=0
 ·subst he
  rw[if_neg (fun h=>h rfl)]
  repeat'(first|refine ar ?_|fail)
  refine Ko ?_
  rintro⟨⟩ _
  repeat'(first|refine ar ?_|fail)
  refine IR ?_
  exact fun w' hw'=>fT.ao (D:=D1) ⟨.slice r1 s1.ts.length rc1,.slice r2 s1.ps.length rc2,.slice r3 s1.ps.length rc3⟩ h hw' ak bG
 ·rw[if_pos he]
  repeat'(first|refine ar ?_|fail)
  all_goals exact t7
set_option maxHeartbeats 8000000 in
theorem pY (F:Nat→Prop) (c:fN) (y:iP) (w:World) (h:bY c F w y) (op:Int) (ho:op=209) (hs:c.ao.Wf) (hb:c.ao.ts.length+1≤17592186044416):Calls G.P 74 #[.agg (er c y).toArray,.int .i64 op] w (fT (if(aU c.ao).2.2≠0 then(c,(aU c.ao).2.2)else if(aU c.ao).2.1=1∨(aU c.ao).2.1=2 then(c,12)else({c with ao:=aJ (aU c.ao).1 [1]},0)) F w):=by
 obtain⟨p1,c1,p2,c2,p3,c3,p4,c4,p5,c5,ey,k4,h4,kz⟩:=h.fP
 obtain⟨y,fv,rv,z⟩:=y
 cases ey
 refine Kk ?_
 dsimp only[er]
 repeat'(first|refine ar ?_|(refine KQ fun b_=>?_)|(refine a7 ?_ ?_<;>intro hc_))
 obtain⟨b6,rfl⟩:∃y:Nat,y=b_:=⟨_,rfl⟩
 refine Ks ?_
 rintro⟨D1,x1⟩ _
 obtain⟨pr1,hpr1⟩:∃r,aU c.ao=r:=⟨_,rfl⟩
 rw[hpr1]
 have wf1:pr1.1.Wf:=by rw[←hpr1];exact iC hs
 have pl1:pr1.1.ts.length≤c.ao.ts.length:=by rw[←hpr1];exact ja c.ao
 obtain⟨s1,a1,e1⟩:=pr1
 dsimp only at wf1 pl1 ⊢
 refine aa.pure (φ:=∃q1 d1 q2 d2 q3 d3,x1=⟨.slice q1 s1.ts.length d1,.slice q2 s1.ps.length d2,.slice q3 s1.ps.length d3⟩) (fun w' hw'=>by obtain⟨q1,d1,q2,d2,q3,d3,e,-⟩:=(hw'.an (V:=aY s1) (w0:=w) (F:=F) (D:=D1) (y:=x1) ak bG).fP;exact⟨q1,d1,q2,d2,q3,d3,e⟩) ?_
 rintro⟨r1,rc1,r2,rc2,r3,rc3,rfl⟩
 dsimp only[fI]
 by_cases he:e1=0
 ·subst he
  rw[if_neg (fun h=>h rfl)]
  by_cases hbad:a1=1∨a1=2
  ·rw[if_pos hbad]
   repeat'(first|refine ar ?_|(refine a7 ?_ ?_<;>intro hc_))
   all_goals exact t7
  ·rw[if_neg hbad]
   have n1:a1≠1:=fun h=>hbad (.inl h)
   have n2:a1≠2:=fun h=>hbad (.inr h)
   repeat'(first|refine ar ?_|(refine a7 ?_ ?_<;>intro hc_))
   refine aZ.hH 5 [.aT b6 [.slice r1 s1.ts.length rc1,.slice r2 s1.ps.length rc2,.slice r3 s1.ps.length rc3,.int .i64 s1.bH] mJ] [Ext w] bc aV ?_
   repeat'(first|refine Bl ?_|(refine bu.kZ ?_;refine bu.he rfl rfl (HE.jJ rfl rfl rfl rfl rfl eT Ml Ml) (fun _=>bc) (fun _=>aV) ?_;rintro bl _)|(refine bu.ep 96 ?_;refine bu.he rfl rfl (HE.dX rfl rfl (fun w' hw'=>fJ _ _ _ w')) (fun _=>bc) (fun _=>aV) ?_;rintro⟨⟩ _)|(refine bu.ep 25 ?_;refine bu.he rfl rfl (HE.bF (V:=aY s1) (V2:=aY (aJ s1 [1])) (tf:=fun y=>.agg (fI (aJ s1 [1]) y).toArray) (w0:=w) (F:=F) (D:=D1) (y:=⟨.slice r1 s1.ts.length rc1,.slice r2 s1.ps.length rc2,.slice r3 s1.ps.length rc3⟩) (aY.fr _) (aY.lt _) (aY.mo _) ak bG (fun _=>aA) rfl rfl (fun w' hw' hh=>nb _ (fun k=>k=bl) s1 ⟨.slice r1 s1.ts.length rc1,.slice r2 s1.ps.length rc2,.slice r3 s1.ps.length rc3⟩ (.slice (some ⟨bl,0,none⟩) 1 1) [1] w' hh (cZ (hw'.m (.aT bl [.int .i64 1] fY) bG).1) (by show s1.ts.length+1≤_;omega))) (fun _=>bc) (fun _=>aV) ?_;rintro⟨D9,x9⟩ _;refine cK.pure (φ:=∃q1 d1 q2 d2 q3 d3,x9=⟨.slice q1 (aJ s1 [1]).ts.length d1,.slice q2 (aJ s1 [1]).ps.length d2,.slice q3 (aJ s1 [1]).ps.length d3⟩) (fun w' hw'=>by obtain⟨q1,d1,q2,d2,q3,d3,e,-⟩:=(hw'.an (V:=aY (aJ s1 [1])) (w0:=w) (F:=F) (D:=D9) (y:=x9) ak bG).fP;exact⟨q1,d1,q2,d2,q3,d3,e⟩) ?_;rintro⟨v1,vc1,v2,vc2,v3,vc3,rfl⟩;dsimp only[fI])|(refine bu.iq rfl (fQ.gx [.slice v1 (aJ s1 [1]).ts.length vc1,.slice v2 (aJ s1 [1]).ps.length vc2,.slice v3 (aJ s1 [1]).ps.length vc3,.int .i64 (aJ s1 [1]).bH] [.slice v1 (aJ s1 [1]).ts.length vc1,.slice v2 (aJ s1 [1]).ps.length vc2,.slice v3 (aJ s1 [1]).ps.length vc3,.int .i64 (aJ s1 [1]).bH,.slice p4 c.fs.length c4,.slice p5 c.results.length c5,.int .i64 0] rfl rfl rfl rfl rfl rfl aA rfl rfl) ?_;rintro⟨⟩ _)|refine cK.any LX ?_|exact bZ.fin rfl|refine bZ.skip LX ?_|refine bZ.go ?_ ?_)
   all_goals
    repeat'(first|refine ar ?_|(refine a7 ?_ ?_<;>intro hc_))
    refine IR ?_
    exact fun w' hw'=>fT.ao (s:=(aJ s1 [1])) (D:=D9) ⟨.slice v1 (aJ s1 [1]).ts.length vc1,.slice v2 (aJ s1 [1]).ps.length vc2,.slice v3 (aJ s1 [1]).ps.length vc3⟩ h hw' ak bG
 ·rw[if_pos he]
  repeat'(first|refine ar ?_|(refine a7 ?_ ?_<;>intro hc_))
  all_goals exact t7
set_option maxHeartbeats 4000000 in
theorem vS (sp:Nat) (s:bP) (y:Value×Value) (op:Int) (ho:op=26) (w:World) (hw:Ok (aS sp s y) [] w) (hwf:s.Wf):Calls G.P 47 #[.pointer (some ⟨sp,0,none⟩),.int .i64 op] w (eF sp s y (.int .i64 (aU s).2.2) (aU s).1 w):=by
 obtain⟨tv,pv⟩:=y
 refine ae (l:=[_,_]) Tryz.func47 rfl Tryz.ntmps47 rfl (Ok.dj hw) ?_;unfold eF;generalize hS:Mb (aS sp s (tv,pv))=S0;dsimp only[aS]
 repeat'(first|refine ar ?_|fail)
 refine Kt ?_
 rintro⟨tv1,pv1⟩ _
 obtain⟨pr1,hpr1⟩:∃r,aU s=r:=⟨_,rfl⟩
 have wf1:(aU s).1.Wf:=iC hwf
 have tl1:(aU s).1.ts.length≤s.ts.length:=ja s
 rw[hpr1]at wf1 tl1 ⊢
 obtain⟨s1,a1,e1⟩:=pr1
 dsimp only[aS,List.cons_append,List.nil_append]at wf1 tl1 ⊢
 by_cases he:e1=0
 ·subst he
  repeat'(first|refine ar ?_|fail)
  all_goals exact mt
 ·repeat'(first|refine ar ?_|fail)
  all_goals exact mt
set_option maxHeartbeats 4000000 in
theorem tF (sp:Nat) (s:bP) (y:Value×Value) (op:Int) (ho:op=209) (w:World) (hw:Ok (aS sp s y) [] w) (hwf:s.Wf) (hb:(s.ts.length+1)*8≤140737488355328):Calls G.P 47 #[.pointer (some ⟨sp,0,none⟩),.int .i64 op] w (eF sp s y (.int .i64 (if(aU s).2.2≠0 then(aU s).2.2 else if(aU s).2.1=1∨(aU s).2.1=2 then 12 else 0)) (if(aU s).2.2≠0 then(aU s).1 else if(aU s).2.1=1∨(aU s).2.1=2 then(aU s).1 else aJ (aU s).1 [1]) w):=by
 obtain⟨tv,pv⟩:=y
 refine ae (l:=[_,_]) Tryz.func47 rfl Tryz.ntmps47 rfl (Ok.dj hw) ?_;unfold eF;generalize hS:Mb (aS sp s (tv,pv))=S0;dsimp only[aS]
 repeat'(first|refine ar ?_|(refine a7 ?_ ?_<;>intro hc_))
 refine Kt ?_
 rintro⟨tv1,pv1⟩ _
 obtain⟨pr1,hpr1⟩:∃r,aU s=r:=⟨_,rfl⟩
 have wf1:(aU s).1.Wf:=iC hwf
 have tl1:(aU s).1.ts.length≤s.ts.length:=ja s
 rw[hpr1]at wf1 tl1 ⊢
 obtain⟨s1,a1,e1⟩:=pr1
 dsimp only[aS,List.cons_append,List.nil_append]at wf1 tl1 ⊢
 by_cases he:e1=0
 ·subst he
  repeat rw[if_neg (show¬((0:Int)≠0)from fun h=>h rfl)]
  by_cases hbad:a1=1∨a1=2
  ·repeat rw[if_pos hbad]
   repeat'(first|refine ar ?_|(refine a7 ?_ ?_<;>intro hc_))
   all_goals exact mt
  ·repeat rw[if_neg hbad]
   have n1:a1≠1:=fun h=>hbad (.inl h)
   have n2:a1≠2:=fun h=>hbad (.inr h)
   repeat'(first|refine ar ?_|(refine eH fun b_ _=>?_)|(refine a7 ?_ ?_<;>intro hc_))
   obtain⟨bl,rfl⟩:∃y:Nat,y=b_:=⟨_,rfl⟩
   refine aa.freeze (q:=.aT bl [.int .i64 1] fY) (fun w=>af (fun k=>k=bl) w (.slice (some ⟨bl,0,none⟩) 1 1) [1]) je (fun w' h _=>cZ h) ?_
   refine aa.he (HE.bC (M0:=aS sp s1 (tv1,pv1)) dt rfl rfl (fun w' hw'=>fH (fun k=>k=bl) sp s1 (tv1,pv1) (.slice (some ⟨bl,0,none⟩) 1 1) [1] w' (hw'.cF dM aV) wf1.some (by show(s1.ts.length+1)*8≤_;omega))) rfl ?_
   rintro⟨tv2,pv2⟩ _
   dsimp only[aS,List.cons_append,List.nil_append]
   repeat'(first|refine ar ?_|(refine a7 ?_ ?_<;>intro hc_))
   all_goals exact lw
 ·repeat rw[if_pos he]
  repeat'(first|refine ar ?_|(refine a7 ?_ ?_<;>intro hc_))
  all_goals exact mt
theorem pV {x:cJ} (h:cq x=true):(eO x.op).isSome=true:=by
 cases hf:(eO x.op).isSome with
 |true=>rfl
 |false=>
  unfold cq at h
  dsimp only at h
  rw[if_pos (.inl hf)]at h
  cases h
theorem DW:(kg.all fun r=>ij r.1 || (!(decide (r.2.2=1) || decide (r.2.2=2) || decide (r.2.2=3)) && (decide (r.2.2=5) || decide (r.2.2=6) || decide (r.2.2=7) || decide (r.2.2=8) || decide (r.2.2=9) || decide (r.2.2=20) || decide (r.2.2=4) || (ft r.1).isSome) && (!decide (r.2.2=4) || decide (r.1=16) || decide (r.1=210))))=true:=by decide+kernel
theorem Dr {op:Int} (hk:(eO op).isSome=true) (ha:ij op=false):¬(dZ op=1∨dZ op=2∨dZ op=3)∧((dZ op≠5∧dZ op≠6∧dZ op≠7∧dZ op≠8∧dZ op≠9∧dZ op≠20∧dZ op≠4)→(ft op).isSome=true)∧(dZ op=4→op=16∨op=210):=by
 obtain⟨r,hr⟩:=Option.isSome_iff_exists.1 hk
 have h1:=List.all_eq_true.1 DW r (List.mem_of_find?_eq_some hr)
 have e:r.1=op:=by have:=List.find?_some hr;simpa using this
 have e2:dZ op=r.2.2:=by unfold dZ dU;rw[hr];rfl
 rw[e,ha,←e2]at h1
 generalize dZ op=k at*
 simp only[Bool.false_or,Bool.and_eq_true,Bool.or_eq_true,Bool.not_eq_true',Bool.or_eq_false_iff,decide_eq_true_eq,decide_eq_false_iff_not]at h1
 obtain⟨⟨⟨⟨a1,a2⟩,a3⟩,h2⟩,h3⟩:=h1
 refine⟨by omega,fun⟨b1,b2,b3,b4,b5,b6,b7⟩=>?_,fun h4=>?_⟩
 ·rcases h2 with((((((h|h)|h)|h)|h)|h)|h)|h
  ·exact absurd h b1
  ·exact absurd h b2
  ·exact absurd h b3
  ·exact absurd h b4
  ·exact absurd h b5
  ·exact absurd h b6
  ·exact absurd h b7
  ·exact h
 ·rcases h3 with(h|h)|h
  ·exact absurd h4 h
  ·exact .inl h
  ·exact .inr h
theorem AT {op:Int} (h:(ft op).isSome=true):cE op=((ft op).getD dy,0):=by
 unfold cE
 cases hs:ft op with
 |none=>rw[hs]at h;cases h
 |some f=>rfl
theorem CC {m:aj} {locals:List Int} {x:cJ} (hk:(eO x.op).isSome=true) (ha:ij x.op=false):ed m locals x=bX m locals x:=by
 obtain⟨h1,h2,h3⟩:=Dr hk ha
 have hr:=xv x.op
 unfold ed bX jK
 generalize dZ x.op=k at*
 dsimp only
 rw[if_neg h1]
 by_cases h4:k=4
 ·rw[if_pos h4,if_pos h4]
  unfold dH
  cases fS m x.a with
  |none=>rfl
  |some f=>
   dsimp only
   rcases h3 h4 with h|h
   ·rw[if_pos h,if_pos h]
   ·have h16:¬x.op=16:=by omega
    rw[if_neg h16,if_neg h16,h]
    rfl
 rw[if_neg h4,if_neg h4]
 by_cases h5:k=5
 ·rw[if_pos h5,if_pos h5];rfl
 rw[if_neg h5,if_neg h5]
 by_cases h6:k=6
 ·rw[if_pos h6,if_pos h6]
 rw[if_neg h6,if_neg h6]
 by_cases h7:k=7
 ·rw[if_pos h7,if_pos h7];rfl
 rw[if_neg h7,if_neg h7]
 by_cases h8:k=8
 ·rw[if_pos h8,if_pos h8];rfl
 rw[if_neg h8,if_neg h8]
 by_cases h9:k=9
 ·rw[if_pos h9,if_pos h9];rfl
 rw[if_neg h9,if_neg h9]
 have hs:k≠20→cE x.op=((ft x.op).getD dy,0):=fun h=>AT (h2 ⟨h5,h6,h7,h8,h9,h,h4⟩)
 have hk':k=0∨k=10∨k=11∨k=12∨k=13∨k=14∨k=15∨k=16∨k=17∨k=18∨k=19∨k=20:=by omega
 clear h1 h2 h3 h4 h5 h6 h7 h8 h9 hr ha hk
 unfold eW
 rcases hk' with rfl|rfl|rfl|rfl|rfl|rfl|rfl|rfl|rfl|rfl|rfl|rfl
 ·simp[hs]
 ·cases cx (bA m) x.a<;>cases cx (bA m) x.b<;>simp[hs]
  rename_i a b
  by_cases he:a.elem=b.elem<;>simp[he]
 ·cases cx (dA m) x.a<;>cases cx (bA m) x.b<;>simp[hs]
  rename_i a b
  by_cases he:a=b.elem<;>simp[he]
 ·cases cx (dA m) x.a<;>simp[hs]
 ·cases cx (dD m) x.b<;>simp[hs]
 ·cases cx (dD m) x.a<;>cases cx (dD m) x.b<;>simp[hs]
 ·by_cases hd:(m.bD.length:Int)≤x.a
  ·have:¬x.a<(m.bD.length:Int):=by omega
   cases cx (dD m) x.b<;>simp[hd,this]
  ·have:x.a<(m.bD.length:Int):=by omega
   cases cx (dD m) x.b<;>simp[hs,hd,this]
 ·by_cases hd:(m.bD.length:Int)≤x.a
  ·have:¬x.a<(m.bD.length:Int):=by omega
   simp[hd,this]
  ·have:x.a<(m.bD.length:Int):=by omega
   simp[hs,hd,this]
 ·by_cases hd:kO x.op<x.a<;>cases cx (dD m) x.b<;>simp[hs,hd]
 ·simp[hs]
 ·simp[hs]
 ·simp
theorem rz (m:aj) (locals:List Int) (x:cJ):kP m locals x=jH m locals x:=by
 unfold kP jH
 cases hp:cq x with
 |false=>rw[if_pos rfl,if_pos rfl]
 |true=>
  rw[if_neg (show¬true=false by decide),if_neg (show¬true=false by decide)]
  cases ha:ij x.op with
  |true=>rw[if_pos rfl];exact(B1 m locals x ha (pV hp)).symm
  |false=>rw[if_neg (show¬false=true by decide)];exact CC (pV hp) ha
section
variable {n:Nat} {E:Env} {M M':List a8} {R:List (World→Prop)} {t:TypeId}
theorem HE.GY {B e len s:Nat} {ti te:TI} {parts:List (Nat×Operand)} {vs cs:List Value} (hB:∀w,Ok M R w→B≤w.heap.size) (ht:G.ty t=some ti) (he:ti.elem=some e) (hte:G.ty e=some te) (hs:te.size=s) (hv:jQ E (parts.map (·.2))=some vs) (_hc:Cells vs cs) (hlen:Nat.ble (len*s) 16777216=true) (hf:ru s (zg len s te.zero.cells.toList) ((parts.map (·.1)).zip vs)=some cs):
  HE n (.buildSlice t len parts.toArray) E M R (fun b:Nat=>B≤b) (fun b=>.slice (some ⟨b,0,none⟩) len len) (fun b=>.aT b cs e::M) (fun _=>R):=
 ⟨fun w hw=>(ck.buildSlice hv (sw w ht he hte hs hlen hf)).mono fun _v _w' ⟨e1,hn⟩=>⟨w.heap.size,hB w hw,e1,hw.push hn.ext hn.aT (td hn)⟩⟩
theorem xR {w:World} {B b n s T:Nat} {cs:List Value} (h:gO w b cs T) (hl:cs.length=n*s) (hB:B≤b) (hn:n≤1000000):w.ownsRow B T s (.slice (some ⟨b,0,none⟩) n n) n cs:=
 ⟨hl,.inr ⟨b,n,cs.toArray,rfl,hB,h,Nat.le_refl _,by unfold maxLen;omega,by simp[hl],by simp[←hl]⟩⟩
theorem Ok.yD {w:World} {B b m s T:Nat} {cs:List Value} (hw:Ok M R w) (hM:Up (.aT b cs T) (.own B T s (.slice (some ⟨b,0,none⟩) m m) m cs) M M') (hl:cs.length=m*s) (hB:B≤b) (hn:m≤1000000):Ok M' R w:=
 hw.yu hM (cg.refl _ w) (xR (hw.m _ hM.mem).1 hl hB hn) (fun k hk=>by
  have hk':some b=some k:=hk
  cases hk'
  exact⟨(hw.m _ hM.mem).2 b rfl,fun _=>rfl⟩)
theorem aP.yD {l:List Oper} {Q:Exit→Act→World→Prop} {Mc:List a8} {Rc:List (World→Prop)} {n fuel:Nat} {listed:Array Bool} {E:Env} {B b m s T:Nat} {cs:List Value} (hM:Up (.aT b cs T) (.own B T s (.slice (some ⟨b,0,none⟩) m m) m cs) M M') (hl:cs.length=m*s) (hB:B≤b) (hn:m≤1000000) (h:aP l Q Mc Rc n fuel listed E M' R):aP l Q Mc Rc n fuel listed E M R:=⟨fun w hw=>h.h w (hw.yD hM hl hB hn)⟩
end
theorem Gg {f:aL} {a:AM} {w:World} (h:qJ f a w):f.params.length=0∨∃bk o,a.p=some ⟨bk,o,none⟩:=by
 obtain⟨q,c,e,hl,h0|⟨b,o,hq,-,-⟩⟩:=h.1
 ·exact .inl (by rw[h0];rfl)
 ·cases e;exact .inr ⟨b,o,hq⟩
theorem Cn {f:aL} {a:AM} {M:List a8} {R:List (World→Prop)} (hs:f.params.length=0∨∃bk o,a.p=some ⟨bk,o,none⟩) (hR:qJ f a∈R):f.params.length=0∨∃bk o,a.p=some ⟨bk,o,none⟩∧∀w',Ok M R w'→∀j u,(aX f.params)[j]?=some u→w'.cell? ⟨bk,o+j,none⟩=some u:=by
 rcases hs with h|⟨b,o,hq⟩
 ·exact .inl h
 by_cases hz:f.params.length=0
 ·exact .inl hz
 refine .inr ⟨b,o,hq,fun w' hw' j u hj=>?_⟩
 obtain⟨q2,c2,e2,-,h1|⟨b2,o2,hq2,-,hc2⟩⟩:=(hw'.get hR).1
 ·rw[h1]at hz;exact absurd rfl hz
 ·cases e2
  rw[hq]at hq2;cases hq2
  have hjl:j<f.params.length:=by
   have:=(List.getElem?_eq_some_iff.1 hj).1
   simpa[aX]using this
  have hu:u=.int .i64 (ix f.params j):=by
   unfold aX at hj
   rw[List.getElem?_map,gZ hjl]at hj
   simpa using hj.symm
  rw[hu];exact hc2 j hjl
end Go.Proofs.YtgbgnipidakdhaaGreatDoor
