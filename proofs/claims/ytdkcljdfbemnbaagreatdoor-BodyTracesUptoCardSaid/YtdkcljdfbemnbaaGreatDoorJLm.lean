import Derived.Test.YtdkcljdfbemnbaaGreatDoorJWi
import Derived.Test.YtdkcljdfbemnbaaGreatDoorJVh
namespace Go.Proofs.YtdkcljdfbemnbaaGreatDoor
open Go.RowKit _root_.Go.Proofs.Tryz
set_option maxHeartbeats 8000000
open Value renaming int→Pm,slice→Pn
set_option maxRecDepth 100000
variable (B:Nat) (F:Nat→Prop) {f:aO} {a:C4}
theorem AJ (m:af) (v:Value) (x:cv) (pt pl:Option Addr) (ct cl:Nat) (w:World) (h0:fK w) (h:bK B m w v):Calls G.P 102 #[v,.agg #[Pm .i64 x.op,Pm .i64 x.a,Pm .i64 x.b,Pm .u64 x.n,Pm .i64 x.kind,Pm .i64 x.val,Pm .i64 x.index,Pn pt x.types.length ct,Pn pl x.labels.length cl]] w fun e w'=>e=.returned (.int .i64 (kH m x))∧Ext w w':=by
 have ho:∀w',Ext w w'→Calls G.P 95 #[.int .i64 x.op] w' fun e w2=>e=.returned (.int .i64 (eR x.op))∧Ext w' w2:=fun w' hx=>ij x.op w' (h0.ext hx)
 have ha:∀w',Ext w w'→Calls G.P 143 #[.int .i64 x.op] w' fun e w2=>e=.returned (.int .i64 (mn x.op))∧Ext w' w2:=fun w' hx=>yv x.op w' (h0.ext hx)
 unfold kH
 generalize eR x.op=k at ho ⊢
 exact wQ B m v _ _ _ _ _ _ _ _ _ _ _ _ _ k _ w h ho ha
theorem yU (m:af) (locals:List Int) (v:Value) (x:cv) (lp pt pl:Option Addr) (lc ct cl:Nat) (w:World) (h0:fK w) (h:bK B m w v) (_hl:ai F w (.slice lp locals.length lc) locals) (_ht:ai F w (.slice pt x.types.length ct) x.types) (hk:eR x.op≠4∧eR x.op≠5∧eR x.op≠6∧eR x.op≠7∧eR x.op≠8∧eR x.op≠9∧eR x.op≠20):Calls G.P 56 #[v,.slice lp locals.length lc,.agg #[Pm .i64 x.op,Pm .i64 x.a,Pm .i64 x.b,Pm .u64 x.n,Pm .i64 x.kind,Pm .i64 x.val,Pm .i64 x.index,Pn pt x.types.length ct,Pn pl x.labels.length cl]] w (jw (if kH m x≠0 then(dF,kH m x)else((fQ x.op).getD dF,0)) (fun _=>False) w):=by
 have hof:∀w',Ext w w'→Calls G.P 95 #[.int .i64 x.op] w' fun e w2=>e=.returned (.int .i64 (eR x.op))∧Ext w' w2:=fun w' hx=>ij x.op w' (h0.ext hx)
 have hth:∀w',Ext w w'→Calls G.P 102 #[v,.agg #[Pm .i64 x.op,Pm .i64 x.a,Pm .i64 x.b,Pm .u64 x.n,Pm .i64 x.kind,Pm .i64 x.val,Pm .i64 x.index,Pn pt x.types.length ct,Pn pl x.labels.length cl]] w' fun e w2=>e=.returned (.int .i64 (kH m x))∧Ext w' w2:=fun w' hx=>AJ B m v x pt pl ct cl w' (h0.ext hx) (h.aN hx (fun _ _ h=>h))
 obtain⟨k1,k2,k3,k4,k5,k6,k7⟩:=hk
 generalize eR x.op=k at*
 generalize kH m x=e0 at*
 by_cases he:e0=0
 ·rw[if_neg Pi]
  refine Ml ?_
  repeat'(first|refine ar ?_|(refine N0 fun b_=>?_)|refine On ?_|(refine aa.aj (f:=102) ?_;refine aa.av rfl rfl rfl (fun w' hw'=>hth w' hw'.at) ?_)|(refine aa.aj (f:=104) ?_;refine aa.he (HE.mV (r:=fQ x.op) ak rfl rfl (fun w' hw'=>zW x.op w' (h0.ext hw'.at))) rfl ?_;rintro⟨D_,p_,c_,q_,d_⟩ hD_;dsimp only)|fail)
  all_goals(refine ah.aM (.inl rfl) rfl rfl rfl rfl rfl aH rfl rfl ?_;exact fun w' hw'=>bD.jl (f0:=(fQ x.op).getD dF) (tf:=fun y:Value×Value=>.tuple #[.agg #[y.1,y.2],.int .i64 0]) ⟨D_,p_,c_,q_,d_⟩ hw' ak ak hD_)
 ·rw[if_pos he]
  refine Ml ?_
  repeat'(first|refine ar ?_|(refine N0 fun b_=>?_)|refine On ?_|(refine aa.aj (f:=102) ?_;refine aa.av rfl rfl rfl (fun w' hw'=>hth w' hw'.at) ?_)|(refine aa.aj (f:=103) ?_;refine aa.av rfl rfl rfl (fun w' hw'=>vn _ w') ?_)|fail)
  all_goals exact am
theorem BZ (m:af) (locals:List Int) (v:Value) (x:cv) (lp pt pl:Option Addr) (lc ct cl:Nat) (w:World) (h0:fK w) (h:bK B m w v) (hl:ai F w (.slice lp locals.length lc) locals) (ht:ai F w (.slice pt x.types.length ct) x.types) (hp:cW x=true) (hT:nb m):Calls G.P 56 #[v,.slice lp locals.length lc,.agg #[Pm .i64 x.op,Pm .i64 x.a,Pm .i64 x.b,Pm .u64 x.n,Pm .i64 x.kind,Pm .i64 x.val,Pm .i64 x.index,Pn pt x.types.length ct,Pn pl x.labels.length cl]] w (jw (fO m locals x) (fun _=>False) w):=by
 unfold fO
 dsimp only
 split
 ·exact yO B F m locals v x lp pt pl lc ct cl w h0 h hl ht hp hT Pc
 split
 ·exact yP B F m locals v x lp pt pl lc ct cl w h0 h hl ht hp hT Pc
 split
 ·exact yQ B F m locals v x lp pt pl lc ct cl w h0 h hl ht hp hT Pc
 split
 ·exact yR B F m locals v x lp pt pl lc ct cl w h0 h hl ht hp hT Pc
 split
 ·exact yS B F m locals v x lp pt pl lc ct cl w h0 h hl ht hp hT Pc
 split
 ·exact yT B F m locals v x lp pt pl lc ct cl w h0 h hl ht hp hT Pc
 split
 ·exact wS B F m locals v x lp pt pl lc ct cl w h0 h hl ht hp hT Pc
 exact yU B F m locals v x lp pt pl lc ct cl w h0 h hl ht ⟨by assumption,by assumption,by assumption,by assumption,by assumption,by assumption,by assumption⟩
def ql (m:af) (locals:List Int) (x:cv):aO×Int:=if cW x=false then(dF,10)else if jU x.op=true then(dF,1)else fO m locals x
def fU (s:ck) (f:aO):ck×Int:=if(aL s f.params).2≠0 then aL s f.params else(aS (aL s f.params).1 f.results,0)
theorem HA {s:ck} (p:List Int) {n:Nat} (_h:(s.ts.length+n)*8≤140737488355328):(aL s p).2=0→((aL s p).1.ts.length+n)*8≤140737488355328:=fun _=>by have:=dD s p;omega
theorem xH (sp:Nat) (s:ck) (y:Value×Value) (f:aO) (a:C4) (w:World) (hw:Ok (aX sp s y) [sZ f a] w) (hwf:s.Wf) (hb:(aL s f.params).2=0→((aL s f.params).1.ts.length+f.results.length)*8≤140737488355328):
  Calls G.P 57 #[.pointer (some ⟨sp,0,none⟩),.agg #[.slice a.p f.params.length a.c,.slice a.q f.results.length a.d]] w (fe sp s y (.int .i64 (fU s f).2) (fU s f).1 w):=by
 obtain⟨tv,pv⟩:=y
 have hp:=hwf.some
 have h0:=hwf.at_.1
 have hle:=hwf.at_.2
 refine ae (l:=[_,_]) func57 rfl ntmps57 rfl (Ok.dk hw) ?_
 unfold fe
 generalize hS:Mb (aX sp s (tv,pv))=S0
 unfold fU
 have hw1:=dE hwf f.params
 have hts:=dD s f.params
 obtain⟨r,hr⟩:∃r,aL s f.params=r:=⟨_,rfl⟩
 obtain⟨s1,e1⟩:=r
 rw[hr]at hw1 hts hb ⊢
 dsimp only at hw1 hts hb ⊢
 have hp1:=hw1.some
 have hwant:=fun w' hw'=>gy a.D sp s (tv,pv) (.slice a.p f.params.length a.c) f.params w' hw' hp h0 hle
 rw[hr]at hwant
 dsimp only at hwant
 dsimp only[aX]
 repeat'(first|refine ar ?_|(refine aF fun b_=>?_)|fail)
 refine aa.he (HE.bJ (M0:=aX sp s (tv,pv)) dU rfl rfl (fun w' hw'=>hwant w' ((hw'.lj (p:=fun w=>ai a.D w (.slice a.p f.params.length a.c) f.params) (fun w2 h=>(h (sZ f a) ak).1)).dc dV aU))) rfl ?_
 rintro⟨tv1,pv1⟩ _
 dsimp only[aX,List.cons_append,List.nil_append]
 by_cases he:e1=0
 ·subst he
  have hb:=hb rfl
  rw[if_neg Ph]
  repeat'(first|refine ar ?_|fail)
  refine aa.he (HE.bJ (M0:=aX sp s1 (tv1,pv1)) dU rfl rfl (fun w' hw'=>gZ a.D sp s1 (tv1,pv1) (.slice a.q f.results.length a.d) f.results w' ((hw'.lj (p:=fun w=>ai a.D w (.slice a.q f.results.length a.d) f.results) (fun w2 h=>(h (sZ f a) ak).2)).dc dV aU) hp1 Pi)) rfl ?_
  rintro⟨tv2,pv2⟩ _
  dsimp only[aX,List.cons_append,List.nil_append]
  repeat'(first|refine ar ?_|fail)
  all_goals exact ah.aG rfl rfl fun w' hw'=>aC.qM (x:=(tv2,pv2)) trivial hS hw' dV ak
 ·rw[if_pos he]
  repeat'(first|refine ar ?_|fail)
  all_goals exact ap
def CX (c:dv) (f:aO):dv×Int:=({c with ao:=(fU c.ao f).1},(fU c.ao f).2)
theorem uG (F F':Nat→Prop) (xs ys:List Int) (v u:Value) (w:World) (h:ai F w v xs) (h':ai F' w u ys):Calls G.P 116 #[v,u] w fun e w'=>e=.returned (.bool (decide (xs=ys)))∧Ext w w':=by
 obtain⟨p,c,rfl,hl⟩:=h.slice
 obtain⟨q,d,rfl,hl'⟩:=h'.slice
 refine ae (l:=[_,_]) func116 rfl ntmps116 rfl (Ok.start w) ?_
 by_cases hlen:xs.length=ys.length
 ·repeat'(first|refine ar ?_|fail)
  refine Mm ?_
  rintro j ⟨hj,heq⟩
  by_cases hjl:j<xs.length
  ·obtain⟨b7,o7,rfl,-,hc⟩:=h.at hjl
   obtain⟨b8,o8,rfl,-,hc'⟩:=h'.at (show j<ys.length by omega)
   have hcj:=hc j hjl
   have hcj':=hc' j Pi
   have hst:=rN hjl (show j<ys.length by omega) heq
   by_cases he:ix xs j=ix ys j
   ·repeat'(first|refine ar ?_|fail)
    all_goals exact bi
   ·repeat'(first|refine ar ?_|fail)
    all_goals exact ci
  ·obtain rfl:j=xs.length:=by omega
   rw[List.take_length,hlen,List.take_length]at heq
   repeat'(first|refine ar ?_|fail)
   all_goals exact dl
 ·repeat'(first|refine ar ?_|fail)
  all_goals exact f8
def fL (r:aO×Int) (F:Nat→Prop) (w:World):Ending→World→Prop:=bD (dH r.1) (fun y:Value×Value=>.agg #[y.1,y.2,.int .i64 r.2]) F w
section
variable {n:Nat} {E:Env} {M:List bu} {R:List (World→Prop)} {w0:World} {f:Nat} {args:List Operand} {tys:Array TypeId} {vs:List Value} {F:Nat→Prop}
theorem HE.rg {r:aO×Int} (hR:Ext w0∈R) (hF:∀k,F k→k<w0.heap.size) (hf:G.fb[f]?=some true) (ha:kJ E args=some vs) (hc:∀w,Ok M R w→Calls G.P f vs.toArray w (fL r F w)):
  HE n (.call ⟨.value (.func f),args.toArray,tys⟩) E M R (fun x:C4=>∀k,x.D k→F k∨w0.heap.size≤k) (fun x=>.agg #[.slice x.p r.1.params.length x.c,.slice x.q r.1.results.length x.d,.int .i64 r.2]) (fun _=>M) (fun x=>sZ r.1 x::R):=
 HE.EY (tf:=fun u v=>.agg #[u,v,.int .i64 r.2]) hR hF hf ha hc
end
theorem bL {ops:Array Oper} {Q:Exit→Act→World→Prop} {n:Nat} {rest:List Oper} {E:Env} {M:List bu} {R:List (World→Prop)} {d:Nat} {ty:TypeId} {pos:String} {aft:Array Edge} (h:∀b:Nat,aa ops Q n rest ((d,.pointer (some ⟨b,0,none⟩))::E) (.aW b [Value.slice none 0 0,Value.slice none 0 0,Value.int .i64 0] 211::M) R) (hd:Nat.blt d n=true:=by rfl):aa ops Q n (⟨some d,.alloc 211,ty,pos,aft,none⟩::rest) E M R:=aa.alloc (t:=211) [Value.slice none 0 0,Value.slice none 0 0,Value.int .i64 0] rfl rfl hd h
theorem kL (e0:Int) (w:World):Calls G.P 152 #[.int .i64 e0] w fun e w'=>e=.returned (.agg #[.slice none 0 0,.slice none 0 0,.int .i64 e0])∧Ext w w':=by
 refine ae (l:=[_]) func152 rfl ntmps152 rfl (Ok.start w) ?_
 repeat'(first|refine ar ?_|(refine bL fun b_=>?_)|fail)
 all_goals exact gc
theorem gU (p0 p1:Option Addr) (n0 n1 c0 c1:Nat) (w:World):Calls G.P 155 #[.slice p0 n0 c0,.slice p1 n1 c1] w fun e w'=>e=.returned (.agg #[.slice p0 n0 c0,.slice p1 n1 c1,.int .i64 0])∧Ext w w':=by
 refine ae (l:=[_,_]) func155 rfl ntmps155 rfl (Ok.start w) ?_
 repeat'(first|refine ar ?_|(refine bL fun b_=>?_)|fail)
 all_goals exact gc
theorem gq (p0:Option Addr) (n0 c0:Nat) (w:World):Calls G.P 118 #[.slice p0 n0 c0] w fun e w'=>e=.returned (.slice p0 n0 c0)∧Ext w w':=by
 refine ae (l:=[_]) func118 rfl ntmps118 rfl (Ok.start w) ?_
 repeat'(first|refine ar ?_|fail)
 all_goals exact ge
theorem rG {g g':Prop} (h:g') (hw:eA g'→g:=by(intro hk_;(first|refine Oz ?_|refine Og ?_|(refine aa.aj (f:=118) ?_;refine aa.av rfl rfl rfl (fun w' hw'=>gq _ _ _ w') ?_));exact hk_.out)):g:=hw ⟨h⟩
theorem se {x:cv} (h:cW x=true):(fz x.op).isSome=true:=by
 cases hf:(fz x.op).isSome with
 |true=>rfl
 |false=>
  unfold cW at h
  dsimp only at h
  rw[if_pos (.inl hf)]at h
  cases h
theorem Hr:(lL.all fun r=>jU r.1 || (!(decide (r.2.2=1) || decide (r.2.2=2) || decide (r.2.2=3)) && (decide (r.2.2=5) || decide (r.2.2=6) || decide (r.2.2=7) || decide (r.2.2=8) || decide (r.2.2=9) || decide (r.2.2=20) || decide (r.2.2=4) || (fQ r.1).isSome) && (!decide (r.2.2=4) || decide (r.1=16) || decide (r.1=210))))=true:=by decide+kernel
theorem Hq {op:Int} (hk:(fz op).isSome=true) (ha:jU op=false):¬(eR op=1∨eR op=2∨eR op=3)∧((eR op≠5∧eR op≠6∧eR op≠7∧eR op≠8∧eR op≠9∧eR op≠20∧eR op≠4)→(fQ op).isSome=true)∧(eR op=4→op=16∨op=210):=by
 obtain⟨r,hr⟩:=Option.isSome_iff_exists.1 hk
 have h1:=List.all_eq_true.1 Hr r (List.mem_of_find?_eq_some hr)
 have e:r.1=op:=by have:=List.find?_some hr;simpa using this
 have e2:eR op=r.2.2:=by unfold eR eH;rw[hr];rfl
 rw[e,ha,←e2]at h1
 generalize eR op=k at*
 simp only[Bool.false_or,Bool.and_eq_true,Bool.or_eq_true,Bool.not_eq_true',Bool.or_eq_false_iff,decide_eq_true_eq,decide_eq_false_iff_not]at h1
 obtain⟨⟨⟨⟨a1,a2⟩,a3⟩,h2⟩,h3⟩:=h1
 refine⟨by omega,fun⟨b1,b2,b3,b4,b5,b6,b7⟩=>?_,fun h4=>?_⟩
 ·rcases h2 with((((((h|h)|h)|h)|h)|h)|h)|h
  ·exact absurd h b1
  ·exact absurd h b2
  ·exact absurd h b3
  ·exact absurd h b4
  ·exact absurd h b5
  ·exact absurd h b6
  ·exact absurd h b7
  ·exact h
 ·rcases h3 with(h|h)|h
  ·exact absurd h4 h
  ·exact .inl h
  ·exact .inr h
theorem Ek {op:Int} (h:(fQ op).isSome=true):da op=((fQ op).getD dF,0):=by
 unfold da
 cases hs:fQ op with
 |none=>rw[hs]at h;cases h
 |some f=>rfl
theorem Gc {m:af} {locals:List Int} {x:cv} (hk:(fz x.op).isSome=true) (ha:jU x.op=false):fO m locals x=cF m locals x:=by
 obtain⟨h1,h2,h3⟩:=Hq hk ha
 have hr:=zV x.op
 unfold fO cF kH
 generalize eR x.op=k at*
 dsimp only
 rw[if_neg h1]
 by_cases h4:k=4
 ·rw[if_pos h4,if_pos h4]
  unfold dZ
  cases gK m x.a with
  |none=>rfl
  |some f=>
   dsimp only
   rcases h3 h4 with h|h
   ·rw[if_pos h,if_pos h]
   ·have h16:¬x.op=16:=by omega
    rw[if_neg h16,if_neg h16,h]
    rfl
 rw[if_neg h4,if_neg h4]
 by_cases h5:k=5
 ·rw[if_pos h5,if_pos h5];rfl
 rw[if_neg h5,if_neg h5]
 by_cases h6:k=6
 ·rw[if_pos h6,if_pos h6]
 rw[if_neg h6,if_neg h6]
 by_cases h7:k=7
 ·rw[if_pos h7,if_pos h7];rfl
 rw[if_neg h7,if_neg h7]
 by_cases h8:k=8
 ·rw[if_pos h8,if_pos h8];rfl
 rw[if_neg h8,if_neg h8]
 by_cases h9:k=9
 ·rw[if_pos h9,if_pos h9];rfl
 rw[if_neg h9,if_neg h9]
 have hs:k≠20→da x.op=((fQ x.op).getD dF,0):=fun h=>Ek (h2 ⟨h5,h6,h7,h8,h9,h,h4⟩)
 have hk':k=0∨k=10∨k=11∨k=12∨k=13∨k=14∨k=15∨k=16∨k=17∨k=18∨k=19∨k=20:=by omega
 clear h1 h2 h3 h4 h5 h6 h7 h8 h9 hr ha hk
 unfold fE
 rcases hk' with rfl|rfl|rfl|rfl|rfl|rfl|rfl|rfl|rfl|rfl|rfl|rfl
 ·simp[hs]
 ·cases cJ (bM m) x.a<;>cases cJ (bM m) x.b<;>simp[hs]
  rename_i a b
  by_cases he:a.elem=b.elem<;>simp[he]
 ·cases cJ (dO m) x.a<;>cases cJ (bM m) x.b<;>simp[hs]
  rename_i a b
  by_cases he:a=b.elem<;>simp[he]
 ·cases cJ (dO m) x.a<;>simp[hs]
 ·cases cJ (ec m) x.b<;>simp[hs]
 ·cases cJ (ec m) x.a<;>cases cJ (ec m) x.b<;>simp[hs]
 ·by_cases hd:(m.bg.length:Int)≤x.a
  ·have:¬x.a<(m.bg.length:Int):=by omega
   cases cJ (ec m) x.b<;>simp[hd,this]
  ·have:x.a<(m.bg.length:Int):=by omega
   cases cJ (ec m) x.b<;>simp[hs,hd,this]
 ·by_cases hd:(m.bg.length:Int)≤x.a
  ·have:¬x.a<(m.bg.length:Int):=by omega
   simp[hd,this]
  ·have:x.a<(m.bg.length:Int):=by omega
   simp[hs,hd,this]
 ·by_cases hd:mn x.op<x.a<;>cases cJ (ec m) x.b<;>simp[hs,hd]
 ·simp[hs]
 ·simp[hs]
 ·simp
theorem vF (m:af) (locals:List Int) (x:cv):ql m locals x=kB m locals x:=by
 unfold ql kB
 cases hp:cW x with
 |false=>rw[if_pos rfl,if_pos rfl]
 |true=>
  rw[if_neg (show¬true=false by decide),if_neg (show¬true=false by decide)]
  cases ha:jU x.op with
  |true=>rw[if_pos rfl];exact(EN m locals x ha (se hp)).symm
  |false=>rw[if_neg (show¬false=true by decide)];exact Gc (se hp) ha
section
variable {n:Nat} {E:Env} {M M':List bu} {R:List (World→Prop)} {t:TypeId}
theorem HE.JU {B e len s:Nat} {ti te:TI} {parts:List (Nat×Operand)} {vs cs:List Value} (hB:∀w,Ok M R w→B≤w.heap.size) (ht:G.ty t=some ti) (he:ti.elem=some e) (hte:G.ty e=some te) (hs:te.size=s) (hv:kJ E (parts.map (·.2))=some vs) (_hc:Cells vs cs) (hlen:Nat.ble (len*s) 16777216=true) (hf:tD s (Cn len s te.zero.cells.toList) ((parts.map (·.1)).zip vs)=some cs):
  HE n (.buildSlice t len parts.toArray) E M R (fun b:Nat=>B≤b) (fun b=>.slice (some ⟨b,0,none⟩) len len) (fun b=>.aW b cs e::M) (fun _=>R):=
 ⟨fun w hw=>(bU.buildSlice hv (vo w ht he hte hs hlen hf)).mono fun _v _w' ⟨e1,hn⟩=>⟨w.heap.size,hB w hw,e1,hw.push hn.ext hn.aW (tw hn)⟩⟩
theorem zZ {w:World} {B b n s T:Nat} {cs:List Value} (h:gQ w b cs T) (hl:cs.length=n*s) (hB:B≤b) (_hn:n≤1000000):w.ownsRow B T s (.slice (some ⟨b,0,none⟩) n n) n cs:=
 ⟨hl,.inr ⟨b,n,cs.toArray,rfl,hB,h,Nat.le_refl _,by unfold maxLen;omega,by simp[hl],by simp[←hl]⟩⟩
theorem Ok.Cc {w:World} {B b m s T:Nat} {cs:List Value} (hw:Ok M R w) (hM:Up (.aW b cs T) (.own B T s (.slice (some ⟨b,0,none⟩) m m) m cs) M M') (hl:cs.length=m*s) (hB:B≤b) (hn:m≤1000000):Ok M' R w:=
 hw.qj hM (bX.refl _ w) (zZ (hw.m _ hM.mem).1 hl hB hn) (fun k hk=>by
  have hk':some b=some k:=hk
  cases hk'
  exact⟨(hw.m _ hM.mem).2 b rfl,fun _=>rfl⟩)
theorem aP.Cc {l:List Oper} {Q:Exit→Act→World→Prop} {Mc:List bu} {Rc:List (World→Prop)} {n fuel:Nat} {listed:Array Bool} {E:Env} {B b m s T:Nat} {cs:List Value} (hM:Up (.aW b cs T) (.own B T s (.slice (some ⟨b,0,none⟩) m m) m cs) M M') (hl:cs.length=m*s) (hB:B≤b) (hn:m≤1000000) (h:aP l Q Mc Rc n fuel listed E M' R):aP l Q Mc Rc n fuel listed E M R:=⟨fun w hw=>h.h w (hw.Cc hM hl hB hn)⟩
end
theorem Jq {w:World} (h:sZ f a w):f.params.length=0∨∃bk o,a.p=some ⟨bk,o,none⟩:=by
 obtain⟨q,c,e,hl,h0|⟨b,o,hq,-,-⟩⟩:=h.1
 ·exact .inl (by rw[h0];rfl)
 ·cases e;exact .inr ⟨b,o,hq⟩
theorem Fk {M:List bu} {R:List (World→Prop)} (hs:f.params.length=0∨∃bk o,a.p=some ⟨bk,o,none⟩) (hR:sZ f a∈R):f.params.length=0∨∃bk o,a.p=some ⟨bk,o,none⟩∧∀w',Ok M R w'→∀j u,(aY f.params)[j]?=some u→w'.cell? ⟨bk,o+j,none⟩=some u:=by
 rcases hs with h|⟨b,o,hq⟩
 ·exact .inl h
 by_cases hz:f.params.length=0
 ·exact .inl hz
 refine .inr ⟨b,o,hq,fun w' hw' j u hj=>?_⟩
 obtain⟨q2,c2,e2,-,h1|⟨b2,o2,hq2,-,hc2⟩⟩:=(hw'.get hR).1
 ·rw[h1]at hz;exact absurd rfl hz
 ·cases e2
  rw[hq]at hq2;cases hq2
  have hjl:j<f.params.length:=by
   have:=(List.getElem?_eq_some_iff.1 hj).1
   simpa[aY]using this
  have hu:u=.int .i64 (ix f.params j):=by
   unfold aY at hj
   rw[List.getElem?_map,iz hjl]at hj
   simpa using hj.symm
  rw[hu];exact hc2 j hjl
theorem Ch {m:af} {locals:List Int} {x:cv} {f:aO} {e:Int} (h:fO m locals x=(f,e)) (h1:e≠0):f=dF:=by
 unfold fO dZ bZ eQ dt dr at h
 dsimp only at h
 repeat' split at h
 all_goals first|(cases h;exact absurd rfl h1)|(cases h;rfl)
theorem AW {m:af} {locals:List Int} {x:cv} {f:aO} {e:Int} (h:ql m locals x=(f,e)) (h1:e≠0):f=dF:=by
 unfold ql at h
 split at h
 ·cases h;rfl
 split at h
 ·cases h;rfl
 ·exact Ch h h1
theorem G3 (op t:Int) (s:List UInt8):(iQ op t s).params.length≤3∧(iQ op t s).results.length≤3:=by
 unfold iQ
 repeat' split
 all_goals(dsimp only[List.length_cons,List.length_nil];omega)
theorem Hi (op:Int):((fQ op).getD dF).params.length≤3∧((fQ op).getD dF).results.length≤3:=by
 unfold fQ
 repeat' split
 all_goals first|exact⟨by decide,by decide⟩|exact G3 _ _ _|(dsimp only[Option.getD_some,Option.getD_none,dF,List.length_cons,List.length_nil];omega)
end Go.Proofs.YtdkcljdfbemnbaaGreatDoor
