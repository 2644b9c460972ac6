/- Chapter 23's rows: what the list of laid variables gives; the arguments read. -/
import Derived.Test.YtdkcljdfbemnbaaGreatDoorJVi4
import Derived.Test.YtdkcljdfbemnbaaGreatDoorJLz
import Derived.Test.YtdkcljdfbemnbaaGreatDoorCards
import Derived.Test.YtdkcljdfbemnbaaGreatDoorTie
import Derived.Deep.DeepHandedRow
import Derived.Deep.DeepWitnessRowRef
import Derived.Lib.LaidTab
import Derived.Lib.Space
import Derived.Lib.SpaceR
import Derived.Shelf.Vars
import Derived.Test.YtdkcljdfbemnbaaGreatDoorJWe
namespace Go.Proofs.YtdkcljdfbemnbaaGreatDoor
open Go.ChangeShapes Go.WideShapes Go.ChangeAt Go.RowKit _root_.Go.Proofs.Tryz
set_option maxHeartbeats 8000000
open Int renaming eq_ofNat_of_zero_le→PD
open List renaming cons_append→Pj,nil_append→Pi
open Value renaming bool→Ph,int→Pf,string→Pk
set_option maxRecDepth 100000
theorem yT {P:Program} {W:World} {name n0:String} {d0:DataW Unit} {k:IntKind} {zs:List Int} {rest:List (String×DataW Unit)} {g:Nat} {t e:TypeId} {n:Nat}
  (hg:P.globalNamed name=some g) (hty:(P.globals[g]?).map (·.type)=some t) (ht:P.underlying t=some (.array n e)) (he:P.underlying e=some (.int k)) (hce:P.cellsOf e=1) (hct:P.cellsOf t=n)
  (h:laidMet P ((n0,d0)::(name,Lib.tabData k zs)::rest) W):Lib.TabIs P W name k zs:=by
 obtain⟨ps,⟨_,_,_,_,_,_,_,_,_,_,⟨g',t',cs,fuel,p,q,hg',ht',hvar,hd,_,_⟩,_⟩,_⟩:=h
 obtain rfl:=Option.some.inj (hg.symm.trans hg')
 obtain rfl:=Option.some.inj (hty.symm.trans ht')
 unfold Lib.TabIs
 rw[hvar,←Lib.cells_of_tab ht he hce hct hd]
theorem Fl:(Rows.laid_strings_asciiSpace:DataW Unit)=Lib.tabData .u8 Lib.asciiSpaceTab:=by kernel_rfl
def I2:List (String×DataW Unit):=[("unicode.White_Space",Rows.laid_unicode_White_Space),("strings.asciiSpace",Rows.laid_strings_asciiSpace)]
theorem IW:prog.globalNamed "strings.asciiSpace" =some 0:=by kernel_rfl
theorem GD {W:World} (hL:laidMetH prog I2 W) (hsh:W.ShapedOpen prog):fJ W:=by
 have hL':laidMet prog [("unicode.White_Space",Rows.laid_unicode_White_Space),("strings.asciiSpace",Lib.tabData .u8 Lib.asciiSpaceTab)] W:=by
  have:laidMet prog [("unicode.White_Space",Rows.laid_unicode_White_Space),("strings.asciiSpace",Rows.laid_strings_asciiSpace)] W:=hL
  rwa[Fl]at this
 have ht:=yT (t:=277) (e:=5) (n:=256) IW O5 O5 underlying5 O5 O5 hL'
 refine⟨fun c hc=>?_,cell_of_shapedOpen_int (zero:=#[.int .i64 0]) (t:=3) hsh (of_decide_eq_true O5) O5 rfl O5 O5 underlying3⟩
 have:=ht.cell IW c (by unfold Lib.asciiSpaceTab;simp;exact hc)
 rw[this]
 unfold Lib.asciiSpaceTab
 simp[List.getD_eq_getElem?_getD,hc]
section
variable {H:Type} {enc:TypeId×Value→H} {w:World} {t e:TypeId} {v:Value} {d:DataW H} {ps:List MemPlace}
end
open Go.RowKit
variable (sp:Nat) (s:ck) (y:Value×Value) (op:Int) (F:Nat→Prop) (m:af) (i:Int) (cs:List Value) (w:World)
theorem yI (_ho:op=26) (w:World) (hw:Ok (aX sp s y) [] w) (hwf:s.Wf):Calls G.P 55 #[.pointer (some ⟨sp,0,none⟩),.int .i64 op] w (fe sp s y (.int .i64 (aY s).2.2) (aY s).1 w):=by
 obtain⟨tv,pv⟩:=y
 refine ae (l:=[_,_]) func55 rfl ntmps55 rfl (Ok.dk hw) ?_;unfold fe;generalize hS:Mb (aX sp s (tv,pv))=S0;dsimp only[aX]
 repeat'(first|refine ar ?_|fail)
 refine ME ?_
 rintro⟨tv1,pv1⟩ _
 obtain⟨pr1,hpr1⟩:∃r,aY s=r:=⟨_,rfl⟩
 have wf1:(aY s).1.Wf:=jn hwf
 have tl1:(aY s).1.ts.length≤s.ts.length:=jO s
 rw[hpr1]at wf1 tl1 ⊢
 obtain⟨s1,a1,e1⟩:=pr1
 dsimp only[aX,Pj,Pi]at wf1 tl1 ⊢
 by_cases he:e1=0
 ·subst he
  repeat'(first|refine ar ?_|fail)
  all_goals exact li
 ·repeat'(first|refine ar ?_|fail)
  all_goals exact li
theorem wJ (_ho:op=209) (w:World) (hw:Ok (aX sp s y) [] w) (hwf:s.Wf) (hb:(s.ts.length+1)*8≤140737488355328):Calls G.P 55 #[.pointer (some ⟨sp,0,none⟩),.int .i64 op] w (fe sp s y (.int .i64 (if(aY s).2.2≠0 then(aY s).2.2 else if(aY s).2.1=1∨(aY s).2.1=2 then 12 else 0)) (if(aY s).2.2≠0 then(aY s).1 else if(aY s).2.1=1∨(aY s).2.1=2 then(aY s).1 else aS (aY s).1 [1]) w):=by
 have:=hb;clear this
 obtain⟨tv,pv⟩:=y
 refine ae (l:=[_,_]) func55 rfl ntmps55 rfl (Ok.dk hw) ?_;unfold fe;generalize hS:Mb (aX sp s (tv,pv))=S0;dsimp only[aX]
 repeat'(first|refine ar ?_|(refine bC ?_ ?_<;>intro hc_))
 refine ME ?_
 rintro⟨tv1,pv1⟩ _
 obtain⟨pr1,hpr1⟩:∃r,aY s=r:=⟨_,rfl⟩
 have wf1:(aY s).1.Wf:=jn hwf
 have tl1:(aY s).1.ts.length≤s.ts.length:=jO s
 rw[hpr1]at wf1 tl1 ⊢
 obtain⟨s1,a1,e1⟩:=pr1
 dsimp only[aX,Pj,Pi]at wf1 tl1 ⊢
 by_cases he:e1=0
 ·subst he
  repeat rw[if_neg (show¬((0:Int)≠0)from fun h=>h rfl)]
  by_cases hbad:a1=1∨a1=2
  ·repeat rw[if_pos hbad]
   repeat'(first|refine ar ?_|(refine bC ?_ ?_<;>intro hc_))
   all_goals exact li
  ·repeat rw[if_neg hbad]
   have n1:a1≠1:=fun h=>hbad (.inl h)
   have n2:a1≠2:=fun h=>hbad (.inr h)
   repeat'(first|refine ar ?_|(refine fB fun b_ _=>?_)|(refine bC ?_ ?_<;>intro hc_))
   obtain⟨bl,rfl⟩:∃y:Nat,y=b_:=⟨_,rfl⟩
   refine aa.freeze (q:=.aV bl [.int .i64 1] fT) (fun w=>ai (fun k=>k=bl) w (.slice (some ⟨bl,0,none⟩) 1 1) [1]) jK (fun w' h _=>dJ h) ?_
   refine aa.he (HE.bJ (M0:=aX sp s1 (tv1,pv1)) dS rfl rfl (fun w' hw'=>gX (fun k=>k=bl) sp s1 (tv1,pv1) (.slice (some ⟨bl,0,none⟩) 1 1) [1] w' (hw'.dc dU aU) wf1.some (by show(s1.ts.length+1)*8≤_;omega))) rfl ?_
   rintro⟨tv2,pv2⟩ _
   dsimp only[aX,Pj,Pi]
   repeat'(first|refine ar ?_|(refine bC ?_ ?_<;>intro hc_))
   all_goals exact lm
 ·repeat rw[if_pos he]
  repeat'(first|refine ar ?_|(refine bC ?_ ?_<;>intro hc_))
  all_goals exact li
theorem nj (hm:av F w cs m) (hF:∀k,F k→k<w.heap.size) (h0:0≤i) (hi:eO i):Calls G.P 176 #[.agg cs.toArray,.int .i64 i] w (iU (gH m i) F w):=by
 have hm0:=hm
 obtain⟨v0,v1,v2,v3,v4,v5,v6,v7,v8,v9,rfl,r0,r1,r2,r3,r4,r5,r6,r7,r8,r9,g0⟩:=hm
 obtain⟨p2,c2,rfl,l2⟩:=r2.slice
 have hat:cJ (gI m) i=_:=sZ (fun x:bY=>x.func) m 0 (m.funcs.map fun x:qk=>x.dI) h0
 cases hn:kV m.imports 0 i with
 |some x=>
  rw[hn]at hat
  have ef:gH m i=cJ m.types x.func:=by unfold gH;rw[hat];rfl
  rw[ef]
  refine ae (l:=[_,_]) func176 rfl ntmps176 rfl (Ok.start w) ?_
  repeat'(first|refine ar ?_|(refine NU fun b_=>?_)|(refine aa.ed (t:=iD) ?_;refine aa.alloc (t:=iD) [Pk ⟨#[]⟩,Pk ⟨#[]⟩,Pf .i64 0,Pf .i64 0,Pf .i64 0,Pf .i64 0,Pf .i64 0,Ph false,Pf .i64 0,Pf .i64 0,Ph false,Pf .i64 0,Ph false] rfl rfl rfl fun b_=>?_)|(refine aa.aj (f:=194) ?_;refine aa.au (v:=.tuple #[.agg #[Pk x.module,Pk x.name,Pf .i64 x.kind,Pf .i64 x.func,Pf .i64 x.table.elem,Pf .i64 x.table.mZ.min,Pf .i64 x.table.mZ.max,Ph x.table.mZ.has,Pf .i64 x.mem.min,Pf .i64 x.mem.max,Ph x.mem.has,Pf .i64 x.ff.nQ,Ph x.ff.sB],.bool true]) rfl rfl rfl (fun w' hw'=>by have:=fU F m 0 i _ w' (hm0.aP (show Ext w w' from hw'.at) (fun _ _ _ h=>h)) h0 hi;rw[hn]at this;exact this) ?_)|fail)
  refine aa.he (HE.yZ (r:=cJ m.types (x.func)) (F:=F) ak hF rfl rfl (fun w' hw'=>iH F m (x.func) _ w' (hm0.aP (show Ext w w' from hw'.at) (fun _ _ _ h=>h)))) rfl ?_
  rintro⟨D_,p_,c_,q_,d_⟩ hD_
  dsimp only
  repeat'(first|refine ar ?_|fail)
  all_goals(refine ah.aM (.inl rfl) rfl rfl rfl rfl rfl aH rfl rfl ?_;exact fun w' hw'=>bD.jm (f0:=(cJ m.types (x.func)).getD dF) (tf:=fun y:Value×Value=>.tuple #[.agg #[y.1,y.2],.bool (cJ m.types (x.func)).isSome]) ⟨D_,p_,c_,q_,d_⟩ hw' ak ak hD_)
 |none=>
  rw[hn]at hat
  by_cases hin:0≤i - kS m 0∧i - kS m 0<m.funcs.length
  ·have ho:vR m 0 i m.funcs.length=i - kS m 0:=if_pos hin
   obtain⟨j,hj⟩:=PD hin.1
   rw[hj]at hin hat ho
   have hlt:j<m.funcs.length:=by omega
   obtain⟨b,o,rfl,hFb,he⟩:=r2.el hlt
   have hty:=he.dI
   have ef:gH m i=cJ m.types (ix m.funcs j).dI:=by unfold gH;rw[hat];dsimp only;rw[jX (by simpa using hlt),rm hlt];rfl
   rw[ef]
   refine ae (l:=[_,_]) func176 rfl ntmps176 rfl (Ok.start w) ?_
   repeat'(first|refine ar ?_|(refine NU fun b_=>?_)|(refine aa.ed (t:=iD) ?_;refine aa.alloc (t:=iD) [Pk ⟨#[]⟩,Pk ⟨#[]⟩,Pf .i64 0,Pf .i64 0,Pf .i64 0,Pf .i64 0,Pf .i64 0,Ph false,Pf .i64 0,Pf .i64 0,Ph false,Pf .i64 0,Ph false] rfl rfl rfl fun b_=>?_)|(refine aa.aj (f:=194) ?_;refine aa.au (v:=.tuple #[.agg #[Pk ⟨#[]⟩,Pk ⟨#[]⟩,Pf .i64 0,Pf .i64 0,Pf .i64 0,Pf .i64 0,Pf .i64 0,Ph false,Pf .i64 0,Pf .i64 0,Ph false,Pf .i64 0,Ph false],.bool false]) rfl rfl rfl (fun w' hw'=>by have:=fU F m 0 i _ w' (hm0.aP (show Ext w w' from hw'.at) (fun _ _ _ h=>h)) h0 hi;rw[hn]at this;exact this) ?_)|(refine aa.aj (f:=195) ?_;refine aa.au (v:=.int .i64 (j:Nat)) rfl rfl rfl (fun w' hw'=>by have:=jB F m 0 i m.funcs.length _ w' (hm0.aP (show Ext w w' from hw'.at) (fun _ _ _ h=>h)) h0 hi;rw[ho]at this;exact this) ?_)|fail)
   rename_i bm bf
   refine bh.cF [.aV bm [v0,v1,Value.slice (some ⟨b,o,none⟩) m.funcs.length c2,v3,v4,v5,v6,Ph m.aI,Pf .i64 m.start,v7,v8,v9] jF] [Ext w] bw aU ?_
   repeat'(first|refine pG ?_|(refine ax.dz 44 ?_;refine ax.he rfl rfl (HE.yZ (r:=cJ m.types ((ix m.funcs j).dI)) (F:=F) ak hF rfl rfl (fun w' hw'=>iH F m ((ix m.funcs j).dI) _ w' (hm0.aP (show Ext w w' from hw'.at) (fun _ _ _ h=>h)))) (fun _=>bw) (fun _=>aU) ?_;rintro⟨D_,p_,c_,q_,d_⟩ hD_;dsimp only)|(refine ax.nf ?_;refine ax.jQ rfl (gj.bn _ rfl rfl rfl rfl rfl rfl aH rfl) (fun _=>bw) (fun _=>aU) ?_;rintro⟨⟩ _)|refine aN.nil O3 ?_|refine aN.any O3 ?_|exact aB.fin rfl|refine aB.skip O3 ?_|refine aB.go ?_ ?_)
   all_goals repeat'(first|refine ar ?_|fail)
   all_goals(refine ah.aM (.inl rfl) rfl rfl rfl rfl rfl aH rfl rfl ?_;exact fun w' hw'=>bD.jm (f0:=(cJ m.types ((ix m.funcs j).dI)).getD dF) (tf:=fun y:Value×Value=>.tuple #[.agg #[y.1,y.2],.bool (cJ m.types ((ix m.funcs j).dI)).isSome]) ⟨D_,p_,c_,q_,d_⟩ hw' ak ak hD_)
  ·have ho:vR m 0 i m.funcs.length=-1:=if_neg hin
   have ef:gH m i=none:=by unfold gH;rw[hat];dsimp only;rw[iL (by simpa using hin)];rfl
   rw[ef]
   refine ae (l:=[_,_]) func176 rfl ntmps176 rfl (Ok.start w) ?_
   repeat'(first|refine ar ?_|(refine NU fun b_=>?_)|(refine aa.ed (t:=iD) ?_;refine aa.alloc (t:=iD) [Pk ⟨#[]⟩,Pk ⟨#[]⟩,Pf .i64 0,Pf .i64 0,Pf .i64 0,Pf .i64 0,Pf .i64 0,Ph false,Pf .i64 0,Pf .i64 0,Ph false,Pf .i64 0,Ph false] rfl rfl rfl fun b_=>?_)|(refine aa.aj (f:=194) ?_;refine aa.au (v:=.tuple #[.agg #[Pk ⟨#[]⟩,Pk ⟨#[]⟩,Pf .i64 0,Pf .i64 0,Pf .i64 0,Pf .i64 0,Pf .i64 0,Ph false,Pf .i64 0,Pf .i64 0,Ph false,Pf .i64 0,Ph false],.bool false]) rfl rfl rfl (fun w' hw'=>by have:=fU F m 0 i _ w' (hm0.aP (show Ext w w' from hw'.at) (fun _ _ _ h=>h)) h0 hi;rw[hn]at this;exact this) ?_)|(refine aa.aj (f:=195) ?_;refine aa.au (v:=.int .i64 (-1)) rfl rfl rfl (fun w' hw'=>by have:=jB F m 0 i m.funcs.length _ w' (hm0.aP (show Ext w w' from hw'.at) (fun _ _ _ h=>h)) h0 hi;rw[ho]at this;exact this) ?_)|fail)
   all_goals exact lw
theorem iG (hm:av F w cs m) (h0:0≤i) (hi:eO i):Calls G.P 178 #[.agg cs.toArray,.int .i64 i] w fun e w'=>e=.returned (.tuple #[.agg (mV ((cJ (bL m) i).getD Bt)).toArray,.bool (cJ (bL m) i).isSome])∧Ext w w':=by
 have hm0:=hm
 obtain⟨v0,v1,v2,v3,v4,v5,v6,v7,v8,v9,rfl,r0,r1,r2,r3,r4,r5,r6,r7,r8,r9,g0⟩:=hm
 obtain⟨p3,c3,rfl,l3⟩:=r3.slice
 have hat:cJ (bL m) i=_:=sZ (·.table) m 1 m.tables h0
 cases hn:kV m.imports 1 i with
 |some x=>
  rw[hn]at hat
  rw[hat]
  refine ae (l:=[_,_]) func178 rfl ntmps178 rfl (Ok.start w) ?_
  repeat'(first|refine ar ?_|(refine NP fun b_=>?_)|(refine aa.ed (t:=iD) ?_;refine aa.alloc (t:=iD) [Pk ⟨#[]⟩,Pk ⟨#[]⟩,Pf .i64 0,Pf .i64 0,Pf .i64 0,Pf .i64 0,Pf .i64 0,Ph false,Pf .i64 0,Pf .i64 0,Ph false,Pf .i64 0,Ph false] rfl rfl rfl fun b_=>?_)|(refine aa.aj (f:=194) ?_;refine aa.au (v:=.tuple #[.agg #[Pk x.module,Pk x.name,Pf .i64 x.kind,Pf .i64 x.func,Pf .i64 x.table.elem,Pf .i64 x.table.mZ.min,Pf .i64 x.table.mZ.max,Ph x.table.mZ.has,Pf .i64 x.mem.min,Pf .i64 x.mem.max,Ph x.mem.has,Pf .i64 x.ff.nQ,Ph x.ff.sB],.bool true]) rfl rfl rfl (fun w' hw'=>by have:=fU F m 1 i _ w' (hm0.aP (show Ext w w' from hw'.at) (fun _ _ _ h=>h)) h0 hi;rw[hn]at this;exact this) ?_)|fail)
  all_goals exact mp
 |none=>
  rw[hn]at hat
  by_cases hin:0≤i - kS m 1∧i - kS m 1<m.tables.length
  ·have ho:vR m 1 i m.tables.length=i - kS m 1:=if_pos hin
   obtain⟨j,hj⟩:=PD hin.1
   rw[hj]at hin hat ho
   have hlt:j<m.tables.length:=by omega
   obtain⟨b,o,rfl,hF,he⟩:=r3.el hlt
   have hcc:∀k,k<4→w.cell? ⟨b,o+j*4+k,none⟩=(mV (ix m.tables j))[k]?:=AN he
   have hat2:cJ (bL m) i=some (ix m.tables j):=by rw[hat];dsimp only;exact jX hlt
   rw[hat2]
   refine ae (l:=[_,_]) func178 rfl ntmps178 rfl (Ok.start w) ?_
   refine bh.lj (Cs b (o+j*4) (mV (ix m.tables j))) (js hcc rfl ak) ?_
   dsimp only[mV]
   repeat'(first|refine ar ?_|(refine NP fun b_=>?_)|(refine aa.ed (t:=iD) ?_;refine aa.alloc (t:=iD) [Pk ⟨#[]⟩,Pk ⟨#[]⟩,Pf .i64 0,Pf .i64 0,Pf .i64 0,Pf .i64 0,Pf .i64 0,Ph false,Pf .i64 0,Pf .i64 0,Ph false,Pf .i64 0,Ph false] rfl rfl rfl fun b_=>?_)|(refine aa.aj (f:=194) ?_;refine aa.au (v:=.tuple #[.agg #[Pk ⟨#[]⟩,Pk ⟨#[]⟩,Pf .i64 0,Pf .i64 0,Pf .i64 0,Pf .i64 0,Pf .i64 0,Ph false,Pf .i64 0,Pf .i64 0,Ph false,Pf .i64 0,Ph false],.bool false]) rfl rfl rfl (fun w' hw'=>by have:=fU F m 1 i _ w' (hm0.aP (show Ext w w' from hw'.at) (fun _ _ _ h=>h)) h0 hi;rw[hn]at this;exact this) ?_)|(refine aa.aj (f:=195) ?_;refine aa.au (v:=.int .i64 (j:Nat)) rfl rfl rfl (fun w' hw'=>by have:=jB F m 1 i m.tables.length _ w' (hm0.aP (show Ext w w' from hw'.at) (fun _ _ _ h=>h)) h0 hi;rw[ho]at this;exact this) ?_)|fail)
   all_goals exact mp
  ·have ho:vR m 1 i m.tables.length=-1:=if_neg hin
   have hat2:cJ (bL m) i=none:=by rw[hat];dsimp only;exact iL (by simpa using hin)
   rw[hat2]
   refine ae (l:=[_,_]) func178 rfl ntmps178 rfl (Ok.start w) ?_
   repeat'(first|refine ar ?_|(refine NP fun b_=>?_)|(refine aa.ed (t:=iD) ?_;refine aa.alloc (t:=iD) [Pk ⟨#[]⟩,Pk ⟨#[]⟩,Pf .i64 0,Pf .i64 0,Pf .i64 0,Pf .i64 0,Pf .i64 0,Ph false,Pf .i64 0,Pf .i64 0,Ph false,Pf .i64 0,Ph false] rfl rfl rfl fun b_=>?_)|(refine aa.aj (f:=194) ?_;refine aa.au (v:=.tuple #[.agg #[Pk ⟨#[]⟩,Pk ⟨#[]⟩,Pf .i64 0,Pf .i64 0,Pf .i64 0,Pf .i64 0,Pf .i64 0,Ph false,Pf .i64 0,Pf .i64 0,Ph false,Pf .i64 0,Ph false],.bool false]) rfl rfl rfl (fun w' hw'=>by have:=fU F m 1 i _ w' (hm0.aP (show Ext w w' from hw'.at) (fun _ _ _ h=>h)) h0 hi;rw[hn]at this;exact this) ?_)|(refine aa.aj (f:=195) ?_;refine aa.au (v:=.int .i64 (-1)) rfl rfl rfl (fun w' hw'=>by have:=jB F m 1 i m.tables.length _ w' (hm0.aP (show Ext w w' from hw'.at) (fun _ _ _ h=>h)) h0 hi;rw[ho]at this;exact this) ?_)|fail)
   all_goals exact mt
theorem DY (hm:av F w cs m) (h0:0≤i) (hi:eO i):Calls G.P 198 #[.agg cs.toArray,.int .i64 i] w fun e w'=>e=.returned (.tuple #[.agg (mH ((cJ (dZ m) i).getD Iv)).toArray,.bool (cJ (dZ m) i).isSome])∧Ext w w':=by
 have hm0:=hm
 obtain⟨v0,v1,v2,v3,v4,v5,v6,v7,v8,v9,rfl,r0,r1,r2,r3,r4,r5,r6,r7,r8,r9,g0⟩:=hm
 obtain⟨p4,c4,rfl,l4⟩:=r4.slice
 have hat:cJ (dZ m) i=_:=sZ (·.mem) m 2 m.bR h0
 cases hn:kV m.imports 2 i with
 |some x=>
  rw[hn]at hat
  rw[hat]
  refine ae (l:=[_,_]) func198 rfl ntmps198 rfl (Ok.start w) ?_
  repeat'(first|refine ar ?_|(refine NP fun b_=>?_)|(refine aa.ed (t:=iD) ?_;refine aa.alloc (t:=iD) [Pk ⟨#[]⟩,Pk ⟨#[]⟩,Pf .i64 0,Pf .i64 0,Pf .i64 0,Pf .i64 0,Pf .i64 0,Ph false,Pf .i64 0,Pf .i64 0,Ph false,Pf .i64 0,Ph false] rfl rfl rfl fun b_=>?_)|(refine aa.aj (f:=194) ?_;refine aa.au (v:=.tuple #[.agg #[Pk x.module,Pk x.name,Pf .i64 x.kind,Pf .i64 x.func,Pf .i64 x.table.elem,Pf .i64 x.table.mZ.min,Pf .i64 x.table.mZ.max,Ph x.table.mZ.has,Pf .i64 x.mem.min,Pf .i64 x.mem.max,Ph x.mem.has,Pf .i64 x.ff.nQ,Ph x.ff.sB],.bool true]) rfl rfl rfl (fun w' hw'=>by have:=fU F m 2 i _ w' (hm0.aP (show Ext w w' from hw'.at) (fun _ _ _ h=>h)) h0 hi;rw[hn]at this;exact this) ?_)|fail)
  all_goals exact mp
 |none=>
  rw[hn]at hat
  by_cases hin:0≤i - kS m 2∧i - kS m 2<m.bR.length
  ·have ho:vR m 2 i m.bR.length=i - kS m 2:=if_pos hin
   obtain⟨j,hj⟩:=PD hin.1
   rw[hj]at hin hat ho
   have hlt:j<m.bR.length:=by omega
   obtain⟨b,o,rfl,hF,he⟩:=r4.el hlt
   have hcc:∀k,k<3→w.cell? ⟨b,o+j*3+k,none⟩=(mH (ix m.bR j))[k]?:=xo he
   have hat2:cJ (dZ m) i=some (ix m.bR j):=by rw[hat];dsimp only;exact jX hlt
   rw[hat2]
   refine ae (l:=[_,_]) func198 rfl ntmps198 rfl (Ok.start w) ?_
   refine bh.lj (Cs b (o+j*3) (mH (ix m.bR j))) (js hcc rfl ak) ?_
   dsimp only[mH]
   repeat'(first|refine ar ?_|(refine NP fun b_=>?_)|(refine aa.ed (t:=iD) ?_;refine aa.alloc (t:=iD) [Pk ⟨#[]⟩,Pk ⟨#[]⟩,Pf .i64 0,Pf .i64 0,Pf .i64 0,Pf .i64 0,Pf .i64 0,Ph false,Pf .i64 0,Pf .i64 0,Ph false,Pf .i64 0,Ph false] rfl rfl rfl fun b_=>?_)|(refine aa.aj (f:=194) ?_;refine aa.au (v:=.tuple #[.agg #[Pk ⟨#[]⟩,Pk ⟨#[]⟩,Pf .i64 0,Pf .i64 0,Pf .i64 0,Pf .i64 0,Pf .i64 0,Ph false,Pf .i64 0,Pf .i64 0,Ph false,Pf .i64 0,Ph false],.bool false]) rfl rfl rfl (fun w' hw'=>by have:=fU F m 2 i _ w' (hm0.aP (show Ext w w' from hw'.at) (fun _ _ _ h=>h)) h0 hi;rw[hn]at this;exact this) ?_)|(refine aa.aj (f:=195) ?_;refine aa.au (v:=.int .i64 (j:Nat)) rfl rfl rfl (fun w' hw'=>by have:=jB F m 2 i m.bR.length _ w' (hm0.aP (show Ext w w' from hw'.at) (fun _ _ _ h=>h)) h0 hi;rw[ho]at this;exact this) ?_)|fail)
   all_goals exact mp
  ·have ho:vR m 2 i m.bR.length=-1:=if_neg hin
   have hat2:cJ (dZ m) i=none:=by rw[hat];dsimp only;exact iL (by simpa using hin)
   rw[hat2]
   refine ae (l:=[_,_]) func198 rfl ntmps198 rfl (Ok.start w) ?_
   repeat'(first|refine ar ?_|(refine NP fun b_=>?_)|(refine aa.ed (t:=iD) ?_;refine aa.alloc (t:=iD) [Pk ⟨#[]⟩,Pk ⟨#[]⟩,Pf .i64 0,Pf .i64 0,Pf .i64 0,Pf .i64 0,Pf .i64 0,Ph false,Pf .i64 0,Pf .i64 0,Ph false,Pf .i64 0,Ph false] rfl rfl rfl fun b_=>?_)|(refine aa.aj (f:=194) ?_;refine aa.au (v:=.tuple #[.agg #[Pk ⟨#[]⟩,Pk ⟨#[]⟩,Pf .i64 0,Pf .i64 0,Pf .i64 0,Pf .i64 0,Pf .i64 0,Ph false,Pf .i64 0,Pf .i64 0,Ph false,Pf .i64 0,Ph false],.bool false]) rfl rfl rfl (fun w' hw'=>by have:=fU F m 2 i _ w' (hm0.aP (show Ext w w' from hw'.at) (fun _ _ _ h=>h)) h0 hi;rw[hn]at this;exact this) ?_)|(refine aa.aj (f:=195) ?_;refine aa.au (v:=.int .i64 (-1)) rfl rfl rfl (fun w' hw'=>by have:=jB F m 2 i m.bR.length _ w' (hm0.aP (show Ext w w' from hw'.at) (fun _ _ _ h=>h)) h0 hi;rw[ho]at this;exact this) ?_)|fail)
   all_goals exact mt
theorem kD (hm:av F w cs m) (h0:0≤i) (hi:eO i):Calls G.P 179 #[.agg cs.toArray,.int .i64 i] w fun e w'=>e=.returned (.tuple #[.agg (pS ((cJ (fZ m) i).getD JB)).toArray,.bool (cJ (fZ m) i).isSome])∧Ext w w':=by
 have hm0:=hm
 obtain⟨v0,v1,v2,v3,v4,v5,v6,v7,v8,v9,rfl,r0,r1,r2,r3,r4,r5,r6,r7,r8,r9,g0⟩:=hm
 obtain⟨p5,c5,rfl,l5⟩:=r5.slice
 have hat:cJ (fZ m) i=_:=sZ (fun x:bY=>x.ff) m 3 (m.globals.map fun x:gU=>x.dI) h0
 cases hn:kV m.imports 3 i with
 |some x=>
  rw[hn]at hat
  rw[hat]
  refine ae (l:=[_,_]) func179 rfl ntmps179 rfl (Ok.start w) ?_
  repeat'(first|refine ar ?_|(refine NP fun b_=>?_)|(refine aa.ed (t:=iD) ?_;refine aa.alloc (t:=iD) [Pk ⟨#[]⟩,Pk ⟨#[]⟩,Pf .i64 0,Pf .i64 0,Pf .i64 0,Pf .i64 0,Pf .i64 0,Ph false,Pf .i64 0,Pf .i64 0,Ph false,Pf .i64 0,Ph false] rfl rfl rfl fun b_=>?_)|(refine aa.aj (f:=194) ?_;refine aa.au (v:=.tuple #[.agg #[Pk x.module,Pk x.name,Pf .i64 x.kind,Pf .i64 x.func,Pf .i64 x.table.elem,Pf .i64 x.table.mZ.min,Pf .i64 x.table.mZ.max,Ph x.table.mZ.has,Pf .i64 x.mem.min,Pf .i64 x.mem.max,Ph x.mem.has,Pf .i64 x.ff.nQ,Ph x.ff.sB],.bool true]) rfl rfl rfl (fun w' hw'=>by have:=fU F m 3 i _ w' (hm0.aP (show Ext w w' from hw'.at) (fun _ _ _ h=>h)) h0 hi;rw[hn]at this;exact this) ?_)|fail)
  all_goals exact mp
 |none=>
  rw[hn]at hat
  by_cases hin:0≤i - kS m 3∧i - kS m 3<m.globals.length
  ·have ho:vR m 3 i m.globals.length=i - kS m 3:=if_pos hin
   obtain⟨j,hj⟩:=PD hin.1
   rw[hj]at hin hat ho
   have hlt:j<m.globals.length:=by omega
   obtain⟨b,o,rfl,hF,he⟩:=r5.el hlt
   have hcc:∀k,k<2→w.cell? ⟨b,o+j*3+k,none⟩=(pS (ix m.globals j).dI)[k]?:=Dp he
   have hat2:cJ (fZ m) i=some (ix m.globals j).dI:=by rw[hat];dsimp only;rw[jX (by simpa using hlt),rm hlt]
   rw[hat2]
   refine ae (l:=[_,_]) func179 rfl ntmps179 rfl (Ok.start w) ?_
   refine bh.lj (Cs b (o+j*3) (pS (ix m.globals j).dI)) (js hcc rfl ak) ?_
   dsimp only[pS]
   repeat'(first|refine ar ?_|(refine NP fun b_=>?_)|(refine aa.ed (t:=iD) ?_;refine aa.alloc (t:=iD) [Pk ⟨#[]⟩,Pk ⟨#[]⟩,Pf .i64 0,Pf .i64 0,Pf .i64 0,Pf .i64 0,Pf .i64 0,Ph false,Pf .i64 0,Pf .i64 0,Ph false,Pf .i64 0,Ph false] rfl rfl rfl fun b_=>?_)|(refine aa.aj (f:=194) ?_;refine aa.au (v:=.tuple #[.agg #[Pk ⟨#[]⟩,Pk ⟨#[]⟩,Pf .i64 0,Pf .i64 0,Pf .i64 0,Pf .i64 0,Pf .i64 0,Ph false,Pf .i64 0,Pf .i64 0,Ph false,Pf .i64 0,Ph false],.bool false]) rfl rfl rfl (fun w' hw'=>by have:=fU F m 3 i _ w' (hm0.aP (show Ext w w' from hw'.at) (fun _ _ _ h=>h)) h0 hi;rw[hn]at this;exact this) ?_)|(refine aa.aj (f:=195) ?_;refine aa.au (v:=.int .i64 (j:Nat)) rfl rfl rfl (fun w' hw'=>by have:=jB F m 3 i m.globals.length _ w' (hm0.aP (show Ext w w' from hw'.at) (fun _ _ _ h=>h)) h0 hi;rw[ho]at this;exact this) ?_)|fail)
   all_goals exact mp
  ·have ho:vR m 3 i m.globals.length=-1:=if_neg hin
   have hat2:cJ (fZ m) i=none:=by rw[hat];dsimp only;exact iL (by simpa using hin)
   rw[hat2]
   refine ae (l:=[_,_]) func179 rfl ntmps179 rfl (Ok.start w) ?_
   repeat'(first|refine ar ?_|(refine NP fun b_=>?_)|(refine aa.ed (t:=iD) ?_;refine aa.alloc (t:=iD) [Pk ⟨#[]⟩,Pk ⟨#[]⟩,Pf .i64 0,Pf .i64 0,Pf .i64 0,Pf .i64 0,Pf .i64 0,Ph false,Pf .i64 0,Pf .i64 0,Ph false,Pf .i64 0,Ph false] rfl rfl rfl fun b_=>?_)|(refine aa.aj (f:=194) ?_;refine aa.au (v:=.tuple #[.agg #[Pk ⟨#[]⟩,Pk ⟨#[]⟩,Pf .i64 0,Pf .i64 0,Pf .i64 0,Pf .i64 0,Pf .i64 0,Ph false,Pf .i64 0,Pf .i64 0,Ph false,Pf .i64 0,Ph false],.bool false]) rfl rfl rfl (fun w' hw'=>by have:=fU F m 3 i _ w' (hm0.aP (show Ext w w' from hw'.at) (fun _ _ _ h=>h)) h0 hi;rw[hn]at this;exact this) ?_)|(refine aa.aj (f:=195) ?_;refine aa.au (v:=.int .i64 (-1)) rfl rfl rfl (fun w' hw'=>by have:=jB F m 3 i m.globals.length _ w' (hm0.aP (show Ext w w' from hw'.at) (fun _ _ _ h=>h)) h0 hi;rw[ho]at this;exact this) ?_)|fail)
   all_goals exact mt
end Go.Proofs.YtdkcljdfbemnbaaGreatDoor
