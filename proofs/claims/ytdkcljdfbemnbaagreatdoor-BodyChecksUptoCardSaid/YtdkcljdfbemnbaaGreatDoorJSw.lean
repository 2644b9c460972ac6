/- The symbolic heap inside a fence. -/
import Derived.Test.YtdkcljdfbemnbaaGreatDoorJSk
import Derived.Test.YtdkcljdfbemnbaaGreatDoorJMv
import Derived.OrdersIn
import Derived.Test.YtdkcljdfbemnbaaGreatDoorJSt
namespace Go.Proofs.YtdkcljdfbemnbaaGreatDoor
open Go.RowKit _root_.Go.Proofs.Tryz
set_option maxHeartbeats 4000000
set_option maxRecDepth 100000
structure bI (ro:Option Nat) (D:List Deferred) (ops:Array Oper) (Q:Exit→Act→World→Prop) (n:Nat) (l:List Oper) (E:Env) (M:List bu) (R:List (World→Prop)):Prop where
 h:∀w,Ok M R w→eA ro 0 D ops Q n l E w
structure jq (ro:Option Nat) (D:List Deferred) (Q:Exit→Act→World→Prop) (n:Nat) (c:Code) (E:Env) (M:List bu) (R:List (World→Prop)):Prop where
 h:∀w,Ok M R w→kx ro 0 D Q n c E w
structure gB (D:List Deferred) (Q:Exit→Act→World→Prop) (n:Nat) (e:Exit) (E:Env) (M:List bu) (R:List (World→Prop)):Prop where
 h:∀w,Ok M R w→fh D Q n e E w
section
variable {ro:Option Nat} {D:List Deferred} {ops:Array Oper} {Q:Exit→Act→World→Prop} {n:Nat} {E:Env} {M M':List bu} {R R':List (World→Prop)} {rest l:List Oper} {op:Op} {d:Nat} {ty:TypeId} {pos:String} {aft:Array Edge} {v:Value} {x y:Operand} {t t2:TypeId} {gd:Option (Nat×Bool)} {dd:Option Nat}
theorem jq.seq {x y:Code} (h:jq ro D (Exit.then (y.wpIn (FW ro) 0 G.P Q) Q) n x E M R):jq ro D Q n (.seq x y) E M R:=⟨fun w hw=>kx.seq (h.h w hw)⟩
theorem jq.block {id:Nat} {c:Code} (h:jq ro D (Exit.inBlock id Q) n c E M R):jq ro D Q n (.block id c) E M R:=⟨fun w hw=>kx.block (h.h w hw)⟩
theorem jq.skip (h:gB D Q n .normal E M R):jq ro D Q n .skip E M R:=⟨fun w hw=>kx.skip (h.h w hw)⟩
theorem jq.exit {id:Nat} (h:gB D Q n (.exit id) E M R):jq ro D Q n (.exit id) E M R:=⟨fun w hw=>kx.exit (h.h w hw)⟩
theorem jq.ret (h:gB D Q n .ret E M R):jq ro D Q n .ret E M R:=⟨fun w hw=>kx.ret (h.h w hw)⟩
theorem jq.region {id:Nat} {l:List Oper} (h:bI ro D l.toArray Q n l E M R):jq ro D Q n (.region id l.toArray false) E M R:=⟨fun w hw=>kx.region (h.h w hw)⟩
theorem jq.jf {c:Operand} {x y:Code} (hc:ev E c=some (.bool true)) (h:jq ro D Q n x E M R):jq ro D Q n (.cond c x y) E M R:=⟨fun w hw=>kx.jf hc (h.h w hw)⟩
theorem jq.je {c:Operand} {x y:Code} (hc:ev E c=some (.bool false)) (h:jq ro D Q n y E M R):jq ro D Q n (.cond c x y) E M R:=⟨fun w hw=>kx.je hc (h.h w hw)⟩
theorem gB.lf {y:Code} (h:jq ro D Q n y E M R):gB D (Exit.then (y.wpIn (FW ro) 0 G.P Q) Q) n .normal E M R:=⟨fun w hw=>fh.lf (h.h w hw)⟩
theorem gB.lg {K:Act→World→Prop} (h:gB D Q n .ret E M R):gB D (Exit.then K Q) n .ret E M R:=⟨fun w hw=>fh.lg (h.h w hw)⟩
theorem gB.lh {K:Act→World→Prop} {id:Nat} (h:gB D Q n (.exit id) E M R):gB D (Exit.then K Q) n (.exit id) E M R:=⟨fun w hw=>fh.lh (h.h w hw)⟩
theorem gB.pK {id:Nat} (h:gB D Q n .normal E M R):gB D (Exit.inBlock id Q) n .normal E M R:=⟨fun w hw=>fh.pK (h.h w hw)⟩
theorem gB.pM {id:Nat} (h:gB D Q n .ret E M R):gB D (Exit.inBlock id Q) n .ret E M R:=⟨fun w hw=>fh.pM (h.h w hw)⟩
theorem gB.pN {id:Nat} (h:gB D Q n .normal E M R):gB D (Exit.inBlock id Q) n (.exit id) E M R:=⟨fun w hw=>fh.pN (h.h w hw)⟩
theorem bI.nil (h:gB D Q n .normal E M R):bI ro D ops Q n [] E M R:=⟨fun w hw=>eA.nil (h.h w hw)⟩
theorem bI.y_ (hy:Yl G n op E (Ok M R) v) (hd:(qi op && Nat.blt d n)=true) (h:bI ro D ops Q n rest ((d,v)::E) M R):bI ro D ops Q n (⟨some d,op,ty,pos,aft,none⟩::rest) E M R:=
 ⟨fun w hw=>eA.y (hy.mono (by rintro _ rfl;exact hw)) hd (h.h w hw)⟩
section
variable {β:Type} {φ:β→Prop} {vf:β→Value} {Mf:β→List bu} {Rf:β→List (World→Prop)}
theorem bI.he (he:HE n op E M R φ vf Mf Rf) (hn:kB op=true) (hd:Nat.blt d n=true) (h:∀x,φ x→bI ro D ops Q n rest ((d,vf x)::E) (Mf x) (Rf x)):bI ro D ops Q n (⟨some d,op,ty,pos,aft,none⟩::rest) E M R:=
 ⟨fun w hw=>eA.e (he.h w hw) hn hd fun v w' ⟨x,h1,h2,h3⟩=>by subst h2;exact(h x h1).h w' h3⟩
theorem bI.jQ (he:gj n op E M R φ Mf Rf) (hn:kB op=true) (h:∀x,φ x→bI ro D ops Q n rest E (Mf x) (Rf x)):bI ro D ops Q n (⟨none,op,ty,pos,aft,none⟩::rest) E M R:=
 ⟨fun w hw=>eA.e0 (he.h w hw) hn fun _ w' ⟨x,h1,h3⟩=>(h x h1).h w' h3⟩
end
theorem bI.is (h:bI ro D ops Q n l E M R):bI ro D ops Q n l E M R:=h
theorem jq.is {c:Code} (h:jq ro D Q n c E M R):jq ro D Q n c E M R:=h
theorem gB.is {e:Exit} (h:gB D Q n e E M R):gB D Q n e E M R:=h
theorem bI.aG {bo:BinOp} (h:bI ro D ops Q n (⟨dd,.binOp bo t x y t2,ty,pos,aft,gd⟩::rest) E M R):bI ro D ops Q n (⟨dd,.binOp bo t x y t2,ty,pos,aft,gd⟩::rest) E M R:=h
theorem bI.dn (h:bI ro D ops Q n (⟨dd,.load t x,ty,pos,aft,gd⟩::rest) E M R):bI ro D ops Q n (⟨dd,.load t x,ty,pos,aft,gd⟩::rest) E M R:=h
theorem Gh {g g':Prop} (h:g') (hw:eI g'→g:=by(intro hk_;(repeat(first|(refine bI.is ?_;(first|refine bI.nil ?_|refine bI.y_ (Yl.move rfl) rfl ?_|refine bI.y_ (Yl.assign rfl) rfl ?_|(refine bI.aG ?_;(first|(refine bI.aG (bo:=.lss) ?_;(first|refine bI.y_ (Yl.lH rfl rfl Pc) rfl ?_|refine bI.y_ (Yl.lG rfl rfl Pc) rfl ?_))|(refine bI.aG (bo:=.eql) ?_;(first|refine bI.y_ (Yl.ly rfl rfl Pc) rfl ?_|refine bI.y_ (Yl.lx rfl rfl Pc) rfl ?_))|(refine bI.aG (bo:=.neq) ?_;(first|refine bI.y_ (Yl.lK rfl rfl Pc) rfl ?_|refine bI.y_ (Yl.lJ rfl rfl Pc) rfl ?_))|(refine bI.aG (bo:=.leq) ?_;(first|refine bI.y_ (Yl.lF rfl rfl Pc) rfl ?_|refine bI.y_ (Yl.lE rfl rfl Pc) rfl ?_))|(refine bI.aG (bo:=.gtr) ?_;(first|refine bI.y_ (Yl.lC rfl rfl Pc) rfl ?_|refine bI.y_ (Yl.lB rfl rfl Pc) rfl ?_))|(refine bI.aG (bo:=.geq) ?_;(first|refine bI.y_ (Yl.lA rfl rfl Pc) rfl ?_|refine bI.y_ (Yl.lz rfl rfl Pc) rfl ?_))|refine bI.y_ (Yl.add rfl rfl Pc) rfl ?_|refine bI.y_ (Yl.sub rfl rfl Pc) rfl ?_|refine bI.y_ (Yl.jh rfl rfl rfl rfl) rfl ?_|refine bI.y_ (Yl.mn Tryz.underlying4 rfl rfl) rfl ?_|refine bI.y_ (Yl.xe rfl rfl) rfl ?_|refine bI.y_ (Yl.nO rfl rfl) rfl ?_|refine bI.y_ (Yl.nM rfl rfl Pc) rfl ?_|fail))|(refine bI.dn ?_;(first|refine bI.y_ (Yl.mK rfl rfl rfl Oz) rfl ?_|refine bI.y_ (Yl.mI rfl rfl rfl rfl OI) rfl ?_|refine bI.y_ (Yl.mL rfl rfl rfl rfl OI OF) rfl ?_|refine bI.y_ (Yl.mJ rfl rfl rfl OD rfl) rfl ?_))|refine bI.y_ (Yl.len rfl rfl rfl) rfl ?_|refine bI.y_ (Yl.extract rfl rfl) rfl ?_|refine bI.y_ (Yl.fR rfl rfl) rfl ?_|refine bI.y_ (Yl.fQ rfl rfl) rfl ?_|refine bI.y_ (Yl.nilCheck rfl) rfl ?_|refine bI.y_ (Yl.not rfl) rfl ?_|refine bI.y_ (Yl.makeFunc rfl rfl) rfl ?_|refine bI.y_ (Yl.jY rfl rfl) rfl ?_|refine bI.y_ (Yl.jZ rfl rfl rfl OB Pe) rfl ?_|refine bI.y_ (Yl.ka rfl rfl rfl OC) rfl ?_|refine bI.y_ (Yl.gD rfl rfl rfl rfl) rfl ?_|refine bI.y_ (Yl.ec Tryz.underlying9 rfl rfl rfl Pc) rfl ?_|refine bI.y_ (Yl.dC Tryz.underlying9 rfl rfl rfl Pc) rfl ?_|refine bI.y_ (Yl.eV Tryz.underlying9 rfl rfl rfl rfl rfl Pc Pc) rfl ?_|refine bI.y_ (Yl.cZ rfl rfl rfl rfl rfl rfl Pc) rfl ?_|refine bI.y_ (Yl.nN Tryz.underlying9 rfl) rfl ?_))|(refine jq.is ?_;(first|refine jq.seq ?_|refine jq.region ?_|refine jq.block ?_|refine jq.skip ?_|refine jq.ret ?_|refine jq.exit ?_|refine jq.jf rfl ?_|refine jq.je rfl ?_))|(refine gB.is ?_;(first|refine gB.lf ?_|refine gB.pK ?_|refine gB.lg ?_|refine gB.pM ?_|refine gB.lh ?_|refine gB.pN ?_|fail))));exact hk_.out)):g:=hw ⟨h⟩
theorem jq.Lf {c:Code} (h:bh Q n c E M R):jq none [] Q n c E M R:=⟨fun w hw=>⟨fun _ ha=>wpIn_wide.2 ((h.h w hw).h _ ha.Hg)⟩⟩
theorem ah.Jn {y:Code} (h:jq none [] Q n y E M R):ah (Exit.then (y.wpIn (FW none) 0 G.P Q) Q) n .normal E M R:=⟨fun w hw=>⟨fun _ ha=>((h.h w hw).h _ (td.of ha))⟩⟩
theorem jq.at {c:Code} {w:World} (hw:Ok M R w) (h:jq ro D Q n c E M R):kx ro 0 D Q n c E w:=h.h w hw
theorem gB.at {e:Exit} {w:World} (hw:Ok M R w) (h:gB D Q n e E M R):fh D Q n e E w:=h.h w hw
theorem HV {f:FuncId} {fn:Func} {c:Code} {l:List Value} {w:World} {Rp:Ending→World→Prop} (hf:G.P.funcs[f]?=some fn) (hb:fn.body=some c) (hn:fn.ntmps=n) (hl:Nat.ble l.length n=true) (hw:Ok M R w)
  (h:jq none [] (bodyPostM (FW none) 0 G.P fn Rp) n c (A1 0 l) M R):Calls G.P f l.toArray w Rp:=E8 0 hf hb hn hl (h.h w hw)
end
theorem Ok.grow {M:List bu} {w0 W W':World} {row:Option Nat} {B:Nat} (h:Ok M [Ext w0] W) (hB:w0.heap.size≤B) (hg:W.grownBy W' row) (hr:∀r,row=some r→B≤r∧∃o:Obj,W.heap[r]?=some o∧o.isCells=false) (hM:∀(r:Nat) (o:Obj),B≤r→W.heap[r]?=some o→o.isCells=false→¬Mb M r):Ok M [Ext w0] W':=by
 have hc:=bX.lX hg
 have hx:Ext w0 W:=h.get Pd
 have hx':Ext w0 W':=bX.trans' hx hc (fun k hk e=>by have:=(hr k e).1;omega)
 refine⟨fun q hq=>?_,h.d,fun p hp w2 h2=>?_⟩
 ·obtain⟨h1,h2⟩:=h.m q hq
  refine⟨q.st h1 hc fun k _ hk e=>?_,fun k hk=>Nat.lt_of_lt_of_le (h2 k hk) hc.size⟩
  obtain⟨h3,o,h4,h5⟩:=hr k e
  exact hM k o h3 h4 h5 ⟨q,hq,hk⟩
 ·rw[List.mem_singleton]at hp
  subst hp
  exact bX.trans' hx' h2 (fun k hk hm=>absurd (h.origin (S:=fun _=>False) (by simp[]) k hm hk) id)
section
variable {ops:Array Oper} {md:Region.Mode} {C:World→Prop} {ro:Option Nat} {m:Nat}
theorem wO {i:Nat} {a:Act} {K:Act→Prop} {K':Act→World→Prop} {Q':Exit→Act→World→Prop} {w:World} (hn:∀(j:Nat) (o:Oper),ops[j]?=some o→kB o.op=true) (hC:C w) (h:∀a w',C w'→K a→K' a w') (hh:qOp G.P ops C i K a):wpOpIn (FW ro) m G.P ops Q' i K' a w:=by
 unfold qOp at hh
 unfold wpOpIn
 split
 ·rename_i ho;simp only[ho]at hh;exact h _ _ hC hh
 ·rename_i o ho
  simp only[ho]at hh
  split
  ·rename_i hw
   simp only[hw,if_true]at hh
   obtain⟨v,h1,h2⟩:=hh
   have h3:=h1 w hC
   have hs:Oper.semAt (FW ro).round a.eval o=execOp a.eval o:=Oper.semAt_eq _ _ _ (by
    have:=hn i o ho
    rintro c e;rw[e]at this;simp[kB]at this)
   refine⟨fun _ _=>trivial,?_⟩
   rw[hs]
   unfold Oper.quietAt at h3
   generalize (execOp a.eval o).run G.P w=r at*
   cases r with
   |ok n w'=>
    cases n<;>simp only[Oper.quietUpon]at h3<;>simp only[Oper.uponIn]
    case value u=>
     obtain⟨e1,e2⟩:=h3
     rw[e1,e2]
     exact h _ _ hC h2
    case skip=>
     obtain⟨e1,e2⟩:=h3
     rw[e1,←e2]
     exact h _ _ hC h2
    case enter f args=>
     obtain⟨e1,hc⟩:=h3
     rw[e1]
     exact⟨fun e=>(by cases e),(qm hc).mono fun e w'' ⟨he,hw''⟩=>by subst he;exact h _ _ hw'' h2⟩
   |halt x w'=>simp only[Oper.quietUpon]at h3
  ·rename_i hw;simp only[hw]at hh;exact⟨fun _ _=>trivial,h _ _ hC hh⟩
theorem mY {Q:Act→Prop} {Q':Exit→Act→World→Prop} (hn:∀(j:Nat) (o:Oper),ops[j]?=some o→kB o.op=true) (hQ:∀a w,C w→Q a→Q' .normal a w):∀(fuel:Nat) (listed:Array Bool) (a:Act) (w:World),C w→
  wpAnyQ G.P md ops C Q fuel listed a→wpAnyIn (FW ro) m G.P md ops Q' fuel listed a w
 |0,_,_,_,hw,h=>⟨h.1,hQ _ _ hw h.2⟩
 |fuel+1,_,_,_,hw,h=>⟨fun h0=>hQ _ _ hw (h.1 h0),fun i hi=>wO hn hw (fun a' w' hw'=>mY hn hQ fuel _ a' w' hw') (h.2 i hi)⟩
theorem re {id:Nat} {Q:Exit→Act→World→Prop} {a:Act} {w:World} (hn:∀(j:Nat) (o:Oper),ops[j]?=some o→kB o.op=true) (hB:Region.lexB .any ops=true) (hC:C {w with drawn:=w.drawn+1})
  (h:wpQuiet G.P ops C (fun a'=>∀w',C w'→Q .normal a' w') ops.toList a):(Code.region id ops true).wpIn (FW ro) m G.P Q a w:=by
 simp only[Region.lexB,Bool.and_eq_true]at hB
 refine wpIn_region_any G.mixed (mY (Q:=fun a'=>∀w',C w'→Q .normal a' w') hn (fun _ w' hw' h=>h w' hw') _ _ _ _ hC ?_)
 have:=wpAnyQ_lex (C:=C) (md:=.any) hB.1 ops.toList 0 (Array.replicate ops.size false) a Pd (by simpa using hB.2) h
 simpa using this
end
theorem mi {ops:Array Oper} {C:World→Prop} {ro:Option Nat} {m:Nat} {Q:Act→Prop} {Q':Exit→Act→World→Prop} (hQ:∀a w,C w→Q a→Q' .normal a w):∀(l:List Oper),(∀o,o∈l→kB o.op=true)→∀(a:Act) (w:World),C w→
  wpQuiet G.P ops C Q l a→wpListIn (FW ro) m G.P ops Q' l a w
 |[],_,_,_,hw,h=>hQ _ _ hw h
 |o::rest,hn,a,w,hC,hh=>by
  have ih:=mi (ops:=ops) (ro:=ro) (m:=m) hQ rest (fun o h=>hn o (by simp[h]))
  unfold wpListIn
  simp only[wpQuiet]at hh
  split
  ·rename_i hw
   simp only[hw,if_true]at hh
   obtain⟨v,h1,h2⟩:=hh
   have h3:=h1 w hC
   have hs:Oper.semAt (FW ro).round a.eval o=execOp a.eval o:=Oper.semAt_eq _ _ _ (by
    have:=hn o Pd
    rintro c e;rw[e]at this;simp[kB]at this)
   refine⟨fun _ _=>trivial,?_⟩
   rw[hs]
   unfold Oper.quietAt at h3
   generalize (execOp a.eval o).run G.P w=r at*
   cases r with
   |ok n w'=>
    cases n<;>simp only[Oper.quietUpon]at h3<;>simp only[Oper.uponIn]
    case value u=>
     obtain⟨e1,e2⟩:=h3
     rw[e1,e2]
     exact ih _ _ hC h2
    case skip=>
     obtain⟨e1,e2⟩:=h3
     rw[e1,←e2]
     exact ih _ _ hC h2
    case enter f args=>
     obtain⟨e1,hc⟩:=h3
     rw[e1]
     exact⟨fun e=>(by cases e),(qm hc).mono fun e w'' ⟨he,hw''⟩=>by subst he;exact ih _ _ hw'' h2⟩
   |halt x w'=>simp only[Oper.quietUpon]at h3
  ·rename_i hw;simp only[hw]at hh;exact⟨fun _ _=>trivial,ih _ _ hC hh⟩
section
variable {ro:Option Nat} {D:List Deferred} {ops:Array Oper} {Q:Exit→Act→World→Prop} {n:Nat} {E:Env} {M M':List bu} {R R':List (World→Prop)}
theorem jq.cY {id:Nat} {l:List Oper} (hn:(l.all fun o=>kB o.op)=true) (hB:Region.lexB .any l.toArray=true) (h:aq G l.toArray (.quiet (fun a'=>∀w',Ok M R w'→Q .normal a' w') (Ok M R)) n l E):jq ro [] Q n (.region id l.toArray true) E M R:=
 ⟨fun w hw=>⟨fun a ha=>re (C:=Ok M R) (fun j o ho=>by
  have hm:o∈l:=List.mem_of_getElem? (by simpa using ho)
  exact List.all_eq_true.1 hn o hm) hB hw.drew (by have:=h.h a ha.Hg;simp only[Mode.run]at this;simpa using this)⟩⟩
theorem jq.G5 {id:Nat} {l:List Oper} (hn:(l.all fun o=>kB o.op)=true) (h:aq G l.toArray (.quiet (fun a'=>∀w',Ok M R w'→Q .normal a' w') (Ok M R)) n l E):jq ro [] Q n (.region id l.toArray false) E M R:=
 ⟨fun w hw=>⟨fun a ha=>wpIn_region_lit (mi (C:=Ok M R) (Q:=fun a'=>∀w',Ok M R w'→Q .normal a' w') (fun _ w' hw' h=>h w' hw') l (fun o ho=>List.all_eq_true.1 hn o ho) a w hw (by have:=h.h a ha.Hg;simp only[Mode.run]at this;simpa using this))⟩⟩
theorem ah.Lj {e:Exit} (h:gB [] Q n e E M R):ah Q n e E M R:=⟨fun w hw=>⟨fun a ha=>(h.h w hw).h a (td.of ha)⟩⟩
theorem jq.oA {id:Nat} {l:List Oper} (_:(l.all fun o=>qi o.op)=true) (hn:(l.all fun o=>kB o.op)=true) (hB:Region.lexB .any l.toArray=true) (h:aq G l.toArray (.quiet (fun a'=>∀w',Ok M R w'→Q .normal a' w') (Ok M R)) n l E):jq ro [] Q n (.region id l.toArray true) E M R:=jq.cY hn hB h
theorem jq.FV {id:Nat} {l:List Oper} (_:(l.all fun o=>qi o.op)=true) (hn:(l.all fun o=>kB o.op)=true) (h:aq G l.toArray (.quiet (fun a'=>∀w',Ok M R w'→Q .normal a' w') (Ok M R)) n l E):jq ro [] Q n (.region id l.toArray false) E M R:=jq.G5 hn h
theorem Gg {g g':Prop} (h:g') (hw:eI g'→g:=by(intro hk_;(repeat(first|(refine ah.is ?_;refine ah.Lj ?_)|refine Hl ?_|(refine bI.is ?_;(first|refine bI.nil ?_|refine bI.y_ (Yl.move rfl) rfl ?_|refine bI.y_ (Yl.assign rfl) rfl ?_|(refine bI.aG ?_;(first|(refine bI.aG (bo:=.lss) ?_;(first|refine bI.y_ (Yl.lH rfl rfl Pc) rfl ?_|refine bI.y_ (Yl.lG rfl rfl Pc) rfl ?_))|(refine bI.aG (bo:=.eql) ?_;(first|refine bI.y_ (Yl.ly rfl rfl Pc) rfl ?_|refine bI.y_ (Yl.lx rfl rfl Pc) rfl ?_))|(refine bI.aG (bo:=.neq) ?_;(first|refine bI.y_ (Yl.lK rfl rfl Pc) rfl ?_|refine bI.y_ (Yl.lJ rfl rfl Pc) rfl ?_))|(refine bI.aG (bo:=.leq) ?_;(first|refine bI.y_ (Yl.lF rfl rfl Pc) rfl ?_|refine bI.y_ (Yl.lE rfl rfl Pc) rfl ?_))|(refine bI.aG (bo:=.gtr) ?_;(first|refine bI.y_ (Yl.lC rfl rfl Pc) rfl ?_|refine bI.y_ (Yl.lB rfl rfl Pc) rfl ?_))|(refine bI.aG (bo:=.geq) ?_;(first|refine bI.y_ (Yl.lA rfl rfl Pc) rfl ?_|refine bI.y_ (Yl.lz rfl rfl Pc) rfl ?_))|refine bI.y_ (Yl.add rfl rfl Pc) rfl ?_|refine bI.y_ (Yl.sub rfl rfl Pc) rfl ?_|refine bI.y_ (Yl.jh rfl rfl rfl rfl) rfl ?_|refine bI.y_ (Yl.mn Tryz.underlying4 rfl rfl) rfl ?_|refine bI.y_ (Yl.xe rfl rfl) rfl ?_|refine bI.y_ (Yl.nO rfl rfl) rfl ?_|refine bI.y_ (Yl.nM rfl rfl Pc) rfl ?_|fail))|(refine bI.dn ?_;(first|refine bI.y_ (Yl.mK rfl rfl rfl Oz) rfl ?_|refine bI.y_ (Yl.mI rfl rfl rfl rfl OI) rfl ?_|refine bI.y_ (Yl.mL rfl rfl rfl rfl OI OF) rfl ?_|refine bI.y_ (Yl.mJ rfl rfl rfl OD rfl) rfl ?_))|refine bI.y_ (Yl.len rfl rfl rfl) rfl ?_|refine bI.y_ (Yl.extract rfl rfl) rfl ?_|refine bI.y_ (Yl.fR rfl rfl) rfl ?_|refine bI.y_ (Yl.fQ rfl rfl) rfl ?_|refine bI.y_ (Yl.nilCheck rfl) rfl ?_|refine bI.y_ (Yl.not rfl) rfl ?_|refine bI.y_ (Yl.makeFunc rfl rfl) rfl ?_|refine bI.y_ (Yl.jY rfl rfl) rfl ?_|refine bI.y_ (Yl.jZ rfl rfl rfl OB Pe) rfl ?_|refine bI.y_ (Yl.ka rfl rfl rfl OC) rfl ?_|refine bI.y_ (Yl.gD rfl rfl rfl rfl) rfl ?_|refine bI.y_ (Yl.ec Tryz.underlying9 rfl rfl rfl Pc) rfl ?_|refine bI.y_ (Yl.dC Tryz.underlying9 rfl rfl rfl Pc) rfl ?_|refine bI.y_ (Yl.eV Tryz.underlying9 rfl rfl rfl rfl rfl Pc Pc) rfl ?_|refine bI.y_ (Yl.cZ rfl rfl rfl rfl rfl rfl Pc) rfl ?_|refine bI.y_ (Yl.nN Tryz.underlying9 rfl) rfl ?_))|(refine jq.is ?_;(first|refine jq.seq ?_|refine jq.oA rfl rfl O5 ?_|refine jq.FV rfl rfl ?_|refine jq.region ?_|refine jq.block ?_|refine jq.skip ?_|refine jq.ret ?_|refine jq.exit ?_|refine jq.jf rfl ?_|refine jq.je rfl ?_))|(refine gB.is ?_;(first|refine gB.lf ?_|refine gB.pK ?_|refine gB.lg ?_|refine gB.pM ?_|refine gB.lh ?_|refine gB.pN ?_|fail))));exact hk_.out)):g:=hw ⟨h⟩
end
def bwd (l:List Int):List (Int×Int):=(List.range l.length).reverse.map fun i:Nat=>((i:Int),ix l i)
theorem qx (l:List Int):(bwd l).length=l.length:=by simp[bwd]
variable {K:Nat→Prop} {b1:Nat} {p:Option Addr} {c:Nat} {l:List Int} {W W':World}
theorem EU {k:Nat} (h:k<l.length):(bwd l).take (k+1)=(bwd l).take k++[(((l.length - 1 - k:Nat):Int),ix l (l.length - 1 - k))]:=by
 have hl:k<(bwd l).length:=by rw[qx];exact h
 rw[List.take_succ_eq_append_getElem hl]
 congr 2
 simp[bwd,List.getElem_reverse]
def KD (K:Nat→Prop) (W W':World):Prop:=W.heap.size≤W'.heap.size∧∀k,k<W.heap.size→K k→W'.heap[k]?=W.heap[k]?
theorem KD.trans {X Y Z:World} (h:KD K X Y) (k:KD K Y Z):KD K X Z:=⟨Nat.le_trans h.1 k.1,fun i hl hi=>(k.2 i (Nat.lt_of_lt_of_le hl h.1) hi).trans (h.2 i hl hi)⟩
theorem KD.cell (h:KD K W W') {p:Addr} {v:Value} (hp:K p.block) (hc:W.cell? p=some v):W'.cell? p=some v:=by
 rw[World.cell?_of_block (w:=W) (h.2 p.block (fw hc) hp)];exact hc
theorem KD.put {W:World} {l:Nat} {o:Obj} (hK:¬K l):KD K W (W.putObj l o):=⟨by simp[World.putObj],fun k _ hk=>World.putObj_heap_other (by rintro rfl;exact hK hk)⟩
def HT (x:Int×Int):List Value:=[.int .i64 x.1,.int .i64 x.2]
def RB (b1:Nat) (p:Option Addr) (c:Nat) (l:List Int) (W:World):Prop:=W.cell? ⟨b1,0,none⟩=some (.slice p l.length c)∧∀i,i<l.length→∃b o,p=some ⟨b,o,none⟩∧W.cell? ⟨b,o+i,none⟩=some (.int .i64 (ix l i))
def KB (b1:Nat) (p:Option Addr) (n:Nat):Nat→Prop:=fun k=>k=b1∨0<n∧∃a,p=some a∧a.block=k
theorem RB.kd (h:RB b1 p c l W) (hk:KD (KB b1 p l.length) W W'):RB b1 p c l W':=
 ⟨hk.cell (.inl rfl) h.1,fun i hi=>by obtain⟨b,o,e,hc⟩:=h.2 i hi;exact⟨b,o,e,hk.cell (.inr ⟨by omega,_,e,rfl⟩) hc⟩⟩
theorem RB.ext (h:RB b1 p c l W) (hk:Ext W W'):RB b1 p c l W':=
 ⟨hk.cell h.1,fun i hi=>by obtain⟨b,o,e,hc⟩:=h.2 i hi;exact⟨b,o,e,hk.cell hc⟩⟩
theorem Gx (b1:Nat) (p:Option Addr) (c:Nat) (l:List Int) (w0:World) (h0:RB b1 p c l w0) (hl:l.length≤9223372036854775807):ID 183 [.pointer (some ⟨b1,0,none⟩)] HT (KD (KB b1 p l.length)) (bwd l) w0:=by
 intro ll J Jx W hW hJ hJx hY hJ0
 have hRW:RB b1 p c l W:=h0.ext (Ext.CH hW)
 refine enter (G:=G) (l:=[.func (.yield ll) #[] #[],.pointer (some ⟨b1,0,none⟩)]) func183 rfl ntmps183 rfl ?_
 have hc1:=hRW.1
 refine Ch ?_
 refine Cd.loop (σ:=Nat) (fun k=>[(0,.func (.yield ll) #[] #[]),(1,.pointer (some ⟨b1,0,none⟩)),(3,.int .i64 ((l.length:Int) - 1 - k))]) (fun k wr=>k≤l.length∧J ((bwd l).take k) wr∧RB b1 p c l wr) (fun k=>l.length - k) 0 bH ⟨by omega,by rw[List.take_zero];exact hJ0,hRW⟩ ?_
 rintro k wr ⟨hk,hJk,hR⟩
 by_cases hlt:k<l.length
 ·obtain⟨i,hi⟩:∃i,i=l.length - 1 - k:=⟨_,rfl⟩
  have hil:i<l.length:=by omega
  obtain⟨b,o,rfl,hce⟩:=hR.2 i hil
  have hc2:=hR.1
  have e1:(l.length:Int) - 1 - k=(i:Int):=by omega
  have hst:=EU hlt
  rw[←hi]at hst
  have hyk:=hY ((bwd l).take k) ((i:Int),ix l i) wr hJk (by rw[←hst];exact List.take_prefix _ _)
  rw[←hst]at hyk
  rw[e1]
  refine Ch ?_
  refine Cd.CN 0 ?_
  refine AT ?_
  refine eA.round (m:=0) (vs:=HT ((i:Int),ix l i)) rfl rfl rfl hyk ?_
  rintro e w5 (⟨rfl,hJ5,hK5⟩|⟨rfl,hJx5,hK5⟩)
  ·refine⟨_,rfl,?_⟩
   refine AT ?_
   refine fh.ofFin ?_
   refine Ch ?_
   exact Fin.next (k+1) bH ⟨by omega,hJ5,hR.kd hK5⟩ Pc
  ·refine⟨_,rfl,?_⟩
   refine AT ?_
   refine fh.ofFin ?_
   refine Ch ?_
   exact Fin.FX rfl ⟨⟨_,rfl⟩,.inr ⟨_,List.take_prefix _ _,hJx5⟩⟩
 ·obtain rfl:k=l.length:=by omega
  rw[show(l.length:Int) - 1 - (l.length:Nat)=-1 from by omega]
  refine Ch ?_
  refine Fin.nY rfl ⟨⟨_,rfl⟩,.inl ?_⟩
  rw[←qx,List.take_length]at hJk;exact hJk
theorem sR (p:Option Addr) (n c:Nat) (w:World):Calls G.P 164 #[.slice p n c] w fun e w'=>e=.returned (.func (.func 183) #[] #[.pointer (some ⟨w.heap.size,0,none⟩)])∧zf w w' [.slice p n c] 49:=by
 refine enter (G:=G) func164 rfl ntmps164 rfl ?_
 refine cA ?_
 refine aq.e (bU.box rfl rfl) rfl ?_
 rintro _ w1 ⟨rfl,hn1⟩
 refine cA ?_
 exact Fin.aF rfl rfl ⟨rfl,hn1⟩
end Go.Proofs.YtdkcljdfbemnbaaGreatDoor
