/- Counters: the plain sums, and that they may be wrapped at any step; the reference's and the program's counting of one instruction. -/
import Derived.Test.YtceedealggognaaGreatDoorJM4
import Derived.Test.YtceedealggognaaGreatDoorJT1
import Derived.Test.YtceedealggognaaGreatDoorJN3
import Derived.Test.YtceedealggognaaGreatDoorJR7
import Derived.Test.YtceedealggognaaGreatDoorJM2
import Derived.Test.YtceedealggognaaGreatDoorJIn
import Derived.Test.YtceedealggognaaGreatDoorJW1
import Derived.Laws.StructEq
import Derived.Test.YtceedealggognaaGreatDoorJAw
namespace Go.Proofs.YtceedealggognaaGreatDoor
open Go.RowKit
set_option maxRecDepth 100000
section
variable {n:Nat} {E:Env} {M M':List aU} {R:List (World→Prop)}
theorem zw {b T:Nat} {cs cs':List Value} (h:cs'=cs) (hs:M'.Sublist M):(aU.aH b cs' T::M').Sublist (aU.aH b cs T::M):=by subst h;exact hs.cons_cons _
end
def zC:zE:=⟨0,0,0,0,0,0,0,0⟩
def B5 (a b:zE):zE:=⟨a.funcs+b.funcs,a.instrs+b.instrs,a.blocks+b.blocks,a.loops+b.loops,a.calls+b.calls,a.xK+b.xK,a.uu+b.uu,a.consts+b.consts⟩
def Bj {α:Type} (f:α→zE):List α→zE
 |[]=>zC
 |a::r=>B5 (f a) (Bj f r)
def CA (op:Int):zE:=⟨0,1,0,Bd (op==3),Bd (op==16 || op==17),Bd (decide (0<gL op) && decide (op<54)),Bd (decide (0<gL op) && !decide (op<54)),Bd (op==65 || op==66)⟩
noncomputable def DL (xs:List bZ):Nat:=open Classical in if(eK xs).2=0∧¬B8 xs then(yI xs).length else 0
end Go.Proofs.YtceedealggognaaGreatDoor
namespace Go.Proofs.YtceedealggognaaGreatDoor
open Go.RowKit
set_option maxRecDepth 100000
abbrev uF:Nat:=68
theorem sI {ops:Array Oper} {Q:Exit→Act→World→Prop} {n:Nat} {rest:List Oper} {E:Env} {M:List aU} {R:List (World→Prop)} {d:Nat} {ty:TypeId} {pos:String} {aft:Array Edge} (h:∀b:Nat,aa ops Q n rest ((d,.pointer (some ⟨b,0,none⟩))::E) (.aH b [Value.int .i64 0,Value.slice none 0 0,Value.slice none 0 0] uF::M) R) (hd:Nat.blt d n=true:=by rfl):aa ops Q n (⟨some d,.alloc uF,ty,pos,aft,none⟩::rest) E M R:=aa.alloc (t:=uF) [Value.int .i64 0,Value.slice none 0 0,Value.slice none 0 0] rfl rfl hd h
theorem kb.B6 {F:Nat→Prop} {w:World} {b o:Nat} {x:bZ} (h:kb F w b o x):∃tv lv,af F w tv x.types∧af F w lv x.labels∧∀j,j<9→w.cell? ⟨b,o+j,none⟩=([Value.int .i64 x.op,.int .i64 x.a,.int .i64 x.b,.int .u64 x.n,.int .i64 x.kind,.int .i64 x.val,.int .i64 x.index,tv,lv]:List Value)[j]?:=by
 obtain⟨tv,h1,h2⟩:=h.types
 obtain⟨lv,h3,h4⟩:=h.labels
 refine⟨tv,lv,h2,h4,fun j hj=>?_⟩
 match j,hj with
 |0,_=>exact h.op
 |1,_=>exact h.a
 |2,_=>exact h.b
 |3,_=>exact h.n
 |4,_=>exact h.kind
 |5,_=>exact h.val
 |6,_=>exact h.index
 |7,_=>exact h1
 |8,_=>exact h3
end Go.Proofs.YtceedealggognaaGreatDoor
namespace Go.Proofs.YtceedealggognaaGreatDoor
open Go.RowKit
set_option maxRecDepth 100000
def s5 (xs:List bZ) (j:Nat):zE:=Bj (fun x:bZ=>CA x.op) (xs.take j)
noncomputable def c5 (xs:List bZ) (j:Nat):zE:=⟨1,xs.length,DL xs,(s5 xs j).loops,(s5 xs j).calls,(s5 xs j).xK,(s5 xs j).uu,(s5 xs j).consts⟩
end Go.Proofs.YtceedealggognaaGreatDoor
namespace Go.Proofs.YtceedealggognaaGreatDoor
open Go.RowKit
set_option maxRecDepth 100000
structure lf where
 funcs:List Int
 tables:List dS
 bU:List dt
 globals:List eP
 elems:List Int
 aW:Int
 deriving Inhabited
@[simp] def kN (t:dS):List Value:=[.int .i64 t.elem,.int .i64 t.qV.min,.int .i64 t.qV.max,.bool t.qV.has]
@[simp] def kK (t:dt):List Value:=[.int .i64 t.min,.int .i64 t.max,.bool t.has]
@[simp] def pw (t:eP):List Value:=[.int .i64 t.pf,.bool t.vX]
abbrev rW:Nat:=85
abbrev lK:Nat:=80
abbrev my:Nat:=91
theorem bH {ops:Array Oper} {Q:Exit→Act→World→Prop} {n:Nat} {rest:List Oper} {E:Env} {M:List aU} {R:List (World→Prop)} {d:Nat} {ty:TypeId} {pos:String} {aft:Array Edge} (h:∀b:Nat,aa ops Q n rest ((d,.pointer (some ⟨b,0,none⟩))::E) (.aH b [Value.int .i64 0,Value.int .i64 0,Value.int .i64 0,Value.bool false] my::M) R) (hd:Nat.blt d n=true:=by rfl):aa ops Q n (⟨some d,.alloc my,ty,pos,aft,none⟩::rest) E M R:=aa.alloc (t:=my) [Value.int .i64 0,Value.int .i64 0,Value.int .i64 0,Value.bool false] rfl rfl hd h
abbrev mw:Nat:=89
theorem bG {ops:Array Oper} {Q:Exit→Act→World→Prop} {n:Nat} {rest:List Oper} {E:Env} {M:List aU} {R:List (World→Prop)} {d:Nat} {ty:TypeId} {pos:String} {aft:Array Edge} (h:∀b:Nat,aa ops Q n rest ((d,.pointer (some ⟨b,0,none⟩))::E) (.aH b [Value.int .i64 0,Value.int .i64 0,Value.bool false] mw::M) R) (hd:Nat.blt d n=true:=by rfl):aa ops Q n (⟨some d,.alloc mw,ty,pos,aft,none⟩::rest) E M R:=aa.alloc (t:=mw) [Value.int .i64 0,Value.int .i64 0,Value.bool false] rfl rfl hd h
abbrev mu:Nat:=93
theorem bF {ops:Array Oper} {Q:Exit→Act→World→Prop} {n:Nat} {rest:List Oper} {E:Env} {M:List aU} {R:List (World→Prop)} {d:Nat} {ty:TypeId} {pos:String} {aft:Array Edge} (h:∀b:Nat,aa ops Q n rest ((d,.pointer (some ⟨b,0,none⟩))::E) (.aH b [Value.int .i64 0,Value.bool false] mu::M) R) (hd:Nat.blt d n=true:=by rfl):aa ops Q n (⟨some d,.alloc mu,ty,pos,aft,none⟩::rest) E M R:=aa.alloc (t:=mu) [Value.int .i64 0,Value.bool false] rfl rfl hd h
abbrev kI:Nat:=58
abbrev xd:Nat:=95
abbrev pR:Nat:=74
theorem aT {ops:Array Oper} {Q:Exit→Act→World→Prop} {n:Nat} {rest:List Oper} {E:Env} {M:List aU} {R:List (World→Prop)} {d:Nat} {ty:TypeId} {pos:String} {aft:Array Edge} (h:∀b:Nat,aa ops Q n rest ((d,.pointer (some ⟨b,0,none⟩))::E) (.aH b [Value.slice none 0 0,Value.slice none 0 0] pR::M) R) (hd:Nat.blt d n=true:=by rfl):aa ops Q n (⟨some d,.alloc pR,ty,pos,aft,none⟩::rest) E M R:=aa.alloc (t:=pR) [Value.slice none 0 0,Value.slice none 0 0] rfl rfl hd h
structure vn where
 tv:Value
 fv:Value
 bv:Value
 mv:Value
 gv:Value
 ev:Value
def ie (B bx sp im dm:Nat) (v:vn) (tn:Nat) (tc:List Value) (X:lf) (ig dg:Int→Option Value):List aU:=
 [.aH bx [.pointer (some ⟨sp,0,none⟩)] lK,.aH sp [v.tv,v.fv,v.bv,v.mv,v.gv,v.ev,.int .i64 X.aW,.map (some im),.map (some dm)] rW,.own B 3 1 v.fv X.funcs.length (X.funcs.map (Value.int .i64)),.own B my 4 v.bv X.tables.length (X.tables.flatMap kN),.own B mw 3 v.mv X.bU.length (X.bU.flatMap kK),.own B mu 2 v.gv X.globals.length (X.globals.flatMap pw),.own B kI 1 v.ev X.elems.length (X.elems.map (Value.int .i64)),.iv im ig,.iv dm dg,.own B pR 2 v.tv tn tc]
def Ai (g:Int→Option Value) (c:Int→Int):Prop:=∀k,(g k).getD (.int .i64 0)=.int .i64 (c k)
def lR (x:cB):List Value:=[.string x.module,.string x.name,.int .i64 x.kind,.int .i64 x.func,.int .i64 x.table.elem,.int .i64 x.table.qV.min,.int .i64 x.table.qV.max,.bool x.table.qV.has,.int .i64 x.mem.min,.int .i64 x.mem.max,.bool x.mem.has,.int .i64 x.gk.pf,.bool x.gk.vX]
def lf.eW (X:lf) (x:cB):lf:=
 if x.kind=0 then{X with funcs:=X.funcs++[x.func]}else if x.kind=1 then{X with tables:=X.tables++[x.table]}else if x.kind=2 then{X with bU:=X.bU++[x.mem]}else if x.kind=3 then{X with globals:=X.globals++[x.gk]}else X
def inc (c:Int→Int) (k:Int):Int→Int:=fun b=>if b=k then c k+1 else c b
theorem Ai.put {g:Int→Option Value} {c:Int→Int} (h:Ai g c) (k:Int):Ai (put g k (.int .i64 (c k+1))) (inc c k):=fun b=>by
 unfold Go.Proofs.YtceedealggognaaGreatDoor.put inc
 by_cases e:b=k
 ·subst e;simp
 ·simp only[if_neg e];exact h b
def lf.ok (X:lf):Prop:=X.funcs.length≤1000000∧X.tables.length≤1000000∧X.bU.length≤1000000∧X.globals.length≤1000000∧X.elems.length≤1000000
def gW (B bx sp im dm:Nat) (v:vn) (tn:Nat) (tc:List Value) (X:lf) (ig dg:Int→Option Value) (x:cB) (c:Int→Int) (w:World):Ending→World→Prop:=
 aq (ie B bx sp im dm v tn tc X ig dg) w (fun _:vn×(Int→Option Value)=>.tuple #[]) (fun y=>Ai y.2 (inc c x.kind)∧y.1.tv=v.tv) (fun y=>ie B bx sp im dm y.1 tn tc (X.eW x) y.2 dg)
set_option maxHeartbeats 16000000 in
theorem sY (B bx sp im dm:Nat) (v:vn) (tn:Nat) (tc:List Value) (X:lf) (ig dg:Int→Option Value) (x:cB) (c:Int→Int) (w:World) (hw:Ok (ie B bx sp im dm v tn tc X ig dg) [] w) (hB:B≤w.heap.size) (hX:X.ok) (hc:Ai ig c) (hk:gJ x.kind) (hcx:-1000000≤c x.kind∧c x.kind≤1000000):
  Calls G.P 24 #[.agg (lR x).toArray,.pointer (some ⟨bx,0,none⟩)] w (gW B bx sp im dm v tn tc X ig dg x c w):=by
 obtain⟨tv,fv,bv,mv,gv,ev⟩:=v
 obtain⟨x1,x2,x3,x4,x5⟩:=hX
 refine aj (l:=[.agg (lR x).toArray,.pointer (some ⟨bx,0,none⟩)]) Tryz.func24 rfl Tryz.ntmps24 rfl (Ok.bV hw) ?_
 generalize hS:Mb (ie B bx sp im dm ⟨tv,fv,bv,mv,gv,ev⟩ tn tc X ig dg)=S0
 unfold ie
 dsimp only
 refine dr ?_
 refine aa.box (lR x) rfl rfl rfl fun b=>?_
 unfold lR
 refine dr ?_
 refine aP.cq [0,1,2,3,4,5,6,7] 8 [.aH b _ xd,.aH bx [.pointer (some ⟨sp,0,none⟩)] lK,.aH sp [tv,fv,bv,mv,gv,ev,.int .i64 X.aW,.map (some im),.map (some dm)] rW,.iv im ig] [] FT bN aX ?_
 refine jA ?_
 refine aM.y_ (Yl.za (zv:=.int .i64 0) Tryz.underlying81 Tryz.underlying87 (fun _=>rfl) rfl rfl hk Fy) rfl ?_
 rw[hc x.kind]
 refine jA ?_
 refine aM.gR (gI.mapUpdate Tryz.underlying81 Tryz.underlying87 rfl rfl rfl hk bM) rfl ?_
 rintro⟨⟩ _
 have hcp:=hc.put x.kind
 generalize put ig x.kind (.int .i64 (c x.kind+1))=ig' at*
 generalize hkx:x.kind=kd at*
 rcases(show kd=0∨kd=1∨kd=2∨kd=3∨(kd≠0∧kd≠1∧kd≠2∧kd≠3)from by omega)with hc_|hc_|hc_|hc_|⟨hc0_,hc1_,hc2_,hc3_⟩
 ·have hb:X.eW x={X with funcs:=X.funcs++[x.func]}:=by unfold lf.eW;simp[hkx,hc_]
  refine dr ?_
  refine EN ?_
  refine jA ?_
  refine EA ?_
  intro b3 _
  refine EO ?_
  intro v2 _
  refine jA ?_
  refine aM.pure (φ:=v2.oneCell'=true) (fun w' hw'=>fN (hw'.own (v:=v2))) fun hone=>?_
  refine EP ?_
  rintro⟨⟩ _
  refine dr ?_
  refine ai.km rfl fun w' hw'=>?_
  unfold gW
  refine aq.of (x:=((⟨tv,v2,bv,mv,gv,ev⟩:vn),ig')) (M:=ie B bx sp im dm ⟨tv,v2,bv,mv,gv,ev⟩ tn tc {X with funcs:=X.funcs++[x.func]} ig' dg) ⟨by rw[hkx];exact hcp,rfl⟩ (hw'.sub (R':=[bz S0 w]) FO aX) (by dsimp only;rw[hb]) FQ
 ·have hb:X.eW x={X with tables:=X.tables++[x.table]}:=by unfold lf.eW;simp[hkx,hc_]
  refine dr ?_
  refine EN ?_
  refine jA ?_
  refine EA ?_
  intro b3 _
  refine EO ?_
  intro v2 _
  refine jA ?_
  refine aM.pure (φ:=v2.oneCell'=true) (fun w' hw'=>fN (hw'.own (v:=v2))) fun hone=>?_
  refine EP ?_
  rintro⟨⟩ _
  refine dr ?_
  refine ai.km rfl fun w' hw'=>?_
  unfold gW
  refine aq.of (x:=((⟨tv,fv,v2,mv,gv,ev⟩:vn),ig')) (M:=ie B bx sp im dm ⟨tv,fv,v2,mv,gv,ev⟩ tn tc {X with tables:=X.tables++[x.table]} ig' dg) ⟨by rw[hkx];exact hcp,rfl⟩ (hw'.sub (R':=[bz S0 w]) FO aX) (by dsimp only;rw[hb]) FQ
 ·have hb:X.eW x={X with bU:=X.bU++[x.mem]}:=by unfold lf.eW;simp[hkx,hc_]
  refine dr ?_
  refine EN ?_
  refine jA ?_
  refine EA ?_
  intro b3 _
  refine EO ?_
  intro v2 _
  refine jA ?_
  refine aM.pure (φ:=v2.oneCell'=true) (fun w' hw'=>fN (hw'.own (v:=v2))) fun hone=>?_
  refine EP ?_
  rintro⟨⟩ _
  refine dr ?_
  refine ai.km rfl fun w' hw'=>?_
  unfold gW
  refine aq.of (x:=((⟨tv,fv,bv,v2,gv,ev⟩:vn),ig')) (M:=ie B bx sp im dm ⟨tv,fv,bv,v2,gv,ev⟩ tn tc {X with bU:=X.bU++[x.mem]} ig' dg) ⟨by rw[hkx];exact hcp,rfl⟩ (hw'.sub (R':=[bz S0 w]) FO aX) (by dsimp only;rw[hb]) FQ
 ·have hb:X.eW x={X with globals:=X.globals++[x.gk]}:=by unfold lf.eW;simp[hkx,hc_]
  refine dr ?_
  refine EN ?_
  refine jA ?_
  refine EA ?_
  intro b3 _
  refine EO ?_
  intro v2 _
  refine jA ?_
  refine aM.pure (φ:=v2.oneCell'=true) (fun w' hw'=>fN (hw'.own (v:=v2))) fun hone=>?_
  refine EP ?_
  rintro⟨⟩ _
  refine dr ?_
  refine ai.km rfl fun w' hw'=>?_
  unfold gW
  refine aq.of (x:=((⟨tv,fv,bv,mv,v2,ev⟩:vn),ig')) (M:=ie B bx sp im dm ⟨tv,fv,bv,mv,v2,ev⟩ tn tc {X with globals:=X.globals++[x.gk]} ig' dg) ⟨by rw[hkx];exact hcp,rfl⟩ (hw'.sub (R':=[bz S0 w]) FO aX) (by dsimp only;rw[hb]) FQ
 ·have hb:X.eW x=X:=by unfold lf.eW;simp[hkx,hc0_,hc1_,hc2_,hc3_]
  refine dr ?_
  refine ai.km rfl fun w' hw'=>?_
  unfold gW
  exact aq.of (x:=((⟨tv,fv,bv,mv,gv,ev⟩:vn),ig')) (M:=ie B bx sp im dm ⟨tv,fv,bv,mv,gv,ev⟩ tn tc X ig' dg) ⟨by rw[hkx];exact hcp,rfl⟩ (hw'.sub (R':=[bz S0 w]) FO aX) (by dsimp only;rw[hb]) FQ
end Go.Proofs.YtceedealggognaaGreatDoor
namespace Go.Proofs.YtceedealggognaaGreatDoor
open Go.RowKit
set_option maxRecDepth 100000
section
variable {ops:Array Oper} {Q:Exit→Act→World→Prop} {n:Nat} {E:Env} {M M':List aU} {R:List (World→Prop)} {rest l:List Oper} {op:Op} {d:Nat} {ty:TypeId} {pos:String} {aft:Array Edge} {v:Value} {x y z:Operand} {t:TypeId} {C:World→Prop}
theorem HE.lL {Mf:Value→List aU} {ti te:TI} {B T s m k c:Nat} {po:Option Addr} {xs:List Value} (ys:List Value) (hx:ev E x=some v) (hy:ev E y=some (.slice po k c)) (hM:∀v',Up (.own B T s v m xs) (.own B T s v' (m+k) (xs++ys)) M (Mf v'))
  (hrd:k=0∨∃bk o,po=some ⟨bk,o,none⟩∧∀w,Ok M R w→∀j u,ys[j]?=some u→w.cell? ⟨bk,o+j,none⟩=some u) (hys:ys.length=k*s)
  (ht:G.ty t=some ti) (he:ti.elem=some T) (hte:G.ty T=some te) (hs:te.size=s) (hzs:Nat.beq te.zero.cells.size te.size=true) (hsz:Nat.blt 0 te.size=true) (h1:∀u∈ys,u.oneCell'=true) (hby:(m+k)*te.bytes≤140737488355328) (hml:m+k≤9223372036854775807) (hB:∀w,Ok M R w→B≤w.heap.size):
  HE n (.call ⟨.builtin .append,#[x,y],#[t,t]⟩) E M R (fun _:Value=>True) (fun v'=>v') Mf (fun _=>R):=
 ⟨fun w hw=>by
  subst hs
  have hm:=(hw.m _ (hM undef).mem)
  have ho:w.ownsRow B T te.size v m xs:=hm.1
  have hsz':0<te.size:=by simpa using hsz
  have key:∀v' w',w'.ownsRow B T te.size v' (m+k) (xs++ys)→bz (fun k=>v.ownBlock=some k) w w'→(v'.ownBlock=v.ownBlock∨v'.ownBlock=some w.heap.size)→∃x:Value,True∧v'=x∧Ok (Mf x) R w':=fun v' w' ho' hc hob=>
   ⟨v',trivial,rfl,hw.nA (hM v') hc ho' fun i hi=>⟨(ho'.lt i hi).2,fun hlt=>by
    rcases hob with e|e
    ·show v.ownBlock=some i
     rw[←e];exact hi
    ·have hk':v'.ownBlock=some i:=hi
     rw[e]at hk';cases hk';omega⟩⟩
  by_cases h0:k=0
  ·subst h0
   obtain⟨po,c,rfl,hc,_⟩:=au ho
   have hy0:ys=[]:=List.eq_nil_of_length_eq_zero (by simpa using hys)
   subst hy0
   refine(bC.uH (G:=G) ht he hte hx hc hy).mono ?_
   rintro _ _ ⟨rfl,rfl⟩
   exact key _ _ (by rw[List.append_nil];exact ho) (bz.refl _ _) (.inl rfl)
  ·obtain⟨bk,o,rfl,hr⟩:=hrd.resolve_left h0
   refine(bC.nG (G:=G) (news:=ys) ht he hte (Nat.eq_of_beq_eq_true hzs) hsz' hx ho hy hys (fun j u hj=>hr w hw j u hj) h1 FN hby (hB w hw)).mono fun v' w' ⟨a,b,c⟩=>key v' w' a b c⟩
end
def wY (g:Int→Option Value) (d:Int→Bool):Prop:=∀k,(g k).getD (.bool false)=.bool (d k)
def named (l:List bZ) (k:Int):Bool:=l.any fun x=>decide (x.op=210) && decide (x.a=k)
def kQ (d:Int→Bool) (l:List bZ):Int→Bool:=fun k=>d k || named l k
theorem vY (l r:List bZ) (k:Int):named (l++r) k=(named l k || named r k):=by unfold named;rw[List.any_append]
theorem wY.put {g:Int→Option Value} {d:Int→Bool} (h:wY g d) (a:Int):wY (put g a (.bool true)) (fun k=>d k || decide (a=k)):=fun b=>by
 unfold Go.Proofs.YtceedealggognaaGreatDoor.put
 by_cases e:b=a
 ·subst e;simp
 ·have e':¬a=b:=fun h=>e h.symm
  simp only[if_neg e,e',decide_false,Bool.or_false];exact h b
abbrev A9:Nat:=63
def rO (B bx sp im dm:Nat) (v:vn) (tn:Nat) (tc:List Value) (X:lf) (ig dg:Int→Option Value) (d:Int→Bool) (l:List bZ) (w:World):Ending→World→Prop:=
 aq (ie B bx sp im dm v tn tc X ig dg) w (fun _:(Int→Option Value)=>.tuple #[]) (fun g=>wY g (kQ d l)) (fun g=>ie B bx sp im dm v tn tc X ig g)
set_option maxHeartbeats 16000000 in
theorem oW (F:Nat→Prop) (B bx sp im dm:Nat) (v:vn) (tn:Nat) (tc:List Value) (X:lf) (ig dg:Int→Option Value) (d:Int→Bool) (l:List bZ) (lv:Value) (w0 w:World) (hw:Ok (ie B bx sp im dm v tn tc X ig dg) [Ext w0] w) (hl:ed F w0 lv l) (hd:wY dg d):
  Calls G.P 25 #[lv,.pointer (some ⟨bx,0,none⟩)] w (rO B bx sp im dm v tn tc X ig dg d l w):=by
 obtain⟨tv,fv,bv,mv,gv,ev⟩:=v
 obtain⟨p,c,rfl,hll⟩:=hl.slice
 refine aj (l:=[.slice p l.length c,.pointer (some ⟨bx,0,none⟩)]) Tryz.func25 rfl Tryz.ntmps25 rfl (Ok.bV hw) ?_
 generalize hS:Mb (ie B bx sp im dm ⟨tv,fv,bv,mv,gv,ev⟩ tn tc X ig dg)=S0
 refine dr ?_
 refine aP.loop (σ:=Nat×(Int→Option Value)) (fun s=>[(1,.pointer (some ⟨bx,0,none⟩)),(5,.slice p l.length c),(6,.int .i64 l.length),(7,.int .i64 s.1)]) (fun s=>ie B bx sp im dm ⟨tv,fv,bv,mv,gv,ev⟩ tn tc X ig s.2) (fun _=>[bz S0 w,Ext w0]) (fun s=>s.1≤l.length∧wY s.2 (kQ d (l.take s.1))) (fun s=>l.length - s.1) (0,dg) bP bN aX ⟨by dsimp only;omega,by dsimp only;intro k;rw[hd k];simp[kQ,named]⟩ ?_
 rintro⟨i,g⟩ ⟨hi,hg⟩
 dsimp only at hi hg ⊢
 by_cases hlt:i<l.length
 ·obtain⟨b6,o6,rfl,-,hall⟩:=hl.at hlt
  have hra:=(hall i hlt).ra
  obtain⟨tv9,lv9,htv,hlv,hc9⟩:=(hall i hlt).B6
  obtain⟨xt,yt,rfl,-⟩:=htv.slice
  obtain⟨xl,yl,rfl,-⟩:=hlv.slice
  have hnx:∀k,kQ d (l.take (i+1)) k=(kQ d (l.take i) k || (decide ((ix l i).op=210) && decide ((ix l i).a=k))):=fun k=>by
   unfold kQ;rw[bu hlt,vY,Bool.or_assoc];simp[named]
  unfold ie
  dsimp only
  refine dr ?_
  refine aa.y_ (Yl.gC rfl rfl rfl ao F0 F0 hc9) rfl ?_
  refine aa.alloc [Value.int .i64 0,Value.int .i64 0,Value.int .i64 0,Value.int .u64 0,Value.int .i64 0,Value.int .i64 0,Value.int .i64 0,Value.slice none 0 0,Value.slice none 0 0] rfl rfl rfl fun b9=>?_
  refine dr ?_
  by_cases h210:(ix l i).op=210
  ·refine dr ?_
   refine aP.cq [0,1,2,3,4,5] 6 [.aH b9 _ A9,.aH bx [.pointer (some ⟨sp,0,none⟩)] lK,.aH sp [tv,fv,bv,mv,gv,ev,.int .i64 X.aW,.map (some im),.map (some dm)] rW] [] FT bN aX ?_
   refine jA ?_
   refine aM.gR (gI.mapUpdate Tryz.underlying82 Tryz.underlying3 rfl rfl rfl hra bM) rfl ?_
   rintro⟨⟩ _
   refine dr ?_
   refine ai.next (i+1,put g (ix l i).a (.bool true)) bP bN aX ⟨by dsimp only;omega,?_⟩ FP
   dsimp only
   intro k
   rw[hg.put _ k,hnx k];simp[h210]
  ·refine dr ?_
   refine ai.next (i+1,g) bP bN aX ⟨by dsimp only;omega,?_⟩ FP
   dsimp only
   intro k
   rw[hg k,hnx k];simp[h210]
 ·obtain rfl:i=l.length:=by omega
  refine dr ?_
  refine ai.km rfl fun w' hw'=>?_
  unfold rO
  rw[List.take_length]at hg
  exact aq.of (x:=g) hg hw' rfl FQ
theorem nH {F:Nat→Prop} {w:World} {p:Option Addr} {n c:Nat} {xs:List Int} {M:List aU} {R:List (World→Prop)} (h:af F w (.slice p n c) xs) (hR:Ext w∈R):xs.length=0∨∃bk o,p=some ⟨bk,o,none⟩∧∀w',Ok M R w'→∀j u,(xs.map (Value.int .i64))[j]?=some u→w'.cell? ⟨bk,o+j,none⟩=some u:=by
 obtain⟨p',c',e,hl,h⟩:=h
 cases e
 rcases h with h|⟨b,o,rfl,hF,h⟩
 ·exact .inl (by rw[h];rfl)
 ·refine .inr ⟨b,o,rfl,fun w' hw' j u hj=>?_⟩
  rw[List.getElem?_map]at hj
  by_cases hlt:j<xs.length
  ·rw[gq hlt]at hj
   cases hj
   exact(show Ext w w' from hw'.get hR).cell (h j hlt)
  ·rw[List.getElem?_eq_none FY]at hj;cases hj
theorem gB (xs:List Int):∀u∈xs.map (Value.int .i64),u.oneCell'=true:=by
 intro u hu;obtain⟨a,_,rfl⟩:=List.mem_map.1 hu;rfl
theorem jt {w:World} {B T:Nat} {v:Value} {xs:List Int} (h:w.ownsRow B T 1 v xs.length (xs.map (Value.int .i64))) (hl:xs.length≤17592186044416):af (fun k=>B≤k) w v xs:=by
 obtain⟨p,c,rfl,hn,hc,hg⟩:=au h
 refine⟨p,c,rfl,hl,?_⟩
 by_cases hx:xs=[]
 ·exact .inl hx
 ·obtain⟨g,rfl,h1,h2⟩:=hg (List.length_pos_iff.2 hx)
  exact .inr ⟨g,0,rfl,h1,fun i hi=>by rw[Nat.zero_add];exact dJ h (by rw[List.getElem?_map,gq hi];rfl)⟩
set_option maxHeartbeats 16000000 in
theorem rB (F:Nat→Prop) (f:aC) (u0 u1:Value) (w:World) (h0:af F w u0 f.params) (h1:af F w u1 f.results):Calls G.P 23 #[.agg #[u0,u1]] w fun e w'=>(∃x:Value×Value,e=.returned (.agg #[x.1,x.2])∧af (fun k=>w.heap.size≤k) w' x.1 f.params∧af (fun k=>w.heap.size≤k) w' x.2 f.results)∧Ext w w':=by
 obtain⟨p0,c0,rfl,l0⟩:=h0.slice
 obtain⟨p1,c1,rfl,l1⟩:=h1.slice
 refine aj (l:=[.agg #[.slice p0 f.params.length c0,.slice p1 f.results.length c1]]) Tryz.func23 rfl Tryz.ntmps23 rfl (Ok.start w) ?_
 refine dr ?_
 refine aa.box [.slice p0 f.params.length c0,.slice p1 f.results.length c1] rfl rfl rfl fun b1=>?_
 refine dr ?_
 refine aa.alloc [Value.slice none 0 0,Value.slice none 0 0] rfl rfl rfl fun b2=>?_
 refine dr ?_
 refine aP.ia w.heap.size kI 1 ?_
 refine aP.ia w.heap.size kI 1 ?_
 refine aP.cq [0,1,3,4,2,5,6] 7 [.aH b1 [.slice p0 f.params.length c0,.slice p1 f.results.length c1] pR] [Ext w] FT bN aX ?_
 refine jA ?_
 refine aM.he (HE.lL (f.params.map (Value.int .i64)) rfl rfl (fun _=>bM) (nH h0 ao) FZ rfl rfl rfl F0 F0 F0 (gB _) (by show(0+f.params.length)*8≤_;omega) FY wI) rfl (fun _=>bN) (fun _=>aX) ?_
 intro v1 _
 refine aM.he (HE.lL (f.results.map (Value.int .i64)) rfl rfl (fun _=>bM) (nH h1 ao) FZ rfl rfl rfl F0 F0 F0 (gB _) (by show(0+f.results.length)*8≤_;omega) FY wI) rfl (fun _=>bN) (fun _=>aX) ?_
 intro v2 _
 refine aM.pure (φ:=(∃p c,v1=.slice p (0+f.params.length) c)∧∃p c,v2=.slice p (0+f.results.length) c) (fun w' hw'=>⟨?_,?_⟩) ?_
 ·obtain⟨p,c,e,_⟩:=au (hw'.own (v:=v1));exact⟨p,c,e⟩
 ·obtain⟨p,c,e,_⟩:=au (hw'.own (v:=v2));exact⟨p,c,e⟩
 rintro⟨⟨q1,d1,rfl⟩,⟨q2,d2,rfl⟩⟩
 refine jA ?_
 refine aM.gR (gI.aL _ rfl rfl rfl rfl rfl rfl bM rfl) rfl ?_
 rintro⟨⟩ _
 refine dr ?_
 refine ai.fw (.inl rfl) rfl rfl rfl rfl rfl bM rfl fun w' hw'=>⟨⟨(_,_),rfl,?_,?_⟩,hw'.at⟩
 ·have:=hw'.own (v:=.slice q1 (0+f.params.length) d1)
  rw[Nat.zero_add]at this ⊢
  exact jt this l0
 ·have:=hw'.own (v:=.slice q2 (0+f.results.length) d2)
  have e:0+f.results.length=f.results.length:=Nat.zero_add _
  rw[e]at this
  show af _ w' (.slice q2 (0+f.results.length) d2) _
  rw[e];exact jt this l1
end Go.Proofs.YtceedealggognaaGreatDoor
namespace Go.Proofs.YtceedealggognaaGreatDoor
open Go.RowKit
set_option maxRecDepth 100000
section
variable {ops:Array Oper} {Q:Exit→Act→World→Prop} {n:Nat} {E:Env} {M M':List aU} {R R':List (World→Prop)} {rest l:List Oper} {op:Op} {d:Nat} {ty:TypeId} {pos:String} {aft:Array Edge} {v:Value} {x y z:Operand} {t:TypeId}
theorem Ok.perm {w:World} (h:Ok M R w) (hp:M.Perm M'):Ok M' R w:=
 h.step (bz.refl _ w) (fun q hq=>h.m q (hp.mem_iff.2 hq)) ((hp.pairwise_iff (fun h k h1 h2=>h k h2 h1)).1 h.d) (fun _k ⟨q,hq,hk⟩ _=>⟨q,hp.mem_iff.2 hq,hk⟩)
theorem ai.kJ {e:Exit} (p:World→Prop) (hp:∀w',(∀r,r∈R→r w')→p w') (h:ai Q n e E M (p::R)):ai Q n e E M R:=⟨fun w hw=>h.h w (hw.kJ hp)⟩
theorem HE.qJ {β:Type} {B:Nat} {M0 Mr:List aU} {tf:β→Value} {φ:β→Prop} {M1:β→List aU} {f:Nat} {fo:Operand} {cap:List Value} {args:List Operand} {tys:Array TypeId} {vs:List Value} (hfo:ev E fo=some (.func (.func f) #[] cap.toArray)) (hf:G.fb[f]?=some true) (ha:ji E args=some vs) (hM:M.Perm (M0++Mr))
  (hR':∀p,p∈R'→p∈R) (hc:∀w,Ok M0 R' w→B≤w.heap.size→Calls G.P f (vs++cap).toArray w (aq M0 w tf φ M1)) (hB:∀w,Ok M R w→B≤w.heap.size):HE n (.call ⟨.value fo,args.toArray,tys⟩) E M R φ tf (fun x=>M1 x++Mr) (fun _=>R):=
 ⟨fun w hw0=>by
  have hw:=hw0.perm hM
  refine(bC.kl hfo hf ha (hc w (hw.sub (List.sublist_append_left _ _) hR') (hB w hw0)) (fun e w' h=>by obtain⟨x,e1,_⟩:=h;exact⟨_,e1⟩)).mono fun v w' ⟨x,e1,h1,h2,h3,h4⟩=>?_
  cases e1
  exact⟨x,h1,rfl,hw.frame h2 h3 h4⟩⟩
end
def A0 (f:aC) (lo:Nat) (w:World) (x:Value×Value):Prop:=af (fun k=>lo≤k) w x.1 f.params∧af (fun k=>lo≤k) w x.2 f.results
theorem A0.fresh (f:aC):zF (A0 f):=fun h hc hS=>⟨h.1.aB hc hS,h.2.aB hc hS⟩
theorem kO {M M':List aU} (h:M'.Sublist M:=by repeat(first|with_reducible exact List.Sublist.refl _|exact List.nil_sublist _|(with_reducible refine List.Sublist.cons_cons _ ?_)|((with_reducible refine nL ?_ ?_ ?_ ?_);rfl;(first|rfl|simp);(first|rfl|simp))|((with_reducible refine zw ?_ ?_);(first|rfl|simp))|refine List.Sublist.cons _ ?_)):M'.Sublist M:=h
def jg (B:Nat) (tc:List Value) (l:List aC):World→Prop:=fun w=>tc.length=l.length*2∧∀i,i<l.length→∃p r,tc[i*2]?=some p∧tc[i*2+1]?=some r∧af (fun k=>B≤k) w p (ix l i).params∧af (fun k=>B≤k) w r (ix l i).results
theorem jg.app {B:Nat} {tc:List Value} {l:List aC} {w:World} (h:jg B tc l w) {p r:Value} {f:aC} (hp:af (fun k=>B≤k) w p f.params) (hr:af (fun k=>B≤k) w r f.results):jg B (tc++[p,r]) (l++[f]) w:=by
 obtain⟨h1,h2⟩:=h
 refine⟨by simp[h1];omega,fun i hi=>?_⟩
 by_cases hlt:i<l.length
 ·obtain⟨p',r',e1,e2,e3,e4⟩:=h2 i hlt
  rw[jm hlt]
  exact⟨p',r',by rw[List.getElem?_append_left FY];exact e1,by rw[List.getElem?_append_left FY];exact e2,e3,e4⟩
 ·have e:i=l.length:=by simp at hi;omega
  subst e
  rw[h9 (Nat.le_refl _),Nat.sub_self]
  exact⟨p,r,by rw[List.getElem?_append_right FY];simp[h1],by rw[List.getElem?_append_right FY];simp[h1,show l.length*2+1 - l.length*2=1 by omega],hp,hr⟩
theorem jg.aB {B:Nat} {tc:List Value} {l:List aC} {S:Nat→Prop} {w w':World} (h:jg B tc l w) (hc:bz S w w') (hS:∀k,B≤k→¬S k):jg B tc l w':=
 ⟨h.1,fun i hi=>by
  obtain⟨p,r,e1,e2,e3,e4⟩:=h.2 i hi
  exact⟨p,r,e1,e2,e3.aB hc (fun k _ hk=>hS k hk),e4.aB hc (fun k _ hk=>hS k hk)⟩⟩
def tE (l:List cB) (X:lf):lf:=l.foldl lf.eW X
theorem sf (l:List cB) (X:lf) (x:cB):tE (l++[x]) X=(tE l X).eW x:=by unfold tE;rw[List.foldl_append];rfl
theorem vA (X:lf) (x:cB):(X.eW x).funcs.length≤X.funcs.length+1∧(X.eW x).tables.length≤X.tables.length+1∧(X.eW x).bU.length≤X.bU.length+1∧(X.eW x).globals.length≤X.globals.length+1∧(X.eW x).elems.length≤X.elems.length∧(X.eW x).aW=X.aW:=by
 unfold lf.eW
 split
 ·simp
 ·split
  ·simp
  ·split
   ·simp
   ·split<;>simp
def X0 (m:ae):lf:=⟨[],[],[],[],[],m.aW.length⟩
theorem uJ (m:ae):∀i,i≤m.imports.length→(tE (m.imports.take i) (X0 m)).funcs.length≤i∧(tE (m.imports.take i) (X0 m)).tables.length≤i∧(tE (m.imports.take i) (X0 m)).bU.length≤i∧(tE (m.imports.take i) (X0 m)).globals.length≤i∧(tE (m.imports.take i) (X0 m)).elems.length≤0∧(tE (m.imports.take i) (X0 m)).aW=m.aW.length
 |0,_=>by simp[tE,X0]
 |i+1,h=>by
  have ih:=uJ m i FY
  rw[bu FY,sf]
  have:=vA (tE (m.imports.take i) (X0 m)) (ix m.imports i)
  omega
def cN (m:ae) (i:Nat):Int→Int:=fun k=>tM m.imports k i
theorem yL (m:ae) {i:Nat} (h:i<m.imports.length):inc (cN m i) (ix m.imports i).kind=cN m (i+1):=by
 funext b
 unfold inc cN
 rw[vJ h]
 by_cases e:b=(ix m.imports i).kind
 ·subst e;simp
 ·have e':¬(ix m.imports i).kind=b:=fun h=>e h.symm
  simp[e,e']
def X1 (m:ae):lf:=tE m.imports (X0 m)
def X2 (m:ae) (i:Nat):lf:={X1 m with funcs:=(X1 m).funcs++(m.funcs.take i).map (·.eZ)}
def X3 (m:ae):lf:={X2 m m.funcs.length with tables:=(X1 m).tables++m.tables,bU:=(X1 m).bU++m.bU}
def X4 (m:ae) (i:Nat):lf:={X3 m with globals:=(X1 m).globals++(m.globals.take i).map (·.eZ)}
def X5 (m:ae) (i:Nat):lf:={X4 m m.globals.length with elems:=(X1 m).elems++(m.elems.take i).map (·.eZ)}
theorem fE {α:Type} [Inhabited α] (cf:α→List Value) {s:Nat} (hs:∀x,(cf x).length=s):∀(xs:List α) (i j:Nat),i<xs.length→j<s→(xs.flatMap cf)[i*s+j]?=(cf (ix xs i))[j]?
 |[],i,_,h,_=>by simp at h
 |a::r,0,j,_,hj=>by
  rw[List.flatMap_cons,Nat.zero_mul,Nat.zero_add,List.getElem?_append_left (by rw[hs];exact hj)]
  simp[ix]
 |a::r,i+1,j,h,hj=>by
  rw[List.flatMap_cons,List.getElem?_append_right (by rw[hs,Nat.succ_mul];omega)]
  have e:(i+1)*s+j - (cf a).length=i*s+j:=by rw[hs,Nat.succ_mul];omega
  rw[e,fE cf hs r i j FS hj]
  simp[ix]
theorem gA {α:Type} (cf:α→List Value) {s:Nat} (hs:∀x,(cf x).length=s):∀xs:List α,(xs.flatMap cf).length=xs.length*s
 |[]=>by simp
 |a::r=>by rw[List.flatMap_cons,List.length_append,hs,gA cf hs r,List.length_cons,Nat.succ_mul];omega
theorem uR {α:Type} [Inhabited α] {s N:Nat} {Rd:ph α} (cf:α→List Value) (hs:∀x,(cf x).length=s) (h0:0<s) (hRd:∀{F w b o x},Rd F w b o x→∀j,j<s→w.cell? ⟨b,o+j,none⟩=(cf x)[j]?) {F:Nat→Prop} {w:World} {p:Option Addr} {n c:Nat} {xs:List α} {M:List aU} {R:List (World→Prop)} (h:fc s N Rd F w (.slice p n c) xs) (hR:Ext w∈R):
  xs.length=0∨∃bk o,p=some ⟨bk,o,none⟩∧∀w',Ok M R w'→∀j u,(xs.flatMap cf)[j]?=some u→w'.cell? ⟨bk,o+j,none⟩=some u:=by
 obtain⟨p',c',e,hl,h⟩:=h
 cases e
 rcases h with h|⟨b,o,rfl,hF,h⟩
 ·exact .inl (by rw[h];rfl)
 ·refine .inr ⟨b,o,rfl,fun w' hw' j u hj=>?_⟩
  have hlt:j<xs.length*s:=by rw[←gA cf hs];exact(List.getElem?_eq_some_iff.1 hj).1
  have hi:j / s<xs.length:=Nat.div_lt_of_lt_mul (by rw[Nat.mul_comm];exact hlt)
  have hr:j % s<s:=Nat.mod_lt _ h0
  have ej:j=j / s*s+j % s:=by rw[Nat.mul_comm];exact(Nat.div_add_mod j s).symm
  have h1:=hRd (h (j / s) hi) (j % s) hr
  rw[←fE cf hs xs _ _ hi hr,←ej,hj,Nat.add_assoc,←ej]at h1
  exact(show Ext w w' from hw'.get hR).cell h1
theorem yo {F:Nat→Prop} {w:World} {b o:Nat} {x:dS} (h:dB F w b o x):∀j,j<4→w.cell? ⟨b,o+j,none⟩=(kN x)[j]?:=by
 obtain⟨cs,hV,hc⟩:=h
 obtain⟨rfl,-⟩:=hV
 exact hc
theorem vU {F:Nat→Prop} {w:World} {b o:Nat} {x:dt} (h:cZ F w b o x):∀j,j<3→w.cell? ⟨b,o+j,none⟩=(kK x)[j]?:=by
 obtain⟨cs,hV,hc⟩:=h
 obtain⟨rfl,-⟩:=hV
 exact hc
theorem yp (l:List dS):∀u∈l.flatMap kN,u.oneCell'=true:=by
 intro u hu;obtain⟨a,_,h⟩:=List.mem_flatMap.1 hu
 simp only[kN,List.mem_cons,List.not_mem_nil,or_false]at h
 rcases h with rfl|rfl|rfl|rfl<;>rfl
theorem xJ (l:List dt):∀u∈l.flatMap kK,u.oneCell'=true:=by
 intro u hu;obtain⟨a,_,h⟩:=List.mem_flatMap.1 hu
 simp only[kK,List.mem_cons,List.not_mem_nil,or_false]at h
 rcases h with rfl|rfl|rfl<;>rfl
abbrev DA:Nat:=99
abbrev Dz:Nat:=102
abbrev BZ:Nat:=104
abbrev qz:Nat:=106
def d4 (m:ae) (i:Nat):Int→Bool:=fun k=>(m.globals.take i).any fun g=>named g.sy k
def d5 (m:ae) (i j:Nat):Int→Bool:=fun k=>d4 m m.globals.length k || (m.elems.take i).any (fun e=>e.items.any fun l=>named l k) || ((ix m.elems i).items.take j).any fun l=>named l k
def d6 (m:ae) (i:Nat):Int→Bool:=fun k=>d4 m m.globals.length k || m.elems.any (fun e=>e.items.any fun l=>named l k) || (m.aG.take i).any fun x=>decide (x.kind=0) && decide (x.index=k)
def pK (m:ae):lf:=X5 m m.elems.length
structure yD (B bS sp im dm:Nat) (v:vn) (tc:List Value) (ig dg:Int→Option Value) (m:ae) (w:World):Prop where
 s:eA w bS [.pointer (some ⟨sp,0,none⟩)] qz
 x:eA w sp [v.tv,v.fv,v.bv,v.mv,v.gv,v.ev,.int .i64 (pK m).aW,.map (some im),.map (some dm)] rW
 fs:w.ownsRow B 3 1 v.fv (pK m).funcs.length ((pK m).funcs.map (Value.int .i64))
 bs:w.ownsRow B my 4 v.bv (pK m).tables.length ((pK m).tables.flatMap kN)
 ms:w.ownsRow B mw 3 v.mv (pK m).bU.length ((pK m).bU.flatMap kK)
 gs:w.ownsRow B mu 2 v.gv (pK m).globals.length ((pK m).globals.flatMap pw)
 es:w.ownsRow B kI 1 v.ev (pK m).elems.length ((pK m).elems.map (Value.int .i64))
 ts:w.ownsRow B pR 2 v.tv m.types.length tc
 im:IV w im ig
 dm:IV w dm dg
 CM:Ai ig (cN m m.imports.length)
 dec:wY dg (d6 m m.aG.length)
 ty:jg B tc m.types w
def aV (B:Nat) (m:ae) (w:World) (v:Value):Prop:=∃bS sp im dm vs tc ig dg,v=.pointer (some ⟨bS,0,none⟩)∧(B≤bS∧B≤sp∧B≤im∧B≤dm)∧yD B bS sp im dm vs tc ig dg m w
def rN (m:ae):Prop:=m.types.length≤1000∧m.imports.length≤1000∧m.funcs.length≤1000∧m.tables.length≤1048576∧m.bU.length≤1048576∧m.globals.length≤1000∧m.aG.length≤1048576∧m.elems.length≤1000∧m.aW.length≤17592186044416
def pP (m:ae) (w:World) (e:Ending) (w':World):Prop:=(∃v,e=.returned v∧aV w.heap.size m w' v)∧Ext w w'
theorem aV.aB {B:Nat} {m:ae} {S:Nat→Prop} {w w':World} {v:Value} (h:aV B m w v) (hc:bz S w w') (hS:∀k,B≤k→¬S k):aV B m w' v:=by
 obtain⟨bS,sp,im,dm,vs,tc,ig,dg,rfl,⟨g1,g2,g3,g4⟩,h⟩:=h
 exact⟨bS,sp,im,dm,vs,tc,ig,dg,rfl,⟨g1,g2,g3,g4⟩,h.s.aB hc (hS _ g1),h.x.aB hc (hS _ g2),bA h.fs hc (fun k hk=>hS k (h.fs.lt k hk).1),bA h.bs hc (fun k hk=>hS k (h.bs.lt k hk).1),bA h.ms hc (fun k hk=>hS k (h.ms.lt k hk).1),bA h.gs hc (fun k hk=>hS k (h.gs.lt k hk).1),bA h.es hc (fun k hk=>hS k (h.es.lt k hk).1),bA h.ts hc (fun k hk=>hS k (h.ts.lt k hk).1),h.im.aB hc (hS _ g3),h.dm.aB hc (hS _ g4),h.CM,h.dec,h.ty.aB hc hS⟩
set_option maxHeartbeats 32000000 in
theorem mi (F:Nat→Prop) (m:ae) (cs:List Value) (w:World) (hm:aD F w cs m) (hL:rN m):Calls G.P 10 #[.agg cs.toArray] w (pP m w):=by
 obtain⟨v0,v1,v2,v3,v4,v5,v6,v7,v8,v9,rfl,r0,r1,r2,r3,r4,r5,r6,r7,r8,r9,g0⟩:=hm
 obtain⟨L0,L1,L2,L3,L4,L5,L6,L7,L8⟩:=hL
 obtain⟨p0,c0,rfl,-⟩:=r0.slice
 obtain⟨p1,c1,rfl,-⟩:=r1.slice
 obtain⟨p2,c2,rfl,-⟩:=r2.slice
 obtain⟨p3,c3,rfl,-⟩:=r3.slice
 obtain⟨p4,c4,rfl,-⟩:=r4.slice
 obtain⟨p5,c5,rfl,-⟩:=r5.slice
 obtain⟨p6,c6,rfl,-⟩:=r6.slice
 obtain⟨p7,c7,rfl,-⟩:=r7.slice
 obtain⟨p8,c8,rfl,-⟩:=r8.slice
 refine aj (l:=[.agg (([Value.slice p0 m.types.length c0,Value.slice p1 m.imports.length c1,Value.slice p2 m.funcs.length c2,Value.slice p3 m.tables.length c3,Value.slice p4 m.bU.length c4,Value.slice p5 m.globals.length c5,Value.slice p6 m.aG.length c6,Value.bool m.aJ,Value.int .i64 m.start,Value.slice p7 m.elems.length c7,Value.slice p8 m.aW.length c8,v9]:List Value)).toArray]) Tryz.func10 rfl Tryz.ntmps10 rfl (Ok.start w) ?_
 refine dr ?_
 refine aa.box ([Value.slice p0 m.types.length c0,Value.slice p1 m.imports.length c1,Value.slice p2 m.funcs.length c2,Value.slice p3 m.tables.length c3,Value.slice p4 m.bU.length c4,Value.slice p5 m.globals.length c5,Value.slice p6 m.aG.length c6,Value.bool m.aJ,Value.int .i64 m.start,Value.slice p7 m.elems.length c7,Value.slice p8 m.aW.length c8,v9]:List Value) rfl rfl rfl fun b=>?_
 refine dr ?_
 refine aa.he HE.makeMap rfl ?_
 intro im _
 refine aa.he HE.makeMap rfl ?_
 intro dm _
 refine dr ?_
 refine aa.box [Value.slice none 0 0,Value.slice none 0 0,Value.slice none 0 0,Value.slice none 0 0,Value.slice none 0 0,Value.slice none 0 0,Value.int .i64 m.aW.length,Value.map (some im),Value.map (some dm)] rfl rfl rfl fun sp=>?_
 refine dr ?_
 refine aa.alloc [Value.pointer none] rfl rfl rfl fun bx=>?_
 refine dr ?_
 refine aP.ia w.heap.size pR 2 ?_
 refine aP.ia w.heap.size kI 1 ?_
 refine aP.ia w.heap.size mu 2 ?_
 refine aP.ia w.heap.size mw 3 ?_
 refine aP.ia w.heap.size my 4 ?_
 refine aP.ia w.heap.size 3 1 ?_
 refine aP.front (q:=.own w.heap.size pR 2 _ _ _) gV ?_
 refine aP.front (q:=.iv dm _) gV ?_
 refine aP.front (q:=.iv im _) gV ?_
 refine aP.front (q:=.own w.heap.size kI 1 _ _ _) gV ?_
 refine aP.front (q:=.own w.heap.size mu 2 _ _ _) gV ?_
 refine aP.front (q:=.own w.heap.size mw 3 _ _ _) gV ?_
 refine aP.front (q:=.own w.heap.size my 4 _ _ _) gV ?_
 refine aP.front (q:=.own w.heap.size 3 1 _ _ _) gV ?_
 refine aP.front (q:=.aH sp _ _) gV ?_
 refine aP.front (q:=.aH bx _ _) gV ?_
 refine aP.kJ (jg w.heap.size [] (m.types.take 0)) (fun w' _=>⟨rfl,fun i hi=>by simp at hi⟩) ?_
 refine aP.loop (σ:=Nat×Value×List Value) (fun s=>[(1,.pointer (some ⟨b,0,none⟩)),(3,.pointer (some ⟨bx,0,none⟩)),(28,.slice p0 m.types.length c0),(29,.int .i64 m.types.length),(30,.int .i64 s.1)]) (fun s=>ie w.heap.size bx sp im dm ⟨s.2.1,.slice none 0 0,.slice none 0 0,.slice none 0 0,.slice none 0 0,.slice none 0 0⟩ s.1 s.2.2 (X0 m) (fun _=>none) (fun _=>none)++[.aH b ([Value.slice p0 m.types.length c0,Value.slice p1 m.imports.length c1,Value.slice p2 m.funcs.length c2,Value.slice p3 m.tables.length c3,Value.slice p4 m.bU.length c4,Value.slice p5 m.globals.length c5,Value.slice p6 m.aG.length c6,Value.bool m.aJ,Value.int .i64 m.start,Value.slice p7 m.elems.length c7,Value.slice p8 m.aW.length c8,v9]:List Value) jD]) (fun s=>[jg w.heap.size s.2.2 (m.types.take s.1),Ext w]) (fun s=>s.1≤m.types.length) (fun s=>m.types.length - s.1) (0,.slice none 0 0,[]) bP FB Fv FP ?_
 rintro⟨i,tv,tc⟩ hi
 dsimp only at hi ⊢
 unfold ie
 simp only[List.cons_append,List.nil_append]
 by_cases hlt:i<m.types.length
 ·obtain⟨b1,o1,rfl,hF,cs5,⟨u0,u1,rfl,q0,q1⟩,hc5⟩:=r0.el hlt
  obtain⟨x0,y0,rfl,-⟩:=q0.slice
  obtain⟨x1,y1,rfl,-⟩:=q1.slice
  refine dr ?_
  refine EQ ?_
  refine aa.alloc [Value.slice none 0 0,Value.slice none 0 0] rfl rfl rfl fun b5=>?_
  refine dr ?_
  refine aP.cq [0,1,2,3,4,5,6,7,8,9,10] 11 [.aH b5 _ pR,.aH bx [.pointer (some ⟨sp,0,none⟩)] lK,.aH sp [tv,.slice none 0 0,.slice none 0 0,.slice none 0 0,.slice none 0 0,.slice none 0 0,.int .i64 (X0 m).aW,.map (some im),.map (some dm)] rW] [] FT bN aX ?_
  refine jA ?_
  refine aM.he (HE.Bg (V:=A0 (ix m.types i)) (fun x=>.agg #[x.1,x.2]) (A0.fresh _) rfl rfl (fun w' hw'=>rB F (ix m.types i) _ _ w' (q0.aB (show Ext w w' from hw'.at) (fun _ _ _ h=>h)) (q1.aB (show Ext w w' from hw'.at) (fun _ _ _ h=>h)))) rfl (fun _=>bN) (fun _=>aX) ?_
  rintro⟨lo,z1,z2⟩ ⟨wx,hwx,hlo⟩
  have hlo':w.heap.size≤lo:=by have h:=wI (w:=w) ao wx hwx;have:lo=wx.heap.size:=hlo;omega
  dsimp only
  refine aM.pure (φ:=(∃p c,z1=.slice p (ix m.types i).params.length c)∧∃p c,z2=.slice p (ix m.types i).results.length c) (fun w' hw'=>?_) ?_
  ·have hv:A0 (ix m.types i) lo w' (z1,z2):=hw'.at
   obtain⟨p,c,e,_⟩:=hv.1.slice
   obtain⟨p',c',e',_⟩:=hv.2.slice
   exact⟨⟨p,c,e⟩,⟨p',c',e'⟩⟩
  rintro⟨⟨e1,f1,rfl⟩,⟨e2,f2,rfl⟩⟩
  refine EA ?_
  intro b3 _
  refine ER ?_
  intro v2 _
  refine jA ?_
  refine aM.pure (φ:=v2.oneCell'=true) (fun w' hw'=>fN (hw'.own (v:=v2))) fun hone=>?_
  refine EP ?_
  rintro⟨⟩ _
  refine dr ?_
  refine ai.kJ (jg w.heap.size (tc++[.slice e1 (ix m.types i).params.length f1,.slice e2 (ix m.types i).results.length f2]) (m.types.take (i+1))) (fun w' hw'=>?_) ?_
  ·rw[bu hlt]
   have hv:A0 (ix m.types i) lo w' (.slice e1 (ix m.types i).params.length f1,.slice e2 (ix m.types i).results.length f2):=xi hw'
   exact jg.app (xi hw') (hv.1.mono (fun k _ hk=>Nat.le_trans hlo' hk)) (hv.2.mono (fun k _ hk=>Nat.le_trans hlo' hk))
  exact ai.next (i+1,v2,tc++[.slice e1 (ix m.types i).params.length f1,.slice e2 (ix m.types i).results.length f2]) bP (by dsimp only;exact kO) Fv FP FP
 ·obtain rfl:i=m.types.length:=by omega
  refine dr ?_
  refine aP.loop (σ:=Nat×vn×(Int→Option Value)) (fun s=>[(1,.pointer (some ⟨b,0,none⟩)),(3,.pointer (some ⟨bx,0,none⟩)),(6,.func (.func 24) #[] #[.pointer (some ⟨bx,0,none⟩)]),(48,.slice p1 m.imports.length c1),(49,.int .i64 m.imports.length),(50,.int .i64 s.1)]) (fun s=>ie w.heap.size bx sp im dm s.2.1 m.types.length tc (tE (m.imports.take s.1) (X0 m)) s.2.2 (fun _=>none)++[.aH b ([Value.slice p0 m.types.length c0,Value.slice p1 m.imports.length c1,Value.slice p2 m.funcs.length c2,Value.slice p3 m.tables.length c3,Value.slice p4 m.bU.length c4,Value.slice p5 m.globals.length c5,Value.slice p6 m.aG.length c6,Value.bool m.aJ,Value.int .i64 m.start,Value.slice p7 m.elems.length c7,Value.slice p8 m.aW.length c8,v9]:List Value) jD]) (fun s=>[jg w.heap.size tc (m.types.take m.types.length),Ext w]) (fun s=>s.1≤m.imports.length∧s.2.1.tv=tv∧Ai s.2.2 (cN m s.1)) (fun s=>m.imports.length - s.1) (0,⟨tv,.slice none 0 0,.slice none 0 0,.slice none 0 0,.slice none 0 0,.slice none 0 0⟩,fun _=>none) bP FB aX ⟨by dsimp only;omega,rfl,fun k=>by simp[cN,tM]⟩ ?_
  rintro⟨i,v,ig⟩ ⟨hi,hvt,hcnt⟩
  dsimp only at hi hvt hcnt ⊢
  have hbl:=uJ m i hi
  by_cases hlt:i<m.imports.length
  ·obtain⟨b1,o1,rfl,hF,he⟩:=r1.el hlt
   have hk9:=he.tN
   have hcs:=yL m hlt
   have hcl:=yV m.imports (ix m.imports i).kind i
   obtain⟨cs9,hV9,hc9⟩:=he
   obtain⟨rfl,-⟩:=hV9
   refine dr ?_
   refine aa.y_ (Yl.gC rfl rfl rfl ao F0 F0 hc9) rfl ?_
   refine aa.alloc [Value.string ⟨#[]⟩,Value.string ⟨#[]⟩,Value.int .i64 0,Value.int .i64 0,Value.int .i64 0,Value.int .i64 0,Value.int .i64 0,Value.bool false,Value.int .i64 0,Value.int .i64 0,Value.bool false,Value.int .i64 0,Value.bool false] rfl rfl rfl fun b8=>?_
   refine dr ?_
   refine aa.he (HE.qJ (B:=w.heap.size) (R':=[]) rfl rfl rfl List.perm_middle.symm (fun p hp=>absurd hp FZ) (fun w' hw' hB=>sY w.heap.size bx sp im dm v m.types.length tc _ ig (fun _=>none) (ix m.imports i) (cN m i) w' hw' hB ⟨by omega,by omega,by omega,by omega,by omega⟩ hcnt hk9 (by unfold cN;omega)) wI) rfl ?_
   rintro⟨v',ig'⟩ ⟨hc',ht'⟩
   dsimp only at hc' ht' ⊢
   rw[hcs]at hc'
   refine dr ?_
   refine ai.next (i+1,v',ig') bP ?_ aX ⟨by dsimp only;omega,by dsimp only;rw[ht',hvt],hc'⟩ FP
   dsimp only
   rw[bu hlt,sf]
   unfold ie;simp only[List.cons_append,List.nil_append];exact kO
  ·obtain rfl:i=m.imports.length:=by omega
   obtain⟨tv',fv0,bv,mv,gv,ev⟩:=v
   dsimp only at hvt
   subst hvt
   have e1:tE (m.imports.take m.imports.length) (X0 m)=X1 m:=by unfold X1;rw[List.take_length]
   have hlen1:(X1 m).funcs.length≤1000∧(X1 m).tables.length≤1000∧(X1 m).bU.length≤1000∧(X1 m).globals.length≤1000∧(X1 m).elems.length≤0:=by rw[←e1];omega
   rw[e1]
   unfold ie
   simp only[List.cons_append,List.nil_append]
   refine dr ?_
   have e2:(X2 m 0).funcs=(X1 m).funcs:=by simp[X2]
   refine aP.loop (σ:=Nat×Value) (fun s=>[(1,.pointer (some ⟨b,0,none⟩)),(3,.pointer (some ⟨bx,0,none⟩)),(59,.slice p2 m.funcs.length c2),(60,.int .i64 m.funcs.length),(61,.int .i64 s.1)]) (fun s=>ie w.heap.size bx sp im dm ⟨tv',s.2,bv,mv,gv,ev⟩ m.types.length tc (X2 m s.1) ig (fun _=>none)++[.aH b ([Value.slice p0 m.types.length c0,Value.slice p1 m.imports.length c1,Value.slice p2 m.funcs.length c2,Value.slice p3 m.tables.length c3,Value.slice p4 m.bU.length c4,Value.slice p5 m.globals.length c5,Value.slice p6 m.aG.length c6,Value.bool m.aJ,Value.int .i64 m.start,Value.slice p7 m.elems.length c7,Value.slice p8 m.aW.length c8,v9]:List Value) jD]) (fun s=>[jg w.heap.size tc (m.types.take m.types.length),Ext w]) (fun s=>s.1≤m.funcs.length) (fun s=>m.funcs.length - s.1) (0,fv0) bP (by unfold ie;dsimp only;simp only[List.cons_append,List.nil_append,e2];exact kO) aX FP ?_
   rintro⟨i,fv⟩ hi
   dsimp only at hi ⊢
   unfold ie
   simp only[List.cons_append,List.nil_append]
   by_cases hlt:i<m.funcs.length
   ·obtain⟨b1,o1,rfl,hF,cs5,⟨u0,u1,rfl,q0,q1,q2⟩,hc5⟩:=r2.el hlt
    obtain⟨x2,y2,rfl,z2⟩:=q1.slice
    obtain⟨x0,y0,rfl,z0⟩:=q0.slice
    have e3:(X2 m (i+1)).funcs=(X2 m i).funcs++[(ix m.funcs i).eZ]:=by simp[X2,bu hlt]
    have l3:(X2 m i).funcs.length≤3000:=by simp[X2];omega
    refine dr ?_
    refine EQ ?_
    refine aa.alloc [Value.int .i64 0,Value.slice none 0 0,Value.slice none 0 0] rfl rfl rfl fun b10=>?_
    refine dr ?_
    refine aP.cq [0,1,2,3,4,5,6,7,8,9,10] 11 [.aH b10 _ uF,.aH bx [.pointer (some ⟨sp,0,none⟩)] lK,.aH sp [tv',fv,bv,mv,gv,ev,.int .i64 (X2 m i).aW,.map (some im),.map (some dm)] rW] [] FT bN aX ?_
    refine jA ?_
    refine EA ?_
    intro b3 _
    refine ER ?_
    intro v2 _
    refine jA ?_
    refine aM.pure (φ:=v2.oneCell'=true) (fun w' hw'=>fN (hw'.own (v:=v2))) fun hone=>?_
    refine EP ?_
    rintro⟨⟩ _
    refine dr ?_
    exact ai.next (i+1,v2) bP (by dsimp only;simp only[e3];exact kO) aX FP FP
   ·obtain rfl:i=m.funcs.length:=by omega
    refine dr ?_
    refine aP.cq [0,1,2,3,4,5,6,7,8,9] 10 [.aH bx [.pointer (some ⟨sp,0,none⟩)] lK,.aH sp [tv',fv,bv,mv,gv,ev,.int .i64 (X2 m m.funcs.length).aW,.map (some im),.map (some dm)] rW,.aH b ([Value.slice p0 m.types.length c0,Value.slice p1 m.imports.length c1,Value.slice p2 m.funcs.length c2,Value.slice p3 m.tables.length c3,Value.slice p4 m.bU.length c4,Value.slice p5 m.globals.length c5,Value.slice p6 m.aG.length c6,Value.bool m.aJ,Value.int .i64 m.start,Value.slice p7 m.elems.length c7,Value.slice p8 m.aW.length c8,v9]:List Value) jD] [Ext w] FT bN aX ?_
    refine jA ?_
    refine aM.he (HE.Bb (m.tables.flatMap kN) rfl rfl (fun _=>bM) (uR kN (fun _=>rfl) FY (fun h=>yo h) r3 ao) (gA kN (fun _=>rfl) _) rfl rfl rfl F0 F0 F0 F0 (yp _) (by have:(X2 m m.funcs.length).tables.length=(X1 m).tables.length:=rfl;omega) wI) rfl (fun _=>bN) (fun _=>aX) ?_
    intro v2 _
    refine jA ?_
    refine aM.pure (φ:=v2.oneCell'=true) (fun w' hw'=>fN (hw'.own (v:=v2))) fun hone=>?_
    refine EP ?_
    rintro⟨⟩ _
    refine dr ?_
    refine aP.cq [0,1,2,3,4,5,6,7,8,9] 10 [.aH bx [.pointer (some ⟨sp,0,none⟩)] lK,.aH sp [tv',fv,v2,mv,gv,ev,.int .i64 (X2 m m.funcs.length).aW,.map (some im),.map (some dm)] rW,.aH b ([Value.slice p0 m.types.length c0,Value.slice p1 m.imports.length c1,Value.slice p2 m.funcs.length c2,Value.slice p3 m.tables.length c3,Value.slice p4 m.bU.length c4,Value.slice p5 m.globals.length c5,Value.slice p6 m.aG.length c6,Value.bool m.aJ,Value.int .i64 m.start,Value.slice p7 m.elems.length c7,Value.slice p8 m.aW.length c8,v9]:List Value) jD] [Ext w] FT bN aX ?_
    refine jA ?_
    refine aM.he (HE.Bb (m.bU.flatMap kK) rfl rfl (fun _=>bM) (uR kK (fun _=>rfl) FY (fun h=>vU h) r4 ao) (gA kK (fun _=>rfl) _) rfl rfl rfl F0 F0 F0 F0 (xJ _) (by have:(X2 m m.funcs.length).bU.length=(X1 m).bU.length:=rfl;omega) wI) rfl (fun _=>bN) (fun _=>aX) ?_
    intro v3 _
    refine jA ?_
    refine aM.pure (φ:=v3.oneCell'=true) (fun w' hw'=>fN (hw'.own (v:=v3))) fun hone3=>?_
    refine aM.gR (gI.dZ rfl rfl rfl rfl hone3 bM lE) rfl ?_
    rintro⟨⟩ _
    refine dr ?_
    have e4:(X4 m 0).globals=(X1 m).globals:=by simp[X4]
    have e5:(X4 m 0).tables=(X2 m m.funcs.length).tables++m.tables:=rfl
    have e6:(X4 m 0).bU=(X2 m m.funcs.length).bU++m.bU:=rfl
    refine aP.loop (σ:=Nat×Value×(Int→Option Value)) (fun s=>[(1,.pointer (some ⟨b,0,none⟩)),(3,.pointer (some ⟨bx,0,none⟩)),(11,.func (.func 25) #[] #[.pointer (some ⟨bx,0,none⟩)]),(99,.slice p5 m.globals.length c5),(100,.int .i64 m.globals.length),(101,.int .i64 s.1)]) (fun s=>ie w.heap.size bx sp im dm ⟨tv',fv,v2,v3,s.2.1,ev⟩ m.types.length tc (X4 m s.1) ig s.2.2++[.aH b ([Value.slice p0 m.types.length c0,Value.slice p1 m.imports.length c1,Value.slice p2 m.funcs.length c2,Value.slice p3 m.tables.length c3,Value.slice p4 m.bU.length c4,Value.slice p5 m.globals.length c5,Value.slice p6 m.aG.length c6,Value.bool m.aJ,Value.int .i64 m.start,Value.slice p7 m.elems.length c7,Value.slice p8 m.aW.length c8,v9]:List Value) jD]) (fun s=>[jg w.heap.size tc (m.types.take m.types.length),Ext w]) (fun s=>s.1≤m.globals.length∧wY s.2.2 (d4 m s.1)) (fun s=>m.globals.length - s.1) (0,gv,fun _=>none) bP (by unfold ie;dsimp only;simp only[List.cons_append,List.nil_append,e4,e5,e6];exact kO) aX ⟨by dsimp only;omega,fun k=>by simp[d4]⟩ ?_
    rintro⟨i,gv4,dg⟩ ⟨hi,hdec⟩
    dsimp only at hi hdec ⊢
    unfold ie
    simp only[List.cons_append,List.nil_append]
    by_cases hlt:i<m.globals.length
    ·obtain⟨b1,o1,rfl,hF,cs5,⟨u0,rfl,q0,q2⟩,hc5⟩:=r5.el hlt
     obtain⟨x2,y2,rfl,z2⟩:=q0.slice
     have e7:(X4 m (i+1)).globals=(X4 m i).globals++[(ix m.globals i).eZ]:=by simp[X4,bu hlt]
     have l7:(X4 m i).globals.length≤3000:=by simp[X4];omega
     have d7:kQ (d4 m i) (ix m.globals i).sy=d4 m (i+1):=by
      funext k;unfold kQ d4;rw[bu hlt,List.any_append];simp
     refine dr ?_
     refine EQ ?_
     refine aa.alloc [Value.int .i64 0,Value.bool false,Value.slice none 0 0] rfl rfl rfl fun b13=>?_
     refine dr ?_
     refine aP.cq [0,1,2,3,4,5,6,7,8,9,10] 11 [.aH b13 _ DA,.aH bx [.pointer (some ⟨sp,0,none⟩)] lK,.aH sp [tv',fv,v2,v3,gv4,ev,.int .i64 (X4 m i).aW,.map (some im),.map (some dm)] rW] [] FT bN aX ?_
     refine jA ?_
     refine EA ?_
     intro b3 _
     refine ER ?_
     intro v4 _
     refine jA ?_
     refine aM.pure (φ:=v4.oneCell'=true) (fun w' hw'=>fN (hw'.own (v:=v4))) fun hone=>?_
     refine EP ?_
     rintro⟨⟩ _
     refine dr ?_
     refine aa.sub (E':=[(1,.pointer (some ⟨b,0,none⟩)),(3,.pointer (some ⟨bx,0,none⟩)),(11,.func (.func 25) #[] #[.pointer (some ⟨bx,0,none⟩)]),(116,.func (.func 25) #[] #[.pointer (some ⟨bx,0,none⟩)]),(118,.slice x2 (ix m.globals i).sy.length y2),(99,.slice (some ⟨b1,o1,none⟩) m.globals.length c5),(100,.int .i64 m.globals.length),(101,.int .i64 i)]) bP (M':=(ie w.heap.size bx sp im dm ⟨tv',fv,v2,v3,v4,ev⟩ m.types.length tc (X4 m (i+1)) ig dg++[.aH b ([Value.slice p0 m.types.length c0,Value.slice p1 m.imports.length c1,Value.slice p2 m.funcs.length c2,Value.slice p3 m.tables.length c3,Value.slice p4 m.bU.length c4,Value.slice (some ⟨b1,o1,none⟩) m.globals.length c5,Value.slice p6 m.aG.length c6,Value.bool m.aJ,Value.int .i64 m.start,Value.slice p7 m.elems.length c7,Value.slice p8 m.aW.length c8,v9]:List Value) jD])) (R':=[jg w.heap.size tc (m.types.take m.types.length),Ext w]) (by unfold ie;simp only[List.cons_append,List.nil_append,e7];exact kO) aX ?_
     refine aa.he (HE.qJ (B:=w.heap.size) (R':=[Ext w]) rfl rfl rfl (List.Perm.refl _) aX (fun w' hw' _=>oW F w.heap.size bx sp im dm _ m.types.length tc _ ig dg (d4 m i) (ix m.globals i).sy _ w w' hw' q0 hdec) wI) rfl ?_
     intro dg' hdec'
     rw[d7]at hdec'
     refine dr ?_
     refine ai.next (i+1,v4,dg') bP ?_ aX ⟨by dsimp only;omega,hdec'⟩ FP
     unfold ie;simp only[List.cons_append,List.nil_append];exact kO
    ·obtain rfl:i=m.globals.length:=by omega
     refine dr ?_
     have e8:(X5 m 0).elems=(X4 m m.globals.length).elems:=by simp only[X5,List.take_zero,List.map_nil,List.append_nil];rfl
     refine aP.loop (σ:=Nat×Value×(Int→Option Value)) (fun s=>[(1,.pointer (some ⟨b,0,none⟩)),(3,.pointer (some ⟨bx,0,none⟩)),(11,.func (.func 25) #[] #[.pointer (some ⟨bx,0,none⟩)]),(122,.slice p7 m.elems.length c7),(123,.int .i64 m.elems.length),(124,.int .i64 s.1)]) (fun s=>ie w.heap.size bx sp im dm ⟨tv',fv,v2,v3,gv4,s.2.1⟩ m.types.length tc (X5 m s.1) ig s.2.2++[.aH b ([Value.slice p0 m.types.length c0,Value.slice p1 m.imports.length c1,Value.slice p2 m.funcs.length c2,Value.slice p3 m.tables.length c3,Value.slice p4 m.bU.length c4,Value.slice p5 m.globals.length c5,Value.slice p6 m.aG.length c6,Value.bool m.aJ,Value.int .i64 m.start,Value.slice p7 m.elems.length c7,Value.slice p8 m.aW.length c8,v9]:List Value) jD]) (fun s=>[jg w.heap.size tc (m.types.take m.types.length),Ext w]) (fun s=>s.1≤m.elems.length∧wY s.2.2 (d5 m s.1 0)) (fun s=>m.elems.length - s.1) (0,ev,dg) bP (by unfold ie;dsimp only;simp only[List.cons_append,List.nil_append,e8];exact kO) aX ⟨by dsimp only;omega,fun k=>by rw[hdec k];simp[d5]⟩ ?_
     rintro⟨i,ev5,dg⟩ ⟨hi,hdec⟩
     dsimp only at hi hdec ⊢
     unfold ie
     simp only[List.cons_append,List.nil_append]
     by_cases hlt:i<m.elems.length
     ·obtain⟨b1,o1,rfl,hF,cs5,⟨u0,u1,rfl,q0,q1,q2⟩,hc5⟩:=r7.el hlt
      obtain⟨x2,y2,rfl,z2⟩:=q0.slice
      obtain⟨x4,y4,rfl,z4⟩:=q1.slice
      have e9:(X5 m (i+1)).elems=(X5 m i).elems++[(ix m.elems i).eZ]:=by simp[X5,bu hlt]
      have l9:(X5 m i).elems.length≤3000:=by simp[X5];omega
      refine dr ?_
      refine EQ ?_
      refine aa.alloc [Value.int .i64 0,Value.int .i64 0,Value.slice none 0 0,Value.int .i64 0,Value.slice none 0 0] rfl rfl rfl fun b15=>?_
      refine dr ?_
      refine aP.cq [0,1,2,3,4,5,6,7,8,9,10] 11 [.aH b15 _ Dz,.aH bx [.pointer (some ⟨sp,0,none⟩)] lK,.aH sp [tv',fv,v2,v3,gv4,ev5,.int .i64 (X5 m i).aW,.map (some im),.map (some dm)] rW] [] FT bN aX ?_
      refine jA ?_
      refine EA ?_
      intro b3 _
      refine ER ?_
      intro v5 _
      refine jA ?_
      refine aM.pure (φ:=v5.oneCell'=true) (fun w' hw'=>fN (hw'.own (v:=v5))) fun hone=>?_
      refine EP ?_
      rintro⟨⟩ _
      refine dr ?_
      refine aP.loop (σ:=Nat×(Int→Option Value)) (fun s=>[(1,.pointer (some ⟨b,0,none⟩)),(3,.pointer (some ⟨bx,0,none⟩)),(11,.func (.func 25) #[] #[.pointer (some ⟨bx,0,none⟩)]),(122,.slice (some ⟨b1,o1,none⟩) m.elems.length c7),(123,.int .i64 m.elems.length),(124,.int .i64 i),(140,.slice x4 (ix m.elems i).items.length y4),(141,.int .i64 (ix m.elems i).items.length),(142,.int .i64 s.1)]) (fun s=>ie w.heap.size bx sp im dm ⟨tv',fv,v2,v3,gv4,v5⟩ m.types.length tc (X5 m (i+1)) ig s.2++[.aH b ([Value.slice p0 m.types.length c0,Value.slice p1 m.imports.length c1,Value.slice p2 m.funcs.length c2,Value.slice p3 m.tables.length c3,Value.slice p4 m.bU.length c4,Value.slice p5 m.globals.length c5,Value.slice p6 m.aG.length c6,Value.bool m.aJ,Value.int .i64 m.start,Value.slice (some ⟨b1,o1,none⟩) m.elems.length c7,Value.slice p8 m.aW.length c8,v9]:List Value) jD]) (fun s=>[jg w.heap.size tc (m.types.take m.types.length),Ext w]) (fun s=>s.1≤(ix m.elems i).items.length∧wY s.2 (d5 m i s.1)) (fun s=>(ix m.elems i).items.length - s.1) (0,dg) bP (by unfold ie;dsimp only;simp only[List.cons_append,List.nil_append,e9];exact kO) aX ⟨by dsimp only;omega,hdec⟩ ?_
      rintro⟨j,dg6⟩ ⟨hj,hdec6⟩
      dsimp only at hj hdec6 ⊢
      by_cases hjl:j<(ix m.elems i).items.length
      ·obtain⟨b7,o7,rfl,-,u7,c7_,hu7⟩:=q1.el hjl
       rw[Nat.mul_one]at c7_
       obtain⟨x8,y8,rfl,-⟩:=hu7.slice
       have d8:kQ (d5 m i j) (ix (ix m.elems i).items j)=d5 m i (j+1):=by
        funext k;unfold kQ d5;rw[bu hjl,List.any_append,Bool.or_assoc];simp
       refine dr ?_
       refine aa.he (HE.qJ (B:=w.heap.size) (R':=[Ext w]) rfl rfl rfl (List.Perm.refl _) aX (fun w' hw' _=>oW F w.heap.size bx sp im dm _ m.types.length tc _ ig dg6 (d5 m i j) (ix (ix m.elems i).items j) _ w w' hw' hu7 hdec6) wI) rfl ?_
       intro dg' hdec'
       rw[d8]at hdec'
       refine dr ?_
       exact ai.next (j+1,dg') bP FB aX ⟨by dsimp only;omega,hdec'⟩ FP
      ·obtain rfl:j=(ix m.elems i).items.length:=by omega
       have d9:d5 m i (ix m.elems i).items.length=d5 m (i+1) 0:=by
        funext k;unfold d5;rw[List.take_length,bu hlt,List.any_append];simp[Bool.or_assoc]
       rw[d9]at hdec6
       refine dr ?_
       exact ai.next (i+1,v5,dg6) bP (by unfold ie;dsimp only;simp only[List.cons_append,List.nil_append];exact kO) aX ⟨by dsimp only;omega,hdec6⟩ FP
     ·obtain rfl:i=m.elems.length:=by omega
      refine dr ?_
      refine aP.loop (σ:=Nat×(Int→Option Value)) (fun s=>[(1,.pointer (some ⟨b,0,none⟩)),(3,.pointer (some ⟨bx,0,none⟩)),(11,.func (.func 25) #[] #[.pointer (some ⟨bx,0,none⟩)]),(152,.slice p6 m.aG.length c6),(153,.int .i64 m.aG.length),(154,.int .i64 s.1)]) (fun s=>ie w.heap.size bx sp im dm ⟨tv',fv,v2,v3,gv4,ev5⟩ m.types.length tc (X5 m m.elems.length) ig s.2++[.aH b ([Value.slice p0 m.types.length c0,Value.slice p1 m.imports.length c1,Value.slice p2 m.funcs.length c2,Value.slice p3 m.tables.length c3,Value.slice p4 m.bU.length c4,Value.slice p5 m.globals.length c5,Value.slice p6 m.aG.length c6,Value.bool m.aJ,Value.int .i64 m.start,Value.slice p7 m.elems.length c7,Value.slice p8 m.aW.length c8,v9]:List Value) jD]) (fun s=>[jg w.heap.size tc (m.types.take m.types.length),Ext w]) (fun s=>s.1≤m.aG.length∧wY s.2 (d6 m s.1)) (fun s=>m.aG.length - s.1) (0,dg) bP (by unfold ie;dsimp only;simp only[List.cons_append,List.nil_append];exact kO) aX ⟨by dsimp only;omega,fun k=>by rw[hdec k];simp[d5,d6]⟩ ?_
      rintro⟨i,dg⟩ ⟨hi,hdec⟩
      dsimp only at hi hdec ⊢
      unfold ie
      simp only[List.cons_append,List.nil_append]
      by_cases hlt:i<m.aG.length
      ·obtain⟨b1,o1,rfl,hF,he⟩:=r6.el hlt
       have hri:=he.qO
       obtain⟨cs9,hV9,hc9⟩:=he
       obtain⟨rfl,-⟩:=hV9
       have hnx:∀k,d6 m (i+1) k=(d6 m i k || (decide ((ix m.aG i).kind=0) && decide ((ix m.aG i).index=k))):=fun k=>by
        unfold d6;rw[bu hlt,List.any_append];simp[Bool.or_assoc]
       refine dr ?_
       refine aa.y_ (Yl.gC rfl rfl rfl ao F0 F0 hc9) rfl ?_
       refine aa.alloc [Value.string ⟨#[]⟩,Value.int .i64 0,Value.int .i64 0] rfl rfl rfl fun b19=>?_
       refine dr ?_
       by_cases hk0:(ix m.aG i).kind=0
       ·refine dr ?_
        refine aP.cq [0,1,2,3,4,5] 6 [.aH b19 _ BZ,.aH bx [.pointer (some ⟨sp,0,none⟩)] lK,.aH sp [tv',fv,v2,v3,gv4,ev5,.int .i64 (X5 m m.elems.length).aW,.map (some im),.map (some dm)] rW] [] FT bN aX ?_
        refine jA ?_
        refine aM.gR (gI.mapUpdate Tryz.underlying82 Tryz.underlying3 rfl rfl rfl hri bM) rfl ?_
        rintro⟨⟩ _
        refine dr ?_
        refine ai.next (i+1,put dg (ix m.aG i).index (.bool true)) bP (by dsimp only;exact kO) aX ⟨by dsimp only;omega,fun k=>?_⟩ FP
        dsimp only
        rw[hdec.put _ k,hnx k];simp[hk0]
       ·refine dr ?_
        refine ai.next (i+1,dg) bP (by dsimp only;exact kO) aX ⟨by dsimp only;omega,fun k=>?_⟩ FP
        dsimp only
        rw[hdec k,hnx k];simp[hk0]
      ·obtain rfl:i=m.aG.length:=by omega
       refine dr ?_
       refine aa.box [Value.pointer (some ⟨sp,0,none⟩)] rfl rfl rfl fun bS=>?_
       refine dr ?_
       refine ai.aA rfl rfl fun w' hw'=>?_
       have hbig:∀k,Mb _ k→k<w.heap.size→False:=hw'.origin (S:=fun _=>False) (w0:=w) ao
       have hx:Ext w w':=hw'.at
       have hty:jg w.heap.size tc (m.types.take m.types.length) w':=hw'.at
       rw[List.take_length]at hty
       have o1:=hw'.own (v:=fv)
       have o2:=hw'.own (v:=v2)
       have o3:=hw'.own (v:=v3)
       have o4:=hw'.own (v:=gv4)
       have o5:=hw'.own (v:=ev5)
       have o6:=hw'.own (v:=tv')
       have hge:∀q:aU,q∈_→∀k,q.F k→w.heap.size≤k:=fun q hq k hk=>by
        rcases Nat.lt_or_ge k w.heap.size with h|h
        ·exact(hbig k ⟨q,hq,hk⟩ h).elim
        ·exact h
       refine⟨⟨_,rfl,bS,sp,im,dm,⟨tv',fv,v2,v3,gv4,ev5⟩,tc,ig,dg,rfl,⟨hge (.aH bS [.pointer (some ⟨sp,0,none⟩)] qz) gG bS rfl,hge (.aH sp [tv',fv,v2,v3,gv4,ev5,.int .i64 (X5 m m.elems.length).aW,.map (some im),.map (some dm)] rW) gG sp rfl,hge (.iv im ig) gG im rfl,hge (.iv dm dg) gG dm rfl⟩,⟨(hw'.m (.aH bS [.pointer (some ⟨sp,0,none⟩)] qz) gG).1,(hw'.m (.aH sp [tv',fv,v2,v3,gv4,ev5,.int .i64 (X5 m m.elems.length).aW,.map (some im),.map (some dm)] rW) gG).1,o1,o2,o3,o4,o5,o6,(hw'.m (.iv im ig) gG).1,(hw'.m (.iv dm dg) gG).1,hcnt,hdec,hty⟩⟩,hx⟩
end Go.Proofs.YtceedealggognaaGreatDoor
namespace Go.Proofs.YtceedealggognaaGreatDoor
def oe (m:ae) (k:Int):List cB:=m.imports.filter fun x=>decide (x.kind=k)
def jc (m:ae):List Int:=(oe m 0).map (·.func)++m.funcs.map (·.eZ)
def dz (m:ae):List dS:=(oe m 1).map (·.table)++m.tables
def ko (m:ae):List dt:=(oe m 2).map (·.mem)++m.bU
def hZ (m:ae):List eP:=(oe m 3).map (·.gk)++m.globals.map (·.eZ)
def hH (m:ae):List Int:=m.elems.map (·.eZ)
theorem vz (l:List cB) (X:lf):l.foldl lf.eW X={X with funcs:=X.funcs++(l.filter fun x=>decide (x.kind=0)).map (·.func),tables:=X.tables++(l.filter fun x=>decide (x.kind=1)).map (·.table),bU:=X.bU++(l.filter fun x=>decide (x.kind=2)).map (·.mem),globals:=X.globals++(l.filter fun x=>decide (x.kind=3)).map (·.gk)}:=by
 induction l generalizing X with
 |nil=>simp
 |cons a r ih=>
  rw[List.foldl_cons,ih]
  unfold lf.eW
  by_cases h0:a.kind=0
  ·simp[h0]
  by_cases h1:a.kind=1
  ·simp[h1]
  by_cases h2:a.kind=2
  ·simp[h2]
  by_cases h3:a.kind=3
  ·simp[h3]
  simp[h0,h1,h2,h3]
theorem lC (m:ae):pK m=⟨jc m,dz m,ko m,hZ m,hH m,m.aW.length⟩:=by
 unfold pK X5 X4 X3 X2 X1 tE
 rw[vz]
 simp[X0,jc,dz,ko,hZ,hH,oe]
def eE {α:Type} [Inhabited α] (l:List α) (i:Int):Option α:=if 0≤i∧i<l.length then some (ix l i.toNat)else none
end Go.Proofs.YtceedealggognaaGreatDoor
namespace Go.Proofs.YtceedealggognaaGreatDoor
set_option maxRecDepth 100000
def ir (op:Int):Int:=(mK op).2.2
def aI (n:Int):Bool:=decide (0≤n) && decide (n<4294967296)
def kg (t:Int):Bool:=decide (1≤t) && decide (t≤4)
def iY (k v i:Int):Bool:=if k=0 then decide (v=0) && decide (i=0)else if k=1 then kg v && decide (i=0)else decide (k=2) && (decide (v=0) && aI i)
def cW (x:bZ):Bool:=
 let k:=ir x.op
 let ab:=decide (x.a=0) && decide (x.b=0)
 if(gN x.op).isSome=false∨(k≠1∧¬(x.kind=0∧x.val=0∧x.index=0))∨(k≠3∧0<x.labels.length)∨(k≠6∧0<x.types.length)then false else
 if k=0 then ab && decide (x.n=0)else
 if k=1 then ab && decide (x.n=0) && iY x.kind x.val x.index else
 if k=3 then aI x.a && decide (x.b=0) && decide (x.n=0) && x.labels.all aI else
 if k=6 then ab && decide (x.n=0) && decide (x.types.length=1) && kg (ix x.types 0)else
 if k=2∨k=4∨k=7∨k=8∨k=9∨k=12∨k=16 then aI x.a && decide (x.b=0) && decide (x.n=0)else
 if k=5∨k=10∨k=11∨k=14∨k=15 then aI x.a && aI x.b && decide (x.n=0)else
 if k=13 then decide (x.a=0) && aI x.b && decide (x.n=0)else
 if k=17 then decide (0≤x.a) && decide (x.a≤63) && aI x.b && decide (x.n<4294967296)else
 if k=18 then ab && decide (x.n<4294967296)else
 if k=19 then ab else(decide (x.a=3) || decide (x.a=4)) && decide (x.b=0) && decide (x.n=0)
theorem xF:(zm.all fun r=>decide (0≤r.2.2) && decide (r.2.2≤20))=true:=by decide+kernel
theorem z7 (op:Int):0≤ir op∧ir op≤20:=by
 unfold ir mK
 cases h:gN op with
 |none=>exact⟨by decide,by decide⟩
 |some r=>
  have:=List.all_eq_true.1 xF r (List.mem_of_find?_eq_some h)
  simpa using this
theorem zi {op:Int} (h:ir op≠0):∃r∈zm,r.1=op∧r.2.2=ir op:=by
 unfold ir mK at*
 cases hf:gN op with
 |none=>rw[hf]at h;exact absurd rfl h
 |some r=>exact⟨r,List.mem_of_find?_eq_some hf,by have:=List.find?_some hf;simpa using this,rfl⟩
def uN (m:ae) (i:Int):Bool:=decide (0≤i) && decide (i<(jc m).length) && d6 m m.aG.length i
def jJ (m:ae) (i:Int):Option aC:=(eE (jc m) i).bind (eE m.types)
def gw:aC:=⟨[],[]⟩
def qB (op:Int):Int:=if fD op=2 then 1 else if fD op=4 then 2 else if fD op=8 then 3 else 0
def qC (op:Int):Bool:=decide (op=2) || decide (op=3) || decide (op=4) || decide (op=5) || decide (op=11) || decide (op=0) || decide (op=12) || decide (op=13) || decide (op=14) || decide (op=15) || decide (op=26) || decide (op=27) || decide (op=209)
end Go.Proofs.YtceedealggognaaGreatDoor
namespace Go.Proofs.YtceedealggognaaGreatDoor
open Go.RowKit
set_option maxRecDepth 100000
theorem bD (n:Int) (w:World):Calls G.P 128 #[.int .i64 n] w fun e w'=>e=.returned (.bool (aI n))∧Ext w w':=by
 refine aj (l:=[.int .i64 n]) Tryz.func128 rfl Tryz.ntmps128 rfl (Ok.start w) ?_
 repeat'(first|refine ay ?_|(refine aY ?_ ?_<;>intro hc_))
 all_goals exact ai.aA rfl rfl fun w' hw'=>⟨by simp_all [aI]<;>omega,hw'.at⟩
theorem oC (n:Int) (w:World):Calls G.P 130 #[.int .i64 n] w fun e w'=>e=.returned (.bool (kg n))∧Ext w w':=by
 refine aj (l:=[.int .i64 n]) Tryz.func130 rfl Tryz.ntmps130 rfl (Ok.start w) ?_
 repeat'(first|refine ay ?_|(refine aY ?_ ?_<;>intro hc_))
 all_goals exact ai.aA rfl rfl fun w' hw'=>⟨by simp_all [kg]<;>omega,hw'.at⟩
theorem oM (b:Bool) (p q:Int) (w:World):Calls G.P 142 #[.bool b,.int .i64 p,.int .i64 q] w fun e w'=>e=.returned (.int .i64 (if b=false then 11 else if p≠q then 12 else 0))∧Ext w w':=by
 refine aj (l:=[.bool b,.int .i64 p,.int .i64 q]) Tryz.func142 rfl Tryz.ntmps142 rfl (Ok.start w) ?_
 repeat'(first|refine ay ?_|(refine aY ?_ ?_<;>intro hc_))
 all_goals exact ai.aA rfl rfl fun w' hw'=>⟨by simp_all,hw'.at⟩
def xP (t:Int):Bool:=decide (t=1) || decide (t=2)
def mI (t:Int):Bool:=decide (t=3) || decide (t=4)
theorem zA (t:Int):(xP t || mI t)=kg t:=by
 unfold xP mI kg
 rw[Bool.eq_iff_iff]
 simp only[Bool.or_eq_true,Bool.and_eq_true,decide_eq_true_eq];omega
theorem wJ (n:Int) (w:World):Calls G.P 131 #[.int .i64 n] w fun e w'=>e=.returned (.bool (xP n))∧Ext w w':=by
 refine aj (l:=[.int .i64 n]) Tryz.func131 rfl Tryz.ntmps131 rfl (Ok.start w) ?_
 repeat'(first|refine ay ?_|(refine aY ?_ ?_<;>intro hc_))
 all_goals exact ai.aA rfl rfl fun w' hw'=>⟨by simp_all [xP]<;>omega,hw'.at⟩
theorem wK (n:Int) (w:World):Calls G.P 132 #[.int .i64 n] w fun e w'=>e=.returned (.bool (mI n))∧Ext w w':=by
 refine aj (l:=[.int .i64 n]) Tryz.func132 rfl Tryz.ntmps132 rfl (Ok.start w) ?_
 repeat'(first|refine ay ?_|(refine aY ?_ ?_<;>intro hc_))
 all_goals exact ai.aA rfl rfl fun w' hw'=>⟨by simp_all [mI]<;>omega,hw'.at⟩
theorem mg (n:Int) (w:World):Calls G.P 97 #[.int .i64 n] w fun e w'=>e=.returned (.bool (mI n))∧Ext w w':=by
 refine aj (l:=[.int .i64 n]) Tryz.func97 rfl Tryz.ntmps97 rfl (Ok.start w) ?_
 repeat'(first|refine ay ?_|(refine aY ?_ ?_<;>intro hc_))
 all_goals exact ai.aA rfl rfl fun w' hw'=>⟨by simp_all [mI]<;>omega,hw'.at⟩
attribute [local irreducible] xP mI
set_option maxHeartbeats 4000000 in
theorem qv (n:Int) (w:World):Calls G.P 84 #[.int .i64 n] w fun e w'=>e=.returned (.bool (kg n))∧Ext w w':=by
 refine aj (l:=[.int .i64 n]) Tryz.func84 rfl Tryz.ntmps84 rfl (Ok.start w) ?_
 repeat'(first|refine ay ?_|(refine aa.az rfl rfl rfl (fun w' _=>wJ n w') ?_)|(refine aa.dV (by first|rfl|exact vG rfl de|exact vF rfl de) rfl rfl rfl (fun w' _=>wK n w') ?_)|(refine aY ?_ ?_<;>intro hc_))
 all_goals exact ai.aA rfl rfl fun w' hw'=>⟨by rw[←zA];simp_all,hw'.at⟩
end Go.Proofs.YtceedealggognaaGreatDoor
namespace Go.Proofs.YtceedealggognaaGreatDoor
open Go.RowKit
set_option maxRecDepth 100000
section
variable {ops:Array Oper} {Q:Exit→Act→World→Prop} {n:Nat} {E:Env} {M M':List aU} {R R':List (World→Prop)} {v:Value} {x y z:Operand} {t t2:TypeId} {C:World→Prop}
theorem Yl.lz {ti:TypeId} {ad:Addr} (ht:G.P.underlying t=some (.pointer ti)) (hx:ev E x=some (.pointer (some ad))) (hy:ev E y=some (.pointer none)):Yl G n (.binOp .eql t x y t2) E C (.bool false):=
 ⟨fun w _ a ha d ty pos aft gd=>by
  have h2:∀m,(Op.equalIn (m+1) t (.pointer (some ad)) (.pointer none)).run G.P w=.ok false w:=by
   intro m;simp[Op.equalIn,run_underlying ht]
  have h3:(Op.equal t (.pointer (some ad)) (.pointer none)).run G.P w=.ok false w:=h2 9999
  simp[execOp,ha.eval hx,ha.eval hy,eqGuard,binOp,h3]⟩
theorem Yl.yZ {k e:TypeId} {zv:Value} {bm:Nat} {g:Int→Option Value} {a:Int} {w0:World} (ht:G.P.underlying t=some (.map k e)) (hk:G.P.underlying k=some (.int .i64)) (hzv:∀w,(zeroValue e).run G.P w=.ok zv w) (hx:ev E x=some (.map (some bm))) (hy:ev E y=some (.int .i64 a)) (ha:gJ a)
  (hM:IV w0 bm g) (hR:Ext w0∈R):Yl G n (.lookup t x y false) E (Ok M R) ((g a).getD zv):=
 ⟨fun w hw ac hac d ty pos aft gd=>by
  have:=qg (t:=t) ht hk hzv (hM.aB (show Ext w0 w from hw.get hR) (fun h=>h)) (tz ha)
  simp[execOp,hac.eval hx,hac.eval hy,this]⟩
end
theorem iR (bS sp:Nat) (w:World) (hb:eA w bS [.pointer (some ⟨sp,0,none⟩)] qz):Calls G.P 81 #[.pointer (some ⟨bS,0,none⟩)] w fun e w'=>e=.returned (.pointer (some ⟨sp,0,none⟩))∧Ext w w':=by
 have c0:w.cell? ⟨bS,0,none⟩=some (.pointer (some ⟨sp,0,none⟩)):=hb.cell rfl
 refine aj (l:=[.pointer (some ⟨bS,0,none⟩)]) Tryz.func81 rfl Tryz.ntmps81 rfl (Ok.start w) ?_
 refine dr ?_
 refine aa.y_ (Yl.lz Tryz.underlying39 rfl rfl) rfl ?_
 refine dr ?_
 refine aa.yg rfl (Yl.lz Tryz.underlying80 rfl rfl) rfl ?_
 refine dr ?_
 exact bi
end Go.Proofs.YtceedealggognaaGreatDoor
namespace Go.Proofs.YtceedealggognaaGreatDoor
open Go.RowKit
set_option maxRecDepth 100000
def Aj {β:Type} (V:(Nat→Prop)→World→β→Prop):Prop:=∀{D S:Nat→Prop} {x:β} {w w':World},V D w x→bz S w w'→(∀k,k<w.heap.size→D k→¬S k)→V D w' x
def eU {β:Type} (V:(Nat→Prop)→World→β→Prop) (tf:β→Value) (F:Nat→Prop) (w:World) (e:Ending) (w':World):Prop:=(∃x,e=.returned (tf x)∧V (fun k=>F k∨w.heap.size≤k) w' x)∧Ext w w'
section
variable {ops:Array Oper} {Q:Exit→Act→World→Prop} {n:Nat} {E:Env} {M M':List aU} {R R':List (World→Prop)} {v:Value} {x y z:Operand} {t t2:TypeId} {C:World→Prop}
theorem HE.uL {β:Type} {V:(Nat→Prop)→World→β→Prop} {tf:β→Value} {F:Nat→Prop} {w0:World} {f:Nat} {args:List Operand} {tys:Array TypeId} {vs:List Value} (hV:Aj V) (hR:Ext w0∈R) (hF:∀k,F k→k<w0.heap.size) (hf:G.fb[f]?=some true) (ha:ji E args=some vs)
  (hc:∀w,Ok M R w→Calls G.P f vs.toArray w (eU V tf F w)):
  HE n (.call ⟨.value (.func f),args.toArray,tys⟩) E M R (fun x:(Nat→Prop)×β=>∀k,x.1 k→F k∨w0.heap.size≤k) (fun x=>tf x.2) (fun _=>M) (fun x=>(fun w=>V x.1 w x.2)::R):=
 ⟨fun w hw=>(bC.call hf ha (hc w hw) (fun e w' h=>by obtain⟨⟨x,e1,_⟩,_⟩:=h;exact⟨_,e1⟩)).mono fun v w' ⟨⟨x,e1,hv⟩,hx⟩=>by
  cases e1
  refine⟨(fun k=>F k∨w.heap.size≤k,x),?_,rfl,(hw.ext hx).add fun w2 h2=>hV hv h2 fun k hk1 hk hm=>?_⟩
  ·rintro k (h|h)
   ·exact .inl h
   ·exact .inr (Nat.le_trans (show Ext w0 w from hw.get hR).size h)
  ·rcases hk with hk|hk
   ·exact hw.origin (S:=fun _=>False) hR k hm (hF k hk)
   ·obtain⟨q,hq,hk'⟩:=hm
    have:=(hw.m q hq).2 k hk';omega⟩
theorem aq.tw {β:Type} {w w':World} {tf:β→Value} {φ:β→Prop} {M1:β→List aU} (x:β) (hφ:φ x) (h:Ok M R w') (hM:(M1 x).Sublist M) (hR:Ext w∈R):aq [] w tf φ M1 (.returned (tf x)) w':=
 ⟨x,rfl,hφ,h.sub hM (fun p hp=>absurd hp FZ),(show Ext w w' from h.get hR).mono (fun _ _ h=>h.elim),fun k ⟨q,hq,hk⟩ hlt=>(h.origin (S:=fun _=>False) hR k ⟨q,hM.subset hq,hk⟩ hlt).elim⟩
theorem iQ {P:Program} {xs ys:List Int} (d:Nat) (w:World) (hl:xs.length=ys.length):∀fs:List Field,(∀f∈fs,f.name≠ "_" ∧P.underlying f.type=some (.int .i64)∧f.offset<xs.length)→(Op.eqFields (d+1) (xs.map (Value.int .i64)).toArray (ys.map (Value.int .i64)).toArray fs).run P w=.ok (fs.all fun f=>decide (ix xs f.offset=ix ys f.offset)) w
 |[],_=>by simp[Op.eqFields]
 |f::fs,h=>by
  obtain⟨h0,h1,h2⟩:=h f FZ
  have ih:=iQ d w hl fs fun g hg=>h g (by simp[hg])
  have hg:(isAgg f.type).run P w=.ok false w:=by simp[isAgg,run_underlying h1]
  have hp:∀zs:List Int,f.offset<zs.length→(part f.type (zs.map (Value.int .i64)).toArray f.offset).run P w=.ok (.int .i64 (ix zs f.offset)) w:=by
   intro zs hz
   have h2':(zs.map (Value.int .i64)).toArray[f.offset]?=some (Value.int .i64 (ix zs f.offset)):=by simp[cI hz,hz]
   simp only[part,Sem.run_bind,hg,Result.andThen_ok,Bool.false_eq_true,if_false]
   rw[h2'];simp
  have he:(Op.equalIn (d+1) f.type (.int .i64 (ix xs f.offset)) (.int .i64 (ix ys f.offset))).run P w=.ok (ix xs f.offset==ix ys f.offset) w:=by simp[Op.equalIn,run_underlying h1]
  simp only[Op.eqFields,h0,ne_eq,not_false_eq_true,if_true,Sem.run_bind,hp xs h2,hp ys (hl ▸ h2),Result.andThen_ok,he,Sem.run_ite,List.all_cons]
  by_cases e:ix xs f.offset=ix ys f.offset
  ·simp[e];simpa using ih
  ·simp[e]
theorem kv {xs ys:List Int} (w:World) (hl:xs.length=ys.length) (ht:G.P.underlying t=some (.struct (G.P.fieldsOf t))) (hp:G.P.stoodInHeld t=false)
  (hf:∀f∈(G.P.fieldsOf t).toList,f.name≠ "_" ∧G.P.underlying f.type=some (.int .i64)∧f.offset<xs.length) (ho:((G.P.fieldsOf t).toList.map fun f=>f.offset)=List.range xs.length):(Op.equal t (.agg (xs.map (Value.int .i64)).toArray) (.agg (ys.map (Value.int .i64)).toArray)).run G.P w=.ok (decide (xs=ys)) w:=by
 show(Op.equalIn (9999+1) t _ _).run G.P w=_
 rw[run_equalIn_struct w 9999 t _ _ ht hp,iQ 9998 w hl _ hf]
 congr 1
 have e:((G.P.fieldsOf t).toList.all fun f=>decide (ix xs f.offset=ix ys f.offset))=(((G.P.fieldsOf t).toList.map fun f=>f.offset).all fun o=>decide (ix xs o=ix ys o)):=by rw[List.all_map];rfl
 rw[e,ho,Bool.eq_iff_iff]
 simp only[List.all_eq_true,List.mem_range,decide_eq_true_eq]
 constructor
 ·intro h
  refine List.ext_getElem hl fun i h1 h2=>?_
  have:=h i h1
  rw[cI h1,cI h2]at this;exact this
 ·rintro rfl i _;rfl
theorem Yl.DG (xs ys:List Int) (hx:ev E x=some (.agg (xs.map (Value.int .i64)).toArray)) (hy:ev E y=some (.agg (ys.map (Value.int .i64)).toArray)) (hl:xs.length=ys.length) (ht:G.P.underlying t=some (.struct (G.P.fieldsOf t))) (hp:G.P.stoodInHeld t=false) (hg:G.P.eqGuardType G.P.depth t=false)
  (hf:∀f∈(G.P.fieldsOf t).toList,f.name≠ "_" ∧G.P.underlying f.type=some (.int .i64)∧f.offset<xs.length) (ho:((G.P.fieldsOf t).toList.map fun f=>f.offset)=List.range xs.length):Yl G n (.binOp .eql t x y t2) E C (.bool (decide (xs=ys))):=
 ⟨fun w _ a ha d ty pos aft gd=>by
  have h4:∀b c:Operand,(eqGuard .eql t b c (.agg (xs.map (Value.int .i64)).toArray) (.agg (ys.map (Value.int .i64)).toArray)).run G.P w=.ok () w:=by
   intro b c;simp[eqGuard,hg,run_program]
  simp[execOp,ha.eval hx,ha.eval hy,h4,binOp,kv w hl ht hp hf ho]⟩
theorem Yl.Cu (xs ys:List Int) (hx:ev E x=some (.agg (xs.map (Value.int .i64)).toArray)) (hy:ev E y=some (.agg (ys.map (Value.int .i64)).toArray)) (hl:xs.length=ys.length) (ht:G.P.underlying t=some (.struct (G.P.fieldsOf t))) (hp:G.P.stoodInHeld t=false) (hg:G.P.eqGuardType G.P.depth t=false)
  (hf:∀f∈(G.P.fieldsOf t).toList,f.name≠ "_" ∧G.P.underlying f.type=some (.int .i64)∧f.offset<xs.length) (ho:((G.P.fieldsOf t).toList.map fun f=>f.offset)=List.range xs.length):Yl G n (.binOp .neq t x y t2) E C (.bool (decide (xs≠ys))):=
 ⟨fun w _ a ha d ty pos aft gd=>by
  have h4:∀b c:Operand,(eqGuard .neq t b c (.agg (xs.map (Value.int .i64)).toArray) (.agg (ys.map (Value.int .i64)).toArray)).run G.P w=.ok () w:=by
   intro b c;simp[eqGuard,hg,run_program]
  simp[execOp,ha.eval hx,ha.eval hy,h4,binOp,kv w hl ht hp hf ho]⟩
end
def eO (f:aC) (D:Nat→Prop) (w:World) (x:Value×Value):Prop:=af D w x.1 f.params∧af D w x.2 f.results
theorem eO.fr (f:aC):Aj (eO f):=fun h hc hd=>⟨h.1.aB hc hd,h.2.aB hc hd⟩
theorem eO.mono {f:aC} {D H:Nat→Prop} {w:World} {x:Value×Value} (h:eO f D w x) (hd:∀k,D k→H k):eO f H w x:=⟨h.1.mono fun k _=>hd k,h.2.mono fun k _=>hd k⟩
theorem eO.nil (D:Nat→Prop) (w:World):eO gw D w (.slice none 0 0,.slice none 0 0):=⟨af.eB _ _,af.eB _ _⟩
end Go.Proofs.YtceedealggognaaGreatDoor
namespace Go.Proofs.YtceedealggognaaGreatDoor
open Go.RowKit
set_option maxRecDepth 100000
def nK (op:Int):Int:=
 if op=37∨op=38∨op=64528∨op=64527∨op=64529 then 9 else if op=64526 then 10 else if op=64524 then 11 else if op=64525 then 12 else
 if op=63∨op=64∨op=64523 then 13 else if op=64522 then 14 else if op=64520 then 15 else if op=64521 then 16 else 0
def lU (op:Int):Int:=
 if op=2∨op=3∨op=4 then 1 else if op=12∨op=13 then 2 else if op=14 then 3 else if op=16∨op=210 then 4 else if op=17 then 5 else if op=28 then 6 else
 if op=32∨op=33∨op=34 then 7 else if op=35∨op=36 then 8 else if op=65 then 18 else if op=66 then 19 else if op=208 then 20 else if 0<fD op then 17 else nK op
def tU:List Int:=[2,3,4,12,13,14,16,210,17,28,32,33,34,35,36,65,66,208,37,38,64528,64527,64529,64526,64524,64525,63,64,64523,64522,64520,64521]
theorem AP:(zm.all fun r=>decide (lU r.1=r.2.2))=true:=by decide+kernel
theorem vZ:(tU.all fun c=>(gN c).isSome)=true:=by decide+kernel
theorem AO (op:Int):lU op=ir op:=by
 cases h:gN op with
 |some r=>
  have:=List.all_eq_true.1 AP r (List.mem_of_find?_eq_some h)
  have e:r.1=op:=by have:=List.find?_some h;simpa using this
  rw[e]at this
  rw[of_decide_eq_true this]
  unfold ir mK;rw[h];rfl
 |none=>
  have hne:∀c∈tU,op≠c:=by
   rintro c hc rfl
   have:=List.all_eq_true.1 vZ _ hc
   rw[h]at this;cases this
  have hw:fD op=0:=by rw[tm];unfold gL mK;rw[h];rfl
  have e:ir op=0:=by unfold ir mK;rw[h];rfl
  rw[e]
  simp only[tU,List.mem_cons,List.not_mem_nil,or_false,forall_eq_or_imp,forall_eq]at hne
  unfold lU nK
  simp[hne,hw]
set_option maxHeartbeats 8000000 in
theorem pC (op:Int) (w:World):Calls G.P 137 #[.int .i64 op] w fun e w'=>e=.returned (.int .i64 (nK op))∧Ext w w':=by
 refine aj (l:=[.int .i64 op]) Tryz.func137 rfl Tryz.ntmps137 rfl (Ok.start w) ?_
 repeat'(first|refine tk ?_|(refine kP ?_ ?_<;>(intro hc_;try subst hc_)))
 all_goals first|exact ai.aA rfl rfl fun w' hw'=>⟨rfl,hw'.at⟩|exact ai.aA rfl rfl fun w' hw'=>⟨by unfold nK;simp only[*,if_false,or_false],hw'.at⟩
set_option maxHeartbeats 8000000 in
theorem ez (op:Int) (w:World) (h0:dG w):Calls G.P 98 #[.int .i64 op] w fun e w'=>e=.returned (.int .i64 (ir op))∧Ext w w':=by
 rw[←AO]
 refine aj (l:=[.int .i64 op]) Tryz.func98 rfl Tryz.ntmps98 rfl (Ok.start w) ?_
 repeat'(first|refine tk ?_|(refine aa.ak (f:=136) ?_;refine aa.az rfl rfl rfl (fun w' hw'=>lW _ w' (h0.ext hw'.at)) ?_)|(refine aa.ak (f:=137) ?_;refine aa.az rfl rfl rfl (fun w' hw'=>pC _ w') ?_)|(refine kP ?_ ?_<;>(intro hc_;try subst hc_)))
 all_goals first|exact ai.aA rfl rfl fun w' hw'=>⟨rfl,hw'.at⟩|exact ai.aA rfl rfl fun w' hw'=>⟨by unfold lU;simp only[*,if_true,if_false,or_false],hw'.at⟩
end Go.Proofs.YtceedealggognaaGreatDoor
namespace Go.Proofs.YtceedealggognaaGreatDoor
open Go.RowKit
set_option maxRecDepth 100000
structure aN (l:List Oper) (Q:Exit→Act→World→Prop) (Mc:List aU) (Rc:List (World→Prop)) (n fuel:Nat) (listed:Array Bool) (E:Env) (M:List aU) (R:List (World→Prop)):Prop where
 h:∀w,Ok M R w→Ok Mc Rc w→rK .any l.toArray listed→∀a,Ag n a E→jR G.P .any l.toArray (Ok Mc Rc) l.length (Q .normal) fuel listed a w
structure aK (l:List Oper) (Q:Exit→Act→World→Prop) (Mc:List aU) (Rc:List (World→Prop)) (n fuel:Nat) (listed:Array Bool) (i:Nat) (E:Env) (M:List aU) (R:List (World→Prop)):Prop where
 h:∀w,Ok M R w→Ok Mc Rc w→rK .any l.toArray listed→i∈Region.ready .any l.toArray listed→∀a,Ag n a E→pz G.P l.toArray (Ok Mc Rc) l.length i (jR G.P .any l.toArray (Ok Mc Rc) l.length (Q .normal) fuel (listed.setIfInBounds i true)) a w
section
variable {l:List Oper} {Q:Exit→Act→World→Prop} {Mc:List aU} {Rc:List (World→Prop)} {n fuel:Nat} {listed:Array Bool} {E:Env} {M:List aU} {R:List (World→Prop)} {d:Nat} {op:Op} {ty:TypeId} {pos:String} {aft:Array Edge} {v:Value} {β:Type} {φ:β→Prop} {vf:β→Value} {Mf:β→List aU} {Rf:β→List (World→Prop)}
theorem aP.du {id:Nat} (Mc:List aU) (Rc:List (World→Prop)) (hM:Mc.Sublist M) (hR:∀p,p∈Rc→p∈R) (h:aN l Q Mc Rc n l.length (Array.replicate l.length false) E M R):aP Q n (.region id l.toArray true) E M R:=
 ⟨fun w hw=>⟨fun a ha=>wp_region_any G.mixed (jU (C:=Ok Mc Rc) (z:=l.length) (K:=Q .normal) (fun _ _ h=>h) _ _ _ _ (by
  have:=h.h w.drew hw.drew (hw.drew.sub hM hR) (rK.start _) a ha
  simpa using this))⟩⟩
theorem aN.q (k:Nat) (hk:l[k]?=some ⟨some d,op,ty,pos,aft,none⟩) (hc:(Region.noSelect l.toArray && (Region.ready .any l.toArray listed).contains k && Region.free .any l.toArray listed k && lH op && Nat.blt d n)=true) (hy:Yl G n op E (Ok Mc Rc) v)
  (h:aN l Q Mc Rc n fuel (listed.setIfInBounds k true) ((d,v)::E) M R):aN l Q Mc Rc n (fuel+1) listed E M R:=⟨fun w hw hC hcl a ha=>by
 simp only[Bool.and_eq_true]at hc
 obtain⟨⟨⟨⟨h1,h2⟩,h3⟩,h4⟩,h5⟩:=hc
 have hkl:k<l.length:=(List.getElem?_eq_some_iff.1 hk).1
 have ho:l.toArray[k]?=some ⟨some d,op,ty,pos,aft,none⟩:=by simpa using hk
 have hkr:k∈Region.ready .any l.toArray listed:=by simpa using h2
 exact jS ho (Region.noSelect_spec h1) (fun _ _ _ _=>Cy) FY fuel listed a w hC hcl (Region.free_spec ho h3) hkr (.inl ⟨by simp[Region.wanted],fun w hw=>hy.h w hw a ha _ _ _ _ _⟩) (h.h w hw hC (hcl.set hkr) _ (ha.put (by simpa using h5) v))⟩
theorem aN.nil (hr:Region.ready .any l.toArray listed=[]) (h:ai Q n .normal E M R):aN l Q Mc Rc n fuel listed E M R:=⟨fun w hw hC hcl a ha=>by
 cases fuel with
 |zero=>exact⟨hr,(h.h w hw).h a ha⟩
 |succ f=>exact⟨fun _=>(h.h w hw).h a ha,fun i hi=>by rw[hr]at hi;cases hi⟩⟩
theorem aK.he {i:Nat} (hi:l[i]?=some ⟨some d,op,ty,pos,aft,none⟩) (hd:Nat.blt d n=true) (he:HE n op E M R φ vf Mf Rf) (hM:∀x,Mc.Sublist (Mf x)) (hR:∀x p,p∈Rc→p∈Rf x) (h:∀x,φ x→aN l Q Mc Rc n fuel (listed.setIfInBounds i true) ((d,vf x)::E) (Mf x) (Rf x)):aK l Q Mc Rc n fuel listed i E M R:=⟨fun w hw hC hcl hr a ha=>by
 have ho:l.toArray[i]?=some ⟨some d,op,ty,pos,aft,none⟩:=by simpa using hi
 unfold pz
 simp only[ho]
 have hw':Region.wanted ⟨some d,op,ty,pos,aft,none⟩ (yielded l.toArray a.tmps)=true:=by simp[Region.wanted]
 simp only[hw',if_true]
 exact bY ((he.h w hw).h a ha _ _ _ _ _) fun v w2 ⟨x,h1,h2,h3⟩=>by
  subst h2
  exact⟨.inr (h3.sub (hM x) (hR x)),(h x h1).h w2 h3 (h3.sub (hM x) (hR x)) (hcl.set hr) _ (ha.put (by simpa using hd) _)⟩⟩
theorem aK.nc {i:Nat} (hi:l[i]?=some ⟨none,op,ty,pos,aft,none⟩) (he:gI n op E M R φ Mf Rf) (hM:∀x,Mc.Sublist (Mf x)) (hR:∀x p,p∈Rc→p∈Rf x) (h:∀x,φ x→aN l Q Mc Rc n fuel (listed.setIfInBounds i true) E (Mf x) (Rf x)):aK l Q Mc Rc n fuel listed i E M R:=⟨fun w hw hC hcl hr a ha=>by
 have ho:l.toArray[i]?=some ⟨none,op,ty,pos,aft,none⟩:=by simpa using hi
 unfold pz
 simp only[ho]
 have hw':Region.wanted ⟨none,op,ty,pos,aft,none⟩ (yielded l.toArray a.tmps)=true:=by simp[Region.wanted]
 simp only[hw',if_true]
 exact bY ((he.h w hw).h a ha _ _ _ _ _) fun v w2 ⟨x,h1,h3⟩=>
  ⟨.inr (h3.sub (hM x) (hR x)),(h x h1).h w2 h3 (h3.sub (hM x) (hR x)) (hcl.set hr) _ ha⟩⟩
end
end Go.Proofs.YtceedealggognaaGreatDoor
