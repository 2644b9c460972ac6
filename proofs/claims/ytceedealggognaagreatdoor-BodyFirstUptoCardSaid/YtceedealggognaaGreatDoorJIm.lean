/- The reference's table of opcodes: ref05.rows, find, Known, Name, Of, All, within, Width. Printed by gen_b1.py. -/
import Derived.Test.YtceedealggognaaGreatDoorJW2
import Derived.Test.YtceedealggognaaGreatDoorJM2
import Derived.Test.YtceedealggognaaGreatDoorJN1
import Derived.Test.YtceedealggognaaGreatDoorJR7
import Derived.Test.YtceedealggognaaGreatDoorJN3
import Derived.Test.YtceedealggognaaGreatDoorJIn
namespace Go.Proofs.YtceedealggognaaGreatDoor
open Go.RowKit
set_option maxRecDepth 100000
abbrev rm:=Int×List UInt8×Int
def yv:List rm:=[(0,[117,110,114,101,97,99,104,97,98,108,101],0),(1,[110,111,112],0),(2,[98,108,111,99,107],1),(3,[108,111,111,112],1),(4,[105,102],1),(5,[101,108,115,101],0),(11,[101,110,100],0),(12,[98,114],2),(13,[98,114,95,105,102],2),(14,[98,114,95,116,97,98,108,101],3),(15,[114,101,116,117,114,110],0),(16,[99,97,108,108],4),(17,[99,97,108,108,95,105,110,100,105,114,101,99,116],5),(26,[100,114,111,112],0),(27,[115,101,108,101,99,116],0),(28,[115,101,108,101,99,116],6),(32,[108,111,99,97,108,46,103,101,116],7),(33,[108,111,99,97,108,46,115,101,116],7),(34,[108,111,99,97,108,46,116,101,101],7),(35,[103,108,111,98,97,108,46,103,101,116],8),(36,[103,108,111,98,97,108,46,115,101,116],8),(37,[116,97,98,108,101,46,103,101,116],9),(38,[116,97,98,108,101,46,115,101,116],9)]
def zP:List rm:=[(40,[105,51,50,46,108,111,97,100],17),(41,[105,54,52,46,108,111,97,100],17),(44,[105,51,50,46,108,111,97,100,56,95,115],17),(45,[105,51,50,46,108,111,97,100,56,95,117],17),(46,[105,51,50,46,108,111,97,100,49,54,95,115],17),(47,[105,51,50,46,108,111,97,100,49,54,95,117],17),(48,[105,54,52,46,108,111,97,100,56,95,115],17),(49,[105,54,52,46,108,111,97,100,56,95,117],17),(50,[105,54,52,46,108,111,97,100,49,54,95,115],17),(51,[105,54,52,46,108,111,97,100,49,54,95,117],17),(52,[105,54,52,46,108,111,97,100,51,50,95,115],17),(53,[105,54,52,46,108,111,97,100,51,50,95,117],17),(54,[105,51,50,46,115,116,111,114,101],17),(55,[105,54,52,46,115,116,111,114,101],17),(58,[105,51,50,46,115,116,111,114,101,56],17),(59,[105,51,50,46,115,116,111,114,101,49,54],17),(60,[105,54,52,46,115,116,111,114,101,56],17),(61,[105,54,52,46,115,116,111,114,101,49,54],17),(62,[105,54,52,46,115,116,111,114,101,51,50],17),(63,[109,101,109,111,114,121,46,115,105,122,101],13),(64,[109,101,109,111,114,121,46,103,114,111,119],13),(65,[105,51,50,46,99,111,110,115,116],18),(66,[105,54,52,46,99,111,110,115,116],19)]
def Di:List rm:=[(208,[114,101,102,46,110,117,108,108],20),(209,[114,101,102,46,105,115,95,110,117,108,108],0),(210,[114,101,102,46,102,117,110,99],4),(64520,[109,101,109,111,114,121,46,105,110,105,116],15),(64521,[100,97,116,97,46,100,114,111,112],16),(64522,[109,101,109,111,114,121,46,99,111,112,121],14),(64523,[109,101,109,111,114,121,46,102,105,108,108],13),(64524,[116,97,98,108,101,46,105,110,105,116],11),(64525,[101,108,101,109,46,100,114,111,112],12),(64526,[116,97,98,108,101,46,99,111,112,121],10),(64527,[116,97,98,108,101,46,103,114,111,119],9),(64528,[116,97,98,108,101,46,115,105,122,101],9),(64529,[116,97,98,108,101,46,102,105,108,108],9)]
def DA:List rm:=[(167,[105,51,50,46,119,114,97,112,95,105,54,52],0),(172,[105,54,52,46,101,120,116,101,110,100,95,105,51,50,95,115],0),(173,[105,54,52,46,101,120,116,101,110,100,95,105,51,50,95,117],0)]
def qH:List (List UInt8):=[[101,113,122],[101,113],[110,101],[108,116,95,115],[108,116,95,117],[103,116,95,115],[103,116,95,117],[108,101,95,115],[108,101,95,117],[103,101,95,115],[103,101,95,117]]
def Bf:List (List UInt8):=[[99,108,122],[99,116,122],[112,111,112,99,110,116],[97,100,100],[115,117,98],[109,117,108],[100,105,118,95,115],[100,105,118,95,117],[114,101,109,95,115],[114,101,109,95,117],[97,110,100],[111,114],[120,111,114],[115,104,108],[115,104,114,95,115],[115,104,114,95,117],[114,111,116,108],[114,111,116,114]]
def qW (f:Int) (t:List UInt8) (l:List (List UInt8)):List rm:=l.zipIdx.map fun p=>(f+p.2,t++[46]++p.1,0)
def Dk:List (List UInt8):=[[101,120,116,101,110,100,56,95,115],[101,120,116,101,110,100,49,54,95,115]]
def Dl:List (List UInt8):=[[101,120,116,101,110,100,56,95,115],[101,120,116,101,110,100,49,54,95,115],[101,120,116,101,110,100,51,50,95,115]]
def AA:List rm:=((((((((yv++zP)++qW 69 [105,51,50] qH)++qW 80 [105,54,52] qH)++qW 103 [105,51,50] Bf)++qW 121 [105,54,52] Bf)++DA)++qW 192 [105,51,50] Dk)++qW 194 [105,54,52] Dl)++Di
def gV (op:Int):Option rm:=AA.find? fun r=>decide (r.1=op)
def np (op:Int):rm:=(gV op).getD (0,[],0)
def EO (s p:List UInt8) (i:Nat):Bool:=(s.drop i).take p.length==p
def we (s p:List UInt8):Bool:=(List.range (s.length+1)).any fun i=>decide (i+p.length≤s.length) && EO s p i
def BI (s:List UInt8) (d e:List UInt8):Bool:=we s d || we s e
def gU (op:Int):Int:=
 if(np op).2.2≠17 then 0 else
 let s:=(np op).2.1
 if BI s [100,56] [101,56]=true then 1 else if BI s [100,49,54] [101,49,54]=true then 2 else if BI s [100,51,50] [101,51,50]=true then 4 else if((s.drop 1).take 2==[51,50])=true then 4 else 8
theorem tables:sL=AA.map fun r=>(r.1,⟨r.2.1.toArray⟩):=by decide+kernel
theorem qM (op:Int):∀l:List rm,iZ op (l.map fun r=>(r.1,⟨r.2.1.toArray⟩))=(l.find? fun r=>decide (r.1=op)).map fun r=>⟨r.2.1.toArray⟩
 |[]=>rfl
 |a::r=>by
  rw[List.map_cons,iZ,List.find?_cons]
  by_cases h:a.1=op
  ·simp[h]
  ·simp[h,qM op r]
theorem Ae (op:Int):iZ op sL=(gV op).map fun r=>⟨r.2.1.toArray⟩:=by rw[tables,qM];rfl
theorem Aq (op:Int):eM (eN op)=(np op).2.1:=by
 unfold eN np;rw[Ae]
 cases gV op<;>rfl
theorem xa:(AA.all fun r=>!(r.2.1==[]))=true:=by decide+kernel
theorem tI (op:Int):uQ op=(gV op).isSome:=by
 unfold uQ;rw[Aq];unfold np
 cases h:gV op with
 |none=>rfl
 |some r=>
  have:=List.all_eq_true.1 xa r (List.mem_of_find?_eq_some h)
  simpa using this
theorem xO:(AA.all fun r=>gU r.1==fO r.1)=true:=by decide+kernel
theorem uq (op:Int):fO op=gU op:=by
 cases h:gV op with
 |none=>
  have h1:=tI op
  rw[h]at h1
  have h2:gZ op=false:=by unfold gZ;rw[h1];simp
  unfold fO gU np
  rw[h2,h];rfl
 |some r=>
  have:=List.all_eq_true.1 xO r (List.mem_of_find?_eq_some h)
  have e:r.1=op:=by have:=List.find?_some h;simpa using this
  rw[e]at this
  exact(beq_iff_eq.1 this).symm
theorem fc.el {α:Type} [Inhabited α] {s N:Nat} {R:qd α} {F:Nat→Prop} {w:World} {p:Option Addr} {n cap:Nat} {xs:List α} (h:fc s N R F w (.slice p n cap) xs) {i:Nat} (hi:i<xs.length):∃b off,p=some ⟨b,off,none⟩∧F b∧R F w b (off+i*s) (ix xs i):=by
 obtain⟨b,off,e,hF,hall⟩:=h.at hi
 exact⟨b,off,e,hF,hall i hi⟩
def uO (l:List cH) (k:Int) (n:Nat):Nat:=((l.take n).filter fun x=>decide (x.kind=k)).length
theorem wU {l:List cH} {k:Int} {n:Nat} (h:n<l.length):uO l k (n+1)=uO l k n+if(ix l n).kind=k then 1 else 0:=by
 unfold uO
 rw[bu h,List.filter_append,List.length_append]
 by_cases e:(ix l n).kind=k<;>simp[e]
theorem Ai (l:List cH) (k:Int) (n:Nat):uO l k n≤n:=by
 unfold uO
 exact Nat.le_trans (List.length_filter_le _ _) GW
abbrev ic:Nat:=33
theorem jy {α:Type} [Inhabited α] {a b:List α} {i:Nat} (h:i<a.length):ix (a++b) i=ix a i:=by simp[ix,List.getElem?_append_left h]
theorem iz {α:Type} [Inhabited α] {a b:List α} {i:Nat} (h:a.length≤i):ix (a++b) i=ix b (i - a.length):=by simp[ix,List.getElem?_append_right h]
def qx (P:Prop) (w:World) (e:Ending) (w':World):Prop:=(∃b:Bool,e=.returned (.bool b)∧(b=true→P))∧Ext w w'
section
variable {n:Nat} {E:Env} {M:List aV} {R:List (World→Prop)}
theorem HE.Cw {f:Nat} {args:List Operand} {tys:Array TypeId} {vs:List Value} {P:Prop} (hf:G.fb[f]?=some true) (ha:ju E args=some vs) (hc:∀w,Ok M R w→Calls G.P f vs.toArray w (qx P w)):
  HE n (.call ⟨.value (.func f),args.toArray,tys⟩) E M R (fun b:Bool=>b=true→P) (fun b=>.bool b) (fun _=>M) (fun _=>R):=
 HE.call (fun b:Bool=>.bool b) hf ha fun w hw=>(hc w hw).mono fun _e _w' ⟨⟨b,e1,h1⟩,hx⟩=>⟨b,e1,h1,hw.ext hx⟩
end
section
variable {n:Nat} {E:Env} {M M':List aV} {R:List (World→Prop)}
theorem AI {b T:Nat} {cs cs':List Value} (h:cs'=cs) (hs:M'.Sublist M):(aV.aJ b cs' T::M').Sublist (aV.aJ b cs T::M):=by subst h;exact hs.cons_cons _
end
def zC:AP:=⟨0,0,0,0,0,0,0,0⟩
def Dd (a b:AP):AP:=⟨a.funcs+b.funcs,a.instrs+b.instrs,a.blocks+b.blocks,a.loops+b.loops,a.calls+b.calls,a.yM+b.yM,a.vu+b.vu,a.consts+b.consts⟩
def CA {α:Type} (f:α→AP):List α→AP
 |[]=>zC
 |a::r=>Dd (f a) (CA f r)
def DK (op:Int):AP:=⟨0,1,0,Cu (op==3),Cu (op==16 || op==17),Cu (decide (0<gU op) && decide (op<54)),Cu (decide (0<gU op) && !decide (op<54)),Cu (op==65 || op==66)⟩
noncomputable def EW (xs:List bP):Nat:=open Classical in if(du xs).2=0∧¬Dg xs then(zV xs).length else 0
abbrev vG:Nat:=68
theorem q8 {ops:Array Oper} {Q:Exit→Act→World→Prop} {n:Nat} {rest:List Oper} {E:Env} {M:List aV} {R:List (World→Prop)} {d:Nat} {ty:TypeId} {pos:String} {aft:Array Edge} (h:∀b:Nat,aa ops Q n rest ((d,.pointer (some ⟨b,0,none⟩))::E) (.aJ b [Value.int .i64 0,Value.slice none 0 0,Value.slice none 0 0] vG::M) R) (hd:Nat.blt d n=true:=by rfl):aa ops Q n (⟨some d,.alloc vG,ty,pos,aft,none⟩::rest) E M R:=aa.alloc (t:=vG) [Value.int .i64 0,Value.slice none 0 0,Value.slice none 0 0] rfl rfl hd h
theorem kv.De {F:Nat→Prop} {w:World} {b o:Nat} {x:bP} (h:kv F w b o x):∃tv lv,af F w tv x.types∧af F w lv x.labels∧∀j,j<9→w.cell? ⟨b,o+j,none⟩=([Value.int .i64 x.op,.int .i64 x.a,.int .i64 x.b,.int .u64 x.n,.int .i64 x.kind,.int .i64 x.val,.int .i64 x.index,tv,lv]:List Value)[j]?:=by
 obtain⟨tv,h1,h2⟩:=h.types
 obtain⟨lv,h3,h4⟩:=h.labels
 refine⟨tv,lv,h2,h4,fun j hj=>?_⟩
 match j,hj with
 |0,_=>exact h.op
 |1,_=>exact h.a
 |2,_=>exact h.b
 |3,_=>exact h.n
 |4,_=>exact h.kind
 |5,_=>exact h.val
 |6,_=>exact h.index
 |7,_=>exact h1
 |8,_=>exact h3
def s5 (xs:List bP) (j:Nat):AP:=CA (fun x:bP=>DK x.op) (xs.take j)
noncomputable def c5 (xs:List bP) (j:Nat):AP:=⟨1,xs.length,EW xs,(s5 xs j).loops,(s5 xs j).calls,(s5 xs j).yM,(s5 xs j).vu,(s5 xs j).consts⟩
structure lQ where
 funcs:List Int
 tables:List eh
 bO:List dz
 globals:List ff
 elems:List Int
 aS:Int
 deriving Inhabited
@[simp] def lA (t:eh):List Value:=[.int .i64 t.elem,.int .i64 t.rX.min,.int .i64 t.rX.max,.bool t.rX.has]
@[simp] def lx (t:dz):List Value:=[.int .i64 t.min,.int .i64 t.max,.bool t.has]
@[simp] def qh (t:ff):List Value:=[.int .i64 t.pZ,.bool t.xk]
abbrev sW:Nat:=85
abbrev mw:Nat:=80
abbrev na:Nat:=91
theorem bI {ops:Array Oper} {Q:Exit→Act→World→Prop} {n:Nat} {rest:List Oper} {E:Env} {M:List aV} {R:List (World→Prop)} {d:Nat} {ty:TypeId} {pos:String} {aft:Array Edge} (h:∀b:Nat,aa ops Q n rest ((d,.pointer (some ⟨b,0,none⟩))::E) (.aJ b [Value.int .i64 0,Value.int .i64 0,Value.int .i64 0,Value.bool false] na::M) R) (hd:Nat.blt d n=true:=by rfl):aa ops Q n (⟨some d,.alloc na,ty,pos,aft,none⟩::rest) E M R:=aa.alloc (t:=na) [Value.int .i64 0,Value.int .i64 0,Value.int .i64 0,Value.bool false] rfl rfl hd h
abbrev m9:Nat:=89
theorem bH {ops:Array Oper} {Q:Exit→Act→World→Prop} {n:Nat} {rest:List Oper} {E:Env} {M:List aV} {R:List (World→Prop)} {d:Nat} {ty:TypeId} {pos:String} {aft:Array Edge} (h:∀b:Nat,aa ops Q n rest ((d,.pointer (some ⟨b,0,none⟩))::E) (.aJ b [Value.int .i64 0,Value.int .i64 0,Value.bool false] m9::M) R) (hd:Nat.blt d n=true:=by rfl):aa ops Q n (⟨some d,.alloc m9,ty,pos,aft,none⟩::rest) E M R:=aa.alloc (t:=m9) [Value.int .i64 0,Value.int .i64 0,Value.bool false] rfl rfl hd h
abbrev m8:Nat:=93
theorem bG {ops:Array Oper} {Q:Exit→Act→World→Prop} {n:Nat} {rest:List Oper} {E:Env} {M:List aV} {R:List (World→Prop)} {d:Nat} {ty:TypeId} {pos:String} {aft:Array Edge} (h:∀b:Nat,aa ops Q n rest ((d,.pointer (some ⟨b,0,none⟩))::E) (.aJ b [Value.int .i64 0,Value.bool false] m8::M) R) (hd:Nat.blt d n=true:=by rfl):aa ops Q n (⟨some d,.alloc m8,ty,pos,aft,none⟩::rest) E M R:=aa.alloc (t:=m8) [Value.int .i64 0,Value.bool false] rfl rfl hd h
abbrev lq:Nat:=58
abbrev yb:Nat:=95
abbrev qC:Nat:=74
theorem aX {ops:Array Oper} {Q:Exit→Act→World→Prop} {n:Nat} {rest:List Oper} {E:Env} {M:List aV} {R:List (World→Prop)} {d:Nat} {ty:TypeId} {pos:String} {aft:Array Edge} (h:∀b:Nat,aa ops Q n rest ((d,.pointer (some ⟨b,0,none⟩))::E) (.aJ b [Value.slice none 0 0,Value.slice none 0 0] qC::M) R) (hd:Nat.blt d n=true:=by rfl):aa ops Q n (⟨some d,.alloc qC,ty,pos,aft,none⟩::rest) E M R:=aa.alloc (t:=qC) [Value.slice none 0 0,Value.slice none 0 0] rfl rfl hd h
structure wk where
 tv:Value
 fv:Value
 bv:Value
 mv:Value
 gv:Value
 ev:Value
def iF (B bx sp im dm:Nat) (v:wk) (tn:Nat) (tc:List Value) (X:lQ) (ig dg:Int→Option Value):List aV:=
 [.aJ bx [.pointer (some ⟨sp,0,none⟩)] mw,.aJ sp [v.tv,v.fv,v.bv,v.mv,v.gv,v.ev,.int .i64 X.aS,.map (some im),.map (some dm)] sW,.own B 3 1 v.fv X.funcs.length (X.funcs.map (Value.int .i64)),.own B na 4 v.bv X.tables.length (X.tables.flatMap lA),.own B m9 3 v.mv X.bO.length (X.bO.flatMap lx),.own B m8 2 v.gv X.globals.length (X.globals.flatMap qh),.own B lq 1 v.ev X.elems.length (X.elems.map (Value.int .i64)),.iv im ig,.iv dm dg,.own B qC 2 v.tv tn tc]
def Bh (g:Int→Option Value) (c:Int→Int):Prop:=∀k,(g k).getD (.int .i64 0)=.int .i64 (c k)
def mJ (x:cH):List Value:=[.string x.module,.string x.name,.int .i64 x.kind,.int .i64 x.func,.int .i64 x.table.elem,.int .i64 x.table.rX.min,.int .i64 x.table.rX.max,.bool x.table.rX.has,.int .i64 x.mem.min,.int .i64 x.mem.max,.bool x.mem.has,.int .i64 x.gC.pZ,.bool x.gC.xk]
def lQ.fm (X:lQ) (x:cH):lQ:=
 if x.kind=0 then{X with funcs:=X.funcs++[x.func]}else if x.kind=1 then{X with tables:=X.tables++[x.table]}else if x.kind=2 then{X with bO:=X.bO++[x.mem]}else if x.kind=3 then{X with globals:=X.globals++[x.gC]}else X
def inc (c:Int→Int) (k:Int):Int→Int:=fun b=>if b=k then c k+1 else c b
theorem Bh.put {g:Int→Option Value} {c:Int→Int} (h:Bh g c) (k:Int):Bh (put g k (.int .i64 (c k+1))) (inc c k):=fun b=>by
 unfold Go.Proofs.YtceedealggognaaGreatDoor.put inc
 by_cases e:b=k
 ·subst e;simp
 ·simp only[if_neg e];exact h b
def lQ.ok (X:lQ):Prop:=X.funcs.length≤1000000∧X.tables.length≤1000000∧X.bO.length≤1000000∧X.globals.length≤1000000∧X.elems.length≤1000000
def hZ (B bx sp im dm:Nat) (v:wk) (tn:Nat) (tc:List Value) (X:lQ) (ig dg:Int→Option Value) (x:cH) (c:Int→Int) (w:World):Ending→World→Prop:=
 aq (iF B bx sp im dm v tn tc X ig dg) w (fun _:wk×(Int→Option Value)=>.tuple #[]) (fun y=>Bh y.2 (inc c x.kind)∧y.1.tv=v.tv) (fun y=>iF B bx sp im dm y.1 tn tc (X.fm x) y.2 dg)
set_option maxHeartbeats 16000000 in
theorem uc (B bx sp im dm:Nat) (v:wk) (tn:Nat) (tc:List Value) (X:lQ) (ig dg:Int→Option Value) (x:cH) (c:Int→Int) (w:World) (hw:Ok (iF B bx sp im dm v tn tc X ig dg) [] w) (hB:B≤w.heap.size) (hX:X.ok) (hc:Bh ig c) (hk:gJ x.kind) (hcx:-1000000≤c x.kind∧c x.kind≤1000000):
  Calls G.P 24 #[.agg (mJ x).toArray,.pointer (some ⟨bx,0,none⟩)] w (hZ B bx sp im dm v tn tc X ig dg x c w):=by
 obtain⟨tv,fv,bv,mv,gv,ev⟩:=v
 obtain⟨x1,x2,x3,x4,x5⟩:=hX
 refine aj (l:=[.agg (mJ x).toArray,.pointer (some ⟨bx,0,none⟩)]) Tryz.func24 rfl Tryz.ntmps24 rfl (Ok.bW hw) ?_
 generalize hS:Mb (iF B bx sp im dm ⟨tv,fv,bv,mv,gv,ev⟩ tn tc X ig dg)=S0
 unfold iF
 dsimp only
 refine dy ?_
 refine aa.box (mJ x) rfl rfl rfl fun b=>?_
 unfold mJ
 refine dy ?_
 refine aQ.cA [0,1,2,3,4,5,6,7] 8 [.aJ b _ yb,.aJ bx [.pointer (some ⟨sp,0,none⟩)] mw,.aJ sp [tv,fv,bv,mv,gv,ev,.int .i64 X.aS,.map (some im),.map (some dm)] sW,.iv im ig] [] G7 bN aY ?_
 refine jM ?_
 refine aN.y_ (Yl.An (zv:=.int .i64 0) Tryz.underlying81 Tryz.underlying87 (fun _=>rfl) rfl rfl hk GL) rfl ?_
 rw[hc x.kind]
 refine jM ?_
 refine aN.hG (gj.mapUpdate Tryz.underlying81 Tryz.underlying87 rfl rfl rfl hk bJ) rfl ?_
 rintro⟨⟩ _
 have hcp:=hc.put x.kind
 generalize put ig x.kind (.int .i64 (c x.kind+1))=ig' at*
 generalize hkx:x.kind=kd at*
 rcases(show kd=0∨kd=1∨kd=2∨kd=3∨(kd≠0∧kd≠1∧kd≠2∧kd≠3)from by omega)with hc_|hc_|hc_|hc_|⟨hc0_,hc1_,hc2_,hc3_⟩
 ·have hb:X.fm x={X with funcs:=X.funcs++[x.func]}:=by unfold lQ.fm;simp[hkx,hc_]
  refine dy ?_
  refine F0 ?_
  refine jM ?_
  refine FX ?_
  intro b3 _
  refine F4 ?_
  intro v2 _
  refine jM ?_
  refine aN.pure (φ:=v2.oneCell'=true) (fun w' hw'=>gb (hw'.own (v:=v2))) fun hone=>?_
  refine F5 ?_
  rintro⟨⟩ _
  refine dy ?_
  refine ai.kJ rfl fun w' hw'=>?_
  unfold hZ
  refine aq.of (x:=((⟨tv,v2,bv,mv,gv,ev⟩:wk),ig')) (M:=iF B bx sp im dm ⟨tv,v2,bv,mv,gv,ev⟩ tn tc {X with funcs:=X.funcs++[x.func]} ig' dg) ⟨by rw[hkx];exact hcp,rfl⟩ (hw'.sub (R':=[bA S0 w]) G1 aY) (by dsimp only;rw[hb]) G3
 ·have hb:X.fm x={X with tables:=X.tables++[x.table]}:=by unfold lQ.fm;simp[hkx,hc_]
  refine dy ?_
  refine F0 ?_
  refine jM ?_
  refine FX ?_
  intro b3 _
  refine F4 ?_
  intro v2 _
  refine jM ?_
  refine aN.pure (φ:=v2.oneCell'=true) (fun w' hw'=>gb (hw'.own (v:=v2))) fun hone=>?_
  refine F5 ?_
  rintro⟨⟩ _
  refine dy ?_
  refine ai.kJ rfl fun w' hw'=>?_
  unfold hZ
  refine aq.of (x:=((⟨tv,fv,v2,mv,gv,ev⟩:wk),ig')) (M:=iF B bx sp im dm ⟨tv,fv,v2,mv,gv,ev⟩ tn tc {X with tables:=X.tables++[x.table]} ig' dg) ⟨by rw[hkx];exact hcp,rfl⟩ (hw'.sub (R':=[bA S0 w]) G1 aY) (by dsimp only;rw[hb]) G3
 ·have hb:X.fm x={X with bO:=X.bO++[x.mem]}:=by unfold lQ.fm;simp[hkx,hc_]
  refine dy ?_
  refine F0 ?_
  refine jM ?_
  refine FX ?_
  intro b3 _
  refine F4 ?_
  intro v2 _
  refine jM ?_
  refine aN.pure (φ:=v2.oneCell'=true) (fun w' hw'=>gb (hw'.own (v:=v2))) fun hone=>?_
  refine F5 ?_
  rintro⟨⟩ _
  refine dy ?_
  refine ai.kJ rfl fun w' hw'=>?_
  unfold hZ
  refine aq.of (x:=((⟨tv,fv,bv,v2,gv,ev⟩:wk),ig')) (M:=iF B bx sp im dm ⟨tv,fv,bv,v2,gv,ev⟩ tn tc {X with bO:=X.bO++[x.mem]} ig' dg) ⟨by rw[hkx];exact hcp,rfl⟩ (hw'.sub (R':=[bA S0 w]) G1 aY) (by dsimp only;rw[hb]) G3
 ·have hb:X.fm x={X with globals:=X.globals++[x.gC]}:=by unfold lQ.fm;simp[hkx,hc_]
  refine dy ?_
  refine F0 ?_
  refine jM ?_
  refine FX ?_
  intro b3 _
  refine F4 ?_
  intro v2 _
  refine jM ?_
  refine aN.pure (φ:=v2.oneCell'=true) (fun w' hw'=>gb (hw'.own (v:=v2))) fun hone=>?_
  refine F5 ?_
  rintro⟨⟩ _
  refine dy ?_
  refine ai.kJ rfl fun w' hw'=>?_
  unfold hZ
  refine aq.of (x:=((⟨tv,fv,bv,mv,v2,ev⟩:wk),ig')) (M:=iF B bx sp im dm ⟨tv,fv,bv,mv,v2,ev⟩ tn tc {X with globals:=X.globals++[x.gC]} ig' dg) ⟨by rw[hkx];exact hcp,rfl⟩ (hw'.sub (R':=[bA S0 w]) G1 aY) (by dsimp only;rw[hb]) G3
 ·have hb:X.fm x=X:=by unfold lQ.fm;simp[hkx,hc0_,hc1_,hc2_,hc3_]
  refine dy ?_
  refine ai.kJ rfl fun w' hw'=>?_
  unfold hZ
  exact aq.of (x:=((⟨tv,fv,bv,mv,gv,ev⟩:wk),ig')) (M:=iF B bx sp im dm ⟨tv,fv,bv,mv,gv,ev⟩ tn tc X ig' dg) ⟨by rw[hkx];exact hcp,rfl⟩ (hw'.sub (R':=[bA S0 w]) G1 aY) (by dsimp only;rw[hb]) G3
section
variable {ops:Array Oper} {Q:Exit→Act→World→Prop} {n:Nat} {E:Env} {M M':List aV} {R:List (World→Prop)} {rest l:List Oper} {op:Op} {d:Nat} {ty:TypeId} {pos:String} {aft:Array Edge} {v:Value} {x y z:Operand} {t:TypeId} {C:World→Prop}
theorem HE.kF {Mf:Value→List aV} {ti te:TI} {B T s m k c:Nat} {po:Option Addr} {xs:List Value} (ys:List Value) (hx:ev E x=some v) (hy:ev E y=some (.slice po k c)) (hM:∀v',Up (.own B T s v m xs) (.own B T s v' (m+k) (xs++ys)) M (Mf v'))
  (hrd:k=0∨∃bk o,po=some ⟨bk,o,none⟩∧∀w,Ok M R w→∀j u,ys[j]?=some u→w.cell? ⟨bk,o+j,none⟩=some u) (hys:ys.length=k*s)
  (ht:G.ty t=some ti) (he:ti.elem=some T) (hte:G.ty T=some te) (hs:te.size=s) (hzs:Nat.beq te.zero.cells.size te.size=true) (hsz:Nat.blt 0 te.size=true) (h1:∀u∈ys,u.oneCell'=true) (hby:(m+k)*te.bytes≤140737488355328) (hml:m+k≤9223372036854775807) (hB:∀w,Ok M R w→B≤w.heap.size):
  HE n (.call ⟨.builtin .append,#[x,y],#[t,t]⟩) E M R (fun _:Value=>True) (fun v'=>v') Mf (fun _=>R):=
 ⟨fun w hw=>by
  subst hs
  have hm:=(hw.m _ (hM undef).mem)
  have ho:w.ownsRow B T te.size v m xs:=hm.1
  have hsz':0<te.size:=by simpa using hsz
  have key:∀v' w',w'.ownsRow B T te.size v' (m+k) (xs++ys)→bA (fun k=>v.ownBlock=some k) w w'→(v'.ownBlock=v.ownBlock∨v'.ownBlock=some w.heap.size)→∃x:Value,True∧v'=x∧Ok (Mf x) R w':=fun v' w' ho' hc hob=>
   ⟨v',trivial,rfl,hw.nL (hM v') hc ho' fun i hi=>⟨(ho'.lt i hi).2,fun hlt=>by
    rcases hob with e|e
    ·show v.ownBlock=some i
     rw[←e];exact hi
    ·have hk':v'.ownBlock=some i:=hi
     rw[e]at hk';cases hk';omega⟩⟩
  by_cases h0:k=0
  ·subst h0
   obtain⟨po,c,rfl,hc,_⟩:=av ho
   have hy0:ys=[]:=List.eq_nil_of_length_eq_zero (by simpa using hys)
   subst hy0
   refine(bB.vI (G:=G) ht he hte hx hc hy).mono ?_
   rintro _ _ ⟨rfl,rfl⟩
   exact key _ _ (by rw[List.append_nil];exact ho) (bA.refl _ _) (.inl rfl)
  ·obtain⟨bk,o,rfl,hr⟩:=hrd.resolve_left h0
   refine(bB.ou (G:=G) (news:=ys) ht he hte (Nat.eq_of_beq_eq_true hzs) hsz' hx ho hy hys (fun j u hj=>hr w hw j u hj) h1 G0 hby (hB w hw)).mono fun v' w' ⟨a,b,c⟩=>key v' w' a b c⟩
end
def xX (g:Int→Option Value) (d:Int→Bool):Prop:=∀k,(g k).getD (.bool false)=.bool (d k)
def named (l:List bP) (k:Int):Bool:=l.any fun x=>decide (x.op=210) && decide (x.a=k)
def lE (d:Int→Bool) (l:List bP):Int→Bool:=fun k=>d k || named l k
theorem xm (l r:List bP) (k:Int):named (l++r) k=(named l k || named r k):=by unfold named;rw[List.any_append]
theorem xX.put {g:Int→Option Value} {d:Int→Bool} (h:xX g d) (a:Int):xX (put g a (.bool true)) (fun k=>d k || decide (a=k)):=fun b=>by
 unfold Go.Proofs.YtceedealggognaaGreatDoor.put
 by_cases e:b=a
 ·subst e;simp
 ·have e':¬a=b:=fun h=>e h.symm
  simp only[if_neg e,e',decide_false,Bool.or_false];exact h b
abbrev Cp:Nat:=63
def sP (B bx sp im dm:Nat) (v:wk) (tn:Nat) (tc:List Value) (X:lQ) (ig dg:Int→Option Value) (d:Int→Bool) (l:List bP) (w:World):Ending→World→Prop:=
 aq (iF B bx sp im dm v tn tc X ig dg) w (fun _:(Int→Option Value)=>.tuple #[]) (fun g=>xX g (lE d l)) (fun g=>iF B bx sp im dm v tn tc X ig g)
set_option maxHeartbeats 16000000 in
theorem pQ (F:Nat→Prop) (B bx sp im dm:Nat) (v:wk) (tn:Nat) (tc:List Value) (X:lQ) (ig dg:Int→Option Value) (d:Int→Bool) (l:List bP) (lv:Value) (w0 w:World) (hw:Ok (iF B bx sp im dm v tn tc X ig dg) [Ext w0] w) (hl:dN F w0 lv l) (hd:xX dg d):
  Calls G.P 25 #[lv,.pointer (some ⟨bx,0,none⟩)] w (sP B bx sp im dm v tn tc X ig dg d l w):=by
 obtain⟨tv,fv,bv,mv,gv,ev⟩:=v
 obtain⟨p,c,rfl,hll⟩:=hl.slice
 refine aj (l:=[.slice p l.length c,.pointer (some ⟨bx,0,none⟩)]) Tryz.func25 rfl Tryz.ntmps25 rfl (Ok.bW hw) ?_
 generalize hS:Mb (iF B bx sp im dm ⟨tv,fv,bv,mv,gv,ev⟩ tn tc X ig dg)=S0
 refine dy ?_
 refine aQ.loop (σ:=Nat×(Int→Option Value)) (fun s=>[(1,.pointer (some ⟨bx,0,none⟩)),(5,.slice p l.length c),(6,.int .i64 l.length),(7,.int .i64 s.1)]) (fun s=>iF B bx sp im dm ⟨tv,fv,bv,mv,gv,ev⟩ tn tc X ig s.2) (fun _=>[bA S0 w,Ext w0]) (fun s=>s.1≤l.length∧xX s.2 (lE d (l.take s.1))) (fun s=>l.length - s.1) (0,dg) bR bN aY ⟨by dsimp only;omega,by dsimp only;intro k;rw[hd k];simp[lE,named]⟩ ?_
 rintro⟨i,g⟩ ⟨hi,hg⟩
 dsimp only at hi hg ⊢
 by_cases hlt:i<l.length
 ·obtain⟨b6,o6,rfl,-,hall⟩:=hl.at hlt
  have hra:=(hall i hlt).ra
  obtain⟨tv9,lv9,htv,hlv,hc9⟩:=(hall i hlt).De
  obtain⟨xt,yt,rfl,-⟩:=htv.slice
  obtain⟨xl,yl,rfl,-⟩:=hlv.slice
  have hnx:∀k,lE d (l.take (i+1)) k=(lE d (l.take i) k || (decide ((ix l i).op=210) && decide ((ix l i).a=k))):=fun k=>by
   unfold lE;rw[bu hlt,xm,Bool.or_assoc];simp[named]
  unfold iF
  dsimp only
  refine dy ?_
  refine aa.y_ (Yl.fY rfl rfl rfl ao Hd Hd hc9) rfl ?_
  refine aa.alloc [Value.int .i64 0,Value.int .i64 0,Value.int .i64 0,Value.int .u64 0,Value.int .i64 0,Value.int .i64 0,Value.int .i64 0,Value.slice none 0 0,Value.slice none 0 0] rfl rfl rfl fun b9=>?_
  refine dy ?_
  by_cases h210:(ix l i).op=210
  ·refine dy ?_
   refine aQ.cA [0,1,2,3,4,5] 6 [.aJ b9 _ Cp,.aJ bx [.pointer (some ⟨sp,0,none⟩)] mw,.aJ sp [tv,fv,bv,mv,gv,ev,.int .i64 X.aS,.map (some im),.map (some dm)] sW] [] G7 bN aY ?_
   refine jM ?_
   refine aN.hG (gj.mapUpdate Tryz.underlying82 Tryz.underlying3 rfl rfl rfl hra bJ) rfl ?_
   rintro⟨⟩ _
   refine dy ?_
   refine ai.next (i+1,put g (ix l i).a (.bool true)) bR bN aY ⟨by dsimp only;omega,?_⟩ G2
   dsimp only
   intro k
   rw[hg.put _ k,hnx k];simp[h210]
  ·refine dy ?_
   refine ai.next (i+1,g) bR bN aY ⟨by dsimp only;omega,?_⟩ G2
   dsimp only
   intro k
   rw[hg k,hnx k];simp[h210]
 ·obtain rfl:i=l.length:=by omega
  refine dy ?_
  refine ai.kJ rfl fun w' hw'=>?_
  unfold sP
  rw[List.take_length]at hg
  exact aq.of (x:=g) hg hw' rfl G3
theorem ow {F:Nat→Prop} {w:World} {p:Option Addr} {n c:Nat} {xs:List Int} {M:List aV} {R:List (World→Prop)} (h:af F w (.slice p n c) xs) (hR:Ext w∈R):xs.length=0∨∃bk o,p=some ⟨bk,o,none⟩∧∀w',Ok M R w'→∀j u,(xs.map (Value.int .i64))[j]?=some u→w'.cell? ⟨bk,o+j,none⟩=some u:=by
 obtain⟨p',c',e,hl,h⟩:=h
 cases e
 rcases h with h|⟨b,o,rfl,hF,h⟩
 ·exact .inl (by rw[h];rfl)
 ·refine .inr ⟨b,o,rfl,fun w' hw' j u hj=>?_⟩
  rw[List.getElem?_map]at hj
  by_cases hlt:j<xs.length
  ·rw[gF hlt]at hj
   cases hj
   exact(show Ext w w' from hw'.get hR).cell (h j hlt)
  ·rw[List.getElem?_eq_none Hb]at hj;cases hj
theorem gL (xs:List Int):∀u∈xs.map (Value.int .i64),u.oneCell'=true:=by
 intro u hu;obtain⟨a,_,rfl⟩:=List.mem_map.1 hu;rfl
theorem jE {w:World} {B T:Nat} {v:Value} {xs:List Int} (h:w.ownsRow B T 1 v xs.length (xs.map (Value.int .i64))) (hl:xs.length≤17592186044416):af (fun k=>B≤k) w v xs:=by
 obtain⟨p,c,rfl,hn,hc,hg⟩:=av h
 refine⟨p,c,rfl,hl,?_⟩
 by_cases hx:xs=[]
 ·exact .inl hx
 ·obtain⟨g,rfl,h1,h2⟩:=hg (List.length_pos_iff.2 hx)
  exact .inr ⟨g,0,rfl,h1,fun i hi=>by rw[Nat.zero_add];exact dL h (by rw[List.getElem?_map,gF hi];rfl)⟩
set_option maxHeartbeats 16000000 in
theorem sF (F:Nat→Prop) (f:aE) (u0 u1:Value) (w:World) (h0:af F w u0 f.params) (h1:af F w u1 f.results):Calls G.P 23 #[.agg #[u0,u1]] w fun e w'=>(∃x:Value×Value,e=.returned (.agg #[x.1,x.2])∧af (fun k=>w.heap.size≤k) w' x.1 f.params∧af (fun k=>w.heap.size≤k) w' x.2 f.results)∧Ext w w':=by
 obtain⟨p0,c0,rfl,l0⟩:=h0.slice
 obtain⟨p1,c1,rfl,l1⟩:=h1.slice
 refine aj (l:=[.agg #[.slice p0 f.params.length c0,.slice p1 f.results.length c1]]) Tryz.func23 rfl Tryz.ntmps23 rfl (Ok.start w) ?_
 refine dy ?_
 refine aa.box [.slice p0 f.params.length c0,.slice p1 f.results.length c1] rfl rfl rfl fun b1=>?_
 refine dy ?_
 refine aa.alloc [Value.slice none 0 0,Value.slice none 0 0] rfl rfl rfl fun b2=>?_
 refine dy ?_
 refine aQ.iC w.heap.size lq 1 ?_
 refine aQ.iC w.heap.size lq 1 ?_
 refine aQ.cA [0,1,3,4,2,5,6] 7 [.aJ b1 [.slice p0 f.params.length c0,.slice p1 f.results.length c1] qC] [Ext w] G7 bN aY ?_
 refine jM ?_
 refine aN.he (HE.kF (f.params.map (Value.int .i64)) rfl rfl (fun _=>bJ) (ow h0 ao) Hc rfl rfl rfl Hd Hd Hd (gL _) (by show(0+f.params.length)*8≤_;omega) Hb xJ) rfl (fun _=>bN) (fun _=>aY) ?_
 intro v1 _
 refine aN.he (HE.kF (f.results.map (Value.int .i64)) rfl rfl (fun _=>bJ) (ow h1 ao) Hc rfl rfl rfl Hd Hd Hd (gL _) (by show(0+f.results.length)*8≤_;omega) Hb xJ) rfl (fun _=>bN) (fun _=>aY) ?_
 intro v2 _
 refine aN.pure (φ:=(∃p c,v1=.slice p (0+f.params.length) c)∧∃p c,v2=.slice p (0+f.results.length) c) (fun w' hw'=>⟨?_,?_⟩) ?_
 ·obtain⟨p,c,e,_⟩:=av (hw'.own (v:=v1));exact⟨p,c,e⟩
 ·obtain⟨p,c,e,_⟩:=av (hw'.own (v:=v2));exact⟨p,c,e⟩
 rintro⟨⟨q1,d1,rfl⟩,⟨q2,d2,rfl⟩⟩
 refine jM ?_
 refine aN.hG (gj.aM _ rfl rfl rfl rfl rfl rfl bJ rfl) rfl ?_
 rintro⟨⟩ _
 refine dy ?_
 refine ai.fG (.inl rfl) rfl rfl rfl rfl rfl bJ rfl fun w' hw'=>⟨⟨(_,_),rfl,?_,?_⟩,hw'.at⟩
 ·have:=hw'.own (v:=.slice q1 (0+f.params.length) d1)
  rw[Nat.zero_add]at this ⊢
  exact jE this l0
 ·have:=hw'.own (v:=.slice q2 (0+f.results.length) d2)
  have e:0+f.results.length=f.results.length:=Nat.zero_add _
  rw[e]at this
  show af _ w' (.slice q2 (0+f.results.length) d2) _
  rw[e];exact jE this l1
section
variable {ops:Array Oper} {Q:Exit→Act→World→Prop} {n:Nat} {E:Env} {M M':List aV} {R R':List (World→Prop)} {rest l:List Oper} {op:Op} {d:Nat} {ty:TypeId} {pos:String} {aft:Array Edge} {v:Value} {x y z:Operand} {t:TypeId}
theorem Ok.perm {w:World} (h:Ok M R w) (hp:M.Perm M'):Ok M' R w:=
 h.step (bA.refl _ w) (fun q hq=>h.m q (hp.mem_iff.2 hq)) ((hp.pairwise_iff (fun h k h1 h2=>h k h2 h1)).1 h.d) (fun _k ⟨q,hq,hk⟩ _=>⟨q,hp.mem_iff.2 hq,hk⟩)
theorem ai.kq {e:Exit} (p:World→Prop) (hp:∀w',(∀r,r∈R→r w')→p w') (h:ai Q n e E M (p::R)):ai Q n e E M R:=⟨fun w hw=>h.h w (hw.kq hp)⟩
theorem HE.rL {β:Type} {B:Nat} {M0 Mr:List aV} {tf:β→Value} {φ:β→Prop} {M1:β→List aV} {f:Nat} {fo:Operand} {cap:List Value} {args:List Operand} {tys:Array TypeId} {vs:List Value} (hfo:ev E fo=some (.func (.func f) #[] cap.toArray)) (hf:G.fb[f]?=some true) (ha:ju E args=some vs) (hM:M.Perm (M0++Mr))
  (hR':∀p,p∈R'→p∈R) (hc:∀w,Ok M0 R' w→B≤w.heap.size→Calls G.P f (vs++cap).toArray w (aq M0 w tf φ M1)) (hB:∀w,Ok M R w→B≤w.heap.size):HE n (.call ⟨.value fo,args.toArray,tys⟩) E M R φ tf (fun x=>M1 x++Mr) (fun _=>R):=
 ⟨fun w hw0=>by
  have hw:=hw0.perm hM
  refine(bB.kp hfo hf ha (hc w (hw.sub (List.sublist_append_left _ _) hR') (hB w hw0)) (fun e w' h=>by obtain⟨x,e1,_⟩:=h;exact⟨_,e1⟩)).mono fun v w' ⟨x,e1,h1,h2,h3,h4⟩=>?_
  cases e1
  exact⟨x,h1,rfl,hw.frame h2 h3 h4⟩⟩
end
def Cg (f:aE) (lo:Nat) (w:World) (x:Value×Value):Prop:=af (fun k=>lo≤k) w x.1 f.params∧af (fun k=>lo≤k) w x.2 f.results
theorem Cg.fresh (f:aE):AQ (Cg f):=fun h hc hS=>⟨h.1.aD hc hS,h.2.aD hc hS⟩
theorem lB {M M':List aV} (h:M'.Sublist M:=by repeat(first|with_reducible exact List.Sublist.refl _|exact List.nil_sublist _|(with_reducible refine List.Sublist.cons_cons _ ?_)|((with_reducible refine oA ?_ ?_ ?_ ?_);rfl;(first|rfl|simp);(first|rfl|simp))|((with_reducible refine AI ?_ ?_);(first|rfl|simp))|refine List.Sublist.cons _ ?_)):M'.Sublist M:=h
def jt (B:Nat) (tc:List Value) (l:List aE):World→Prop:=fun w=>tc.length=l.length*2∧∀i,i<l.length→∃p r,tc[i*2]?=some p∧tc[i*2+1]?=some r∧af (fun k=>B≤k) w p (ix l i).params∧af (fun k=>B≤k) w r (ix l i).results
theorem jt.app {B:Nat} {tc:List Value} {l:List aE} {w:World} (h:jt B tc l w) {p r:Value} {f:aE} (hp:af (fun k=>B≤k) w p f.params) (hr:af (fun k=>B≤k) w r f.results):jt B (tc++[p,r]) (l++[f]) w:=by
 obtain⟨h1,h2⟩:=h
 refine⟨by simp[h1];omega,fun i hi=>?_⟩
 by_cases hlt:i<l.length
 ·obtain⟨p',r',e1,e2,e3,e4⟩:=h2 i hlt
  rw[jy hlt]
  exact⟨p',r',by rw[List.getElem?_append_left Hb];exact e1,by rw[List.getElem?_append_left Hb];exact e2,e3,e4⟩
 ·have e:i=l.length:=by simp at hi;omega
  subst e
  rw[iz (Nat.le_refl _),Nat.sub_self]
  exact⟨p,r,by rw[List.getElem?_append_right Hb];simp[h1],by rw[List.getElem?_append_right Hb];simp[h1,show l.length*2+1 - l.length*2=1 by omega],hp,hr⟩
theorem jt.aD {B:Nat} {tc:List Value} {l:List aE} {S:Nat→Prop} {w w':World} (h:jt B tc l w) (hc:bA S w w') (hS:∀k,B≤k→¬S k):jt B tc l w':=
 ⟨h.1,fun i hi=>by
  obtain⟨p,r,e1,e2,e3,e4⟩:=h.2 i hi
  exact⟨p,r,e1,e2,e3.aD hc (fun k _ hk=>hS k hk),e4.aD hc (fun k _ hk=>hS k hk)⟩⟩
def uF (l:List cH) (X:lQ):lQ:=l.foldl lQ.fm X
theorem th (l:List cH) (X:lQ) (x:cH):uF (l++[x]) X=(uF l X).fm x:=by unfold uF;rw[List.foldl_append];rfl
theorem wI (X:lQ) (x:cH):(X.fm x).funcs.length≤X.funcs.length+1∧(X.fm x).tables.length≤X.tables.length+1∧(X.fm x).bO.length≤X.bO.length+1∧(X.fm x).globals.length≤X.globals.length+1∧(X.fm x).elems.length≤X.elems.length∧(X.fm x).aS=X.aS:=by
 unfold lQ.fm
 split
 ·simp
 ·split
  ·simp
  ·split
   ·simp
   ·split<;>simp
def X0 (m:ae):lQ:=⟨[],[],[],[],[],m.aS.length⟩
theorem vK (m:ae):∀i,i≤m.imports.length→(uF (m.imports.take i) (X0 m)).funcs.length≤i∧(uF (m.imports.take i) (X0 m)).tables.length≤i∧(uF (m.imports.take i) (X0 m)).bO.length≤i∧(uF (m.imports.take i) (X0 m)).globals.length≤i∧(uF (m.imports.take i) (X0 m)).elems.length≤0∧(uF (m.imports.take i) (X0 m)).aS=m.aS.length
 |0,_=>by simp[uF,X0]
 |i+1,h=>by
  have ih:=vK m i Hb
  rw[bu Hb,th]
  have:=wI (uF (m.imports.take i) (X0 m)) (ix m.imports i)
  omega
def cN (m:ae) (i:Nat):Int→Int:=fun k=>uO m.imports k i
theorem zY (m:ae) {i:Nat} (h:i<m.imports.length):inc (cN m i) (ix m.imports i).kind=cN m (i+1):=by
 funext b
 unfold inc cN
 rw[wU h]
 by_cases e:b=(ix m.imports i).kind
 ·subst e;simp
 ·have e':¬(ix m.imports i).kind=b:=fun h=>e h.symm
  simp[e,e']
def X1 (m:ae):lQ:=uF m.imports (X0 m)
def X2 (m:ae) (i:Nat):lQ:={X1 m with funcs:=(X1 m).funcs++(m.funcs.take i).map (·.cP)}
def X3 (m:ae):lQ:={X2 m m.funcs.length with tables:=(X1 m).tables++m.tables,bO:=(X1 m).bO++m.bO}
def X4 (m:ae) (i:Nat):lQ:={X3 m with globals:=(X1 m).globals++(m.globals.take i).map (·.cP)}
def X5 (m:ae) (i:Nat):lQ:={X4 m m.globals.length with elems:=(X1 m).elems++(m.elems.take i).map (·.cP)}
theorem eT {α:Type} [Inhabited α] (cf:α→List Value) {s:Nat} (hs:∀x,(cf x).length=s):∀(xs:List α) (i j:Nat),i<xs.length→j<s→(xs.flatMap cf)[i*s+j]?=(cf (ix xs i))[j]?
 |[],i,_,h,_=>by simp at h
 |a::r,0,j,_,hj=>by
  rw[List.flatMap_cons,Nat.zero_mul,Nat.zero_add,List.getElem?_append_left (by rw[hs];exact hj)]
  simp[ix]
 |a::r,i+1,j,h,hj=>by
  rw[List.flatMap_cons,List.getElem?_append_right (by rw[hs,Nat.succ_mul];omega)]
  have e:(i+1)*s+j - (cf a).length=i*s+j:=by rw[hs,Nat.succ_mul];omega
  rw[e,eT cf hs r i j G5 hj]
  simp[ix]
theorem fP {α:Type} (cf:α→List Value) {s:Nat} (hs:∀x,(cf x).length=s):∀xs:List α,(xs.flatMap cf).length=xs.length*s
 |[]=>by simp
 |a::r=>by rw[List.flatMap_cons,List.length_append,hs,fP cf hs r,List.length_cons,Nat.succ_mul];omega
theorem vR {α:Type} [Inhabited α] {s N:Nat} {Rd:qd α} (cf:α→List Value) (hs:∀x,(cf x).length=s) (h0:0<s) (hRd:∀{F w b o x},Rd F w b o x→∀j,j<s→w.cell? ⟨b,o+j,none⟩=(cf x)[j]?) {F:Nat→Prop} {w:World} {p:Option Addr} {n c:Nat} {xs:List α} {M:List aV} {R:List (World→Prop)} (h:fc s N Rd F w (.slice p n c) xs) (hR:Ext w∈R):
  xs.length=0∨∃bk o,p=some ⟨bk,o,none⟩∧∀w',Ok M R w'→∀j u,(xs.flatMap cf)[j]?=some u→w'.cell? ⟨bk,o+j,none⟩=some u:=by
 obtain⟨p',c',e,hl,h⟩:=h
 cases e
 rcases h with h|⟨b,o,rfl,hF,h⟩
 ·exact .inl (by rw[h];rfl)
 ·refine .inr ⟨b,o,rfl,fun w' hw' j u hj=>?_⟩
  have hlt:j<xs.length*s:=by rw[←fP cf hs];exact(List.getElem?_eq_some_iff.1 hj).1
  have hi:j / s<xs.length:=Nat.div_lt_of_lt_mul (by rw[Nat.mul_comm];exact hlt)
  have hr:j % s<s:=Nat.mod_lt _ h0
  have ej:j=j / s*s+j % s:=by rw[Nat.mul_comm];exact(Nat.div_add_mod j s).symm
  have h1:=hRd (h (j / s) hi) (j % s) hr
  rw[←eT cf hs xs _ _ hi hr,←ej,hj,Nat.add_assoc,←ej]at h1
  exact(show Ext w w' from hw'.get hR).cell h1
theorem zy {F:Nat→Prop} {w:World} {b o:Nat} {x:eh} (h:dH F w b o x):∀j,j<4→w.cell? ⟨b,o+j,none⟩=(lA x)[j]?:=by
 obtain⟨cs,hV,hc⟩:=h
 obtain⟨rfl,-⟩:=hV
 exact hc
theorem xh {F:Nat→Prop} {w:World} {b o:Nat} {x:dz} (h:di F w b o x):∀j,j<3→w.cell? ⟨b,o+j,none⟩=(lx x)[j]?:=by
 obtain⟨cs,hV,hc⟩:=h
 obtain⟨rfl,-⟩:=hV
 exact hc
theorem zz (l:List eh):∀u∈l.flatMap lA,u.oneCell'=true:=by
 intro u hu;obtain⟨a,_,h⟩:=List.mem_flatMap.1 hu
 simp only[lA,List.mem_cons,List.not_mem_nil,or_false]at h
 rcases h with rfl|rfl|rfl|rfl<;>rfl
theorem yL (l:List dz):∀u∈l.flatMap lx,u.oneCell'=true:=by
 intro u hu;obtain⟨a,_,h⟩:=List.mem_flatMap.1 hu
 simp only[lx,List.mem_cons,List.not_mem_nil,or_false]at h
 rcases h with rfl|rfl|rfl<;>rfl
abbrev EN:Nat:=99
abbrev EM:Nat:=102
abbrev Db:Nat:=104
abbrev rn:Nat:=106
def d4 (m:ae) (i:Nat):Int→Bool:=fun k=>(m.globals.take i).any fun g=>named g.tE k
def d5 (m:ae) (i j:Nat):Int→Bool:=fun k=>d4 m m.globals.length k || (m.elems.take i).any (fun e=>e.items.any fun l=>named l k) || ((ix m.elems i).items.take j).any fun l=>named l k
def d6 (m:ae) (i:Nat):Int→Bool:=fun k=>d4 m m.globals.length k || m.elems.any (fun e=>e.items.any fun l=>named l k) || (m.aB.take i).any fun x=>decide (x.kind=0) && decide (x.index=k)
def qv (m:ae):lQ:=X5 m m.elems.length
structure zN (B bS sp im dm:Nat) (v:wk) (tc:List Value) (ig dg:Int→Option Value) (m:ae) (w:World):Prop where
 s:dZ w bS [.pointer (some ⟨sp,0,none⟩)] rn
 x:dZ w sp [v.tv,v.fv,v.bv,v.mv,v.gv,v.ev,.int .i64 (qv m).aS,.map (some im),.map (some dm)] sW
 fs:w.ownsRow B 3 1 v.fv (qv m).funcs.length ((qv m).funcs.map (Value.int .i64))
 bs:w.ownsRow B na 4 v.bv (qv m).tables.length ((qv m).tables.flatMap lA)
 ms:w.ownsRow B m9 3 v.mv (qv m).bO.length ((qv m).bO.flatMap lx)
 gs:w.ownsRow B m8 2 v.gv (qv m).globals.length ((qv m).globals.flatMap qh)
 es:w.ownsRow B lq 1 v.ev (qv m).elems.length ((qv m).elems.map (Value.int .i64))
 ts:w.ownsRow B qC 2 v.tv m.types.length tc
 im:IV w im ig
 dm:IV w dm dg
 DY:Bh ig (cN m m.imports.length)
 dec:xX dg (d6 m m.aB.length)
 ty:jt B tc m.types w
def aR (B:Nat) (m:ae) (w:World) (v:Value):Prop:=∃bS sp im dm vs tc ig dg,v=.pointer (some ⟨bS,0,none⟩)∧(B≤bS∧B≤sp∧B≤im∧B≤dm)∧zN B bS sp im dm vs tc ig dg m w
def mr (m:ae):Prop:=m.types.length≤1000∧m.imports.length≤1000∧m.funcs.length≤1000∧m.tables.length≤1048576∧m.bO.length≤1048576∧m.globals.length≤1000∧m.aB.length≤1048576∧m.elems.length≤1000∧m.aS.length≤17592186044416
def qA (m:ae) (w:World) (e:Ending) (w':World):Prop:=(∃v,e=.returned v∧aR w.heap.size m w' v)∧Ext w w'
theorem aR.aD {B:Nat} {m:ae} {S:Nat→Prop} {w w':World} {v:Value} (h:aR B m w v) (hc:bA S w w') (hS:∀k,B≤k→¬S k):aR B m w' v:=by
 obtain⟨bS,sp,im,dm,vs,tc,ig,dg,rfl,⟨g1,g2,g3,g4⟩,h⟩:=h
 exact⟨bS,sp,im,dm,vs,tc,ig,dg,rfl,⟨g1,g2,g3,g4⟩,h.s.aD hc (hS _ g1),h.x.aD hc (hS _ g2),bC h.fs hc (fun k hk=>hS k (h.fs.lt k hk).1),bC h.bs hc (fun k hk=>hS k (h.bs.lt k hk).1),bC h.ms hc (fun k hk=>hS k (h.ms.lt k hk).1),bC h.gs hc (fun k hk=>hS k (h.gs.lt k hk).1),bC h.es hc (fun k hk=>hS k (h.es.lt k hk).1),bC h.ts hc (fun k hk=>hS k (h.ts.lt k hk).1),h.im.aD hc (hS _ g3),h.dm.aD hc (hS _ g4),h.DY,h.dec,h.ty.aD hc hS⟩
set_option maxHeartbeats 32000000 in
theorem jI (F:Nat→Prop) (m:ae) (cs:List Value) (w:World) (hm:aH F w cs m) (hL:mr m):Calls G.P 10 #[.agg cs.toArray] w (qA m w):=by
 obtain⟨v0,v1,v2,v3,v4,v5,v6,v7,v8,v9,rfl,r0,r1,r2,r3,r4,r5,r6,r7,r8,r9,g0⟩:=hm
 obtain⟨L0,L1,L2,L3,L4,L5,L6,L7,L8⟩:=hL
 obtain⟨p0,c0,rfl,-⟩:=r0.slice
 obtain⟨p1,c1,rfl,-⟩:=r1.slice
 obtain⟨p2,c2,rfl,-⟩:=r2.slice
 obtain⟨p3,c3,rfl,-⟩:=r3.slice
 obtain⟨p4,c4,rfl,-⟩:=r4.slice
 obtain⟨p5,c5,rfl,-⟩:=r5.slice
 obtain⟨p6,c6,rfl,-⟩:=r6.slice
 obtain⟨p7,c7,rfl,-⟩:=r7.slice
 obtain⟨p8,c8,rfl,-⟩:=r8.slice
 refine aj (l:=[.agg (([Value.slice p0 m.types.length c0,Value.slice p1 m.imports.length c1,Value.slice p2 m.funcs.length c2,Value.slice p3 m.tables.length c3,Value.slice p4 m.bO.length c4,Value.slice p5 m.globals.length c5,Value.slice p6 m.aB.length c6,Value.bool m.aF,Value.int .i64 m.start,Value.slice p7 m.elems.length c7,Value.slice p8 m.aS.length c8,v9]:List Value)).toArray]) Tryz.func10 rfl Tryz.ntmps10 rfl (Ok.start w) ?_
 refine dy ?_
 refine aa.box ([Value.slice p0 m.types.length c0,Value.slice p1 m.imports.length c1,Value.slice p2 m.funcs.length c2,Value.slice p3 m.tables.length c3,Value.slice p4 m.bO.length c4,Value.slice p5 m.globals.length c5,Value.slice p6 m.aB.length c6,Value.bool m.aF,Value.int .i64 m.start,Value.slice p7 m.elems.length c7,Value.slice p8 m.aS.length c8,v9]:List Value) rfl rfl rfl fun b=>?_
 refine dy ?_
 refine aa.he HE.makeMap rfl ?_
 intro im _
 refine aa.he HE.makeMap rfl ?_
 intro dm _
 refine dy ?_
 refine aa.box [Value.slice none 0 0,Value.slice none 0 0,Value.slice none 0 0,Value.slice none 0 0,Value.slice none 0 0,Value.slice none 0 0,Value.int .i64 m.aS.length,Value.map (some im),Value.map (some dm)] rfl rfl rfl fun sp=>?_
 refine dy ?_
 refine aa.alloc [Value.pointer none] rfl rfl rfl fun bx=>?_
 refine dy ?_
 refine aQ.iC w.heap.size qC 2 ?_
 refine aQ.iC w.heap.size lq 1 ?_
 refine aQ.iC w.heap.size m8 2 ?_
 refine aQ.iC w.heap.size m9 3 ?_
 refine aQ.iC w.heap.size na 4 ?_
 refine aQ.iC w.heap.size 3 1 ?_
 refine aQ.front (q:=.own w.heap.size qC 2 _ _ _) hU ?_
 refine aQ.front (q:=.iv dm _) hU ?_
 refine aQ.front (q:=.iv im _) hU ?_
 refine aQ.front (q:=.own w.heap.size lq 1 _ _ _) hU ?_
 refine aQ.front (q:=.own w.heap.size m8 2 _ _ _) hU ?_
 refine aQ.front (q:=.own w.heap.size m9 3 _ _ _) hU ?_
 refine aQ.front (q:=.own w.heap.size na 4 _ _ _) hU ?_
 refine aQ.front (q:=.own w.heap.size 3 1 _ _ _) hU ?_
 refine aQ.front (q:=.aJ sp _ _) hU ?_
 refine aQ.front (q:=.aJ bx _ _) hU ?_
 refine aQ.kq (jt w.heap.size [] (m.types.take 0)) (fun w' _=>⟨rfl,fun i hi=>by simp at hi⟩) ?_
 refine aQ.loop (σ:=Nat×Value×List Value) (fun s=>[(1,.pointer (some ⟨b,0,none⟩)),(3,.pointer (some ⟨bx,0,none⟩)),(28,.slice p0 m.types.length c0),(29,.int .i64 m.types.length),(30,.int .i64 s.1)]) (fun s=>iF w.heap.size bx sp im dm ⟨s.2.1,.slice none 0 0,.slice none 0 0,.slice none 0 0,.slice none 0 0,.slice none 0 0⟩ s.1 s.2.2 (X0 m) (fun _=>none) (fun _=>none)++[.aJ b ([Value.slice p0 m.types.length c0,Value.slice p1 m.imports.length c1,Value.slice p2 m.funcs.length c2,Value.slice p3 m.tables.length c3,Value.slice p4 m.bO.length c4,Value.slice p5 m.globals.length c5,Value.slice p6 m.aB.length c6,Value.bool m.aF,Value.int .i64 m.start,Value.slice p7 m.elems.length c7,Value.slice p8 m.aS.length c8,v9]:List Value) ic]) (fun s=>[jt w.heap.size s.2.2 (m.types.take s.1),Ext w]) (fun s=>s.1≤m.types.length) (fun s=>m.types.length - s.1) (0,.slice none 0 0,[]) bR GO GI G2 ?_
 rintro⟨i,tv,tc⟩ hi
 dsimp only at hi ⊢
 unfold iF
 simp only[List.cons_append,List.nil_append]
 by_cases hlt:i<m.types.length
 ·obtain⟨b1,o1,rfl,hF,cs5,⟨u0,u1,rfl,q0,q1⟩,hc5⟩:=r0.el hlt
  obtain⟨x0,y0,rfl,-⟩:=q0.slice
  obtain⟨x1,y1,rfl,-⟩:=q1.slice
  refine dy ?_
  refine F6 ?_
  refine aa.alloc [Value.slice none 0 0,Value.slice none 0 0] rfl rfl rfl fun b5=>?_
  refine dy ?_
  refine aQ.cA [0,1,2,3,4,5,6,7,8,9,10] 11 [.aJ b5 _ qC,.aJ bx [.pointer (some ⟨sp,0,none⟩)] mw,.aJ sp [tv,.slice none 0 0,.slice none 0 0,.slice none 0 0,.slice none 0 0,.slice none 0 0,.int .i64 (X0 m).aS,.map (some im),.map (some dm)] sW] [] G7 bN aY ?_
  refine jM ?_
  refine aN.he (HE.Cx (V:=Cg (ix m.types i)) (fun x=>.agg #[x.1,x.2]) (Cg.fresh _) rfl rfl (fun w' hw'=>sF F (ix m.types i) _ _ w' (q0.aD (show Ext w w' from hw'.at) (fun _ _ _ h=>h)) (q1.aD (show Ext w w' from hw'.at) (fun _ _ _ h=>h)))) rfl (fun _=>bN) (fun _=>aY) ?_
  rintro⟨lo,z1,z2⟩ ⟨wx,hwx,hlo⟩
  have hlo':w.heap.size≤lo:=by have h:=xJ (w:=w) ao wx hwx;have:lo=wx.heap.size:=hlo;omega
  dsimp only
  refine aN.pure (φ:=(∃p c,z1=.slice p (ix m.types i).params.length c)∧∃p c,z2=.slice p (ix m.types i).results.length c) (fun w' hw'=>?_) ?_
  ·have hv:Cg (ix m.types i) lo w' (z1,z2):=hw'.at
   obtain⟨p,c,e,_⟩:=hv.1.slice
   obtain⟨p',c',e',_⟩:=hv.2.slice
   exact⟨⟨p,c,e⟩,⟨p',c',e'⟩⟩
  rintro⟨⟨e1,f1,rfl⟩,⟨e2,f2,rfl⟩⟩
  refine FX ?_
  intro b3 _
  refine F7 ?_
  intro v2 _
  refine jM ?_
  refine aN.pure (φ:=v2.oneCell'=true) (fun w' hw'=>gb (hw'.own (v:=v2))) fun hone=>?_
  refine F5 ?_
  rintro⟨⟩ _
  refine dy ?_
  refine ai.kq (jt w.heap.size (tc++[.slice e1 (ix m.types i).params.length f1,.slice e2 (ix m.types i).results.length f2]) (m.types.take (i+1))) (fun w' hw'=>?_) ?_
  ·rw[bu hlt]
   have hv:Cg (ix m.types i) lo w' (.slice e1 (ix m.types i).params.length f1,.slice e2 (ix m.types i).results.length f2):=yd hw'
   exact jt.app (yd hw') (hv.1.mono (fun k _ hk=>Nat.le_trans hlo' hk)) (hv.2.mono (fun k _ hk=>Nat.le_trans hlo' hk))
  exact ai.next (i+1,v2,tc++[.slice e1 (ix m.types i).params.length f1,.slice e2 (ix m.types i).results.length f2]) bR (by dsimp only;exact lB) GI G2 G2
 ·obtain rfl:i=m.types.length:=by omega
  refine dy ?_
  refine aQ.loop (σ:=Nat×wk×(Int→Option Value)) (fun s=>[(1,.pointer (some ⟨b,0,none⟩)),(3,.pointer (some ⟨bx,0,none⟩)),(6,.func (.func 24) #[] #[.pointer (some ⟨bx,0,none⟩)]),(48,.slice p1 m.imports.length c1),(49,.int .i64 m.imports.length),(50,.int .i64 s.1)]) (fun s=>iF w.heap.size bx sp im dm s.2.1 m.types.length tc (uF (m.imports.take s.1) (X0 m)) s.2.2 (fun _=>none)++[.aJ b ([Value.slice p0 m.types.length c0,Value.slice p1 m.imports.length c1,Value.slice p2 m.funcs.length c2,Value.slice p3 m.tables.length c3,Value.slice p4 m.bO.length c4,Value.slice p5 m.globals.length c5,Value.slice p6 m.aB.length c6,Value.bool m.aF,Value.int .i64 m.start,Value.slice p7 m.elems.length c7,Value.slice p8 m.aS.length c8,v9]:List Value) ic]) (fun s=>[jt w.heap.size tc (m.types.take m.types.length),Ext w]) (fun s=>s.1≤m.imports.length∧s.2.1.tv=tv∧Bh s.2.2 (cN m s.1)) (fun s=>m.imports.length - s.1) (0,⟨tv,.slice none 0 0,.slice none 0 0,.slice none 0 0,.slice none 0 0,.slice none 0 0⟩,fun _=>none) bR GO aY ⟨by dsimp only;omega,rfl,fun k=>by simp[cN,uO]⟩ ?_
  rintro⟨i,v,ig⟩ ⟨hi,hvt,hcnt⟩
  dsimp only at hi hvt hcnt ⊢
  have hbl:=vK m i hi
  by_cases hlt:i<m.imports.length
  ·obtain⟨b1,o1,rfl,hF,he⟩:=r1.el hlt
   have hk9:=he.uP
   have hcs:=zY m hlt
   have hcl:=Ai m.imports (ix m.imports i).kind i
   obtain⟨cs9,hV9,hc9⟩:=he
   obtain⟨rfl,-⟩:=hV9
   refine dy ?_
   refine aa.y_ (Yl.fY rfl rfl rfl ao Hd Hd hc9) rfl ?_
   refine aa.alloc [Value.string ⟨#[]⟩,Value.string ⟨#[]⟩,Value.int .i64 0,Value.int .i64 0,Value.int .i64 0,Value.int .i64 0,Value.int .i64 0,Value.bool false,Value.int .i64 0,Value.int .i64 0,Value.bool false,Value.int .i64 0,Value.bool false] rfl rfl rfl fun b8=>?_
   refine dy ?_
   refine aa.he (HE.rL (B:=w.heap.size) (R':=[]) rfl rfl rfl List.perm_middle.symm (fun p hp=>absurd hp Hc) (fun w' hw' hB=>uc w.heap.size bx sp im dm v m.types.length tc _ ig (fun _=>none) (ix m.imports i) (cN m i) w' hw' hB ⟨by omega,by omega,by omega,by omega,by omega⟩ hcnt hk9 (by unfold cN;omega)) xJ) rfl ?_
   rintro⟨v',ig'⟩ ⟨hc',ht'⟩
   dsimp only at hc' ht' ⊢
   rw[hcs]at hc'
   refine dy ?_
   refine ai.next (i+1,v',ig') bR ?_ aY ⟨by dsimp only;omega,by dsimp only;rw[ht',hvt],hc'⟩ G2
   dsimp only
   rw[bu hlt,th]
   unfold iF;simp only[List.cons_append,List.nil_append];exact lB
  ·obtain rfl:i=m.imports.length:=by omega
   obtain⟨tv',fv0,bv,mv,gv,ev⟩:=v
   dsimp only at hvt
   subst hvt
   have e1:uF (m.imports.take m.imports.length) (X0 m)=X1 m:=by unfold X1;rw[List.take_length]
   have hlen1:(X1 m).funcs.length≤1000∧(X1 m).tables.length≤1000∧(X1 m).bO.length≤1000∧(X1 m).globals.length≤1000∧(X1 m).elems.length≤0:=by rw[←e1];omega
   rw[e1]
   unfold iF
   simp only[List.cons_append,List.nil_append]
   refine dy ?_
   have e2:(X2 m 0).funcs=(X1 m).funcs:=by simp[X2]
   refine aQ.loop (σ:=Nat×Value) (fun s=>[(1,.pointer (some ⟨b,0,none⟩)),(3,.pointer (some ⟨bx,0,none⟩)),(59,.slice p2 m.funcs.length c2),(60,.int .i64 m.funcs.length),(61,.int .i64 s.1)]) (fun s=>iF w.heap.size bx sp im dm ⟨tv',s.2,bv,mv,gv,ev⟩ m.types.length tc (X2 m s.1) ig (fun _=>none)++[.aJ b ([Value.slice p0 m.types.length c0,Value.slice p1 m.imports.length c1,Value.slice p2 m.funcs.length c2,Value.slice p3 m.tables.length c3,Value.slice p4 m.bO.length c4,Value.slice p5 m.globals.length c5,Value.slice p6 m.aB.length c6,Value.bool m.aF,Value.int .i64 m.start,Value.slice p7 m.elems.length c7,Value.slice p8 m.aS.length c8,v9]:List Value) ic]) (fun s=>[jt w.heap.size tc (m.types.take m.types.length),Ext w]) (fun s=>s.1≤m.funcs.length) (fun s=>m.funcs.length - s.1) (0,fv0) bR (by unfold iF;dsimp only;simp only[List.cons_append,List.nil_append,e2];exact lB) aY G2 ?_
   rintro⟨i,fv⟩ hi
   dsimp only at hi ⊢
   unfold iF
   simp only[List.cons_append,List.nil_append]
   by_cases hlt:i<m.funcs.length
   ·obtain⟨b1,o1,rfl,hF,cs5,⟨u0,u1,rfl,q0,q1,q2⟩,hc5⟩:=r2.el hlt
    obtain⟨x2,y2,rfl,z2⟩:=q1.slice
    obtain⟨x0,y0,rfl,z0⟩:=q0.slice
    have e3:(X2 m (i+1)).funcs=(X2 m i).funcs++[(ix m.funcs i).cP]:=by simp[X2,bu hlt]
    have l3:(X2 m i).funcs.length≤3000:=by simp[X2];omega
    refine dy ?_
    refine F6 ?_
    refine aa.alloc [Value.int .i64 0,Value.slice none 0 0,Value.slice none 0 0] rfl rfl rfl fun b10=>?_
    refine dy ?_
    refine aQ.cA [0,1,2,3,4,5,6,7,8,9,10] 11 [.aJ b10 _ vG,.aJ bx [.pointer (some ⟨sp,0,none⟩)] mw,.aJ sp [tv',fv,bv,mv,gv,ev,.int .i64 (X2 m i).aS,.map (some im),.map (some dm)] sW] [] G7 bN aY ?_
    refine jM ?_
    refine FX ?_
    intro b3 _
    refine F7 ?_
    intro v2 _
    refine jM ?_
    refine aN.pure (φ:=v2.oneCell'=true) (fun w' hw'=>gb (hw'.own (v:=v2))) fun hone=>?_
    refine F5 ?_
    rintro⟨⟩ _
    refine dy ?_
    exact ai.next (i+1,v2) bR (by dsimp only;simp only[e3];exact lB) aY G2 G2
   ·obtain rfl:i=m.funcs.length:=by omega
    refine dy ?_
    refine aQ.cA [0,1,2,3,4,5,6,7,8,9] 10 [.aJ bx [.pointer (some ⟨sp,0,none⟩)] mw,.aJ sp [tv',fv,bv,mv,gv,ev,.int .i64 (X2 m m.funcs.length).aS,.map (some im),.map (some dm)] sW,.aJ b ([Value.slice p0 m.types.length c0,Value.slice p1 m.imports.length c1,Value.slice p2 m.funcs.length c2,Value.slice p3 m.tables.length c3,Value.slice p4 m.bO.length c4,Value.slice p5 m.globals.length c5,Value.slice p6 m.aB.length c6,Value.bool m.aF,Value.int .i64 m.start,Value.slice p7 m.elems.length c7,Value.slice p8 m.aS.length c8,v9]:List Value) ic] [Ext w] G7 bN aY ?_
    refine jM ?_
    refine aN.he (HE.Cr (m.tables.flatMap lA) rfl rfl (fun _=>bJ) (vR lA (fun _=>rfl) Hb (fun h=>zy h) r3 ao) (fP lA (fun _=>rfl) _) rfl rfl rfl Hd Hd Hd Hd (zz _) (by have:(X2 m m.funcs.length).tables.length=(X1 m).tables.length:=rfl;omega) xJ) rfl (fun _=>bN) (fun _=>aY) ?_
    intro v2 _
    refine jM ?_
    refine aN.pure (φ:=v2.oneCell'=true) (fun w' hw'=>gb (hw'.own (v:=v2))) fun hone=>?_
    refine F5 ?_
    rintro⟨⟩ _
    refine dy ?_
    refine aQ.cA [0,1,2,3,4,5,6,7,8,9] 10 [.aJ bx [.pointer (some ⟨sp,0,none⟩)] mw,.aJ sp [tv',fv,v2,mv,gv,ev,.int .i64 (X2 m m.funcs.length).aS,.map (some im),.map (some dm)] sW,.aJ b ([Value.slice p0 m.types.length c0,Value.slice p1 m.imports.length c1,Value.slice p2 m.funcs.length c2,Value.slice p3 m.tables.length c3,Value.slice p4 m.bO.length c4,Value.slice p5 m.globals.length c5,Value.slice p6 m.aB.length c6,Value.bool m.aF,Value.int .i64 m.start,Value.slice p7 m.elems.length c7,Value.slice p8 m.aS.length c8,v9]:List Value) ic] [Ext w] G7 bN aY ?_
    refine jM ?_
    refine aN.he (HE.Cr (m.bO.flatMap lx) rfl rfl (fun _=>bJ) (vR lx (fun _=>rfl) Hb (fun h=>xh h) r4 ao) (fP lx (fun _=>rfl) _) rfl rfl rfl Hd Hd Hd Hd (yL _) (by have:(X2 m m.funcs.length).bO.length=(X1 m).bO.length:=rfl;omega) xJ) rfl (fun _=>bN) (fun _=>aY) ?_
    intro v3 _
    refine jM ?_
    refine aN.pure (φ:=v3.oneCell'=true) (fun w' hw'=>gb (hw'.own (v:=v3))) fun hone3=>?_
    refine aN.hG (gj.er rfl rfl rfl rfl hone3 bJ mi) rfl ?_
    rintro⟨⟩ _
    refine dy ?_
    have e4:(X4 m 0).globals=(X1 m).globals:=by simp[X4]
    have e5:(X4 m 0).tables=(X2 m m.funcs.length).tables++m.tables:=rfl
    have e6:(X4 m 0).bO=(X2 m m.funcs.length).bO++m.bO:=rfl
    refine aQ.loop (σ:=Nat×Value×(Int→Option Value)) (fun s=>[(1,.pointer (some ⟨b,0,none⟩)),(3,.pointer (some ⟨bx,0,none⟩)),(11,.func (.func 25) #[] #[.pointer (some ⟨bx,0,none⟩)]),(99,.slice p5 m.globals.length c5),(100,.int .i64 m.globals.length),(101,.int .i64 s.1)]) (fun s=>iF w.heap.size bx sp im dm ⟨tv',fv,v2,v3,s.2.1,ev⟩ m.types.length tc (X4 m s.1) ig s.2.2++[.aJ b ([Value.slice p0 m.types.length c0,Value.slice p1 m.imports.length c1,Value.slice p2 m.funcs.length c2,Value.slice p3 m.tables.length c3,Value.slice p4 m.bO.length c4,Value.slice p5 m.globals.length c5,Value.slice p6 m.aB.length c6,Value.bool m.aF,Value.int .i64 m.start,Value.slice p7 m.elems.length c7,Value.slice p8 m.aS.length c8,v9]:List Value) ic]) (fun s=>[jt w.heap.size tc (m.types.take m.types.length),Ext w]) (fun s=>s.1≤m.globals.length∧xX s.2.2 (d4 m s.1)) (fun s=>m.globals.length - s.1) (0,gv,fun _=>none) bR (by unfold iF;dsimp only;simp only[List.cons_append,List.nil_append,e4,e5,e6];exact lB) aY ⟨by dsimp only;omega,fun k=>by simp[d4]⟩ ?_
    rintro⟨i,gv4,dg⟩ ⟨hi,hdec⟩
    dsimp only at hi hdec ⊢
    unfold iF
    simp only[List.cons_append,List.nil_append]
    by_cases hlt:i<m.globals.length
    ·obtain⟨b1,o1,rfl,hF,cs5,⟨u0,rfl,q0,q2⟩,hc5⟩:=r5.el hlt
     obtain⟨x2,y2,rfl,z2⟩:=q0.slice
     have e7:(X4 m (i+1)).globals=(X4 m i).globals++[(ix m.globals i).cP]:=by simp[X4,bu hlt]
     have l7:(X4 m i).globals.length≤3000:=by simp[X4];omega
     have d7:lE (d4 m i) (ix m.globals i).tE=d4 m (i+1):=by
      funext k;unfold lE d4;rw[bu hlt,List.any_append];simp
     refine dy ?_
     refine F6 ?_
     refine aa.alloc [Value.int .i64 0,Value.bool false,Value.slice none 0 0] rfl rfl rfl fun b13=>?_
     refine dy ?_
     refine aQ.cA [0,1,2,3,4,5,6,7,8,9,10] 11 [.aJ b13 _ EN,.aJ bx [.pointer (some ⟨sp,0,none⟩)] mw,.aJ sp [tv',fv,v2,v3,gv4,ev,.int .i64 (X4 m i).aS,.map (some im),.map (some dm)] sW] [] G7 bN aY ?_
     refine jM ?_
     refine FX ?_
     intro b3 _
     refine F7 ?_
     intro v4 _
     refine jM ?_
     refine aN.pure (φ:=v4.oneCell'=true) (fun w' hw'=>gb (hw'.own (v:=v4))) fun hone=>?_
     refine F5 ?_
     rintro⟨⟩ _
     refine dy ?_
     refine aa.sub (E':=[(1,.pointer (some ⟨b,0,none⟩)),(3,.pointer (some ⟨bx,0,none⟩)),(11,.func (.func 25) #[] #[.pointer (some ⟨bx,0,none⟩)]),(116,.func (.func 25) #[] #[.pointer (some ⟨bx,0,none⟩)]),(118,.slice x2 (ix m.globals i).tE.length y2),(99,.slice (some ⟨b1,o1,none⟩) m.globals.length c5),(100,.int .i64 m.globals.length),(101,.int .i64 i)]) bR (M':=(iF w.heap.size bx sp im dm ⟨tv',fv,v2,v3,v4,ev⟩ m.types.length tc (X4 m (i+1)) ig dg++[.aJ b ([Value.slice p0 m.types.length c0,Value.slice p1 m.imports.length c1,Value.slice p2 m.funcs.length c2,Value.slice p3 m.tables.length c3,Value.slice p4 m.bO.length c4,Value.slice (some ⟨b1,o1,none⟩) m.globals.length c5,Value.slice p6 m.aB.length c6,Value.bool m.aF,Value.int .i64 m.start,Value.slice p7 m.elems.length c7,Value.slice p8 m.aS.length c8,v9]:List Value) ic])) (R':=[jt w.heap.size tc (m.types.take m.types.length),Ext w]) (by unfold iF;simp only[List.cons_append,List.nil_append,e7];exact lB) aY ?_
     refine aa.he (HE.rL (B:=w.heap.size) (R':=[Ext w]) rfl rfl rfl (List.Perm.refl _) aY (fun w' hw' _=>pQ F w.heap.size bx sp im dm _ m.types.length tc _ ig dg (d4 m i) (ix m.globals i).tE _ w w' hw' q0 hdec) xJ) rfl ?_
     intro dg' hdec'
     rw[d7]at hdec'
     refine dy ?_
     refine ai.next (i+1,v4,dg') bR ?_ aY ⟨by dsimp only;omega,hdec'⟩ G2
     unfold iF;simp only[List.cons_append,List.nil_append];exact lB
    ·obtain rfl:i=m.globals.length:=by omega
     refine dy ?_
     have e8:(X5 m 0).elems=(X4 m m.globals.length).elems:=by simp only[X5,List.take_zero,List.map_nil,List.append_nil];rfl
     refine aQ.loop (σ:=Nat×Value×(Int→Option Value)) (fun s=>[(1,.pointer (some ⟨b,0,none⟩)),(3,.pointer (some ⟨bx,0,none⟩)),(11,.func (.func 25) #[] #[.pointer (some ⟨bx,0,none⟩)]),(122,.slice p7 m.elems.length c7),(123,.int .i64 m.elems.length),(124,.int .i64 s.1)]) (fun s=>iF w.heap.size bx sp im dm ⟨tv',fv,v2,v3,gv4,s.2.1⟩ m.types.length tc (X5 m s.1) ig s.2.2++[.aJ b ([Value.slice p0 m.types.length c0,Value.slice p1 m.imports.length c1,Value.slice p2 m.funcs.length c2,Value.slice p3 m.tables.length c3,Value.slice p4 m.bO.length c4,Value.slice p5 m.globals.length c5,Value.slice p6 m.aB.length c6,Value.bool m.aF,Value.int .i64 m.start,Value.slice p7 m.elems.length c7,Value.slice p8 m.aS.length c8,v9]:List Value) ic]) (fun s=>[jt w.heap.size tc (m.types.take m.types.length),Ext w]) (fun s=>s.1≤m.elems.length∧xX s.2.2 (d5 m s.1 0)) (fun s=>m.elems.length - s.1) (0,ev,dg) bR (by unfold iF;dsimp only;simp only[List.cons_append,List.nil_append,e8];exact lB) aY ⟨by dsimp only;omega,fun k=>by rw[hdec k];simp[d5]⟩ ?_
     rintro⟨i,ev5,dg⟩ ⟨hi,hdec⟩
     dsimp only at hi hdec ⊢
     unfold iF
     simp only[List.cons_append,List.nil_append]
     by_cases hlt:i<m.elems.length
     ·obtain⟨b1,o1,rfl,hF,cs5,⟨u0,u1,rfl,q0,q1,q2⟩,hc5⟩:=r7.el hlt
      obtain⟨x2,y2,rfl,z2⟩:=q0.slice
      obtain⟨x4,y4,rfl,z4⟩:=q1.slice
      have e9:(X5 m (i+1)).elems=(X5 m i).elems++[(ix m.elems i).cP]:=by simp[X5,bu hlt]
      have l9:(X5 m i).elems.length≤3000:=by simp[X5];omega
      refine dy ?_
      refine F6 ?_
      refine aa.alloc [Value.int .i64 0,Value.int .i64 0,Value.slice none 0 0,Value.int .i64 0,Value.slice none 0 0] rfl rfl rfl fun b15=>?_
      refine dy ?_
      refine aQ.cA [0,1,2,3,4,5,6,7,8,9,10] 11 [.aJ b15 _ EM,.aJ bx [.pointer (some ⟨sp,0,none⟩)] mw,.aJ sp [tv',fv,v2,v3,gv4,ev5,.int .i64 (X5 m i).aS,.map (some im),.map (some dm)] sW] [] G7 bN aY ?_
      refine jM ?_
      refine FX ?_
      intro b3 _
      refine F7 ?_
      intro v5 _
      refine jM ?_
      refine aN.pure (φ:=v5.oneCell'=true) (fun w' hw'=>gb (hw'.own (v:=v5))) fun hone=>?_
      refine F5 ?_
      rintro⟨⟩ _
      refine dy ?_
      refine aQ.loop (σ:=Nat×(Int→Option Value)) (fun s=>[(1,.pointer (some ⟨b,0,none⟩)),(3,.pointer (some ⟨bx,0,none⟩)),(11,.func (.func 25) #[] #[.pointer (some ⟨bx,0,none⟩)]),(122,.slice (some ⟨b1,o1,none⟩) m.elems.length c7),(123,.int .i64 m.elems.length),(124,.int .i64 i),(140,.slice x4 (ix m.elems i).items.length y4),(141,.int .i64 (ix m.elems i).items.length),(142,.int .i64 s.1)]) (fun s=>iF w.heap.size bx sp im dm ⟨tv',fv,v2,v3,gv4,v5⟩ m.types.length tc (X5 m (i+1)) ig s.2++[.aJ b ([Value.slice p0 m.types.length c0,Value.slice p1 m.imports.length c1,Value.slice p2 m.funcs.length c2,Value.slice p3 m.tables.length c3,Value.slice p4 m.bO.length c4,Value.slice p5 m.globals.length c5,Value.slice p6 m.aB.length c6,Value.bool m.aF,Value.int .i64 m.start,Value.slice (some ⟨b1,o1,none⟩) m.elems.length c7,Value.slice p8 m.aS.length c8,v9]:List Value) ic]) (fun s=>[jt w.heap.size tc (m.types.take m.types.length),Ext w]) (fun s=>s.1≤(ix m.elems i).items.length∧xX s.2 (d5 m i s.1)) (fun s=>(ix m.elems i).items.length - s.1) (0,dg) bR (by unfold iF;dsimp only;simp only[List.cons_append,List.nil_append,e9];exact lB) aY ⟨by dsimp only;omega,hdec⟩ ?_
      rintro⟨j,dg6⟩ ⟨hj,hdec6⟩
      dsimp only at hj hdec6 ⊢
      by_cases hjl:j<(ix m.elems i).items.length
      ·obtain⟨b7,o7,rfl,-,u7,c7_,hu7⟩:=q1.el hjl
       rw[Nat.mul_one]at c7_
       obtain⟨x8,y8,rfl,-⟩:=hu7.slice
       have d8:lE (d5 m i j) (ix (ix m.elems i).items j)=d5 m i (j+1):=by
        funext k;unfold lE d5;rw[bu hjl,List.any_append,Bool.or_assoc];simp
       refine dy ?_
       refine aa.he (HE.rL (B:=w.heap.size) (R':=[Ext w]) rfl rfl rfl (List.Perm.refl _) aY (fun w' hw' _=>pQ F w.heap.size bx sp im dm _ m.types.length tc _ ig dg6 (d5 m i j) (ix (ix m.elems i).items j) _ w w' hw' hu7 hdec6) xJ) rfl ?_
       intro dg' hdec'
       rw[d8]at hdec'
       refine dy ?_
       exact ai.next (j+1,dg') bR GO aY ⟨by dsimp only;omega,hdec'⟩ G2
      ·obtain rfl:j=(ix m.elems i).items.length:=by omega
       have d9:d5 m i (ix m.elems i).items.length=d5 m (i+1) 0:=by
        funext k;unfold d5;rw[List.take_length,bu hlt,List.any_append];simp[Bool.or_assoc]
       rw[d9]at hdec6
       refine dy ?_
       exact ai.next (i+1,v5,dg6) bR (by unfold iF;dsimp only;simp only[List.cons_append,List.nil_append];exact lB) aY ⟨by dsimp only;omega,hdec6⟩ G2
     ·obtain rfl:i=m.elems.length:=by omega
      refine dy ?_
      refine aQ.loop (σ:=Nat×(Int→Option Value)) (fun s=>[(1,.pointer (some ⟨b,0,none⟩)),(3,.pointer (some ⟨bx,0,none⟩)),(11,.func (.func 25) #[] #[.pointer (some ⟨bx,0,none⟩)]),(152,.slice p6 m.aB.length c6),(153,.int .i64 m.aB.length),(154,.int .i64 s.1)]) (fun s=>iF w.heap.size bx sp im dm ⟨tv',fv,v2,v3,gv4,ev5⟩ m.types.length tc (X5 m m.elems.length) ig s.2++[.aJ b ([Value.slice p0 m.types.length c0,Value.slice p1 m.imports.length c1,Value.slice p2 m.funcs.length c2,Value.slice p3 m.tables.length c3,Value.slice p4 m.bO.length c4,Value.slice p5 m.globals.length c5,Value.slice p6 m.aB.length c6,Value.bool m.aF,Value.int .i64 m.start,Value.slice p7 m.elems.length c7,Value.slice p8 m.aS.length c8,v9]:List Value) ic]) (fun s=>[jt w.heap.size tc (m.types.take m.types.length),Ext w]) (fun s=>s.1≤m.aB.length∧xX s.2 (d6 m s.1)) (fun s=>m.aB.length - s.1) (0,dg) bR (by unfold iF;dsimp only;simp only[List.cons_append,List.nil_append];exact lB) aY ⟨by dsimp only;omega,fun k=>by rw[hdec k];simp[d5,d6]⟩ ?_
      rintro⟨i,dg⟩ ⟨hi,hdec⟩
      dsimp only at hi hdec ⊢
      unfold iF
      simp only[List.cons_append,List.nil_append]
      by_cases hlt:i<m.aB.length
      ·obtain⟨b1,o1,rfl,hF,he⟩:=r6.el hlt
       have hri:=he.rS
       obtain⟨cs9,hV9,hc9⟩:=he
       obtain⟨rfl,-⟩:=hV9
       have hnx:∀k,d6 m (i+1) k=(d6 m i k || (decide ((ix m.aB i).kind=0) && decide ((ix m.aB i).index=k))):=fun k=>by
        unfold d6;rw[bu hlt,List.any_append];simp[Bool.or_assoc]
       refine dy ?_
       refine aa.y_ (Yl.fY rfl rfl rfl ao Hd Hd hc9) rfl ?_
       refine aa.alloc [Value.string ⟨#[]⟩,Value.int .i64 0,Value.int .i64 0] rfl rfl rfl fun b19=>?_
       refine dy ?_
       by_cases hk0:(ix m.aB i).kind=0
       ·refine dy ?_
        refine aQ.cA [0,1,2,3,4,5] 6 [.aJ b19 _ Db,.aJ bx [.pointer (some ⟨sp,0,none⟩)] mw,.aJ sp [tv',fv,v2,v3,gv4,ev5,.int .i64 (X5 m m.elems.length).aS,.map (some im),.map (some dm)] sW] [] G7 bN aY ?_
        refine jM ?_
        refine aN.hG (gj.mapUpdate Tryz.underlying82 Tryz.underlying3 rfl rfl rfl hri bJ) rfl ?_
        rintro⟨⟩ _
        refine dy ?_
        refine ai.next (i+1,put dg (ix m.aB i).index (.bool true)) bR (by dsimp only;exact lB) aY ⟨by dsimp only;omega,fun k=>?_⟩ G2
        dsimp only
        rw[hdec.put _ k,hnx k];simp[hk0]
       ·refine dy ?_
        refine ai.next (i+1,dg) bR (by dsimp only;exact lB) aY ⟨by dsimp only;omega,fun k=>?_⟩ G2
        dsimp only
        rw[hdec k,hnx k];simp[hk0]
      ·obtain rfl:i=m.aB.length:=by omega
       refine dy ?_
       refine aa.box [Value.pointer (some ⟨sp,0,none⟩)] rfl rfl rfl fun bS=>?_
       refine dy ?_
       refine ai.aA rfl rfl fun w' hw'=>?_
       have hbig:∀k,Mb _ k→k<w.heap.size→False:=hw'.origin (S:=fun _=>False) (w0:=w) ao
       have hx:Ext w w':=hw'.at
       have hty:jt w.heap.size tc (m.types.take m.types.length) w':=hw'.at
       rw[List.take_length]at hty
       have o1:=hw'.own (v:=fv)
       have o2:=hw'.own (v:=v2)
       have o3:=hw'.own (v:=v3)
       have o4:=hw'.own (v:=gv4)
       have o5:=hw'.own (v:=ev5)
       have o6:=hw'.own (v:=tv')
       have hge:∀q:aV,q∈_→∀k,q.F k→w.heap.size≤k:=fun q hq k hk=>by
        rcases Nat.lt_or_ge k w.heap.size with h|h
        ·exact(hbig k ⟨q,hq,hk⟩ h).elim
        ·exact h
       refine⟨⟨_,rfl,bS,sp,im,dm,⟨tv',fv,v2,v3,gv4,ev5⟩,tc,ig,dg,rfl,⟨hge (.aJ bS [.pointer (some ⟨sp,0,none⟩)] rn) gi bS rfl,hge (.aJ sp [tv',fv,v2,v3,gv4,ev5,.int .i64 (X5 m m.elems.length).aS,.map (some im),.map (some dm)] sW) gi sp rfl,hge (.iv im ig) gi im rfl,hge (.iv dm dg) gi dm rfl⟩,⟨(hw'.m (.aJ bS [.pointer (some ⟨sp,0,none⟩)] rn) gi).1,(hw'.m (.aJ sp [tv',fv,v2,v3,gv4,ev5,.int .i64 (X5 m m.elems.length).aS,.map (some im),.map (some dm)] sW) gi).1,o1,o2,o3,o4,o5,o6,(hw'.m (.iv im ig) gi).1,(hw'.m (.iv dm dg) gi).1,hcnt,hdec,hty⟩⟩,hx⟩
def oT (m:ae) (k:Int):List cH:=m.imports.filter fun x=>decide (x.kind=k)
def gz (m:ae):List Int:=(oT m 0).map (·.func)++m.funcs.map (·.cP)
def dF (m:ae):List eh:=(oT m 1).map (·.table)++m.tables
def kM (m:ae):List dz:=(oT m 2).map (·.mem)++m.bO
def iy (m:ae):List ff:=(oT m 3).map (·.gC)++m.globals.map (·.cP)
def iq (m:ae):List Int:=m.elems.map (·.cP)
theorem wH (l:List cH) (X:lQ):l.foldl lQ.fm X={X with funcs:=X.funcs++(l.filter fun x=>decide (x.kind=0)).map (·.func),tables:=X.tables++(l.filter fun x=>decide (x.kind=1)).map (·.table),bO:=X.bO++(l.filter fun x=>decide (x.kind=2)).map (·.mem),globals:=X.globals++(l.filter fun x=>decide (x.kind=3)).map (·.gC)}:=by
 induction l generalizing X with
 |nil=>simp
 |cons a r ih=>
  rw[List.foldl_cons,ih]
  unfold lQ.fm
  by_cases h0:a.kind=0
  ·simp[h0]
  by_cases h1:a.kind=1
  ·simp[h1]
  by_cases h2:a.kind=2
  ·simp[h2]
  by_cases h3:a.kind=3
  ·simp[h3]
  simp[h0,h1,h2,h3]
theorem mg (m:ae):qv m=⟨gz m,dF m,kM m,iy m,iq m,m.aS.length⟩:=by
 unfold qv X5 X4 X3 X2 X1 uF
 rw[wH]
 simp[X0,gz,dF,kM,iy,iq,oT]
def eK {α:Type} [Inhabited α] (l:List α) (i:Int):Option α:=if 0≤i∧i<l.length then some (ix l i.toNat)else none
def iJ (op:Int):Int:=(np op).2.2
def aL (n:Int):Bool:=decide (0≤n) && decide (n<4294967296)
def kC (t:Int):Bool:=decide (1≤t) && decide (t≤4)
def jn (k v i:Int):Bool:=if k=0 then decide (v=0) && decide (i=0)else if k=1 then kC v && decide (i=0)else decide (k=2) && (decide (v=0) && aL i)
def db (x:bP):Bool:=
 let k:=iJ x.op
 let ab:=decide (x.a=0) && decide (x.b=0)
 if(gV x.op).isSome=false∨(k≠1∧¬(x.kind=0∧x.val=0∧x.index=0))∨(k≠3∧0<x.labels.length)∨(k≠6∧0<x.types.length)then false else
 if k=0 then ab && decide (x.n=0)else
 if k=1 then ab && decide (x.n=0) && jn x.kind x.val x.index else
 if k=3 then aL x.a && decide (x.b=0) && decide (x.n=0) && x.labels.all aL else
 if k=6 then ab && decide (x.n=0) && decide (x.types.length=1) && kC (ix x.types 0)else
 if k=2∨k=4∨k=7∨k=8∨k=9∨k=12∨k=16 then aL x.a && decide (x.b=0) && decide (x.n=0)else
 if k=5∨k=10∨k=11∨k=14∨k=15 then aL x.a && aL x.b && decide (x.n=0)else
 if k=13 then decide (x.a=0) && aL x.b && decide (x.n=0)else
 if k=17 then decide (0≤x.a) && decide (x.a≤63) && aL x.b && decide (x.n<4294967296)else
 if k=18 then ab && decide (x.n<4294967296)else
 if k=19 then ab else(decide (x.a=3) || decide (x.a=4)) && decide (x.b=0) && decide (x.n=0)
theorem yH:(AA.all fun r=>decide (0≤r.2.2) && decide (r.2.2≤20))=true:=by decide+kernel
theorem Ba (op:Int):0≤iJ op∧iJ op≤20:=by
 unfold iJ np
 cases h:gV op with
 |none=>exact⟨by decide,by decide⟩
 |some r=>
  have:=List.all_eq_true.1 yH r (List.mem_of_find?_eq_some h)
  simpa using this
theorem Av {op:Int} (h:iJ op≠0):∃r∈AA,r.1=op∧r.2.2=iJ op:=by
 unfold iJ np at*
 cases hf:gV op with
 |none=>rw[hf]at h;exact absurd rfl h
 |some r=>exact⟨r,List.mem_of_find?_eq_some hf,by have:=List.find?_some hf;simpa using this,rfl⟩
def tq (m:ae) (i:Int):Bool:=decide (0≤i) && decide (i<(gz m).length) && d6 m m.aB.length i
def jq (m:ae) (i:Int):Option aE:=(eK (gz m) i).bind (eK m.types)
def gG:aE:=⟨[],[]⟩
def ru (op:Int):Int:=if fO op=2 then 1 else if fO op=4 then 2 else if fO op=8 then 3 else 0
def ry (op:Int):Bool:=decide (op=2) || decide (op=3) || decide (op=4) || decide (op=5) || decide (op=11) || decide (op=0) || decide (op=12) || decide (op=13) || decide (op=14) || decide (op=15) || decide (op=26) || decide (op=27) || decide (op=209)
section
variable {ops:Array Oper} {Q:Exit→Act→World→Prop} {n:Nat} {E:Env} {M M':List aV} {R R':List (World→Prop)} {v:Value} {x y z:Operand} {t t2:TypeId} {C:World→Prop}
theorem Yl.lu {ti:TypeId} {ad:Addr} (ht:G.P.underlying t=some (.pointer ti)) (hx:ev E x=some (.pointer (some ad))) (hy:ev E y=some (.pointer none)):Yl G n (.binOp .eql t x y t2) E C (.bool false):=
 ⟨fun w _ a ha d ty pos aft gd=>by
  have h2:∀m,(Op.equalIn (m+1) t (.pointer (some ad)) (.pointer none)).run G.P w=.ok false w:=by
   intro m;simp[Op.equalIn,run_underlying ht]
  have h3:(Op.equal t (.pointer (some ad)) (.pointer none)).run G.P w=.ok false w:=h2 9999
  simp[execOp,ha.eval hx,ha.eval hy,eqGuard,binOp,h3]⟩
theorem Yl.Am {k e:TypeId} {zv:Value} {bm:Nat} {g:Int→Option Value} {a:Int} {w0:World} (ht:G.P.underlying t=some (.map k e)) (hk:G.P.underlying k=some (.int .i64)) (hzv:∀w,(zeroValue e).run G.P w=.ok zv w) (hx:ev E x=some (.map (some bm))) (hy:ev E y=some (.int .i64 a)) (ha:gJ a)
  (hM:IV w0 bm g) (hR:Ext w0∈R):Yl G n (.lookup t x y false) E (Ok M R) ((g a).getD zv):=
 ⟨fun w hw ac hac d ty pos aft gd=>by
  have:=qU (t:=t) ht hk hzv (hM.aD (show Ext w0 w from hw.get hR) (fun h=>h)) (uA ha)
  simp[execOp,hac.eval hx,hac.eval hy,this]⟩
end
theorem nK (bS sp:Nat) (w:World) (hb:dZ w bS [.pointer (some ⟨sp,0,none⟩)] rn):Calls G.P 81 #[.pointer (some ⟨bS,0,none⟩)] w fun e w'=>e=.returned (.pointer (some ⟨sp,0,none⟩))∧Ext w w':=by
 have c0:w.cell? ⟨bS,0,none⟩=some (.pointer (some ⟨sp,0,none⟩)):=hb.cell rfl
 refine aj (l:=[.pointer (some ⟨bS,0,none⟩)]) Tryz.func81 rfl Tryz.ntmps81 rfl (Ok.start w) ?_
 refine dy ?_
 refine aa.y_ (Yl.lu Tryz.underlying39 rfl rfl) rfl ?_
 refine dy ?_
 refine aa.yg rfl (Yl.lu Tryz.underlying80 rfl rfl) rfl ?_
 refine dy ?_
 exact ap
end Go.Proofs.YtceedealggognaaGreatDoor
