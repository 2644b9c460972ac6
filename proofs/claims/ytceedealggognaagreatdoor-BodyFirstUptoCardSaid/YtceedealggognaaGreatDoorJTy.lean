/- Records for the program's structs of plain data, and how they read; printed by gen_ty.py off the seat's translation. -/
import Derived.Test.YtceedealggognaaGreatDoorJR7
namespace Go.Proofs.YtceedealggognaaGreatDoor
open Go.RowKit
def AtR {α:Type} (n:Nat) (V:(Nat→Prop)→World→List Value→α→Prop):qd α:=fun F w b o x=>∃cs,V F w cs x∧∀j,j<n→w.cell? ⟨b,o+j,none⟩=cs[j]?
section
variable {α:Type} {n t:Nat} {V:(Nat→Prop)→World→List Value→α→Prop}
theorem AtR.ce (hl:∀{F w cs x},V F w cs x→cs.length=n) (hn:0<n):Ce (AtR n V):=fun{F w b o x} ⟨cs,h,hc⟩=>by
 have h0:=hc 0 hn
 have hl:=hl h
 rw[List.getElem?_eq_getElem Hb]at h0
 exact ed h0
theorem AtR.fr (hl:∀{F w cs x},V F w cs x→cs.length=n) (hv:∀{F S:Nat→Prop} {w w' cs x},V F w cs x→bA S w w'→(∀k,k<w.heap.size→F k→¬S k)→V F w' cs x):Fr (AtR n V):=fun{F S w w' b o x} ⟨cs,h,hcc⟩ hc hF hd=>⟨cs,hv h hc hd,fun j hj=>by
 have h0:=hcc j hj
 have hl:=hl h
 rw[List.getElem?_eq_getElem Hb]at h0 ⊢
 exact hc.cell (hd _ (ed h0) hF) h0⟩
theorem AtR.mo (hv:∀{F H:Nat→Prop} {w cs x},V F w cs x→(∀k,k<w.heap.size→F k→H k)→V H w cs x):Mo (AtR n V):=fun⟨cs,h,hcc⟩ hd=>⟨cs,hv h hd,hcc⟩
theorem AtR.of {w:World} (hv:∀{cs},Tr w t cs→cs.length=n→∃x,V (fun _=>True) w cs x) (b o:Nat) (cs:List Value) (hcl:cs.length=n) (hcc:∀j,j<n→w.cell? ⟨b,o+j,none⟩=cs[j]?) (h:Tr w t cs):∃x,AtR n V (fun _=>True) w b o x:=by
 obtain⟨x,hx⟩:=hv h hcl
 exact⟨x,cs,hx,hcc⟩
end
theorem ft {n:Int} (h:(Lit.int .i64 n).wf=true):gJ n:=qb h
theorem A3 {cs:List Value} (h:cs.length=2):∃c0 c1,cs=[c0,c1]:=by
 match cs,h with|[c0,c1],_=>exact⟨c0,c1,rfl⟩
theorem tJ {cs:List Value} (h:cs.length=3):∃c0 c1 c2,cs=[c0,c1,c2]:=by
 match cs,h with|[c0,c1,c2],_=>exact⟨c0,c1,c2,rfl⟩
theorem A4 {cs:List Value} (h:cs.length=4):∃c0 c1 c2 c3,cs=[c0,c1,c2,c3]:=by
 match cs,h with|[c0,c1,c2,c3],_=>exact⟨c0,c1,c2,c3,rfl⟩
theorem CN {cs:List Value} (h:cs.length=5):∃c0 c1 c2 c3 c4,cs=[c0,c1,c2,c3,c4]:=by
 match cs,h with|[c0,c1,c2,c3,c4],_=>exact⟨c0,c1,c2,c3,c4,rfl⟩
theorem BN {cs:List Value} (h:cs.length=12):∃c0 c1 c2 c3 c4 c5 c6 c7 c8 c9 c10 c11,cs=[c0,c1,c2,c3,c4,c5,c6,c7,c8,c9,c10,c11]:=by
 match cs,h with|[c0,c1,c2,c3,c4,c5,c6,c7,c8,c9,c10,c11],_=>exact⟨c0,c1,c2,c3,c4,c5,c6,c7,c8,c9,c10,c11,rfl⟩
theorem BO {cs:List Value} (h:cs.length=13):∃c0 c1 c2 c3 c4 c5 c6 c7 c8 c9 c10 c11 c12,cs=[c0,c1,c2,c3,c4,c5,c6,c7,c8,c9,c10,c11,c12]:=by
 match cs,h with|[c0,c1,c2,c3,c4,c5,c6,c7,c8,c9,c10,c11,c12],_=>exact⟨c0,c1,c2,c3,c4,c5,c6,c7,c8,c9,c10,c11,c12,rfl⟩
structure aE where
 params:List Int
 results:List Int
 deriving Inhabited
def cv (F:Nat→Prop) (w:World) (cs:List Value) (x:aE):Prop:=
 ∃v0 v1:Value,cs=[v0,v1]∧af F w v0 x.params∧af F w v1 x.results
def eH:qd aE:=fun F w b o x=>∃cs,cv F w cs x∧∀j,j<2→w.cell? ⟨b,o+j,none⟩=cs[j]?
section
variable {F S H:Nat→Prop} {w w':World} {b o:Nat} {cs:List Value} {x:aE}
theorem cv.len (h:cv F w cs x):cs.length=2:=by
 obtain⟨v0,v1,rfl,r0,r1⟩:=h
 rfl
theorem cv.aD (h:cv F w cs x) (hc:bA S w w') (hd:∀k,k<w.heap.size→F k→¬S k):cv F w' cs x:=by
 obtain⟨v0,v1,rfl,r0,r1⟩:=h
 exact⟨v0,v1,rfl,r0.aD hc hd,r1.aD hc hd⟩
theorem cv.mono (h:cv F w cs x) (hd:∀k,k<w.heap.size→F k→H k):cv H w cs x:=by
 obtain⟨v0,v1,rfl,r0,r1⟩:=h
 exact⟨v0,v1,rfl,r0.mono hd,r1.mono hd⟩
theorem eH.ce:Ce eH:=AtR.ce (V:=cv) cv.len Hb
theorem eH.fr:Fr eH:=AtR.fr (V:=cv) cv.len cv.aD
theorem eH.mo:Mo eH:=AtR.mo (V:=cv) cv.mono
set_option maxRecDepth 100000 in
theorem cv.of (h:Tr w 74 cs) (hcl:cs.length=2):∃x,cv (fun _=>True) w cs x:=by
 obtain⟨c0,c1,rfl⟩:=A3 hcl
 obtain⟨-,hf⟩:=h.struct Tryz.underlying74
 obtain⟨u0,y0,e0,z0⟩:=(show Tr w _ [c0]from Tr.ew hf 0 0 1 rfl G7).ints Tryz.underlying49 Tryz.underlying58 G7 G7
 cases e0
 obtain⟨u1,y1,e1,z1⟩:=(show Tr w _ [c1]from Tr.ew hf 1 1 1 rfl G7).ints Tryz.underlying49 Tryz.underlying58 G7 G7
 cases e1
 exact⟨⟨y0,y1⟩,⟨_,_,rfl,z0,z1⟩⟩
end
structure dz where
 min:Int
 max:Int
 has:Bool
 deriving Inhabited
def bM (_F:Nat→Prop) (_w:World) (cs:List Value) (x:dz):Prop:=
 cs=[.int .i64 x.min,.int .i64 x.max,.bool x.has]∧gJ x.min∧gJ x.max
def di:qd dz:=fun F w b o x=>∃cs,bM F w cs x∧∀j,j<3→w.cell? ⟨b,o+j,none⟩=cs[j]?
section
variable {F S H:Nat→Prop} {w w':World} {b o:Nat} {cs:List Value} {x:dz}
theorem bM.len (h:bM F w cs x):cs.length=3:=by
 obtain⟨rfl,g0,g1⟩:=h
 rfl
theorem bM.aD (h:bM F w cs x) (_hc:bA S w w') (_hd:∀k,k<w.heap.size→F k→¬S k):bM F w' cs x:=by
 obtain⟨rfl,g0,g1⟩:=h
 exact⟨rfl,g0,g1⟩
theorem bM.mono (h:bM F w cs x) (_hd:∀k,k<w.heap.size→F k→H k):bM H w cs x:=by
 obtain⟨rfl,g0,g1⟩:=h
 exact⟨rfl,g0,g1⟩
theorem di.ce:Ce di:=AtR.ce (V:=bM) bM.len Hb
theorem di.fr:Fr di:=AtR.fr (V:=bM) bM.len bM.aD
theorem di.mo:Mo di:=AtR.mo (V:=bM) bM.mono
set_option maxRecDepth 100000 in
theorem bM.of (h:Tr w 89 cs) (hcl:cs.length=3):∃x,bM (fun _=>True) w cs x:=by
 obtain⟨c0,c1,c2,rfl⟩:=tJ hcl
 obtain⟨-,hf⟩:=h.struct Tryz.underlying89
 obtain⟨y0,e0,z0⟩:=(show Tr w _ [c0]from Tr.ew hf 0 0 1 rfl G7).int Tryz.underlying3
 cases e0
 obtain⟨y1,e1,z1⟩:=(show Tr w _ [c1]from Tr.ew hf 1 1 1 rfl G7).int Tryz.underlying3
 cases e1
 obtain⟨y2,e2⟩:=(show Tr w _ [c2]from Tr.ew hf 2 2 1 rfl G7).bool Tryz.underlying4
 cases e2
 exact⟨⟨y0,y1,y2⟩,⟨rfl,ft z0,ft z1⟩⟩
end
structure eh where
 elem:Int
 rX:dz
 deriving Inhabited
def bY (_F:Nat→Prop) (_w:World) (cs:List Value) (x:eh):Prop:=
 cs=[.int .i64 x.elem,.int .i64 x.rX.min,.int .i64 x.rX.max,.bool x.rX.has]∧gJ x.elem∧gJ x.rX.min∧gJ x.rX.max
def dH:qd eh:=fun F w b o x=>∃cs,bY F w cs x∧∀j,j<4→w.cell? ⟨b,o+j,none⟩=cs[j]?
section
variable {F S H:Nat→Prop} {w w':World} {b o:Nat} {cs:List Value} {x:eh}
theorem bY.len (h:bY F w cs x):cs.length=4:=by
 obtain⟨rfl,g0,g1,g2⟩:=h
 rfl
theorem bY.aD (h:bY F w cs x) (_hc:bA S w w') (_hd:∀k,k<w.heap.size→F k→¬S k):bY F w' cs x:=by
 obtain⟨rfl,g0,g1,g2⟩:=h
 exact⟨rfl,g0,g1,g2⟩
theorem bY.mono (h:bY F w cs x) (_hd:∀k,k<w.heap.size→F k→H k):bY H w cs x:=by
 obtain⟨rfl,g0,g1,g2⟩:=h
 exact⟨rfl,g0,g1,g2⟩
theorem dH.ce:Ce dH:=AtR.ce (V:=bY) bY.len Hb
theorem dH.fr:Fr dH:=AtR.fr (V:=bY) bY.len bY.aD
theorem dH.mo:Mo dH:=AtR.mo (V:=bY) bY.mono
set_option maxRecDepth 100000 in
theorem bY.of (h:Tr w 91 cs) (hcl:cs.length=4):∃x,bY (fun _=>True) w cs x:=by
 obtain⟨c0,c1,c2,c3,rfl⟩:=A4 hcl
 obtain⟨-,hf⟩:=h.struct Tryz.underlying91
 obtain⟨y0,e0,z0⟩:=(show Tr w _ [c0]from Tr.ew hf 0 0 1 rfl G7).int Tryz.underlying58
 cases e0
 obtain⟨y1,q1⟩:=bM.of (show Tr w _ [c1,c2,c3]from Tr.ew hf 1 1 3 rfl G7) rfl
 obtain⟨e1,k1_0,k1_1⟩:=q1
 cases e1
 exact⟨⟨y0,y1⟩,⟨rfl,ft z0,k1_0,k1_1⟩⟩
end
structure ff where
 pZ:Int
 xk:Bool
 deriving Inhabited
def jO (_F:Nat→Prop) (_w:World) (cs:List Value) (x:ff):Prop:=
 cs=[.int .i64 x.pZ,.bool x.xk]∧gJ x.pZ
section
variable {F S H:Nat→Prop} {w w':World} {b o:Nat} {cs:List Value} {x:ff}
set_option maxRecDepth 100000 in
theorem jO.of (h:Tr w 93 cs) (hcl:cs.length=2):∃x,jO (fun _=>True) w cs x:=by
 obtain⟨c0,c1,rfl⟩:=A3 hcl
 obtain⟨-,hf⟩:=h.struct Tryz.underlying93
 obtain⟨y0,e0,z0⟩:=(show Tr w _ [c0]from Tr.ew hf 0 0 1 rfl G7).int Tryz.underlying58
 cases e0
 obtain⟨y1,e1⟩:=(show Tr w _ [c1]from Tr.ew hf 1 1 1 rfl G7).bool Tryz.underlying4
 cases e1
 exact⟨⟨y0,y1⟩,⟨rfl,ft z0⟩⟩
end
structure cH where
 module:ByteArray
 name:ByteArray
 kind:Int
 func:Int
 table:eh
 mem:dz
 gC:ff
 deriving Inhabited
def bL (_F:Nat→Prop) (_w:World) (cs:List Value) (x:cH):Prop:=
 cs=[.string x.module,.string x.name,.int .i64 x.kind,.int .i64 x.func,.int .i64 x.table.elem,.int .i64 x.table.rX.min,.int .i64 x.table.rX.max,.bool x.table.rX.has,.int .i64 x.mem.min,.int .i64 x.mem.max,.bool x.mem.has,.int .i64 x.gC.pZ,.bool x.gC.xk]∧x.module.size≤140737488351232∧x.name.size≤140737488351232∧gJ x.kind∧gJ x.func∧gJ x.table.elem∧gJ x.table.rX.min∧gJ x.table.rX.max∧gJ x.mem.min∧gJ x.mem.max∧gJ x.gC.pZ
def cV:qd cH:=fun F w b o x=>∃cs,bL F w cs x∧∀j,j<13→w.cell? ⟨b,o+j,none⟩=cs[j]?
section
variable {F S H:Nat→Prop} {w w':World} {b o:Nat} {cs:List Value} {x:cH}
theorem bL.len (h:bL F w cs x):cs.length=13:=by
 obtain⟨rfl,g0,g1,g2,g3,g4,g5,g6,g7,g8,g9⟩:=h
 rfl
theorem bL.aD (h:bL F w cs x) (_hc:bA S w w') (_hd:∀k,k<w.heap.size→F k→¬S k):bL F w' cs x:=by
 obtain⟨rfl,g0,g1,g2,g3,g4,g5,g6,g7,g8,g9⟩:=h
 exact⟨rfl,g0,g1,g2,g3,g4,g5,g6,g7,g8,g9⟩
theorem bL.mono (h:bL F w cs x) (_hd:∀k,k<w.heap.size→F k→H k):bL H w cs x:=by
 obtain⟨rfl,g0,g1,g2,g3,g4,g5,g6,g7,g8,g9⟩:=h
 exact⟨rfl,g0,g1,g2,g3,g4,g5,g6,g7,g8,g9⟩
theorem cV.ce:Ce cV:=AtR.ce (V:=bL) bL.len Hb
theorem cV.fr:Fr cV:=AtR.fr (V:=bL) bL.len bL.aD
theorem cV.mo:Mo cV:=AtR.mo (V:=bL) bL.mono
theorem bL.uP (h:bL F w cs x):gJ x.kind:=by
 obtain⟨rfl,g0,g1,g2,g3,g4,g5,g6,g7,g8,g9⟩:=h
 exact g2
theorem cV.uP (h:cV F w b o x):gJ x.kind:=by
 obtain⟨cs,hv,hc⟩:=h
 exact hv.uP
set_option maxRecDepth 100000 in
theorem bL.of (h:Tr w 95 cs) (hcl:cs.length=13):∃x,bL (fun _=>True) w cs x:=by
 obtain⟨c0,c1,c2,c3,c4,c5,c6,c7,c8,c9,c10,c11,c12,rfl⟩:=BO hcl
 obtain⟨-,hf⟩:=h.struct Tryz.underlying95
 obtain⟨y0,e0,z0⟩:=(show Tr w _ [c0]from Tr.ew hf 0 0 1 rfl G7).string Tryz.underlying9
 rw[jH]at z0
 cases e0
 obtain⟨y1,e1,z1⟩:=(show Tr w _ [c1]from Tr.ew hf 1 1 1 rfl G7).string Tryz.underlying9
 rw[jH]at z1
 cases e1
 obtain⟨y2,e2,z2⟩:=(show Tr w _ [c2]from Tr.ew hf 2 2 1 rfl G7).int Tryz.underlying87
 cases e2
 obtain⟨y3,e3,z3⟩:=(show Tr w _ [c3]from Tr.ew hf 3 3 1 rfl G7).int Tryz.underlying3
 cases e3
 obtain⟨y4,q4⟩:=bY.of (show Tr w _ [c4,c5,c6,c7]from Tr.ew hf 4 4 4 rfl G7) rfl
 obtain⟨e4,k4_0,k4_1,k4_2⟩:=q4
 cases e4
 obtain⟨y5,q5⟩:=bM.of (show Tr w _ [c8,c9,c10]from Tr.ew hf 5 8 3 rfl G7) rfl
 obtain⟨e5,k5_0,k5_1⟩:=q5
 cases e5
 obtain⟨y6,q6⟩:=jO.of (show Tr w _ [c11,c12]from Tr.ew hf 6 11 2 rfl G7) rfl
 obtain⟨e6,k6_0⟩:=q6
 cases e6
 exact⟨⟨y0,y1,y2,y3,y4,y5,y6⟩,⟨rfl,z0,z1,ft z2,ft z3,k4_0,k4_1,k4_2,k5_0,k5_1,k6_0⟩⟩
end
structure fe where
 cP:Int
 locals:List Int
 body:List bP
 deriving Inhabited
def cg (F:Nat→Prop) (w:World) (cs:List Value) (x:fe):Prop:=
 ∃v0 v1:Value,cs=[.int .i64 x.cP,v0,v1]∧af F w v0 x.locals∧dN F w v1 x.body∧gJ x.cP
def dJ:qd fe:=fun F w b o x=>∃cs,cg F w cs x∧∀j,j<3→w.cell? ⟨b,o+j,none⟩=cs[j]?
section
variable {F S H:Nat→Prop} {w w':World} {b o:Nat} {cs:List Value} {x:fe}
theorem cg.len (h:cg F w cs x):cs.length=3:=by
 obtain⟨v0,v1,rfl,r0,r1,g0⟩:=h
 rfl
theorem cg.aD (h:cg F w cs x) (hc:bA S w w') (hd:∀k,k<w.heap.size→F k→¬S k):cg F w' cs x:=by
 obtain⟨v0,v1,rfl,r0,r1,g0⟩:=h
 exact⟨v0,v1,rfl,r0.aD hc hd,r1.aD hc hd,g0⟩
theorem cg.mono (h:cg F w cs x) (hd:∀k,k<w.heap.size→F k→H k):cg H w cs x:=by
 obtain⟨v0,v1,rfl,r0,r1,g0⟩:=h
 exact⟨v0,v1,rfl,r0.mono hd,r1.mono hd,g0⟩
theorem dJ.ce:Ce dJ:=AtR.ce (V:=cg) cg.len Hb
theorem dJ.fr:Fr dJ:=AtR.fr (V:=cg) cg.len cg.aD
theorem dJ.mo:Mo dJ:=AtR.mo (V:=cg) cg.mono
set_option maxRecDepth 100000 in
theorem cg.of (h:Tr w 68 cs) (hcl:cs.length=3):∃x,cg (fun _=>True) w cs x:=by
 obtain⟨c0,c1,c2,rfl⟩:=tJ hcl
 obtain⟨-,hf⟩:=h.struct Tryz.underlying68
 obtain⟨y0,e0,z0⟩:=(show Tr w _ [c0]from Tr.ew hf 0 0 1 rfl G7).int Tryz.underlying3
 cases e0
 obtain⟨u1,y1,e1,z1⟩:=(show Tr w _ [c1]from Tr.ew hf 1 1 1 rfl G7).ints Tryz.underlying49 Tryz.underlying58 G7 G7
 cases e1
 obtain⟨u2,y2,e2,z2⟩:=(show Tr w _ [c2]from Tr.ew hf 2 2 1 rfl G7).body
 cases e2
 exact⟨⟨y0,y1,y2⟩,⟨_,_,rfl,z1,z2,ft z0⟩⟩
end
structure gY where
 cP:ff
 tE:List bP
 deriving Inhabited
def bg (F:Nat→Prop) (w:World) (cs:List Value) (x:gY):Prop:=
 ∃v0:Value,cs=[.int .i64 x.cP.pZ,.bool x.cP.xk,v0]∧dN F w v0 x.tE∧gJ x.cP.pZ
def ck:qd gY:=fun F w b o x=>∃cs,bg F w cs x∧∀j,j<3→w.cell? ⟨b,o+j,none⟩=cs[j]?
section
variable {F S H:Nat→Prop} {w w':World} {b o:Nat} {cs:List Value} {x:gY}
theorem bg.len (h:bg F w cs x):cs.length=3:=by
 obtain⟨v0,rfl,r0,g0⟩:=h
 rfl
theorem bg.aD (h:bg F w cs x) (hc:bA S w w') (hd:∀k,k<w.heap.size→F k→¬S k):bg F w' cs x:=by
 obtain⟨v0,rfl,r0,g0⟩:=h
 exact⟨v0,rfl,r0.aD hc hd,g0⟩
theorem bg.mono (h:bg F w cs x) (hd:∀k,k<w.heap.size→F k→H k):bg H w cs x:=by
 obtain⟨v0,rfl,r0,g0⟩:=h
 exact⟨v0,rfl,r0.mono hd,g0⟩
theorem ck.ce:Ce ck:=AtR.ce (V:=bg) bg.len Hb
theorem ck.fr:Fr ck:=AtR.fr (V:=bg) bg.len bg.aD
theorem ck.mo:Mo ck:=AtR.mo (V:=bg) bg.mono
set_option maxRecDepth 100000 in
theorem bg.of (h:Tr w 99 cs) (hcl:cs.length=3):∃x,bg (fun _=>True) w cs x:=by
 obtain⟨c0,c1,c2,rfl⟩:=tJ hcl
 obtain⟨-,hf⟩:=h.struct Tryz.underlying99
 obtain⟨y0,q0⟩:=jO.of (show Tr w _ [c0,c1]from Tr.ew hf 0 0 2 rfl G7) rfl
 obtain⟨e0,k0_0⟩:=q0
 cases e0
 obtain⟨u1,y1,e1,z1⟩:=(show Tr w _ [c2]from Tr.ew hf 1 2 1 rfl G7).body
 cases e1
 exact⟨⟨y0,y1⟩,⟨_,rfl,z1,k0_0⟩⟩
end
structure kY where
 name:ByteArray
 kind:Int
 index:Int
 deriving Inhabited
def bK (_F:Nat→Prop) (_w:World) (cs:List Value) (x:kY):Prop:=
 cs=[.string x.name,.int .i64 x.kind,.int .i64 x.index]∧x.name.size≤140737488351232∧gJ x.kind∧gJ x.index
def cU:qd kY:=fun F w b o x=>∃cs,bK F w cs x∧∀j,j<3→w.cell? ⟨b,o+j,none⟩=cs[j]?
section
variable {F S H:Nat→Prop} {w w':World} {b o:Nat} {cs:List Value} {x:kY}
theorem bK.len (h:bK F w cs x):cs.length=3:=by
 obtain⟨rfl,g0,g1,g2⟩:=h
 rfl
theorem bK.aD (h:bK F w cs x) (_hc:bA S w w') (_hd:∀k,k<w.heap.size→F k→¬S k):bK F w' cs x:=by
 obtain⟨rfl,g0,g1,g2⟩:=h
 exact⟨rfl,g0,g1,g2⟩
theorem bK.mono (h:bK F w cs x) (_hd:∀k,k<w.heap.size→F k→H k):bK H w cs x:=by
 obtain⟨rfl,g0,g1,g2⟩:=h
 exact⟨rfl,g0,g1,g2⟩
theorem cU.ce:Ce cU:=AtR.ce (V:=bK) bK.len Hb
theorem cU.fr:Fr cU:=AtR.fr (V:=bK) bK.len bK.aD
theorem cU.mo:Mo cU:=AtR.mo (V:=bK) bK.mono
theorem bK.rS (h:bK F w cs x):gJ x.index:=by
 obtain⟨rfl,g0,g1,g2⟩:=h
 exact g2
theorem cU.rS (h:cU F w b o x):gJ x.index:=by
 obtain⟨cs,hv,hc⟩:=h
 exact hv.rS
set_option maxRecDepth 100000 in
theorem bK.of (h:Tr w 104 cs) (hcl:cs.length=3):∃x,bK (fun _=>True) w cs x:=by
 obtain⟨c0,c1,c2,rfl⟩:=tJ hcl
 obtain⟨-,hf⟩:=h.struct Tryz.underlying104
 obtain⟨y0,e0,z0⟩:=(show Tr w _ [c0]from Tr.ew hf 0 0 1 rfl G7).string Tryz.underlying9
 rw[jH]at z0
 cases e0
 obtain⟨y1,e1,z1⟩:=(show Tr w _ [c1]from Tr.ew hf 1 1 1 rfl G7).int Tryz.underlying87
 cases e1
 obtain⟨y2,e2,z2⟩:=(show Tr w _ [c2]from Tr.ew hf 2 2 1 rfl G7).int Tryz.underlying3
 cases e2
 exact⟨⟨y0,y1,y2⟩,⟨rfl,z0,ft z1,ft z2⟩⟩
end
structure og where
 mode:Int
 table:Int
 offset:List bP
 cP:Int
 items:List (List bP)
 deriving Inhabited
def cG (F:Nat→Prop) (w:World) (cs:List Value) (x:og):Prop:=
 ∃v0 v1:Value,cs=[.int .i64 x.mode,.int .i64 x.table,v0,.int .i64 x.cP,v1]∧dN F w v0 x.offset∧fc 1 5864062014634 (ko dN) F w v1 x.items∧gJ x.mode∧gJ x.table∧gJ x.cP
def eG:qd og:=fun F w b o x=>∃cs,cG F w cs x∧∀j,j<5→w.cell? ⟨b,o+j,none⟩=cs[j]?
section
variable {F S H:Nat→Prop} {w w':World} {b o:Nat} {cs:List Value} {x:og}
theorem cG.len (h:cG F w cs x):cs.length=5:=by
 obtain⟨v0,v1,rfl,r0,r1,g0,g1,g2⟩:=h
 rfl
theorem cG.aD (h:cG F w cs x) (hc:bA S w w') (hd:∀k,k<w.heap.size→F k→¬S k):cG F w' cs x:=by
 obtain⟨v0,v1,rfl,r0,r1,g0,g1,g2⟩:=h
 exact⟨v0,v1,rfl,r0.aD hc hd,fc.aD (ko.fr (fun h hc hd=>h.aD hc hd)) ko.ce r1 hc hd,g0,g1,g2⟩
theorem cG.mono (h:cG F w cs x) (hd:∀k,k<w.heap.size→F k→H k):cG H w cs x:=by
 obtain⟨v0,v1,rfl,r0,r1,g0,g1,g2⟩:=h
 exact⟨v0,v1,rfl,r0.mono hd,fc.mono (ko.mo (fun h hd=>h.mono hd)) ko.ce r1 hd,g0,g1,g2⟩
theorem eG.ce:Ce eG:=AtR.ce (V:=cG) cG.len Hb
theorem eG.fr:Fr eG:=AtR.fr (V:=cG) cG.len cG.aD
theorem eG.mo:Mo eG:=AtR.mo (V:=cG) cG.mono
set_option maxRecDepth 100000 in
theorem cG.of (h:Tr w 102 cs) (hcl:cs.length=5):∃x,cG (fun _=>True) w cs x:=by
 obtain⟨c0,c1,c2,c3,c4,rfl⟩:=CN hcl
 obtain⟨-,hf⟩:=h.struct Tryz.underlying102
 obtain⟨y0,e0,z0⟩:=(show Tr w _ [c0]from Tr.ew hf 0 0 1 rfl G7).int Tryz.underlying3
 cases e0
 obtain⟨y1,e1,z1⟩:=(show Tr w _ [c1]from Tr.ew hf 1 1 1 rfl G7).int Tryz.underlying3
 cases e1
 obtain⟨u2,y2,e2,z2⟩:=(show Tr w _ [c2]from Tr.ew hf 2 2 1 rfl G7).body
 cases e2
 obtain⟨y3,e3,z3⟩:=(show Tr w _ [c3]from Tr.ew hf 3 3 1 rfl G7).int Tryz.underlying58
 cases e3
 obtain⟨u4,y4,e4,z4⟩:=(show Tr w _ [c4]from Tr.ew hf 4 4 1 rfl G7).sl (s:=1) (bt:=24) (N:=5864062014634) (ko dN) Tryz.underlying100 G7 G7 Hb (fun n hn=>by omega) (fun b o cs _ h2 h3=>by obtain⟨v,xs,rfl,h⟩:=(h3).body;exact⟨xs,v,h2 0 Hb,h⟩)
 cases e4
 exact⟨⟨y0,y1,y2,y3,y4⟩,⟨_,_,rfl,z2,z4,ft z0,ft z1,ft z3⟩⟩
end
structure oe where
 mode:Int
 mem:Int
 offset:List bP
 bytes:List Int
 deriving Inhabited
def cF (F:Nat→Prop) (w:World) (cs:List Value) (x:oe):Prop:=
 ∃v0 v1:Value,cs=[.int .i64 x.mode,.int .i64 x.mem,v0,v1]∧dN F w v0 x.offset∧fc 1 140737488351232 (gl .u8) F w v1 x.bytes∧gJ x.mode∧gJ x.mem
def eF:qd oe:=fun F w b o x=>∃cs,cF F w cs x∧∀j,j<4→w.cell? ⟨b,o+j,none⟩=cs[j]?
section
variable {F S H:Nat→Prop} {w w':World} {b o:Nat} {cs:List Value} {x:oe}
theorem cF.len (h:cF F w cs x):cs.length=4:=by
 obtain⟨v0,v1,rfl,r0,r1,g0,g1⟩:=h
 rfl
theorem cF.aD (h:cF F w cs x) (hc:bA S w w') (hd:∀k,k<w.heap.size→F k→¬S k):cF F w' cs x:=by
 obtain⟨v0,v1,rfl,r0,r1,g0,g1⟩:=h
 exact⟨v0,v1,rfl,r0.aD hc hd,fc.aD (gl.fr _) (gl.ce _) r1 hc hd,g0,g1⟩
theorem cF.mono (h:cF F w cs x) (hd:∀k,k<w.heap.size→F k→H k):cF H w cs x:=by
 obtain⟨v0,v1,rfl,r0,r1,g0,g1⟩:=h
 exact⟨v0,v1,rfl,r0.mono hd,fc.mono (gl.mo _) (gl.ce _) r1 hd,g0,g1⟩
theorem eF.ce:Ce eF:=AtR.ce (V:=cF) cF.len Hb
theorem eF.fr:Fr eF:=AtR.fr (V:=cF) cF.len cF.aD
theorem eF.mo:Mo eF:=AtR.mo (V:=cF) cF.mono
set_option maxRecDepth 100000 in
theorem cF.of (h:Tr w 324 cs) (hcl:cs.length=4):∃x,cF (fun _=>True) w cs x:=by
 obtain⟨c0,c1,c2,c3,rfl⟩:=A4 hcl
 obtain⟨-,hf⟩:=h.struct Tryz.underlying324
 obtain⟨y0,e0,z0⟩:=(show Tr w _ [c0]from Tr.ew hf 0 0 1 rfl G7).int Tryz.underlying3
 cases e0
 obtain⟨y1,e1,z1⟩:=(show Tr w _ [c1]from Tr.ew hf 1 1 1 rfl G7).int Tryz.underlying3
 cases e1
 obtain⟨u2,y2,e2,z2⟩:=(show Tr w _ [c2]from Tr.ew hf 2 2 1 rfl G7).body
 cases e2
 obtain⟨u3,y3,e3,z3⟩:=(show Tr w _ [c3]from Tr.ew hf 3 3 1 rfl G7).sl (s:=1) (bt:=1) (N:=140737488351232) (gl .u8) Tryz.underlying322 G7 G7 Hb (fun n hn=>by omega) (fun b o cs _ h2 h3=>by obtain⟨n,rfl,_⟩:=h3.int Tryz.underlying5;exact⟨n,h2 0 Hb⟩)
 cases e3
 exact⟨⟨y0,y1,y2,y3⟩,⟨_,_,rfl,z2,z3,ft z0,ft z1⟩⟩
end
structure kX where
 after:Int
 name:ByteArray
 bytes:List Int
 deriving Inhabited
def bT (F:Nat→Prop) (w:World) (cs:List Value) (x:kX):Prop:=
 ∃v0:Value,cs=[.int .i64 x.after,.string x.name,v0]∧fc 1 140737488351232 (gl .u8) F w v0 x.bytes∧gJ x.after∧x.name.size≤140737488351232
def dB:qd kX:=fun F w b o x=>∃cs,bT F w cs x∧∀j,j<3→w.cell? ⟨b,o+j,none⟩=cs[j]?
section
variable {F S H:Nat→Prop} {w w':World} {b o:Nat} {cs:List Value} {x:kX}
theorem bT.len (h:bT F w cs x):cs.length=3:=by
 obtain⟨v0,rfl,r0,g0,g1⟩:=h
 rfl
theorem bT.aD (h:bT F w cs x) (hc:bA S w w') (hd:∀k,k<w.heap.size→F k→¬S k):bT F w' cs x:=by
 obtain⟨v0,rfl,r0,g0,g1⟩:=h
 exact⟨v0,rfl,fc.aD (gl.fr _) (gl.ce _) r0 hc hd,g0,g1⟩
theorem bT.mono (h:bT F w cs x) (hd:∀k,k<w.heap.size→F k→H k):bT H w cs x:=by
 obtain⟨v0,rfl,r0,g0,g1⟩:=h
 exact⟨v0,rfl,fc.mono (gl.mo _) (gl.ce _) r0 hd,g0,g1⟩
theorem dB.ce:Ce dB:=AtR.ce (V:=bT) bT.len Hb
theorem dB.fr:Fr dB:=AtR.fr (V:=bT) bT.len bT.aD
theorem dB.mo:Mo dB:=AtR.mo (V:=bT) bT.mono
set_option maxRecDepth 100000 in
theorem bT.of (h:Tr w 326 cs) (hcl:cs.length=3):∃x,bT (fun _=>True) w cs x:=by
 obtain⟨c0,c1,c2,rfl⟩:=tJ hcl
 obtain⟨-,hf⟩:=h.struct Tryz.underlying326
 obtain⟨y0,e0,z0⟩:=(show Tr w _ [c0]from Tr.ew hf 0 0 1 rfl G7).int Tryz.underlying3
 cases e0
 obtain⟨y1,e1,z1⟩:=(show Tr w _ [c1]from Tr.ew hf 1 1 1 rfl G7).string Tryz.underlying9
 rw[jH]at z1
 cases e1
 obtain⟨u2,y2,e2,z2⟩:=(show Tr w _ [c2]from Tr.ew hf 2 2 1 rfl G7).sl (s:=1) (bt:=1) (N:=140737488351232) (gl .u8) Tryz.underlying322 G7 G7 Hb (fun n hn=>by omega) (fun b o cs _ h2 h3=>by obtain⟨n,rfl,_⟩:=h3.int Tryz.underlying5;exact⟨n,h2 0 Hb⟩)
 cases e2
 exact⟨⟨y0,y1,y2⟩,⟨_,rfl,z2,ft z0,z1⟩⟩
end
structure ae where
 types:List aE
 imports:List cH
 funcs:List fe
 tables:List eh
 bO:List dz
 globals:List gY
 aB:List kY
 aF:Bool
 start:Int
 elems:List og
 aS:List oe
 br:List kX
 deriving Inhabited
def aH (F:Nat→Prop) (w:World) (cs:List Value) (x:ae):Prop:=
 ∃v0 v1 v2 v3 v4 v5 v6 v7 v8 v9:Value,cs=[v0,v1,v2,v3,v4,v5,v6,.bool x.aF,.int .i64 x.start,v7,v8,v9]∧fc 2 2932031007317 eH F w v0 x.types∧fc 13 1172812402926 cV F w v1 x.imports∧fc 3 2513169434843 dJ F w v2 x.funcs∧fc 4 4398046510976 dH F w v3 x.tables∧fc 3 5864062014634 di F w v4 x.bO∧fc 3 3518437208780 ck F w v5 x.globals∧fc 3 4398046510976 cU F w v6 x.aB∧fc 5 1954687338211 eG F w v7 x.elems∧fc 4 2199023255488 eF F w v8 x.aS∧fc 3 2932031007317 dB F w v9 x.br∧gJ x.start
section
variable {F S H:Nat→Prop} {w w':World} {b o:Nat} {cs:List Value} {x:ae}
theorem aH.aD (h:aH F w cs x) (hc:bA S w w') (hd:∀k,k<w.heap.size→F k→¬S k):aH F w' cs x:=by
 obtain⟨v0,v1,v2,v3,v4,v5,v6,v7,v8,v9,rfl,r0,r1,r2,r3,r4,r5,r6,r7,r8,r9,g0⟩:=h
 exact⟨v0,v1,v2,v3,v4,v5,v6,v7,v8,v9,rfl,fc.aD eH.fr eH.ce r0 hc hd,fc.aD cV.fr cV.ce r1 hc hd,fc.aD dJ.fr dJ.ce r2 hc hd,fc.aD dH.fr dH.ce r3 hc hd,fc.aD di.fr di.ce r4 hc hd,fc.aD ck.fr ck.ce r5 hc hd,fc.aD cU.fr cU.ce r6 hc hd,fc.aD eG.fr eG.ce r7 hc hd,fc.aD eF.fr eF.ce r8 hc hd,fc.aD dB.fr dB.ce r9 hc hd,g0⟩
theorem aH.mono (h:aH F w cs x) (hd:∀k,k<w.heap.size→F k→H k):aH H w cs x:=by
 obtain⟨v0,v1,v2,v3,v4,v5,v6,v7,v8,v9,rfl,r0,r1,r2,r3,r4,r5,r6,r7,r8,r9,g0⟩:=h
 exact⟨v0,v1,v2,v3,v4,v5,v6,v7,v8,v9,rfl,fc.mono eH.mo eH.ce r0 hd,fc.mono cV.mo cV.ce r1 hd,fc.mono dJ.mo dJ.ce r2 hd,fc.mono dH.mo dH.ce r3 hd,fc.mono di.mo di.ce r4 hd,fc.mono ck.mo ck.ce r5 hd,fc.mono cU.mo cU.ce r6 hd,fc.mono eG.mo eG.ce r7 hd,fc.mono eF.mo eF.ce r8 hd,fc.mono dB.mo dB.ce r9 hd,g0⟩
set_option maxRecDepth 100000 in
theorem aH.of (h:Tr w 33 cs) (hcl:cs.length=12):∃x,aH (fun _=>True) w cs x:=by
 obtain⟨c0,c1,c2,c3,c4,c5,c6,c7,c8,c9,c10,c11,rfl⟩:=BN hcl
 obtain⟨-,hf⟩:=h.struct Tryz.underlying33
 obtain⟨u0,y0,e0,z0⟩:=(show Tr w _ [c0]from Tr.ew hf 0 0 1 rfl G7).sl (s:=2) (bt:=48) (N:=2932031007317) eH Tryz.underlying22 G7 G7 Hb (fun n hn=>by omega) (AtR.of (V:=cv) cv.of)
 cases e0
 obtain⟨u1,y1,e1,z1⟩:=(show Tr w _ [c1]from Tr.ew hf 1 1 1 rfl G7).sl (s:=13) (bt:=120) (N:=1172812402926) cV Tryz.underlying23 G7 G7 Hb (fun n hn=>by omega) (AtR.of (V:=bL) bL.of)
 cases e1
 obtain⟨u2,y2,e2,z2⟩:=(show Tr w _ [c2]from Tr.ew hf 2 2 1 rfl G7).sl (s:=3) (bt:=56) (N:=2513169434843) dJ Tryz.underlying24 G7 G7 Hb (fun n hn=>by omega) (AtR.of (V:=cg) cg.of)
 cases e2
 obtain⟨u3,y3,e3,z3⟩:=(show Tr w _ [c3]from Tr.ew hf 3 3 1 rfl G7).sl (s:=4) (bt:=32) (N:=4398046510976) dH Tryz.underlying25 G7 G7 Hb (fun n hn=>by omega) (AtR.of (V:=bY) bY.of)
 cases e3
 obtain⟨u4,y4,e4,z4⟩:=(show Tr w _ [c4]from Tr.ew hf 4 4 1 rfl G7).sl (s:=3) (bt:=24) (N:=5864062014634) di Tryz.underlying26 G7 G7 Hb (fun n hn=>by omega) (AtR.of (V:=bM) bM.of)
 cases e4
 obtain⟨u5,y5,e5,z5⟩:=(show Tr w _ [c5]from Tr.ew hf 5 5 1 rfl G7).sl (s:=3) (bt:=40) (N:=3518437208780) ck Tryz.underlying27 G7 G7 Hb (fun n hn=>by omega) (AtR.of (V:=bg) bg.of)
 cases e5
 obtain⟨u6,y6,e6,z6⟩:=(show Tr w _ [c6]from Tr.ew hf 6 6 1 rfl G7).sl (s:=3) (bt:=32) (N:=4398046510976) cU Tryz.underlying28 G7 G7 Hb (fun n hn=>by omega) (AtR.of (V:=bK) bK.of)
 cases e6
 obtain⟨y7,e7⟩:=(show Tr w _ [c7]from Tr.ew hf 7 7 1 rfl G7).bool Tryz.underlying4
 cases e7
 obtain⟨y8,e8,z8⟩:=(show Tr w _ [c8]from Tr.ew hf 8 8 1 rfl G7).int Tryz.underlying3
 cases e8
 obtain⟨u9,y9,e9,z9⟩:=(show Tr w _ [c9]from Tr.ew hf 9 9 1 rfl G7).sl (s:=5) (bt:=72) (N:=1954687338211) eG Tryz.underlying29 G7 G7 Hb (fun n hn=>by omega) (AtR.of (V:=cG) cG.of)
 cases e9
 obtain⟨Eh,y10,e10,z10⟩:=(show Tr w _ [c10]from Tr.ew hf 10 10 1 rfl G7).sl (s:=4) (bt:=64) (N:=2199023255488) eF Tryz.underlying30 G7 G7 Hb (fun n hn=>by omega) (AtR.of (V:=cF) cF.of)
 cases e10
 obtain⟨C6,y11,e11,z11⟩:=(show Tr w _ [c11]from Tr.ew hf 11 11 1 rfl G7).sl (s:=3) (bt:=48) (N:=2932031007317) dB Tryz.underlying31 G7 G7 Hb (fun n hn=>by omega) (AtR.of (V:=bT) bT.of)
 cases e11
 exact⟨⟨y0,y1,y2,y3,y4,y5,y6,y7,y8,y9,y10,y11⟩,⟨_,_,_,_,_,_,_,_,_,_,rfl,z0,z1,z2,z3,z4,z5,z6,z9,z10,z11,ft z8⟩⟩
end
structure xV where
 kind:Int
 pZ:Int
 index:Int
 deriving Inhabited
section
variable {F S H:Nat→Prop} {w w':World} {b o:Nat} {cs:List Value} {x:xV}
end
structure xW where
 live:Bool
 stack:List Int
 deriving Inhabited
section
variable {F S H:Nat→Prop} {w w':World} {b o:Nat} {cs:List Value} {x:xW}
end
structure zL where
 live:Bool
 stack:List Int
 deriving Inhabited
section
variable {F S H:Nat→Prop} {w w':World} {b o:Nat} {cs:List Value} {x:zL}
end
structure sS where
 l:List Int
 marks:List Int
 loose:List Bool
 mK:Int
 deriving Inhabited
section
variable {F S H:Nat→Prop} {w w':World} {b o:Nat} {cs:List Value} {x:sS}
end
structure sU where
 op:Int
 t:aE
 live:Bool
 zD:Bool
 deriving Inhabited
section
variable {F S H:Nat→Prop} {w w':World} {b o:Nat} {cs:List Value} {x:sU}
end
structure ya where
 s:sS
 Dm:List sU
 results:List Int
 broken:Int
 deriving Inhabited
section
variable {F S H:Nat→Prop} {w w':World} {b o:Nat} {cs:List Value} {x:ya}
end
structure qB where
 at_:Int
 loose:Bool
 deriving Inhabited
section
variable {F S H:Nat→Prop} {w w':World} {b o:Nat} {cs:List Value} {x:qB}
end
structure uB where
 types:List Int
 parts:List qB
 over:Bool
 deriving Inhabited
section
variable {F S H:Nat→Prop} {w w':World} {b o:Nat} {cs:List Value} {x:uB}
end
structure wi where
 ends:List Int
 D4:List Int
 Dh:List Int
 D8:List Int
 deriving Inhabited
section
variable {F S H:Nat→Prop} {w w':World} {b o:Nat} {cs:List Value} {x:wi}
end
structure wg where
 kind:Int
 t:aE
 other:Bool
 live:Bool
 deriving Inhabited
section
variable {F S H:Nat→Prop} {w w':World} {b o:Nat} {cs:List Value} {x:wg}
end
structure wh where
 at_:Int
 FG:Bool
 deriving Inhabited
section
variable {F S H:Nat→Prop} {w w':World} {b o:Nat} {cs:List Value} {x:wh}
end
structure zK where
 f:aE
 e:Int
 deriving Inhabited
section
variable {F S H:Nat→Prop} {w w':World} {b o:Nat} {cs:List Value} {x:zK}
end
structure Bm where
 op:Int
 name:ByteArray
 FH:Int
 deriving Inhabited
section
variable {F S H:Nat→Prop} {w w':World} {b o:Nat} {cs:List Value} {x:Bm}
end
structure wj where
 first:Int
 head:ByteArray
 Ef:ByteArray
 deriving Inhabited
section
variable {F S H:Nat→Prop} {w w':World} {b o:Nat} {cs:List Value} {x:wj}
end
end Go.Proofs.YtceedealggognaaGreatDoor
