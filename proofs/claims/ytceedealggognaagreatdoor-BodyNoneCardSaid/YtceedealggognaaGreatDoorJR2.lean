/- Records for the program's structs of plain data, and how they read; printed by gen_ty.py off the seat's translation. -/
import Derived.Test.YtceedealggognaaGreatDoorJR7
namespace Go.Proofs.YtceedealggognaaGreatDoor
open Go.RowKit
def AtR {α:Type} (n:Nat) (V:(Nat→Prop)→World→List Value→α→Prop):ph α:=fun F w b o x=>∃cs,V F w cs x∧∀j,j<n→w.cell? ⟨b,o+j,none⟩=cs[j]?
section
variable {α:Type} {n t:Nat} {V:(Nat→Prop)→World→List Value→α→Prop}
theorem AtR.ce (hl:∀{F w cs x},V F w cs x→cs.length=n) (hn:0<n):Ce (AtR n V):=fun{F w b o x} ⟨cs,h,hc⟩=>by
 have h0:=hc 0 hn
 have hl:=hl h
 rw[List.getElem?_eq_getElem FY]at h0
 exact dQ h0
theorem AtR.fr (hl:∀{F w cs x},V F w cs x→cs.length=n) (hv:∀{F S:Nat→Prop} {w w' cs x},V F w cs x→bz S w w'→(∀k,k<w.heap.size→F k→¬S k)→V F w' cs x):Fr (AtR n V):=fun{F S w w' b o x} ⟨cs,h,hcc⟩ hc hF hd=>⟨cs,hv h hc hd,fun j hj=>by
 have h0:=hcc j hj
 have hl:=hl h
 rw[List.getElem?_eq_getElem FY]at h0 ⊢
 exact hc.cell (hd _ (dQ h0) hF) h0⟩
theorem AtR.mo (hv:∀{F H:Nat→Prop} {w cs x},V F w cs x→(∀k,k<w.heap.size→F k→H k)→V H w cs x):Mo (AtR n V):=fun⟨cs,h,hcc⟩ hd=>⟨cs,hv h hd,hcc⟩
theorem AtR.of {w:World} (hv:∀{cs},Tr w t cs→cs.length=n→∃x,V (fun _=>True) w cs x) (b o:Nat) (cs:List Value) (hcl:cs.length=n) (hcc:∀j,j<n→w.cell? ⟨b,o+j,none⟩=cs[j]?) (h:Tr w t cs):∃x,AtR n V (fun _=>True) w b o x:=by
 obtain⟨x,hx⟩:=hv h hcl
 exact⟨x,cs,hx,hcc⟩
end
theorem fa {n:Int} (h:(Lit.int .i64 n).wf=true):gJ n:=uz h
theorem zT {cs:List Value} (h:cs.length=2):∃c0 c1,cs=[c0,c1]:=by
 match cs,h with|[c0,c1],_=>exact⟨c0,c1,rfl⟩
theorem sE {cs:List Value} (h:cs.length=3):∃c0 c1 c2,cs=[c0,c1,c2]:=by
 match cs,h with|[c0,c1,c2],_=>exact⟨c0,c1,c2,rfl⟩
theorem zU {cs:List Value} (h:cs.length=4):∃c0 c1 c2 c3,cs=[c0,c1,c2,c3]:=by
 match cs,h with|[c0,c1,c2,c3],_=>exact⟨c0,c1,c2,c3,rfl⟩
theorem Bx {cs:List Value} (h:cs.length=5):∃c0 c1 c2 c3 c4,cs=[c0,c1,c2,c3,c4]:=by
 match cs,h with|[c0,c1,c2,c3,c4],_=>exact⟨c0,c1,c2,c3,c4,rfl⟩
theorem AK {cs:List Value} (h:cs.length=12):∃c0 c1 c2 c3 c4 c5 c6 c7 c8 c9 c10 c11,cs=[c0,c1,c2,c3,c4,c5,c6,c7,c8,c9,c10,c11]:=by
 match cs,h with|[c0,c1,c2,c3,c4,c5,c6,c7,c8,c9,c10,c11],_=>exact⟨c0,c1,c2,c3,c4,c5,c6,c7,c8,c9,c10,c11,rfl⟩
theorem AL {cs:List Value} (h:cs.length=13):∃c0 c1 c2 c3 c4 c5 c6 c7 c8 c9 c10 c11 c12,cs=[c0,c1,c2,c3,c4,c5,c6,c7,c8,c9,c10,c11,c12]:=by
 match cs,h with|[c0,c1,c2,c3,c4,c5,c6,c7,c8,c9,c10,c11,c12],_=>exact⟨c0,c1,c2,c3,c4,c5,c6,c7,c8,c9,c10,c11,c12,rfl⟩
structure aC where
 params:List Int
 results:List Int
 deriving Inhabited
def cn (F:Nat→Prop) (w:World) (cs:List Value) (x:aC):Prop:=
 ∃v0 v1:Value,cs=[v0,v1]∧af F w v0 x.params∧af F w v1 x.results
def ey:ph aC:=fun F w b o x=>∃cs,cn F w cs x∧∀j,j<2→w.cell? ⟨b,o+j,none⟩=cs[j]?
section
variable {F S H:Nat→Prop} {w w':World} {b o:Nat} {cs:List Value} {x:aC}
theorem cn.len (h:cn F w cs x):cs.length=2:=by
 obtain⟨v0,v1,rfl,r0,r1⟩:=h
 rfl
theorem cn.aB (h:cn F w cs x) (hc:bz S w w') (hd:∀k,k<w.heap.size→F k→¬S k):cn F w' cs x:=by
 obtain⟨v0,v1,rfl,r0,r1⟩:=h
 exact⟨v0,v1,rfl,r0.aB hc hd,r1.aB hc hd⟩
theorem cn.mono (h:cn F w cs x) (hd:∀k,k<w.heap.size→F k→H k):cn H w cs x:=by
 obtain⟨v0,v1,rfl,r0,r1⟩:=h
 exact⟨v0,v1,rfl,r0.mono hd,r1.mono hd⟩
theorem ey.ce:Ce ey:=AtR.ce (V:=cn) cn.len FY
theorem ey.fr:Fr ey:=AtR.fr (V:=cn) cn.len cn.aB
theorem ey.mo:Mo ey:=AtR.mo (V:=cn) cn.mono
set_option maxRecDepth 100000 in
theorem cn.of (h:Tr w 74 cs) (hcl:cs.length=2):∃x,cn (fun _=>True) w cs x:=by
 obtain⟨c0,c1,rfl⟩:=zT hcl
 obtain⟨-,hf⟩:=h.struct Tryz.underlying74
 obtain⟨u0,y0,e0,z0⟩:=(show Tr w _ [c0]from Tr.fQ hf 0 0 1 rfl FT).ints Tryz.underlying49 Tryz.underlying58 FT FT
 cases e0
 obtain⟨u1,y1,e1,z1⟩:=(show Tr w _ [c1]from Tr.fQ hf 1 1 1 rfl FT).ints Tryz.underlying49 Tryz.underlying58 FT FT
 cases e1
 exact⟨⟨y0,y1⟩,⟨_,_,rfl,z0,z1⟩⟩
end
structure dt where
 min:Int
 max:Int
 has:Bool
 deriving Inhabited
def bL (_F:Nat→Prop) (_w:World) (cs:List Value) (x:dt):Prop:=
 cs=[.int .i64 x.min,.int .i64 x.max,.bool x.has]∧gJ x.min∧gJ x.max
def cZ:ph dt:=fun F w b o x=>∃cs,bL F w cs x∧∀j,j<3→w.cell? ⟨b,o+j,none⟩=cs[j]?
section
variable {F S H:Nat→Prop} {w w':World} {b o:Nat} {cs:List Value} {x:dt}
theorem bL.len (h:bL F w cs x):cs.length=3:=by
 obtain⟨rfl,g0,g1⟩:=h
 rfl
theorem bL.aB (h:bL F w cs x) (_hc:bz S w w') (_hd:∀k,k<w.heap.size→F k→¬S k):bL F w' cs x:=by
 obtain⟨rfl,g0,g1⟩:=h
 exact⟨rfl,g0,g1⟩
theorem bL.mono (h:bL F w cs x) (_hd:∀k,k<w.heap.size→F k→H k):bL H w cs x:=by
 obtain⟨rfl,g0,g1⟩:=h
 exact⟨rfl,g0,g1⟩
theorem cZ.ce:Ce cZ:=AtR.ce (V:=bL) bL.len FY
theorem cZ.fr:Fr cZ:=AtR.fr (V:=bL) bL.len bL.aB
theorem cZ.mo:Mo cZ:=AtR.mo (V:=bL) bL.mono
set_option maxRecDepth 100000 in
theorem bL.of (h:Tr w 89 cs) (hcl:cs.length=3):∃x,bL (fun _=>True) w cs x:=by
 obtain⟨c0,c1,c2,rfl⟩:=sE hcl
 obtain⟨-,hf⟩:=h.struct Tryz.underlying89
 obtain⟨y0,e0,z0⟩:=(show Tr w _ [c0]from Tr.fQ hf 0 0 1 rfl FT).int Tryz.underlying3
 cases e0
 obtain⟨y1,e1,z1⟩:=(show Tr w _ [c1]from Tr.fQ hf 1 1 1 rfl FT).int Tryz.underlying3
 cases e1
 obtain⟨y2,e2⟩:=(show Tr w _ [c2]from Tr.fQ hf 2 2 1 rfl FT).bool Tryz.underlying4
 cases e2
 exact⟨⟨y0,y1,y2⟩,⟨rfl,fa z0,fa z1⟩⟩
end
structure dS where
 elem:Int
 qV:dt
 deriving Inhabited
def bX (_F:Nat→Prop) (_w:World) (cs:List Value) (x:dS):Prop:=
 cs=[.int .i64 x.elem,.int .i64 x.qV.min,.int .i64 x.qV.max,.bool x.qV.has]∧gJ x.elem∧gJ x.qV.min∧gJ x.qV.max
def dB:ph dS:=fun F w b o x=>∃cs,bX F w cs x∧∀j,j<4→w.cell? ⟨b,o+j,none⟩=cs[j]?
section
variable {F S H:Nat→Prop} {w w':World} {b o:Nat} {cs:List Value} {x:dS}
theorem bX.len (h:bX F w cs x):cs.length=4:=by
 obtain⟨rfl,g0,g1,g2⟩:=h
 rfl
theorem bX.aB (h:bX F w cs x) (_hc:bz S w w') (_hd:∀k,k<w.heap.size→F k→¬S k):bX F w' cs x:=by
 obtain⟨rfl,g0,g1,g2⟩:=h
 exact⟨rfl,g0,g1,g2⟩
theorem bX.mono (h:bX F w cs x) (_hd:∀k,k<w.heap.size→F k→H k):bX H w cs x:=by
 obtain⟨rfl,g0,g1,g2⟩:=h
 exact⟨rfl,g0,g1,g2⟩
theorem dB.ce:Ce dB:=AtR.ce (V:=bX) bX.len FY
theorem dB.fr:Fr dB:=AtR.fr (V:=bX) bX.len bX.aB
theorem dB.mo:Mo dB:=AtR.mo (V:=bX) bX.mono
set_option maxRecDepth 100000 in
theorem bX.of (h:Tr w 91 cs) (hcl:cs.length=4):∃x,bX (fun _=>True) w cs x:=by
 obtain⟨c0,c1,c2,c3,rfl⟩:=zU hcl
 obtain⟨-,hf⟩:=h.struct Tryz.underlying91
 obtain⟨y0,e0,z0⟩:=(show Tr w _ [c0]from Tr.fQ hf 0 0 1 rfl FT).int Tryz.underlying58
 cases e0
 obtain⟨y1,q1⟩:=bL.of (show Tr w _ [c1,c2,c3]from Tr.fQ hf 1 1 3 rfl FT) rfl
 obtain⟨e1,k1_0,k1_1⟩:=q1
 cases e1
 exact⟨⟨y0,y1⟩,⟨rfl,fa z0,k1_0,k1_1⟩⟩
end
structure eP where
 pf:Int
 vX:Bool
 deriving Inhabited
def jC (_F:Nat→Prop) (_w:World) (cs:List Value) (x:eP):Prop:=
 cs=[.int .i64 x.pf,.bool x.vX]∧gJ x.pf
section
variable {F S H:Nat→Prop} {w w':World} {b o:Nat} {cs:List Value} {x:eP}
set_option maxRecDepth 100000 in
theorem jC.of (h:Tr w 93 cs) (hcl:cs.length=2):∃x,jC (fun _=>True) w cs x:=by
 obtain⟨c0,c1,rfl⟩:=zT hcl
 obtain⟨-,hf⟩:=h.struct Tryz.underlying93
 obtain⟨y0,e0,z0⟩:=(show Tr w _ [c0]from Tr.fQ hf 0 0 1 rfl FT).int Tryz.underlying58
 cases e0
 obtain⟨y1,e1⟩:=(show Tr w _ [c1]from Tr.fQ hf 1 1 1 rfl FT).bool Tryz.underlying4
 cases e1
 exact⟨⟨y0,y1⟩,⟨rfl,fa z0⟩⟩
end
structure cB where
 module:ByteArray
 name:ByteArray
 kind:Int
 func:Int
 table:dS
 mem:dt
 gk:eP
 deriving Inhabited
def bK (_F:Nat→Prop) (_w:World) (cs:List Value) (x:cB):Prop:=
 cs=[.string x.module,.string x.name,.int .i64 x.kind,.int .i64 x.func,.int .i64 x.table.elem,.int .i64 x.table.qV.min,.int .i64 x.table.qV.max,.bool x.table.qV.has,.int .i64 x.mem.min,.int .i64 x.mem.max,.bool x.mem.has,.int .i64 x.gk.pf,.bool x.gk.vX]∧x.module.size≤140737488351232∧x.name.size≤140737488351232∧gJ x.kind∧gJ x.func∧gJ x.table.elem∧gJ x.table.qV.min∧gJ x.table.qV.max∧gJ x.mem.min∧gJ x.mem.max∧gJ x.gk.pf
def cP:ph cB:=fun F w b o x=>∃cs,bK F w cs x∧∀j,j<13→w.cell? ⟨b,o+j,none⟩=cs[j]?
section
variable {F S H:Nat→Prop} {w w':World} {b o:Nat} {cs:List Value} {x:cB}
theorem bK.len (h:bK F w cs x):cs.length=13:=by
 obtain⟨rfl,g0,g1,g2,g3,g4,g5,g6,g7,g8,g9⟩:=h
 rfl
theorem bK.aB (h:bK F w cs x) (_hc:bz S w w') (_hd:∀k,k<w.heap.size→F k→¬S k):bK F w' cs x:=by
 obtain⟨rfl,g0,g1,g2,g3,g4,g5,g6,g7,g8,g9⟩:=h
 exact⟨rfl,g0,g1,g2,g3,g4,g5,g6,g7,g8,g9⟩
theorem bK.mono (h:bK F w cs x) (_hd:∀k,k<w.heap.size→F k→H k):bK H w cs x:=by
 obtain⟨rfl,g0,g1,g2,g3,g4,g5,g6,g7,g8,g9⟩:=h
 exact⟨rfl,g0,g1,g2,g3,g4,g5,g6,g7,g8,g9⟩
theorem cP.ce:Ce cP:=AtR.ce (V:=bK) bK.len FY
theorem cP.fr:Fr cP:=AtR.fr (V:=bK) bK.len bK.aB
theorem cP.mo:Mo cP:=AtR.mo (V:=bK) bK.mono
theorem bK.tN (h:bK F w cs x):gJ x.kind:=by
 obtain⟨rfl,g0,g1,g2,g3,g4,g5,g6,g7,g8,g9⟩:=h
 exact g2
theorem cP.tN (h:cP F w b o x):gJ x.kind:=by
 obtain⟨cs,hv,hc⟩:=h
 exact hv.tN
set_option maxRecDepth 100000 in
theorem bK.of (h:Tr w 95 cs) (hcl:cs.length=13):∃x,bK (fun _=>True) w cs x:=by
 obtain⟨c0,c1,c2,c3,c4,c5,c6,c7,c8,c9,c10,c11,c12,rfl⟩:=AL hcl
 obtain⟨-,hf⟩:=h.struct Tryz.underlying95
 obtain⟨y0,e0,z0⟩:=(show Tr w _ [c0]from Tr.fQ hf 0 0 1 rfl FT).string Tryz.underlying9
 rw[jw]at z0
 cases e0
 obtain⟨y1,e1,z1⟩:=(show Tr w _ [c1]from Tr.fQ hf 1 1 1 rfl FT).string Tryz.underlying9
 rw[jw]at z1
 cases e1
 obtain⟨y2,e2,z2⟩:=(show Tr w _ [c2]from Tr.fQ hf 2 2 1 rfl FT).int Tryz.underlying87
 cases e2
 obtain⟨y3,e3,z3⟩:=(show Tr w _ [c3]from Tr.fQ hf 3 3 1 rfl FT).int Tryz.underlying3
 cases e3
 obtain⟨y4,q4⟩:=bX.of (show Tr w _ [c4,c5,c6,c7]from Tr.fQ hf 4 4 4 rfl FT) rfl
 obtain⟨e4,k4_0,k4_1,k4_2⟩:=q4
 cases e4
 obtain⟨y5,q5⟩:=bL.of (show Tr w _ [c8,c9,c10]from Tr.fQ hf 5 8 3 rfl FT) rfl
 obtain⟨e5,k5_0,k5_1⟩:=q5
 cases e5
 obtain⟨y6,q6⟩:=jC.of (show Tr w _ [c11,c12]from Tr.fQ hf 6 11 2 rfl FT) rfl
 obtain⟨e6,k6_0⟩:=q6
 cases e6
 exact⟨⟨y0,y1,y2,y3,y4,y5,y6⟩,⟨rfl,z0,z1,fa z2,fa z3,k4_0,k4_1,k4_2,k5_0,k5_1,k6_0⟩⟩
end
structure nB where
 eZ:Int
 locals:List Int
 body:List bZ
 deriving Inhabited
def cw (F:Nat→Prop) (w:World) (cs:List Value) (x:nB):Prop:=
 ∃v0 v1:Value,cs=[.int .i64 x.eZ,v0,v1]∧af F w v0 x.locals∧ed F w v1 x.body∧gJ x.eZ
def er:ph nB:=fun F w b o x=>∃cs,cw F w cs x∧∀j,j<3→w.cell? ⟨b,o+j,none⟩=cs[j]?
section
variable {F S H:Nat→Prop} {w w':World} {b o:Nat} {cs:List Value} {x:nB}
theorem cw.len (h:cw F w cs x):cs.length=3:=by
 obtain⟨v0,v1,rfl,r0,r1,g0⟩:=h
 rfl
theorem cw.aB (h:cw F w cs x) (hc:bz S w w') (hd:∀k,k<w.heap.size→F k→¬S k):cw F w' cs x:=by
 obtain⟨v0,v1,rfl,r0,r1,g0⟩:=h
 exact⟨v0,v1,rfl,r0.aB hc hd,r1.aB hc hd,g0⟩
theorem cw.mono (h:cw F w cs x) (hd:∀k,k<w.heap.size→F k→H k):cw H w cs x:=by
 obtain⟨v0,v1,rfl,r0,r1,g0⟩:=h
 exact⟨v0,v1,rfl,r0.mono hd,r1.mono hd,g0⟩
theorem er.ce:Ce er:=AtR.ce (V:=cw) cw.len FY
theorem er.fr:Fr er:=AtR.fr (V:=cw) cw.len cw.aB
theorem er.mo:Mo er:=AtR.mo (V:=cw) cw.mono
set_option maxRecDepth 100000 in
theorem cw.of (h:Tr w 68 cs) (hcl:cs.length=3):∃x,cw (fun _=>True) w cs x:=by
 obtain⟨c0,c1,c2,rfl⟩:=sE hcl
 obtain⟨-,hf⟩:=h.struct Tryz.underlying68
 obtain⟨y0,e0,z0⟩:=(show Tr w _ [c0]from Tr.fQ hf 0 0 1 rfl FT).int Tryz.underlying3
 cases e0
 obtain⟨u1,y1,e1,z1⟩:=(show Tr w _ [c1]from Tr.fQ hf 1 1 1 rfl FT).ints Tryz.underlying49 Tryz.underlying58 FT FT
 cases e1
 obtain⟨u2,y2,e2,z2⟩:=(show Tr w _ [c2]from Tr.fQ hf 2 2 1 rfl FT).body
 cases e2
 exact⟨⟨y0,y1,y2⟩,⟨_,_,rfl,z1,z2,fa z0⟩⟩
end
structure gP where
 eZ:eP
 sy:List bZ
 deriving Inhabited
def bg (F:Nat→Prop) (w:World) (cs:List Value) (x:gP):Prop:=
 ∃v0:Value,cs=[.int .i64 x.eZ.pf,.bool x.eZ.vX,v0]∧ed F w v0 x.sy∧gJ x.eZ.pf
def cg:ph gP:=fun F w b o x=>∃cs,bg F w cs x∧∀j,j<3→w.cell? ⟨b,o+j,none⟩=cs[j]?
section
variable {F S H:Nat→Prop} {w w':World} {b o:Nat} {cs:List Value} {x:gP}
theorem bg.len (h:bg F w cs x):cs.length=3:=by
 obtain⟨v0,rfl,r0,g0⟩:=h
 rfl
theorem bg.aB (h:bg F w cs x) (hc:bz S w w') (hd:∀k,k<w.heap.size→F k→¬S k):bg F w' cs x:=by
 obtain⟨v0,rfl,r0,g0⟩:=h
 exact⟨v0,rfl,r0.aB hc hd,g0⟩
theorem bg.mono (h:bg F w cs x) (hd:∀k,k<w.heap.size→F k→H k):bg H w cs x:=by
 obtain⟨v0,rfl,r0,g0⟩:=h
 exact⟨v0,rfl,r0.mono hd,g0⟩
theorem cg.ce:Ce cg:=AtR.ce (V:=bg) bg.len FY
theorem cg.fr:Fr cg:=AtR.fr (V:=bg) bg.len bg.aB
theorem cg.mo:Mo cg:=AtR.mo (V:=bg) bg.mono
set_option maxRecDepth 100000 in
theorem bg.of (h:Tr w 99 cs) (hcl:cs.length=3):∃x,bg (fun _=>True) w cs x:=by
 obtain⟨c0,c1,c2,rfl⟩:=sE hcl
 obtain⟨-,hf⟩:=h.struct Tryz.underlying99
 obtain⟨y0,q0⟩:=jC.of (show Tr w _ [c0,c1]from Tr.fQ hf 0 0 2 rfl FT) rfl
 obtain⟨e0,k0_0⟩:=q0
 cases e0
 obtain⟨u1,y1,e1,z1⟩:=(show Tr w _ [c2]from Tr.fQ hf 1 2 1 rfl FT).body
 cases e1
 exact⟨⟨y0,y1⟩,⟨_,rfl,z1,k0_0⟩⟩
end
structure kB where
 name:ByteArray
 kind:Int
 index:Int
 deriving Inhabited
def bJ (_F:Nat→Prop) (_w:World) (cs:List Value) (x:kB):Prop:=
 cs=[.string x.name,.int .i64 x.kind,.int .i64 x.index]∧x.name.size≤140737488351232∧gJ x.kind∧gJ x.index
def cO:ph kB:=fun F w b o x=>∃cs,bJ F w cs x∧∀j,j<3→w.cell? ⟨b,o+j,none⟩=cs[j]?
section
variable {F S H:Nat→Prop} {w w':World} {b o:Nat} {cs:List Value} {x:kB}
theorem bJ.len (h:bJ F w cs x):cs.length=3:=by
 obtain⟨rfl,g0,g1,g2⟩:=h
 rfl
theorem bJ.aB (h:bJ F w cs x) (_hc:bz S w w') (_hd:∀k,k<w.heap.size→F k→¬S k):bJ F w' cs x:=by
 obtain⟨rfl,g0,g1,g2⟩:=h
 exact⟨rfl,g0,g1,g2⟩
theorem bJ.mono (h:bJ F w cs x) (_hd:∀k,k<w.heap.size→F k→H k):bJ H w cs x:=by
 obtain⟨rfl,g0,g1,g2⟩:=h
 exact⟨rfl,g0,g1,g2⟩
theorem cO.ce:Ce cO:=AtR.ce (V:=bJ) bJ.len FY
theorem cO.fr:Fr cO:=AtR.fr (V:=bJ) bJ.len bJ.aB
theorem cO.mo:Mo cO:=AtR.mo (V:=bJ) bJ.mono
theorem bJ.qO (h:bJ F w cs x):gJ x.index:=by
 obtain⟨rfl,g0,g1,g2⟩:=h
 exact g2
theorem cO.qO (h:cO F w b o x):gJ x.index:=by
 obtain⟨cs,hv,hc⟩:=h
 exact hv.qO
set_option maxRecDepth 100000 in
theorem bJ.of (h:Tr w 104 cs) (hcl:cs.length=3):∃x,bJ (fun _=>True) w cs x:=by
 obtain⟨c0,c1,c2,rfl⟩:=sE hcl
 obtain⟨-,hf⟩:=h.struct Tryz.underlying104
 obtain⟨y0,e0,z0⟩:=(show Tr w _ [c0]from Tr.fQ hf 0 0 1 rfl FT).string Tryz.underlying9
 rw[jw]at z0
 cases e0
 obtain⟨y1,e1,z1⟩:=(show Tr w _ [c1]from Tr.fQ hf 1 1 1 rfl FT).int Tryz.underlying87
 cases e1
 obtain⟨y2,e2,z2⟩:=(show Tr w _ [c2]from Tr.fQ hf 2 2 1 rfl FT).int Tryz.underlying3
 cases e2
 exact⟨⟨y0,y1,y2⟩,⟨rfl,z0,fa z1,fa z2⟩⟩
end
structure nD where
 mode:Int
 table:Int
 offset:List bZ
 eZ:Int
 items:List (List bZ)
 deriving Inhabited
def cA (F:Nat→Prop) (w:World) (cs:List Value) (x:nD):Prop:=
 ∃v0 v1:Value,cs=[.int .i64 x.mode,.int .i64 x.table,v0,.int .i64 x.eZ,v1]∧ed F w v0 x.offset∧fc 1 5864062014634 (jY ed) F w v1 x.items∧gJ x.mode∧gJ x.table∧gJ x.eZ
def ew:ph nD:=fun F w b o x=>∃cs,cA F w cs x∧∀j,j<5→w.cell? ⟨b,o+j,none⟩=cs[j]?
section
variable {F S H:Nat→Prop} {w w':World} {b o:Nat} {cs:List Value} {x:nD}
theorem cA.len (h:cA F w cs x):cs.length=5:=by
 obtain⟨v0,v1,rfl,r0,r1,g0,g1,g2⟩:=h
 rfl
theorem cA.aB (h:cA F w cs x) (hc:bz S w w') (hd:∀k,k<w.heap.size→F k→¬S k):cA F w' cs x:=by
 obtain⟨v0,v1,rfl,r0,r1,g0,g1,g2⟩:=h
 exact⟨v0,v1,rfl,r0.aB hc hd,fc.aB (jY.fr (fun h hc hd=>h.aB hc hd)) jY.ce r1 hc hd,g0,g1,g2⟩
theorem cA.mono (h:cA F w cs x) (hd:∀k,k<w.heap.size→F k→H k):cA H w cs x:=by
 obtain⟨v0,v1,rfl,r0,r1,g0,g1,g2⟩:=h
 exact⟨v0,v1,rfl,r0.mono hd,fc.mono (jY.mo (fun h hd=>h.mono hd)) jY.ce r1 hd,g0,g1,g2⟩
theorem ew.ce:Ce ew:=AtR.ce (V:=cA) cA.len FY
theorem ew.fr:Fr ew:=AtR.fr (V:=cA) cA.len cA.aB
theorem ew.mo:Mo ew:=AtR.mo (V:=cA) cA.mono
set_option maxRecDepth 100000 in
theorem cA.of (h:Tr w 102 cs) (hcl:cs.length=5):∃x,cA (fun _=>True) w cs x:=by
 obtain⟨c0,c1,c2,c3,c4,rfl⟩:=Bx hcl
 obtain⟨-,hf⟩:=h.struct Tryz.underlying102
 obtain⟨y0,e0,z0⟩:=(show Tr w _ [c0]from Tr.fQ hf 0 0 1 rfl FT).int Tryz.underlying3
 cases e0
 obtain⟨y1,e1,z1⟩:=(show Tr w _ [c1]from Tr.fQ hf 1 1 1 rfl FT).int Tryz.underlying3
 cases e1
 obtain⟨u2,y2,e2,z2⟩:=(show Tr w _ [c2]from Tr.fQ hf 2 2 1 rfl FT).body
 cases e2
 obtain⟨y3,e3,z3⟩:=(show Tr w _ [c3]from Tr.fQ hf 3 3 1 rfl FT).int Tryz.underlying58
 cases e3
 obtain⟨u4,y4,e4,z4⟩:=(show Tr w _ [c4]from Tr.fQ hf 4 4 1 rfl FT).sl (s:=1) (bt:=24) (N:=5864062014634) (jY ed) Tryz.underlying100 FT FT FY (fun n hn=>by omega) (fun b o cs _ h2 h3=>by obtain⟨v,xs,rfl,h⟩:=(h3).body;exact⟨xs,v,h2 0 FY,h⟩)
 cases e4
 exact⟨⟨y0,y1,y2,y3,y4⟩,⟨_,_,rfl,z2,z4,fa z0,fa z1,fa z3⟩⟩
end
structure nC where
 mode:Int
 mem:Int
 offset:List bZ
 bytes:List Int
 deriving Inhabited
def cz (F:Nat→Prop) (w:World) (cs:List Value) (x:nC):Prop:=
 ∃v0 v1:Value,cs=[.int .i64 x.mode,.int .i64 x.mem,v0,v1]∧ed F w v0 x.offset∧fc 1 140737488351232 (fT .u8) F w v1 x.bytes∧gJ x.mode∧gJ x.mem
def eu:ph nC:=fun F w b o x=>∃cs,cz F w cs x∧∀j,j<4→w.cell? ⟨b,o+j,none⟩=cs[j]?
section
variable {F S H:Nat→Prop} {w w':World} {b o:Nat} {cs:List Value} {x:nC}
theorem cz.len (h:cz F w cs x):cs.length=4:=by
 obtain⟨v0,v1,rfl,r0,r1,g0,g1⟩:=h
 rfl
theorem cz.aB (h:cz F w cs x) (hc:bz S w w') (hd:∀k,k<w.heap.size→F k→¬S k):cz F w' cs x:=by
 obtain⟨v0,v1,rfl,r0,r1,g0,g1⟩:=h
 exact⟨v0,v1,rfl,r0.aB hc hd,fc.aB (fT.fr _) (fT.ce _) r1 hc hd,g0,g1⟩
theorem cz.mono (h:cz F w cs x) (hd:∀k,k<w.heap.size→F k→H k):cz H w cs x:=by
 obtain⟨v0,v1,rfl,r0,r1,g0,g1⟩:=h
 exact⟨v0,v1,rfl,r0.mono hd,fc.mono (fT.mo _) (fT.ce _) r1 hd,g0,g1⟩
theorem eu.ce:Ce eu:=AtR.ce (V:=cz) cz.len FY
theorem eu.fr:Fr eu:=AtR.fr (V:=cz) cz.len cz.aB
theorem eu.mo:Mo eu:=AtR.mo (V:=cz) cz.mono
set_option maxRecDepth 100000 in
theorem cz.of (h:Tr w 324 cs) (hcl:cs.length=4):∃x,cz (fun _=>True) w cs x:=by
 obtain⟨c0,c1,c2,c3,rfl⟩:=zU hcl
 obtain⟨-,hf⟩:=h.struct Tryz.underlying324
 obtain⟨y0,e0,z0⟩:=(show Tr w _ [c0]from Tr.fQ hf 0 0 1 rfl FT).int Tryz.underlying3
 cases e0
 obtain⟨y1,e1,z1⟩:=(show Tr w _ [c1]from Tr.fQ hf 1 1 1 rfl FT).int Tryz.underlying3
 cases e1
 obtain⟨u2,y2,e2,z2⟩:=(show Tr w _ [c2]from Tr.fQ hf 2 2 1 rfl FT).body
 cases e2
 obtain⟨u3,y3,e3,z3⟩:=(show Tr w _ [c3]from Tr.fQ hf 3 3 1 rfl FT).sl (s:=1) (bt:=1) (N:=140737488351232) (fT .u8) Tryz.underlying322 FT FT FY (fun n hn=>by omega) (fun b o cs _ h2 h3=>by obtain⟨n,rfl,_⟩:=h3.int Tryz.underlying5;exact⟨n,h2 0 FY⟩)
 cases e3
 exact⟨⟨y0,y1,y2,y3⟩,⟨_,_,rfl,z2,z3,fa z0,fa z1⟩⟩
end
structure kA where
 after:Int
 name:ByteArray
 bytes:List Int
 deriving Inhabited
def bQ (F:Nat→Prop) (w:World) (cs:List Value) (x:kA):Prop:=
 ∃v0:Value,cs=[.int .i64 x.after,.string x.name,v0]∧fc 1 140737488351232 (fT .u8) F w v0 x.bytes∧gJ x.after∧x.name.size≤140737488351232
def dw:ph kA:=fun F w b o x=>∃cs,bQ F w cs x∧∀j,j<3→w.cell? ⟨b,o+j,none⟩=cs[j]?
section
variable {F S H:Nat→Prop} {w w':World} {b o:Nat} {cs:List Value} {x:kA}
theorem bQ.len (h:bQ F w cs x):cs.length=3:=by
 obtain⟨v0,rfl,r0,g0,g1⟩:=h
 rfl
theorem bQ.aB (h:bQ F w cs x) (hc:bz S w w') (hd:∀k,k<w.heap.size→F k→¬S k):bQ F w' cs x:=by
 obtain⟨v0,rfl,r0,g0,g1⟩:=h
 exact⟨v0,rfl,fc.aB (fT.fr _) (fT.ce _) r0 hc hd,g0,g1⟩
theorem bQ.mono (h:bQ F w cs x) (hd:∀k,k<w.heap.size→F k→H k):bQ H w cs x:=by
 obtain⟨v0,rfl,r0,g0,g1⟩:=h
 exact⟨v0,rfl,fc.mono (fT.mo _) (fT.ce _) r0 hd,g0,g1⟩
theorem dw.ce:Ce dw:=AtR.ce (V:=bQ) bQ.len FY
theorem dw.fr:Fr dw:=AtR.fr (V:=bQ) bQ.len bQ.aB
theorem dw.mo:Mo dw:=AtR.mo (V:=bQ) bQ.mono
set_option maxRecDepth 100000 in
theorem bQ.of (h:Tr w 326 cs) (hcl:cs.length=3):∃x,bQ (fun _=>True) w cs x:=by
 obtain⟨c0,c1,c2,rfl⟩:=sE hcl
 obtain⟨-,hf⟩:=h.struct Tryz.underlying326
 obtain⟨y0,e0,z0⟩:=(show Tr w _ [c0]from Tr.fQ hf 0 0 1 rfl FT).int Tryz.underlying3
 cases e0
 obtain⟨y1,e1,z1⟩:=(show Tr w _ [c1]from Tr.fQ hf 1 1 1 rfl FT).string Tryz.underlying9
 rw[jw]at z1
 cases e1
 obtain⟨u2,y2,e2,z2⟩:=(show Tr w _ [c2]from Tr.fQ hf 2 2 1 rfl FT).sl (s:=1) (bt:=1) (N:=140737488351232) (fT .u8) Tryz.underlying322 FT FT FY (fun n hn=>by omega) (fun b o cs _ h2 h3=>by obtain⟨n,rfl,_⟩:=h3.int Tryz.underlying5;exact⟨n,h2 0 FY⟩)
 cases e2
 exact⟨⟨y0,y1,y2⟩,⟨_,rfl,z2,fa z0,z1⟩⟩
end
structure ae where
 types:List aC
 imports:List cB
 funcs:List nB
 tables:List dS
 bU:List dt
 globals:List gP
 aG:List kB
 aJ:Bool
 start:Int
 elems:List nD
 aW:List nC
 bI:List kA
 deriving Inhabited
def aD (F:Nat→Prop) (w:World) (cs:List Value) (x:ae):Prop:=
 ∃v0 v1 v2 v3 v4 v5 v6 v7 v8 v9:Value,cs=[v0,v1,v2,v3,v4,v5,v6,.bool x.aJ,.int .i64 x.start,v7,v8,v9]∧fc 2 2932031007317 ey F w v0 x.types∧fc 13 1172812402926 cP F w v1 x.imports∧fc 3 2513169434843 er F w v2 x.funcs∧fc 4 4398046510976 dB F w v3 x.tables∧fc 3 5864062014634 cZ F w v4 x.bU∧fc 3 3518437208780 cg F w v5 x.globals∧fc 3 4398046510976 cO F w v6 x.aG∧fc 5 1954687338211 ew F w v7 x.elems∧fc 4 2199023255488 eu F w v8 x.aW∧fc 3 2932031007317 dw F w v9 x.bI∧gJ x.start
section
variable {F S H:Nat→Prop} {w w':World} {b o:Nat} {cs:List Value} {x:ae}
theorem aD.aB (h:aD F w cs x) (hc:bz S w w') (hd:∀k,k<w.heap.size→F k→¬S k):aD F w' cs x:=by
 obtain⟨v0,v1,v2,v3,v4,v5,v6,v7,v8,v9,rfl,r0,r1,r2,r3,r4,r5,r6,r7,r8,r9,g0⟩:=h
 exact⟨v0,v1,v2,v3,v4,v5,v6,v7,v8,v9,rfl,fc.aB ey.fr ey.ce r0 hc hd,fc.aB cP.fr cP.ce r1 hc hd,fc.aB er.fr er.ce r2 hc hd,fc.aB dB.fr dB.ce r3 hc hd,fc.aB cZ.fr cZ.ce r4 hc hd,fc.aB cg.fr cg.ce r5 hc hd,fc.aB cO.fr cO.ce r6 hc hd,fc.aB ew.fr ew.ce r7 hc hd,fc.aB eu.fr eu.ce r8 hc hd,fc.aB dw.fr dw.ce r9 hc hd,g0⟩
theorem aD.mono (h:aD F w cs x) (hd:∀k,k<w.heap.size→F k→H k):aD H w cs x:=by
 obtain⟨v0,v1,v2,v3,v4,v5,v6,v7,v8,v9,rfl,r0,r1,r2,r3,r4,r5,r6,r7,r8,r9,g0⟩:=h
 exact⟨v0,v1,v2,v3,v4,v5,v6,v7,v8,v9,rfl,fc.mono ey.mo ey.ce r0 hd,fc.mono cP.mo cP.ce r1 hd,fc.mono er.mo er.ce r2 hd,fc.mono dB.mo dB.ce r3 hd,fc.mono cZ.mo cZ.ce r4 hd,fc.mono cg.mo cg.ce r5 hd,fc.mono cO.mo cO.ce r6 hd,fc.mono ew.mo ew.ce r7 hd,fc.mono eu.mo eu.ce r8 hd,fc.mono dw.mo dw.ce r9 hd,g0⟩
set_option maxRecDepth 100000 in
theorem aD.of (h:Tr w 33 cs) (hcl:cs.length=12):∃x,aD (fun _=>True) w cs x:=by
 obtain⟨c0,c1,c2,c3,c4,c5,c6,c7,c8,c9,c10,c11,rfl⟩:=AK hcl
 obtain⟨-,hf⟩:=h.struct Tryz.underlying33
 obtain⟨u0,y0,e0,z0⟩:=(show Tr w _ [c0]from Tr.fQ hf 0 0 1 rfl FT).sl (s:=2) (bt:=48) (N:=2932031007317) ey Tryz.underlying22 FT FT FY (fun n hn=>by omega) (AtR.of (V:=cn) cn.of)
 cases e0
 obtain⟨u1,y1,e1,z1⟩:=(show Tr w _ [c1]from Tr.fQ hf 1 1 1 rfl FT).sl (s:=13) (bt:=120) (N:=1172812402926) cP Tryz.underlying23 FT FT FY (fun n hn=>by omega) (AtR.of (V:=bK) bK.of)
 cases e1
 obtain⟨u2,y2,e2,z2⟩:=(show Tr w _ [c2]from Tr.fQ hf 2 2 1 rfl FT).sl (s:=3) (bt:=56) (N:=2513169434843) er Tryz.underlying24 FT FT FY (fun n hn=>by omega) (AtR.of (V:=cw) cw.of)
 cases e2
 obtain⟨u3,y3,e3,z3⟩:=(show Tr w _ [c3]from Tr.fQ hf 3 3 1 rfl FT).sl (s:=4) (bt:=32) (N:=4398046510976) dB Tryz.underlying25 FT FT FY (fun n hn=>by omega) (AtR.of (V:=bX) bX.of)
 cases e3
 obtain⟨u4,y4,e4,z4⟩:=(show Tr w _ [c4]from Tr.fQ hf 4 4 1 rfl FT).sl (s:=3) (bt:=24) (N:=5864062014634) cZ Tryz.underlying26 FT FT FY (fun n hn=>by omega) (AtR.of (V:=bL) bL.of)
 cases e4
 obtain⟨u5,y5,e5,z5⟩:=(show Tr w _ [c5]from Tr.fQ hf 5 5 1 rfl FT).sl (s:=3) (bt:=40) (N:=3518437208780) cg Tryz.underlying27 FT FT FY (fun n hn=>by omega) (AtR.of (V:=bg) bg.of)
 cases e5
 obtain⟨u6,y6,e6,z6⟩:=(show Tr w _ [c6]from Tr.fQ hf 6 6 1 rfl FT).sl (s:=3) (bt:=32) (N:=4398046510976) cO Tryz.underlying28 FT FT FY (fun n hn=>by omega) (AtR.of (V:=bJ) bJ.of)
 cases e6
 obtain⟨y7,e7⟩:=(show Tr w _ [c7]from Tr.fQ hf 7 7 1 rfl FT).bool Tryz.underlying4
 cases e7
 obtain⟨y8,e8,z8⟩:=(show Tr w _ [c8]from Tr.fQ hf 8 8 1 rfl FT).int Tryz.underlying3
 cases e8
 obtain⟨u9,y9,e9,z9⟩:=(show Tr w _ [c9]from Tr.fQ hf 9 9 1 rfl FT).sl (s:=5) (bt:=72) (N:=1954687338211) ew Tryz.underlying29 FT FT FY (fun n hn=>by omega) (AtR.of (V:=cA) cA.of)
 cases e9
 obtain⟨C1,y10,e10,z10⟩:=(show Tr w _ [c10]from Tr.fQ hf 10 10 1 rfl FT).sl (s:=4) (bt:=64) (N:=2199023255488) eu Tryz.underlying30 FT FT FY (fun n hn=>by omega) (AtR.of (V:=cz) cz.of)
 cases e10
 obtain⟨BV,y11,e11,z11⟩:=(show Tr w _ [c11]from Tr.fQ hf 11 11 1 rfl FT).sl (s:=3) (bt:=48) (N:=2932031007317) dw Tryz.underlying31 FT FT FY (fun n hn=>by omega) (AtR.of (V:=bQ) bQ.of)
 cases e11
 exact⟨⟨y0,y1,y2,y3,y4,y5,y6,y7,y8,y9,y10,y11⟩,⟨_,_,_,_,_,_,_,_,_,_,rfl,z0,z1,z2,z3,z4,z5,z6,z9,z10,z11,fa z8⟩⟩
end
structure wW where
 kind:Int
 pf:Int
 index:Int
 deriving Inhabited
section
variable {F S H:Nat→Prop} {w w':World} {b o:Nat} {cs:List Value} {x:wW}
end
structure wX where
 live:Bool
 stack:List Int
 deriving Inhabited
section
variable {F S H:Nat→Prop} {w w':World} {b o:Nat} {cs:List Value} {x:wX}
end
structure yB where
 live:Bool
 stack:List Int
 deriving Inhabited
section
variable {F S H:Nat→Prop} {w w':World} {b o:Nat} {cs:List Value} {x:yB}
end
structure rT where
 l:List Int
 marks:List Int
 loose:List Bool
 lS:Int
 deriving Inhabited
section
variable {F S H:Nat→Prop} {w w':World} {b o:Nat} {cs:List Value} {x:rT}
end
structure rU where
 op:Int
 t:aC
 live:Bool
 yu:Bool
 deriving Inhabited
section
variable {F S H:Nat→Prop} {w w':World} {b o:Nat} {cs:List Value} {x:rU}
end
structure xc where
 s:rT
 Cg:List rU
 results:List Int
 broken:Int
 deriving Inhabited
section
variable {F S H:Nat→Prop} {w w':World} {b o:Nat} {cs:List Value} {x:xc}
end
structure pQ where
 at_:Int
 loose:Bool
 deriving Inhabited
section
variable {F S H:Nat→Prop} {w w':World} {b o:Nat} {cs:List Value} {x:pQ}
end
structure tA where
 types:List Int
 parts:List pQ
 over:Bool
 deriving Inhabited
section
variable {F S H:Nat→Prop} {w w':World} {b o:Nat} {cs:List Value} {x:tA}
end
structure vl where
 ends:List Int
 CO:List Int
 B9:List Int
 CR:List Int
 deriving Inhabited
section
variable {F S H:Nat→Prop} {w w':World} {b o:Nat} {cs:List Value} {x:vl}
end
structure vj where
 kind:Int
 t:aC
 other:Bool
 live:Bool
 deriving Inhabited
section
variable {F S H:Nat→Prop} {w w':World} {b o:Nat} {cs:List Value} {x:vj}
end
structure vk where
 at_:Int
 Eu:Bool
 deriving Inhabited
section
variable {F S H:Nat→Prop} {w w':World} {b o:Nat} {cs:List Value} {x:vk}
end
structure yA where
 f:aC
 e:Int
 deriving Inhabited
section
variable {F S H:Nat→Prop} {w w':World} {b o:Nat} {cs:List Value} {x:yA}
end
structure Al where
 op:Int
 name:ByteArray
 Ev:Int
 deriving Inhabited
section
variable {F S H:Nat→Prop} {w w':World} {b o:Nat} {cs:List Value} {x:Al}
end
structure vm where
 first:Int
 head:ByteArray
 CZ:ByteArray
 deriving Inhabited
section
variable {F S H:Nat→Prop} {w w':World} {b o:Nat} {cs:List Value} {x:vm}
end
def jy (l:List Int) (i:Int) (op:Int):List Int:=
 let l1:=if dY op then l++[i]else l
 if op=11∧0<l1.length then l1.dropLast else l1
def av (xs:List bZ):Nat→List Int
 |0=>[-1]
 |k+1=>jy (av xs k) k (ix xs k).op
theorem wG (l:List Int) (i op:Int):(jy l i op).length≤l.length+1:=by
 unfold jy
 dsimp only
 split<;>split<;>simp<;>omega
theorem ue (xs:List bZ) (k:Nat):(av xs k).length≤k+1:=by
 induction k with
 |zero=>simp[av]
 |succ k ih=>have:=wG (av xs k) k (ix xs k).op;simp only[av];omega
end Go.Proofs.YtceedealggognaaGreatDoor
