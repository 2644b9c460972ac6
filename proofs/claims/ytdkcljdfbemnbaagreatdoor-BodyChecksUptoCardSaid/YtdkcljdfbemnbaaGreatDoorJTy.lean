/- From the statement's readings of the arguments to the own relations: what a typed reading of cells gives, type by type. -/
import Derived.Test.YtdkcljdfbemnbaaGreatDoorJF2
import Derived.Deep.Slices
import Derived.SizedLaws
import Derived.Test.YtdkcljdfbemnbaaGreatDoorJA
import Derived.Scope
namespace Go.Proofs.YtdkcljdfbemnbaaGreatDoor
open Go.RowKit Go.Deep _root_.Go.Proofs.Tryz
open List renaming getElem?_eq_getElem→Pq,getElem?_map→PK,mem_append→PE
def Tr (w:World) (t:TypeId) (cs:List Value):Prop:=
 ∃(H:Type) (enc:TypeId×Value→H) (spare:Nat→Bool) (held:Bool) (fuel:Nat) (x:DataW H×List MemPlace),DataW.trod enc G.P w 0 spare held fuel t cs=some x∧∀n∈x.1.weights G.P t,n≤reachBytes
section
variable {w:World} {t e:TypeId} {cs:List Value}
theorem mP:reachBytes=140737488351232:=by decide
theorem zo {a:Addr} {v:Value} (h:w.cell? (a.add 0)=some v):a.spot=none:=by
 obtain⟨b,o,s⟩:=a
 cases s with
 |none=>rfl
 |some k=>
  exfalso
  simp only[World.cell?,Addr.add,if_true]at h
  split at h<;>simp at h
theorem xL {a:Addr} (hs:a.spot=none) (i:Nat):a.add i=⟨a.block,a.off+i,none⟩:=by
 obtain⟨b,o,s⟩:=a
 cases hs
 unfold Addr.add;split
 ·rename_i h;subst h;rfl
 ·rfl
theorem sq {H:Type} {P:Program} {e:TypeId}:∀{l:List (DataW H)} {d:DataW H},d∈l→∀n∈d.weights P e,n∈DataW.weightsAll P e l
 |x::r,d,hd,n,hn=>by
  simp only[DataW.weightsAll,PE]
  rcases List.mem_cons.1 hd with rfl|hd
  ·exact .inl hn
  ·exact .inr (sq hd n hn)
theorem qY {H:Type} {P:Program}:∀{ts:List TypeId} {l:List (DataW H)} {i:Nat} {t:TypeId} {d:DataW H},ts[i]?=some t→l[i]?=some d→∀n∈d.weights P t,n∈DataW.weightsEach P ts l
 |t::ts,x::r,0,_,_,h1,h2,n,hn=>by
  simp at h1 h2;subst h1;subst h2
  simp only[DataW.weightsEach,PE];exact .inl hn
 |t::ts,x::r,i+1,_,_,h1,h2,n,hn=>by
  simp only[DataW.weightsEach,PE]
  exact .inr (qY (ts:=ts) (l:=r) (i:=i) (by simpa using h1) (by simpa using h2) n hn)
 |[],_,_,_,_,h1,_,_,_=>by simp at h1
 |_::_,[],_,_,_,_,h2,_,_=>by simp at h2
theorem Cg {a:Int} (h:(Lit.int .i64 a).wf=true):eO a:=by
 have e1:IntKind.i64.min=-9223372036854775808:=by decide
 have e2:IntKind.i64.max=9223372036854775807:=by decide
 simp only[Lit.wf,e1,e2,Bool.and_eq_true,decide_eq_true_eq]at h
 exact h
theorem Tr.int {k:IntKind} (ht:G.P.underlying t=some (.int k)) (h:Tr w t cs):∃n,cs=[.int k n]∧(Lit.int k n).wf=true:=by
 obtain⟨H,enc,spare,held,fuel,x,h,hw⟩:=h
 obtain⟨n,h1,-,h2⟩:=DataW.trod_int ht h
 exact⟨n,h1,h2⟩
theorem Tr.bool (ht:G.P.underlying t=some .bool) (h:Tr w t cs):∃b,cs=[.bool b]:=by
 obtain⟨H,enc,spare,held,fuel,x,h,hw⟩:=h
 obtain⟨n,h1,-⟩:=DataW.trod_bool ht h
 exact⟨n,h1⟩
theorem Tr.string (ht:G.P.underlying t=some .string) (h:Tr w t cs):∃s:ByteArray,cs=[.string s]∧s.size≤reachBytes:=by
 obtain⟨H,enc,spare,held,fuel,x,h,hw⟩:=h
 obtain⟨s,h1,h2,h3⟩:=DataW.trod_string ht h
 subst h2
 refine⟨s,h1,?_⟩
 have:=hw s.data.toList.length (by simp[DataW.weights])
 simpa using this
theorem Tr.struct {fs:Array Field} (ht:G.P.underlying t=some (.struct fs)) (h:Tr w t cs):cs.length=G.P.cellsOf t∧∀(i:Nat) (f:Field),fs[i]?=some f→Tr w f.type ((cs.drop f.offset).take (G.P.cellsOf f.type)):=by
 obtain⟨H,enc,spare,held,fuel,x,h,hw⟩:=h
 obtain⟨xs,n,rfl,rfl,hl,hx,hf⟩:=DataW.trod_struct ht h
 refine⟨hl,fun i f hi=>?_⟩
 have h1:=hf i f hi
 have hlt:i<xs.length:=by rw[hx];exact(Array.getElem?_eq_some_iff.1 hi).1
 rw[Pq hlt]at h1
 refine⟨H,enc,spare,held,n,xs[i],h1,fun m hm=>hw m ?_⟩
 simp only[DataW.weights,ht]
 refine qY (i:=i) (t:=f.type) (d:=xs[i].1) ?_ ?_ m hm
 ·rw[PK,Array.getElem?_toList,hi];rfl
 ·rw[PK,Pq hlt];rfl
theorem Tr.slice {s bt:Nat} (ht:G.P.underlying t=some (.slice e)) (hc:G.P.cellsOf e=s) (hby:G.P.bytesOf e=bt) (h0:0<s) (h:Tr w t cs):
  ∃p len cap,cs=[.slice p len cap]∧len*bt≤140737488351232∧(len=0∨∃b off,p=some ⟨b,off,none⟩∧∀i,i<len→∃cs',cs'.length=s∧(∀j,j<s→w.cell? ⟨b,off+i*s+j,none⟩=cs'[j]?)∧Tr w e cs'):=by
 obtain⟨H,enc,spare,held,fuel,x,h,hw⟩:=h
 rcases open_slice ht h with⟨rfl,rfl⟩|⟨a,len,cap,m,n,D,Pl,rfl,hb,hl,hm,hmm,rfl,hx⟩
 ·exact⟨_,_,_,rfl,by omega,.inl rfl⟩
 ·rw[hc]at hx
  have hlm:len≤m:=by rw[hmm];split<;>omega
  refine⟨_,len,cap,rfl,?_,?_⟩
  ·have:=hw ((len+(m - len))*G.P.bytesOf e) (by simp[DataW.weights,ht])
   rw[hby,mP]at this
   exact Nat.le_trans (Nat.mul_le_mul_right _ Pc) this
  ·by_cases hz:len=0
   ·exact .inl hz
   ·right
    obtain⟨cs0,hc0,-⟩:=hx 0 Pc
    obtain⟨-,hl0,hg0⟩:=World.cells?_some hc0
    have hsp:a.spot=none:=by
     have h1:=hg0 0 h0
     rw[Nat.zero_mul,Pq Pc]at h1
     have e0:(a.add 0).add 0=a.add 0:=by unfold Addr.add;simp
     rw[e0]at h1
     exact zo h1
    refine⟨a.block,a.off,by obtain⟨_,_,s⟩:=a;cases hsp;rfl,fun i hi=>?_⟩
    obtain⟨cs',hc',htr⟩:=hx i Pc
    obtain⟨-,hl',hg'⟩:=World.cells?_some hc'
    refine⟨cs',hl',fun j hj=>?_,H,enc,spare,held,n,_,htr,fun q hq=>hw q ?_⟩
    ·rw[←hg' j hj,xL hsp,xL rfl]
    ·simp only[DataW.weights,ht]
     refine List.mem_cons_of_mem _ (List.mem_append_left _ (sq (d:=D i) (List.mem_map.2 ⟨i,List.mem_range.2 hi,rfl⟩) q hq))
theorem rQ {α:Type} [Inhabited α] {p:Nat→α→Prop}:∀{n:Nat},(∀i,i<n→∃a,p i a)→∃xs:List α,xs.length=n∧∀i,i<n→p i (ix xs i)
 |0,_=>⟨[],rfl,fun i hi=>by omega⟩
 |n+1,h=>by
  obtain⟨xs,hl,hx⟩:=rQ (n:=n) (fun i hi=>h i Pc)
  obtain⟨a,ha⟩:=h n Pc
  refine⟨xs++[a],by simp[hl],fun i hi=>?_⟩
  by_cases e:i=n
  ·subst e
   have:ix (xs++[a]) i=a:=by simp[ix,←hl]
   rw[this];exact ha
  ·have:ix (xs++[a]) i=ix xs i:=by simp only[ix,List.getD_eq_getElem?_getD];rw[List.getElem?_append_left Pc]
   rw[this];exact hx i Pc
theorem Tr.vn {α:Type} [Inhabited α] {s bt:Nat} (R:Nat→Nat→α→Prop) (ht:G.P.underlying t=some (.slice e)) (hc:G.P.cellsOf e=s) (hby:G.P.bytesOf e=bt) (h0:0<s)
  (hR:∀b o cs,cs.length=s→(∀j,j<s→w.cell? ⟨b,o+j,none⟩=cs[j]?)→Tr w e cs→∃y,R b o y) (h:Tr w t cs):
  ∃p cap,∃ys:List α,cs=[.slice p ys.length cap]∧ys.length*bt≤140737488351232∧(ys=[]∨∃b off,p=some ⟨b,off,none⟩∧True∧∀i,i<ys.length→R b (off+i*s) (ix ys i)):=by
 obtain⟨p,len,cap,rfl,hl,hx⟩:=h.slice ht hc hby h0
 rcases hx with rfl|⟨b,off,rfl,hx⟩
 ·exact⟨p,cap,[],rfl,by simp,.inl rfl⟩
 ·obtain⟨ys,hy,hyR⟩:=rQ (p:=fun i y=>R b (off+i*s) y) (fun i hi=>by
   obtain⟨cs',h1,h2,h3⟩:=hx i hi
   exact hR b _ cs' h1 h2 h3)
  subst hy
  exact⟨_,cap,ys,rfl,hl,.inr ⟨b,off,rfl,trivial,hyR⟩⟩
theorem Tr.ints (ht:G.P.underlying t=some (.slice e)) (he:G.P.underlying e=some (.int .i64)) (hc:G.P.cellsOf e=1) (hby:G.P.bytesOf e=8) (h:Tr w t cs):∃v xs,cs=[v]∧ai (fun _=>True) w v xs:=by
 obtain⟨p,cap,ys,rfl,hl,h⟩:=h.vn (α:=Int) (fun b o y=>w.cell? ⟨b,o,none⟩=some (.int .i64 y)) ht hc hby Pc (fun b o cs hcl hcc hcs=>by
  obtain⟨n,rfl,-⟩:=hcs.int he
  exact⟨n,by simpa using hcc 0 Pc⟩)
 refine⟨_,ys,rfl,p,cap,rfl,by omega,?_⟩
 rcases h with h|⟨b,off,h1,h2,h3⟩
 ·exact .inl h
 ·exact .inr ⟨b,off,h1,h2,fun i hi=>by have:=h3 i hi;rwa[Nat.mul_one]at this⟩
theorem Tr.iw {fs:Array Field} (hf:∀(i:Nat) (f:Field),fs[i]?=some f→Tr w f.type ((cs.drop f.offset).take (G.P.cellsOf f.type))) (i o n:Nat) {t:TypeId} (hi:(fs[i]?).map (fun f=>(f.type,f.offset))=some (t,o)) (hn:G.P.cellsOf t=n):Tr w t ((cs.drop o).take n):=by
 cases h:fs[i]? with
 |none=>simp[h]at hi
 |some f=>
  simp only[h,Option.map_some,Option.some.injEq,Prod.mk.injEq]at hi
  obtain⟨rfl,rfl⟩:=hi
  subst hn
  exact hf i f h
theorem I5 {cs:List Value} (h:cs.length=9):∃a b c d e f g i j,cs=[a,b,c,d,e,f,g,i,j]:=by
 match cs,h with|[a,b,c,d,e,f,g,i,j],_=>exact⟨a,b,c,d,e,f,g,i,j,rfl⟩
theorem Tr.ins {b o:Nat} (hcl:cs.length=9) (hcc:∀j,j<9→w.cell? ⟨b,o+j,none⟩=cs[j]?) (h:Tr w 69 cs):∃y,nK (fun _=>True) w b o y:=by
 obtain⟨c0,c1,c2,c3,c4,c5,c6,c7,c8,rfl⟩:=I5 hcl
 obtain⟨-,hf⟩:=h.struct underlying69
 obtain⟨n0,e0,w0⟩:=(show Tr w _ [c0]from Tr.iw hf 0 0 1 rfl O5).int underlying63
 obtain⟨n1,e1,w1⟩:=(show Tr w _ [c1]from Tr.iw hf 1 1 1 rfl O5).int underlying3
 obtain⟨n2,e2,w2⟩:=(show Tr w _ [c2]from Tr.iw hf 2 2 1 rfl O5).int underlying3
 obtain⟨n3,e3,w3⟩:=(show Tr w _ [c3]from Tr.iw hf 3 3 1 rfl O5).int underlying64
 obtain⟨-,hg⟩:=(show Tr w _ [c4,c5,c6]from Tr.iw hf 4 4 3 rfl O5).struct underlying66
 obtain⟨n4,e4,w4⟩:=(show Tr w _ [c4]from Tr.iw hg 0 0 1 rfl O5).int underlying3
 obtain⟨n5,e5,w5⟩:=(show Tr w _ [c5]from Tr.iw hg 1 1 1 rfl O5).int underlying59
 obtain⟨n6,e6,w6⟩:=(show Tr w _ [c6]from Tr.iw hg 2 2 1 rfl O5).int underlying3
 obtain⟨v7,x7,e7,r7⟩:=(show Tr w _ [c7]from Tr.iw hf 5 7 1 rfl O5).ints underlying49 underlying59 O5 O5
 obtain⟨v8,x8,e8,r8⟩:=(show Tr w _ [c8]from Tr.iw hf 6 8 1 rfl O5).ints underlying67 underlying3 O5 O5
 cases e0;cases e1;cases e2;cases e3;cases e4;cases e5;cases e6;cases e7;cases e8
 exact⟨⟨n0,n1,n2,n3,n4,n5,n6,x7,x8⟩,hcc 0 Pc,hcc 1 Pc,hcc 2 Pc,hcc 3 Pc,hcc 4 Pc,hcc 5 Pc,hcc 6 Pc,⟨_,hcc 7 Pc,r7⟩,⟨_,hcc 8 Pc,r8⟩,Cg w0,Cg w1⟩
theorem Tr.body (h:Tr w 56 cs):∃v xs,cs=[v]∧Body w v xs:=by
 obtain⟨p,cap,ys,rfl,hl,h⟩:=h.vn (nK (fun _=>True) w) underlying56 (s:=9) (bt:=104) O5 O5 Pc (fun b o cs h1 h2 h3=>h3.ins h1 h2)
 exact⟨_,ys,rfl,p,cap,rfl,by omega,h⟩
end
open Go.RowKit
section
variable {G:zh} {Q:Exit→Act→World→Prop} {n:Nat} {E:Env} {w:World}
theorem Cd.scope {c:Code} (h:Cd G (Exit.noGoto Q) n c E w):Cd G Q n (.scope c) E w:=⟨fun a ha=>wp_scope_straight (h.h a ha)⟩
theorem Fin.J4 (h:Fin Q n .ret E w):Fin (Exit.noGoto Q) n .ret E w:=⟨fun a ha=>h.h a ha⟩
end
abbrev sV (α:Type):=(Nat→Prop)→World→Nat→Nat→α→Prop
def gN {α:Type} [Inhabited α] (s N:Nat) (R:sV α) (F:Nat→Prop) (w:World) (v:Value) (xs:List α):Prop:=
 ∃p cap,v=.slice p xs.length cap∧xs.length≤N∧(xs=[]∨∃b off,p=some ⟨b,off,none⟩∧F b∧∀i,i<xs.length→R F w b (off+i*s) (ix xs i))
def Fr {α:Type} (R:sV α):Prop:=∀{F S:Nat→Prop} {w w':World} {b o:Nat} {x:α},R F w b o x→bX S w w'→F b→(∀k,k<w.heap.size→F k→¬S k)→R F w' b o x
def Mo {α:Type} (R:sV α):Prop:=∀{F H:Nat→Prop} {w:World} {b o:Nat} {x:α},R F w b o x→(∀k,k<w.heap.size→F k→H k)→R H w b o x
def Ce {α:Type} (R:sV α):Prop:=∀{F:Nat→Prop} {w:World} {b o:Nat} {x:α},R F w b o x→b<w.heap.size
section
variable {α:Type} [Inhabited α] {s N:Nat} {R:sV α} {F S H:Nat→Prop} {w w':World} {v:Value} {xs:List α}
theorem gN.aP (hR:Fr R) (_hC:Ce R) (h:gN s N R F w v xs) (hc:bX S w w') (hd:∀k,k<w.heap.size→F k→¬S k):gN s N R F w' v xs:=by
 obtain⟨p,cap,rfl,hl,h⟩:=h
 refine⟨p,cap,rfl,hl,?_⟩
 rcases h with h|⟨b,off,hp,hF,h⟩
 ·exact .inl h
 ·exact .inr ⟨b,off,hp,hF,fun i hi=>hR (h i hi) hc hF hd⟩
theorem gN.mono (hR:Mo R) (hC:Ce R) (h:gN s N R F w v xs) (hFH:∀k,k<w.heap.size→F k→H k):gN s N R H w v xs:=by
 obtain⟨p,cap,rfl,hl,h⟩:=h
 refine⟨p,cap,rfl,hl,?_⟩
 rcases h with h|⟨b,off,hp,hF,h⟩
 ·exact .inl h
 ·by_cases hx:xs=[]
  ·exact .inl hx
  ·exact .inr ⟨b,off,hp,hFH b (hC (h 0 (List.length_pos_iff.2 hx))) hF,fun i hi=>hR (h i hi) hFH⟩
theorem gN.slice (h:gN s N R F w v xs):∃p cap,v=.slice p xs.length cap∧xs.length≤N:=by
 obtain⟨p,cap,rfl,hl,_⟩:=h
 exact⟨p,cap,rfl,hl⟩
theorem gN.at {p:Option Addr} {n cap:Nat} (h:gN s N R F w (.slice p n cap) xs) {i:Nat} (hi:i<xs.length):
  ∃b off,p=some ⟨b,off,none⟩∧F b∧∀i,i<xs.length→R F w b (off+i*s) (ix xs i):=by
 obtain⟨p',cap',e,hl,h⟩:=h
 cases e
 rcases h with h|⟨b,off,hp,hF,h⟩
 ·subst h;cases hi
 ·exact⟨b,off,hp,hF,h⟩
theorem gN.nil:gN s N R F w (.slice none 0 0) ([]:List α):=⟨none,0,rfl,Nat.zero_le _,.inl rfl⟩
end
def jS (k:IntKind):sV Int:=fun _ w b o n=>w.cell? ⟨b,o,none⟩=some (.int k n)
variable (k:IntKind) {α:Type} {cs:List Value}
theorem jS.fr:Fr (jS k):=fun h hc hF hd=>hc.cell (hd _ (fw h) hF) h
theorem jS.mo:Mo (jS k):=fun h _=>h
theorem jS.ce:Ce (jS k):=fun h=>fw h
def kM:sV Bool:=fun _ w b o n=>w.cell? ⟨b,o,none⟩=some (.bool n)
theorem kM.fr:Fr kM:=fun h hc hF hd=>hc.cell (hd _ (fw h) hF) h
theorem kM.mo:Mo kM:=fun h _=>h
theorem kM.ce:Ce kM:=fun h=>fw h
def mu {α:Type} (V:(Nat→Prop)→World→Value→List α→Prop):sV (List α):=fun F w b o xs=>∃v,w.cell? ⟨b,o,none⟩=some v∧V F w v xs
theorem mu.fr {V:(Nat→Prop)→World→Value→List α→Prop} (hV:∀{F S:Nat→Prop} {w w':World} {v:Value} {xs:List α},V F w v xs→bX S w w'→(∀k,k<w.heap.size→F k→¬S k)→V F w' v xs):Fr (mu V):=
 fun⟨v,h,hv⟩ hc hF hd=>⟨v,hc.cell (hd _ (fw h) hF) h,hV hv hc hd⟩
theorem mu.mo {V:(Nat→Prop)→World→Value→List α→Prop} (hV:∀{F H:Nat→Prop} {w:World} {v:Value} {xs:List α},V F w v xs→(∀k,k<w.heap.size→F k→H k)→V H w v xs):Mo (mu V):=
 fun⟨v,h,hv⟩ hd=>⟨v,h,hV hv hd⟩
theorem mu.ce {V:(Nat→Prop)→World→Value→List α→Prop}:Ce (mu V):=fun⟨_,h,_⟩=>fw h
theorem nK.mo:Mo nK:=fun h hd=>⟨h.op,h.a,h.b,h.n,h.kind,h.val,h.index,by obtain⟨v,h1,h2⟩:=h.types;exact⟨v,h1,h2.mono hd⟩,by obtain⟨v,h1,h2⟩:=h.labels;exact⟨v,h1,h2.mono hd⟩,h.Kv,h.ra⟩
theorem nK.ce:Ce nK:=fun h=>fw h.op
theorem fE.mono {F H:Nat→Prop} {w:World} {v:Value} {xs:List cv} (h:fE F w v xs) (hd:∀k,k<w.heap.size→F k→H k):fE H w v xs:=gN.mono (R:=nK) nK.mo nK.ce h hd
theorem Tr.sl [Inhabited α] {w:World} {t e:TypeId} {cs:List Value} {s bt N:Nat} (R:sV α) (ht:G.P.underlying t=some (.slice e)) (hc:G.P.cellsOf e=s) (hby:G.P.bytesOf e=bt) (h0:0<s) (hN:∀n,n*bt≤140737488351232→n≤N)
  (hR:∀b o cs,cs.length=s→(∀j,j<s→w.cell? ⟨b,o+j,none⟩=cs[j]?)→Tr w e cs→∃y,R (fun _=>True) w b o y) (h:Tr w t cs):
  ∃v xs,cs=[v]∧gN s N R (fun _=>True) w v xs:=by
 obtain⟨p,cap,ys,rfl,hl,h⟩:=h.vn (R (fun _=>True) w) ht hc hby h0 hR
 exact⟨_,ys,rfl,p,cap,rfl,hN _ hl,h⟩
def AtR {α:Type} (n:Nat) (V:(Nat→Prop)→World→List Value→α→Prop):sV α:=fun F w b o x=>∃cs,V F w cs x∧∀j,j<n→w.cell? ⟨b,o+j,none⟩=cs[j]?
section
variable {α:Type} {n t:Nat} {V:(Nat→Prop)→World→List Value→α→Prop}
theorem AtR.ce (hl:∀{F w cs x},V F w cs x→cs.length=n) (hn:0<n):Ce (AtR n V):=fun{F w b o x} ⟨cs,h,hc⟩=>by
 have h0:=hc 0 hn
 have hl:=hl h
 rw[Pq Pc]at h0
 exact fw h0
theorem AtR.fr (hl:∀{F w cs x},V F w cs x→cs.length=n) (hv:∀{F S:Nat→Prop} {w w' cs x},V F w cs x→bX S w w'→(∀k,k<w.heap.size→F k→¬S k)→V F w' cs x):Fr (AtR n V):=fun{F S w w' b o x} ⟨cs,h,hcc⟩ hc hF hd=>⟨cs,hv h hc hd,fun j hj=>by
 have h0:=hcc j hj
 have hl:=hl h
 rw[Pq Pc]at h0 ⊢
 exact hc.cell (hd _ (fw h0) hF) h0⟩
theorem AtR.mo (hv:∀{F H:Nat→Prop} {w cs x},V F w cs x→(∀k,k<w.heap.size→F k→H k)→V H w cs x):Mo (AtR n V):=fun⟨cs,h,hcc⟩ hd=>⟨cs,hv h hd,hcc⟩
theorem AtR.of {w:World} (hv:∀{cs},Tr w t cs→cs.length=n→∃x,V (fun _=>True) w cs x) (b o:Nat) (cs:List Value) (hcl:cs.length=n) (hcc:∀j,j<n→w.cell? ⟨b,o+j,none⟩=cs[j]?) (h:Tr w t cs):∃x,AtR n V (fun _=>True) w b o x:=by
 obtain⟨x,hx⟩:=hv h hcl
 exact⟨x,cs,hx,hcc⟩
end
theorem iV {n:Int} (h:(Lit.int .i64 n).wf=true):eO n:=Cg h
theorem Hw (h:cs.length=2):∃c0 c1,cs=[c0,c1]:=by
 match cs,h with|[c0,c1],_=>exact⟨c0,c1,rfl⟩
theorem zO (h:cs.length=3):∃c0 c1 c2,cs=[c0,c1,c2]:=by
 match cs,h with|[c0,c1,c2],_=>exact⟨c0,c1,c2,rfl⟩
theorem Hx (h:cs.length=4):∃c0 c1 c2 c3,cs=[c0,c1,c2,c3]:=by
 match cs,h with|[c0,c1,c2,c3],_=>exact⟨c0,c1,c2,c3,rfl⟩
theorem I4 (h:cs.length=5):∃c0 c1 c2 c3 c4,cs=[c0,c1,c2,c3,c4]:=by
 match cs,h with|[c0,c1,c2,c3,c4],_=>exact⟨c0,c1,c2,c3,c4,rfl⟩
theorem H7 (h:cs.length=12):∃c0 c1 c2 c3 c4 c5 c6 c7 c8 c9 c10 c11,cs=[c0,c1,c2,c3,c4,c5,c6,c7,c8,c9,c10,c11]:=by
 match cs,h with|[c0,c1,c2,c3,c4,c5,c6,c7,c8,c9,c10,c11],_=>exact⟨c0,c1,c2,c3,c4,c5,c6,c7,c8,c9,c10,c11,rfl⟩
theorem H8 (h:cs.length=13):∃c0 c1 c2 c3 c4 c5 c6 c7 c8 c9 c10 c11 c12,cs=[c0,c1,c2,c3,c4,c5,c6,c7,c8,c9,c10,c11,c12]:=by
 match cs,h with|[c0,c1,c2,c3,c4,c5,c6,c7,c8,c9,c10,c11,c12],_=>exact⟨c0,c1,c2,c3,c4,c5,c6,c7,c8,c9,c10,c11,c12,rfl⟩
structure aO where
 params:List Int
 results:List Int
 deriving Inhabited
def dL (F:Nat→Prop) (w:World) (cs:List Value) (x:aO):Prop:=
 ∃v0 v1:Value,cs=[v0,v1]∧ai F w v0 x.params∧ai F w v1 x.results
def hH:sV aO:=fun F w b o x=>∃cs,dL F w cs x∧∀j,j<2→w.cell? ⟨b,o+j,none⟩=cs[j]?
section
variable {F S H:Nat→Prop} {w w':World} {b o:Nat} {cs:List Value} {x:aO}
theorem dL.len (h:dL F w cs x):cs.length=2:=by
 obtain⟨v0,v1,rfl,r0,r1⟩:=h
 rfl
theorem dL.aP (h:dL F w cs x) (hc:bX S w w') (hd:∀k,k<w.heap.size→F k→¬S k):dL F w' cs x:=by
 obtain⟨v0,v1,rfl,r0,r1⟩:=h
 exact⟨v0,v1,rfl,r0.aP hc hd,r1.aP hc hd⟩
theorem dL.mono (h:dL F w cs x) (hd:∀k,k<w.heap.size→F k→H k):dL H w cs x:=by
 obtain⟨v0,v1,rfl,r0,r1⟩:=h
 exact⟨v0,v1,rfl,r0.mono hd,r1.mono hd⟩
theorem hH.ce:Ce hH:=AtR.ce (V:=dL) dL.len Pc
theorem hH.fr:Fr hH:=AtR.fr (V:=dL) dL.len dL.aP
theorem hH.mo:Mo hH:=AtR.mo (V:=dL) dL.mono
set_option maxRecDepth 100000 in
theorem dL.of (h:Tr w 61 cs) (hcl:cs.length=2):∃x,dL (fun _=>True) w cs x:=by
 obtain⟨c0,c1,rfl⟩:=Hw hcl
 obtain⟨-,hf⟩:=h.struct underlying61
 obtain⟨u0,y0,e0,z0⟩:=(show Tr w _ [c0]from Tr.iw hf 0 0 1 rfl O5).ints underlying49 underlying59 O5 O5
 cases e0
 obtain⟨u1,y1,e1,z1⟩:=(show Tr w _ [c1]from Tr.iw hf 1 1 1 rfl O5).ints underlying49 underlying59 O5 O5
 cases e1
 exact⟨⟨y0,y1⟩,⟨_,_,rfl,z0,z1⟩⟩
end
structure ft where
 min:Int
 max:Int
 has:Bool
 deriving Inhabited
def cO (_F:Nat→Prop) (_w:World) (cs:List Value) (x:ft):Prop:=
 cs=[.int .i64 x.min,.int .i64 x.max,.bool x.has]∧eO x.min∧eO x.max
def dR:sV ft:=fun F w b o x=>∃cs,cO F w cs x∧∀j,j<3→w.cell? ⟨b,o+j,none⟩=cs[j]?
section
variable {F S H:Nat→Prop} {w w':World} {b o:Nat} {cs:List Value} {x:ft}
theorem cO.len (h:cO F w cs x):cs.length=3:=by
 obtain⟨rfl,g0,g1⟩:=h
 rfl
theorem cO.aP (h:cO F w cs x) (_hc:bX S w w') (_hd:∀k,k<w.heap.size→F k→¬S k):cO F w' cs x:=by
 obtain⟨rfl,g0,g1⟩:=h
 exact⟨rfl,g0,g1⟩
theorem cO.mono (h:cO F w cs x) (_hd:∀k,k<w.heap.size→F k→H k):cO H w cs x:=by
 obtain⟨rfl,g0,g1⟩:=h
 exact⟨rfl,g0,g1⟩
theorem dR.ce:Ce dR:=AtR.ce (V:=cO) cO.len Pc
theorem dR.fr:Fr dR:=AtR.fr (V:=cO) cO.len cO.aP
theorem dR.mo:Mo dR:=AtR.mo (V:=cO) cO.mono
theorem dR.has (h:dR F w b o x):w.cell? ⟨b,o+2,none⟩=some (.bool x.has):=by
 obtain⟨_,⟨rfl,_⟩,hc⟩:=h
 exact hc 2 Pc
set_option maxRecDepth 100000 in
theorem cO.of (h:Tr w 85 cs) (hcl:cs.length=3):∃x,cO (fun _=>True) w cs x:=by
 obtain⟨c0,c1,c2,rfl⟩:=zO hcl
 obtain⟨-,hf⟩:=h.struct underlying85
 obtain⟨y0,e0,z0⟩:=(show Tr w _ [c0]from Tr.iw hf 0 0 1 rfl O5).int underlying3
 cases e0
 obtain⟨y1,e1,z1⟩:=(show Tr w _ [c1]from Tr.iw hf 1 1 1 rfl O5).int underlying3
 cases e1
 obtain⟨y2,e2⟩:=(show Tr w _ [c2]from Tr.iw hf 2 2 1 rfl O5).bool underlying4
 cases e2
 exact⟨⟨y0,y1,y2⟩,⟨rfl,iV z0,iV z1⟩⟩
end
structure fH where
 elem:Int
 mZ:ft
 deriving Inhabited
def du (_F:Nat→Prop) (_w:World) (cs:List Value) (x:fH):Prop:=
 cs=[.int .i64 x.elem,.int .i64 x.mZ.min,.int .i64 x.mZ.max,.bool x.mZ.has]∧eO x.elem∧eO x.mZ.min∧eO x.mZ.max
def fF:sV fH:=fun F w b o x=>∃cs,du F w cs x∧∀j,j<4→w.cell? ⟨b,o+j,none⟩=cs[j]?
section
variable {F S H:Nat→Prop} {w w':World} {b o:Nat} {cs:List Value} {x:fH}
theorem du.len (h:du F w cs x):cs.length=4:=by
 obtain⟨rfl,g0,g1,g2⟩:=h
 rfl
theorem du.aP (h:du F w cs x) (_hc:bX S w w') (_hd:∀k,k<w.heap.size→F k→¬S k):du F w' cs x:=by
 obtain⟨rfl,g0,g1,g2⟩:=h
 exact⟨rfl,g0,g1,g2⟩
theorem du.mono (h:du F w cs x) (_hd:∀k,k<w.heap.size→F k→H k):du H w cs x:=by
 obtain⟨rfl,g0,g1,g2⟩:=h
 exact⟨rfl,g0,g1,g2⟩
theorem fF.ce:Ce fF:=AtR.ce (V:=du) du.len Pc
theorem fF.fr:Fr fF:=AtR.fr (V:=du) du.len du.aP
theorem fF.mo:Mo fF:=AtR.mo (V:=du) du.mono
set_option maxRecDepth 100000 in
theorem du.of (h:Tr w 87 cs) (hcl:cs.length=4):∃x,du (fun _=>True) w cs x:=by
 obtain⟨c0,c1,c2,c3,rfl⟩:=Hx hcl
 obtain⟨-,hf⟩:=h.struct underlying87
 obtain⟨y0,e0,z0⟩:=(show Tr w _ [c0]from Tr.iw hf 0 0 1 rfl O5).int underlying59
 cases e0
 obtain⟨y1,q1⟩:=cO.of (show Tr w _ [c1,c2,c3]from Tr.iw hf 1 1 3 rfl O5) rfl
 obtain⟨e1,k1_0,k1_1⟩:=q1
 cases e1
 exact⟨⟨y0,y1⟩,⟨rfl,iV z0,k1_0,k1_1⟩⟩
end
structure iK where
 nQ:Int
 sB:Bool
 deriving Inhabited
def m6 (_F:Nat→Prop) (_w:World) (cs:List Value) (x:iK):Prop:=
 cs=[.int .i64 x.nQ,.bool x.sB]∧eO x.nQ
section
variable {F S H:Nat→Prop} {w w':World} {b o:Nat} {cs:List Value} {x:iK}
set_option maxRecDepth 100000 in
theorem m6.of (h:Tr w 89 cs) (hcl:cs.length=2):∃x,m6 (fun _=>True) w cs x:=by
 obtain⟨c0,c1,rfl⟩:=Hw hcl
 obtain⟨-,hf⟩:=h.struct underlying89
 obtain⟨y0,e0,z0⟩:=(show Tr w _ [c0]from Tr.iw hf 0 0 1 rfl O5).int underlying59
 cases e0
 obtain⟨y1,e1⟩:=(show Tr w _ [c1]from Tr.iw hf 1 1 1 rfl O5).bool underlying4
 cases e1
 exact⟨⟨y0,y1⟩,⟨rfl,iV z0⟩⟩
end
structure bY where
 module:ByteArray
 name:ByteArray
 kind:Int
 func:Int
 table:fH
 mem:ft
 ff:iK
 deriving Inhabited
def cM (_F:Nat→Prop) (_w:World) (cs:List Value) (x:bY):Prop:=
 cs=[.string x.module,.string x.name,.int .i64 x.kind,.int .i64 x.func,.int .i64 x.table.elem,.int .i64 x.table.mZ.min,.int .i64 x.table.mZ.max,.bool x.table.mZ.has,.int .i64 x.mem.min,.int .i64 x.mem.max,.bool x.mem.has,.int .i64 x.ff.nQ,.bool x.ff.sB]∧x.module.size≤140737488351232∧x.name.size≤140737488351232∧eO x.kind∧eO x.func∧eO x.table.elem∧eO x.table.mZ.min∧eO x.table.mZ.max∧eO x.mem.min∧eO x.mem.max∧eO x.ff.nQ
def dA:sV bY:=fun F w b o x=>∃cs,cM F w cs x∧∀j,j<13→w.cell? ⟨b,o+j,none⟩=cs[j]?
section
variable {F S H:Nat→Prop} {w w':World} {b o:Nat} {cs:List Value} {x:bY}
theorem cM.len (h:cM F w cs x):cs.length=13:=by
 obtain⟨rfl,g0,g1,g2,g3,g4,g5,g6,g7,g8,g9⟩:=h
 rfl
theorem cM.aP (h:cM F w cs x) (_hc:bX S w w') (_hd:∀k,k<w.heap.size→F k→¬S k):cM F w' cs x:=by
 obtain⟨rfl,g0,g1,g2,g3,g4,g5,g6,g7,g8,g9⟩:=h
 exact⟨rfl,g0,g1,g2,g3,g4,g5,g6,g7,g8,g9⟩
theorem cM.mono (h:cM F w cs x) (_hd:∀k,k<w.heap.size→F k→H k):cM H w cs x:=by
 obtain⟨rfl,g0,g1,g2,g3,g4,g5,g6,g7,g8,g9⟩:=h
 exact⟨rfl,g0,g1,g2,g3,g4,g5,g6,g7,g8,g9⟩
theorem dA.ce:Ce dA:=AtR.ce (V:=cM) cM.len Pc
theorem dA.fr:Fr dA:=AtR.fr (V:=cM) cM.len cM.aP
theorem dA.mo:Mo dA:=AtR.mo (V:=cM) cM.mono
theorem dA.kind (h:dA F w b o x):w.cell? ⟨b,o+2,none⟩=some (.int .i64 x.kind):=by
 obtain⟨_,⟨rfl,_⟩,hc⟩:=h
 exact hc 2 Pc
theorem cM.Bg (h:cM F w cs x):eO x.kind:=by
 obtain⟨rfl,g0,g1,g2,g3,g4,g5,g6,g7,g8,g9⟩:=h
 exact g2
theorem dA.Bg (h:dA F w b o x):eO x.kind:=by
 obtain⟨cs,hv,hc⟩:=h
 exact hv.Bg
set_option maxRecDepth 100000 in
theorem cM.of (h:Tr w 91 cs) (hcl:cs.length=13):∃x,cM (fun _=>True) w cs x:=by
 obtain⟨c0,c1,c2,c3,c4,c5,c6,c7,c8,c9,c10,c11,c12,rfl⟩:=H8 hcl
 obtain⟨-,hf⟩:=h.struct underlying91
 obtain⟨y0,e0,z0⟩:=(show Tr w _ [c0]from Tr.iw hf 0 0 1 rfl O5).string underlying9
 rw[mP]at z0
 cases e0
 obtain⟨y1,e1,z1⟩:=(show Tr w _ [c1]from Tr.iw hf 1 1 1 rfl O5).string underlying9
 rw[mP]at z1
 cases e1
 obtain⟨y2,e2,z2⟩:=(show Tr w _ [c2]from Tr.iw hf 2 2 1 rfl O5).int underlying83
 cases e2
 obtain⟨y3,e3,z3⟩:=(show Tr w _ [c3]from Tr.iw hf 3 3 1 rfl O5).int underlying3
 cases e3
 obtain⟨y4,q4⟩:=du.of (show Tr w _ [c4,c5,c6,c7]from Tr.iw hf 4 4 4 rfl O5) rfl
 obtain⟨e4,k4_0,k4_1,k4_2⟩:=q4
 cases e4
 obtain⟨y5,q5⟩:=cO.of (show Tr w _ [c8,c9,c10]from Tr.iw hf 5 8 3 rfl O5) rfl
 obtain⟨e5,k5_0,k5_1⟩:=q5
 cases e5
 obtain⟨y6,q6⟩:=m6.of (show Tr w _ [c11,c12]from Tr.iw hf 6 11 2 rfl O5) rfl
 obtain⟨e6,k6_0⟩:=q6
 cases e6
 exact⟨⟨y0,y1,y2,y3,y4,y5,y6⟩,⟨rfl,z0,z1,iV z2,iV z3,k4_0,k4_1,k4_2,k5_0,k5_1,k6_0⟩⟩
end
structure qk where
 dI:Int
 locals:List Int
 body:List cv
 deriving Inhabited
def dV (F:Nat→Prop) (w:World) (cs:List Value) (x:qk):Prop:=
 ∃v0 v1:Value,cs=[.int .i64 x.dI,v0,v1]∧ai F w v0 x.locals∧fE F w v1 x.body∧eO x.dI
def fV:sV qk:=fun F w b o x=>∃cs,dV F w cs x∧∀j,j<3→w.cell? ⟨b,o+j,none⟩=cs[j]?
section
variable {F S H:Nat→Prop} {w w':World} {b o:Nat} {cs:List Value} {x:qk}
theorem dV.len (h:dV F w cs x):cs.length=3:=by
 obtain⟨v0,v1,rfl,r0,r1,g0⟩:=h
 rfl
theorem dV.aP (h:dV F w cs x) (hc:bX S w w') (hd:∀k,k<w.heap.size→F k→¬S k):dV F w' cs x:=by
 obtain⟨v0,v1,rfl,r0,r1,g0⟩:=h
 exact⟨v0,v1,rfl,r0.aP hc hd,r1.aP hc hd,g0⟩
theorem dV.mono (h:dV F w cs x) (hd:∀k,k<w.heap.size→F k→H k):dV H w cs x:=by
 obtain⟨v0,v1,rfl,r0,r1,g0⟩:=h
 exact⟨v0,v1,rfl,r0.mono hd,r1.mono hd,g0⟩
theorem fV.ce:Ce fV:=AtR.ce (V:=dV) dV.len Pc
theorem fV.fr:Fr fV:=AtR.fr (V:=dV) dV.len dV.aP
theorem fV.mo:Mo fV:=AtR.mo (V:=dV) dV.mono
theorem fV.dI (h:fV F w b o x):w.cell? ⟨b,o,none⟩=some (.int .i64 x.dI):=by
 obtain⟨_,⟨_,_,rfl,_⟩,hc⟩:=h
 exact hc 0 Pc
set_option maxRecDepth 100000 in
theorem dV.of (h:Tr w 58 cs) (hcl:cs.length=3):∃x,dV (fun _=>True) w cs x:=by
 obtain⟨c0,c1,c2,rfl⟩:=zO hcl
 obtain⟨-,hf⟩:=h.struct underlying58
 obtain⟨y0,e0,z0⟩:=(show Tr w _ [c0]from Tr.iw hf 0 0 1 rfl O5).int underlying3
 cases e0
 obtain⟨u1,y1,e1,z1⟩:=(show Tr w _ [c1]from Tr.iw hf 1 1 1 rfl O5).ints underlying49 underlying59 O5 O5
 cases e1
 obtain⟨u2,y2,e2,z2⟩:=(show Tr w _ [c2]from Tr.iw hf 2 2 1 rfl O5).body
 cases e2
 exact⟨⟨y0,y1,y2⟩,⟨_,_,rfl,z1,z2,iV z0⟩⟩
end
structure gU where
 dI:iK
 nH:List cv
 deriving Inhabited
def bT (F:Nat→Prop) (w:World) (cs:List Value) (x:gU):Prop:=
 ∃v0:Value,cs=[.int .i64 x.dI.nQ,.bool x.dI.sB,v0]∧fE F w v0 x.nH∧eO x.dI.nQ
def cV:sV gU:=fun F w b o x=>∃cs,bT F w cs x∧∀j,j<3→w.cell? ⟨b,o+j,none⟩=cs[j]?
section
variable {F S H:Nat→Prop} {w w':World} {b o:Nat} {cs:List Value} {x:gU}
theorem bT.len (h:bT F w cs x):cs.length=3:=by
 obtain⟨v0,rfl,r0,g0⟩:=h
 rfl
theorem bT.aP (h:bT F w cs x) (hc:bX S w w') (hd:∀k,k<w.heap.size→F k→¬S k):bT F w' cs x:=by
 obtain⟨v0,rfl,r0,g0⟩:=h
 exact⟨v0,rfl,r0.aP hc hd,g0⟩
theorem bT.mono (h:bT F w cs x) (hd:∀k,k<w.heap.size→F k→H k):bT H w cs x:=by
 obtain⟨v0,rfl,r0,g0⟩:=h
 exact⟨v0,rfl,r0.mono hd,g0⟩
theorem cV.ce:Ce cV:=AtR.ce (V:=bT) bT.len Pc
theorem cV.fr:Fr cV:=AtR.fr (V:=bT) bT.len bT.aP
theorem cV.mo:Mo cV:=AtR.mo (V:=bT) bT.mono
theorem cV.nH (h:cV F w b o x):∃v,w.cell? ⟨b,o+2,none⟩=some v∧fE F w v x.nH:=by
 obtain⟨_,⟨_,rfl,r0,_⟩,hc⟩:=h
 exact⟨_,hc 2 Pc,r0⟩
set_option maxRecDepth 100000 in
theorem bT.of (h:Tr w 95 cs) (hcl:cs.length=3):∃x,bT (fun _=>True) w cs x:=by
 obtain⟨c0,c1,c2,rfl⟩:=zO hcl
 obtain⟨-,hf⟩:=h.struct underlying95
 obtain⟨y0,q0⟩:=m6.of (show Tr w _ [c0,c1]from Tr.iw hf 0 0 2 rfl O5) rfl
 obtain⟨e0,k0_0⟩:=q0
 cases e0
 obtain⟨u1,y1,e1,z1⟩:=(show Tr w _ [c2]from Tr.iw hf 1 2 1 rfl O5).body
 cases e1
 exact⟨⟨y0,y1⟩,⟨_,rfl,z1,k0_0⟩⟩
end
structure mr where
 name:ByteArray
 kind:Int
 index:Int
 deriving Inhabited
def cK (_F:Nat→Prop) (_w:World) (cs:List Value) (x:mr):Prop:=
 cs=[.string x.name,.int .i64 x.kind,.int .i64 x.index]∧x.name.size≤140737488351232∧eO x.kind∧eO x.index
def dw:sV mr:=fun F w b o x=>∃cs,cK F w cs x∧∀j,j<3→w.cell? ⟨b,o+j,none⟩=cs[j]?
section
variable {F S H:Nat→Prop} {w w':World} {b o:Nat} {cs:List Value} {x:mr}
theorem cK.len (h:cK F w cs x):cs.length=3:=by
 obtain⟨rfl,g0,g1,g2⟩:=h
 rfl
theorem cK.aP (h:cK F w cs x) (_hc:bX S w w') (_hd:∀k,k<w.heap.size→F k→¬S k):cK F w' cs x:=by
 obtain⟨rfl,g0,g1,g2⟩:=h
 exact⟨rfl,g0,g1,g2⟩
theorem cK.mono (h:cK F w cs x) (_hd:∀k,k<w.heap.size→F k→H k):cK H w cs x:=by
 obtain⟨rfl,g0,g1,g2⟩:=h
 exact⟨rfl,g0,g1,g2⟩
theorem dw.ce:Ce dw:=AtR.ce (V:=cK) cK.len Pc
theorem dw.fr:Fr dw:=AtR.fr (V:=cK) cK.len cK.aP
theorem dw.mo:Mo dw:=AtR.mo (V:=cK) cK.mono
theorem dw.kind (h:dw F w b o x):w.cell? ⟨b,o+1,none⟩=some (.int .i64 x.kind):=by
 obtain⟨_,⟨rfl,_⟩,hc⟩:=h
 exact hc 1 Pc
theorem dw.index (h:dw F w b o x):w.cell? ⟨b,o+2,none⟩=some (.int .i64 x.index):=by
 obtain⟨_,⟨rfl,_⟩,hc⟩:=h
 exact hc 2 Pc
theorem cK.ya (h:cK F w cs x):eO x.index:=by
 obtain⟨rfl,g0,g1,g2⟩:=h
 exact g2
theorem dw.ya (h:dw F w b o x):eO x.index:=by
 obtain⟨cs,hv,hc⟩:=h
 exact hv.ya
set_option maxRecDepth 100000 in
theorem cK.of (h:Tr w 100 cs) (hcl:cs.length=3):∃x,cK (fun _=>True) w cs x:=by
 obtain⟨c0,c1,c2,rfl⟩:=zO hcl
 obtain⟨-,hf⟩:=h.struct underlying100
 obtain⟨y0,e0,z0⟩:=(show Tr w _ [c0]from Tr.iw hf 0 0 1 rfl O5).string underlying9
 rw[mP]at z0
 cases e0
 obtain⟨y1,e1,z1⟩:=(show Tr w _ [c1]from Tr.iw hf 1 1 1 rfl O5).int underlying83
 cases e1
 obtain⟨y2,e2,z2⟩:=(show Tr w _ [c2]from Tr.iw hf 2 2 1 rfl O5).int underlying3
 cases e2
 exact⟨⟨y0,y1,y2⟩,⟨rfl,z0,iV z1,iV z2⟩⟩
end
structure ql where
 mode:Int
 table:Int
 offset:List cv
 dI:Int
 items:List (List cv)
 deriving Inhabited
def dX (F:Nat→Prop) (w:World) (cs:List Value) (x:ql):Prop:=
 ∃v0 v1:Value,cs=[.int .i64 x.mode,.int .i64 x.table,v0,.int .i64 x.dI,v1]∧fE F w v0 x.offset∧gN 1 5864062014634 (mu fE) F w v1 x.items∧eO x.mode∧eO x.table∧eO x.dI
def fA:sV ql:=fun F w b o x=>∃cs,dX F w cs x∧∀j,j<5→w.cell? ⟨b,o+j,none⟩=cs[j]?
section
variable {F S H:Nat→Prop} {w w':World} {b o:Nat} {cs:List Value} {x:ql}
theorem dX.len (h:dX F w cs x):cs.length=5:=by
 obtain⟨v0,v1,rfl,r0,r1,g0,g1,g2⟩:=h
 rfl
theorem dX.aP (h:dX F w cs x) (hc:bX S w w') (hd:∀k,k<w.heap.size→F k→¬S k):dX F w' cs x:=by
 obtain⟨v0,v1,rfl,r0,r1,g0,g1,g2⟩:=h
 exact⟨v0,v1,rfl,r0.aP hc hd,gN.aP (mu.fr (fun h hc hd=>h.aP hc hd)) mu.ce r1 hc hd,g0,g1,g2⟩
theorem dX.mono (h:dX F w cs x) (hd:∀k,k<w.heap.size→F k→H k):dX H w cs x:=by
 obtain⟨v0,v1,rfl,r0,r1,g0,g1,g2⟩:=h
 exact⟨v0,v1,rfl,r0.mono hd,gN.mono (mu.mo (fun h hd=>h.mono hd)) mu.ce r1 hd,g0,g1,g2⟩
theorem fA.ce:Ce fA:=AtR.ce (V:=dX) dX.len Pc
theorem fA.fr:Fr fA:=AtR.fr (V:=dX) dX.len dX.aP
theorem fA.mo:Mo fA:=AtR.mo (V:=dX) dX.mono
theorem fA.dI (h:fA F w b o x):w.cell? ⟨b,o+3,none⟩=some (.int .i64 x.dI):=by
 obtain⟨_,⟨_,_,rfl,_⟩,hc⟩:=h
 exact hc 3 Pc
theorem fA.items (h:fA F w b o x):∃v,w.cell? ⟨b,o+4,none⟩=some v∧gN 1 5864062014634 (mu fE) F w v x.items:=by
 obtain⟨_,⟨_,_,rfl,_,r1,_⟩,hc⟩:=h
 exact⟨_,hc 4 Pc,r1⟩
set_option maxRecDepth 100000 in
theorem dX.of (h:Tr w 98 cs) (hcl:cs.length=5):∃x,dX (fun _=>True) w cs x:=by
 obtain⟨c0,c1,c2,c3,c4,rfl⟩:=I4 hcl
 obtain⟨-,hf⟩:=h.struct underlying98
 obtain⟨y0,e0,z0⟩:=(show Tr w _ [c0]from Tr.iw hf 0 0 1 rfl O5).int underlying3
 cases e0
 obtain⟨y1,e1,z1⟩:=(show Tr w _ [c1]from Tr.iw hf 1 1 1 rfl O5).int underlying3
 cases e1
 obtain⟨u2,y2,e2,z2⟩:=(show Tr w _ [c2]from Tr.iw hf 2 2 1 rfl O5).body
 cases e2
 obtain⟨y3,e3,z3⟩:=(show Tr w _ [c3]from Tr.iw hf 3 3 1 rfl O5).int underlying59
 cases e3
 obtain⟨u4,y4,e4,z4⟩:=(show Tr w _ [c4]from Tr.iw hf 4 4 1 rfl O5).sl (s:=1) (bt:=24) (N:=5864062014634) (mu fE) underlying96 O5 O5 Pc (fun n hn=>by omega) (fun b o cs _ h2 h3=>by obtain⟨v,xs,rfl,h⟩:=(h3).body;exact⟨xs,v,h2 0 Pc,h⟩)
 cases e4
 exact⟨⟨y0,y1,y2,y3,y4⟩,⟨_,_,rfl,z2,z4,iV z0,iV z1,iV z3⟩⟩
end
structure sS where
 mode:Int
 mem:Int
 offset:List cv
 bytes:List Int
 deriving Inhabited
def dW (F:Nat→Prop) (w:World) (cs:List Value) (x:sS):Prop:=
 ∃v0 v1:Value,cs=[.int .i64 x.mode,.int .i64 x.mem,v0,v1]∧fE F w v0 x.offset∧gN 1 140737488351232 (jS .u8) F w v1 x.bytes∧eO x.mode∧eO x.mem
def hG:sV sS:=fun F w b o x=>∃cs,dW F w cs x∧∀j,j<4→w.cell? ⟨b,o+j,none⟩=cs[j]?
section
variable {F S H:Nat→Prop} {w w':World} {b o:Nat} {cs:List Value} {x:sS}
theorem dW.len (h:dW F w cs x):cs.length=4:=by
 obtain⟨v0,v1,rfl,r0,r1,g0,g1⟩:=h
 rfl
theorem dW.aP (h:dW F w cs x) (hc:bX S w w') (hd:∀k,k<w.heap.size→F k→¬S k):dW F w' cs x:=by
 obtain⟨v0,v1,rfl,r0,r1,g0,g1⟩:=h
 exact⟨v0,v1,rfl,r0.aP hc hd,gN.aP (jS.fr _) (jS.ce _) r1 hc hd,g0,g1⟩
theorem dW.mono (h:dW F w cs x) (hd:∀k,k<w.heap.size→F k→H k):dW H w cs x:=by
 obtain⟨v0,v1,rfl,r0,r1,g0,g1⟩:=h
 exact⟨v0,v1,rfl,r0.mono hd,gN.mono (jS.mo _) (jS.ce _) r1 hd,g0,g1⟩
theorem hG.ce:Ce hG:=AtR.ce (V:=dW) dW.len Pc
theorem hG.fr:Fr hG:=AtR.fr (V:=dW) dW.len dW.aP
theorem hG.mo:Mo hG:=AtR.mo (V:=dW) dW.mono
set_option maxRecDepth 100000 in
theorem dW.of (h:Tr w 321 cs) (hcl:cs.length=4):∃x,dW (fun _=>True) w cs x:=by
 obtain⟨c0,c1,c2,c3,rfl⟩:=Hx hcl
 obtain⟨-,hf⟩:=h.struct underlying321
 obtain⟨y0,e0,z0⟩:=(show Tr w _ [c0]from Tr.iw hf 0 0 1 rfl O5).int underlying3
 cases e0
 obtain⟨y1,e1,z1⟩:=(show Tr w _ [c1]from Tr.iw hf 1 1 1 rfl O5).int underlying3
 cases e1
 obtain⟨u2,y2,e2,z2⟩:=(show Tr w _ [c2]from Tr.iw hf 2 2 1 rfl O5).body
 cases e2
 obtain⟨u3,y3,e3,z3⟩:=(show Tr w _ [c3]from Tr.iw hf 3 3 1 rfl O5).sl (s:=1) (bt:=1) (N:=140737488351232) (jS .u8) underlying319 O5 O5 Pc (fun n hn=>by omega) (fun b o cs _ h2 h3=>by obtain⟨n,rfl,_⟩:=h3.int underlying5;exact⟨n,h2 0 Pc⟩)
 cases e3
 exact⟨⟨y0,y1,y2,y3⟩,⟨_,_,rfl,z2,z3,iV z0,iV z1⟩⟩
end
structure oI where
 after:Int
 name:ByteArray
 bytes:List Int
 deriving Inhabited
def dh (F:Nat→Prop) (w:World) (cs:List Value) (x:oI):Prop:=
 ∃v0:Value,cs=[.int .i64 x.after,.string x.name,v0]∧gN 1 140737488351232 (jS .u8) F w v0 x.bytes∧eO x.after∧x.name.size≤140737488351232
def fz:sV oI:=fun F w b o x=>∃cs,dh F w cs x∧∀j,j<3→w.cell? ⟨b,o+j,none⟩=cs[j]?
section
variable {F S H:Nat→Prop} {w w':World} {b o:Nat} {cs:List Value} {x:oI}
theorem dh.len (h:dh F w cs x):cs.length=3:=by
 obtain⟨v0,rfl,r0,g0,g1⟩:=h
 rfl
theorem dh.aP (h:dh F w cs x) (hc:bX S w w') (hd:∀k,k<w.heap.size→F k→¬S k):dh F w' cs x:=by
 obtain⟨v0,rfl,r0,g0,g1⟩:=h
 exact⟨v0,rfl,gN.aP (jS.fr _) (jS.ce _) r0 hc hd,g0,g1⟩
theorem dh.mono (h:dh F w cs x) (hd:∀k,k<w.heap.size→F k→H k):dh H w cs x:=by
 obtain⟨v0,rfl,r0,g0,g1⟩:=h
 exact⟨v0,rfl,gN.mono (jS.mo _) (jS.ce _) r0 hd,g0,g1⟩
theorem fz.ce:Ce fz:=AtR.ce (V:=dh) dh.len Pc
theorem fz.fr:Fr fz:=AtR.fr (V:=dh) dh.len dh.aP
theorem fz.mo:Mo fz:=AtR.mo (V:=dh) dh.mono
set_option maxRecDepth 100000 in
theorem dh.of (h:Tr w 323 cs) (hcl:cs.length=3):∃x,dh (fun _=>True) w cs x:=by
 obtain⟨c0,c1,c2,rfl⟩:=zO hcl
 obtain⟨-,hf⟩:=h.struct underlying323
 obtain⟨y0,e0,z0⟩:=(show Tr w _ [c0]from Tr.iw hf 0 0 1 rfl O5).int underlying3
 cases e0
 obtain⟨y1,e1,z1⟩:=(show Tr w _ [c1]from Tr.iw hf 1 1 1 rfl O5).string underlying9
 rw[mP]at z1
 cases e1
 obtain⟨u2,y2,e2,z2⟩:=(show Tr w _ [c2]from Tr.iw hf 2 2 1 rfl O5).sl (s:=1) (bt:=1) (N:=140737488351232) (jS .u8) underlying319 O5 O5 Pc (fun n hn=>by omega) (fun b o cs _ h2 h3=>by obtain⟨n,rfl,_⟩:=h3.int underlying5;exact⟨n,h2 0 Pc⟩)
 cases e2
 exact⟨⟨y0,y1,y2⟩,⟨_,rfl,z2,iV z0,z1⟩⟩
end
structure af where
 types:List aO
 imports:List bY
 funcs:List qk
 tables:List fH
 bR:List ft
 globals:List gU
 aL:List mr
 aI:Bool
 start:Int
 elems:List ql
 bg:List sS
 bE:List oI
 deriving Inhabited
def av (F:Nat→Prop) (w:World) (cs:List Value) (x:af):Prop:=
 ∃v0 v1 v2 v3 v4 v5 v6 v7 v8 v9:Value,cs=[v0,v1,v2,v3,v4,v5,v6,.bool x.aI,.int .i64 x.start,v7,v8,v9]∧gN 2 2932031007317 hH F w v0 x.types∧gN 13 1172812402926 dA F w v1 x.imports∧gN 3 2513169434843 fV F w v2 x.funcs∧gN 4 4398046510976 fF F w v3 x.tables∧gN 3 5864062014634 dR F w v4 x.bR∧gN 3 3518437208780 cV F w v5 x.globals∧gN 3 4398046510976 dw F w v6 x.aL∧gN 5 1954687338211 fA F w v7 x.elems∧gN 4 2199023255488 hG F w v8 x.bg∧gN 3 2932031007317 fz F w v9 x.bE∧eO x.start
section
variable {F S H:Nat→Prop} {w w':World} {b o:Nat} {cs:List Value} {x:af}
theorem av.aP (h:av F w cs x) (hc:bX S w w') (hd:∀k,k<w.heap.size→F k→¬S k):av F w' cs x:=by
 obtain⟨v0,v1,v2,v3,v4,v5,v6,v7,v8,v9,rfl,r0,r1,r2,r3,r4,r5,r6,r7,r8,r9,g0⟩:=h
 exact⟨v0,v1,v2,v3,v4,v5,v6,v7,v8,v9,rfl,gN.aP hH.fr hH.ce r0 hc hd,gN.aP dA.fr dA.ce r1 hc hd,gN.aP fV.fr fV.ce r2 hc hd,gN.aP fF.fr fF.ce r3 hc hd,gN.aP dR.fr dR.ce r4 hc hd,gN.aP cV.fr cV.ce r5 hc hd,gN.aP dw.fr dw.ce r6 hc hd,gN.aP fA.fr fA.ce r7 hc hd,gN.aP hG.fr hG.ce r8 hc hd,gN.aP fz.fr fz.ce r9 hc hd,g0⟩
theorem av.mono (h:av F w cs x) (hd:∀k,k<w.heap.size→F k→H k):av H w cs x:=by
 obtain⟨v0,v1,v2,v3,v4,v5,v6,v7,v8,v9,rfl,r0,r1,r2,r3,r4,r5,r6,r7,r8,r9,g0⟩:=h
 exact⟨v0,v1,v2,v3,v4,v5,v6,v7,v8,v9,rfl,gN.mono hH.mo hH.ce r0 hd,gN.mono dA.mo dA.ce r1 hd,gN.mono fV.mo fV.ce r2 hd,gN.mono fF.mo fF.ce r3 hd,gN.mono dR.mo dR.ce r4 hd,gN.mono cV.mo cV.ce r5 hd,gN.mono dw.mo dw.ce r6 hd,gN.mono fA.mo fA.ce r7 hd,gN.mono hG.mo hG.ce r8 hd,gN.mono fz.mo fz.ce r9 hd,g0⟩
set_option maxRecDepth 100000 in
theorem av.of (h:Tr w 33 cs) (hcl:cs.length=12):∃x,av (fun _=>True) w cs x:=by
 obtain⟨c0,c1,c2,c3,c4,c5,c6,c7,c8,c9,c10,c11,rfl⟩:=H7 hcl
 obtain⟨-,hf⟩:=h.struct underlying33
 obtain⟨u0,y0,e0,z0⟩:=(show Tr w _ [c0]from Tr.iw hf 0 0 1 rfl O5).sl (s:=2) (bt:=48) (N:=2932031007317) hH underlying22 O5 O5 Pc (fun n hn=>by omega) (AtR.of (V:=dL) dL.of)
 cases e0
 obtain⟨u1,y1,e1,z1⟩:=(show Tr w _ [c1]from Tr.iw hf 1 1 1 rfl O5).sl (s:=13) (bt:=120) (N:=1172812402926) dA underlying23 O5 O5 Pc (fun n hn=>by omega) (AtR.of (V:=cM) cM.of)
 cases e1
 obtain⟨u2,y2,e2,z2⟩:=(show Tr w _ [c2]from Tr.iw hf 2 2 1 rfl O5).sl (s:=3) (bt:=56) (N:=2513169434843) fV underlying24 O5 O5 Pc (fun n hn=>by omega) (AtR.of (V:=dV) dV.of)
 cases e2
 obtain⟨u3,y3,e3,z3⟩:=(show Tr w _ [c3]from Tr.iw hf 3 3 1 rfl O5).sl (s:=4) (bt:=32) (N:=4398046510976) fF underlying25 O5 O5 Pc (fun n hn=>by omega) (AtR.of (V:=du) du.of)
 cases e3
 obtain⟨u4,y4,e4,z4⟩:=(show Tr w _ [c4]from Tr.iw hf 4 4 1 rfl O5).sl (s:=3) (bt:=24) (N:=5864062014634) dR underlying26 O5 O5 Pc (fun n hn=>by omega) (AtR.of (V:=cO) cO.of)
 cases e4
 obtain⟨u5,y5,e5,z5⟩:=(show Tr w _ [c5]from Tr.iw hf 5 5 1 rfl O5).sl (s:=3) (bt:=40) (N:=3518437208780) cV underlying27 O5 O5 Pc (fun n hn=>by omega) (AtR.of (V:=bT) bT.of)
 cases e5
 obtain⟨u6,y6,e6,z6⟩:=(show Tr w _ [c6]from Tr.iw hf 6 6 1 rfl O5).sl (s:=3) (bt:=32) (N:=4398046510976) dw underlying28 O5 O5 Pc (fun n hn=>by omega) (AtR.of (V:=cK) cK.of)
 cases e6
 obtain⟨y7,e7⟩:=(show Tr w _ [c7]from Tr.iw hf 7 7 1 rfl O5).bool underlying4
 cases e7
 obtain⟨y8,e8,z8⟩:=(show Tr w _ [c8]from Tr.iw hf 8 8 1 rfl O5).int underlying3
 cases e8
 obtain⟨u9,y9,e9,z9⟩:=(show Tr w _ [c9]from Tr.iw hf 9 9 1 rfl O5).sl (s:=5) (bt:=72) (N:=1954687338211) fA underlying29 O5 O5 Pc (fun n hn=>by omega) (AtR.of (V:=dX) dX.of)
 cases e9
 obtain⟨Kz,y10,e10,z10⟩:=(show Tr w _ [c10]from Tr.iw hf 10 10 1 rfl O5).sl (s:=4) (bt:=64) (N:=2199023255488) hG underlying30 O5 O5 Pc (fun n hn=>by omega) (AtR.of (V:=dW) dW.of)
 cases e10
 obtain⟨JE,y11,e11,z11⟩:=(show Tr w _ [c11]from Tr.iw hf 11 11 1 rfl O5).sl (s:=3) (bt:=48) (N:=2932031007317) fz underlying31 O5 O5 Pc (fun n hn=>by omega) (AtR.of (V:=dh) dh.of)
 cases e11
 exact⟨⟨y0,y1,y2,y3,y4,y5,y6,y7,y8,y9,y10,y11⟩,⟨_,_,_,_,_,_,_,_,_,_,rfl,z0,z1,z2,z3,z4,z5,z6,z9,z10,z11,iV z8⟩⟩
end
structure Ex where
 kind:Int
 nQ:Int
 index:Int
 deriving Inhabited
section
variable {F S H:Nat→Prop} {w w':World} {b o:Nat} {cs:List Value} {x:Ex}
end
structure Gk where
 live:Bool
 stack:List Int
 deriving Inhabited
section
variable {F S H:Nat→Prop} {w w':World} {b o:Nat} {cs:List Value} {x:Gk}
end
structure Ey where
 live:Bool
 stack:List Int
 deriving Inhabited
section
variable {F S H:Nat→Prop} {w w':World} {b o:Nat} {cs:List Value} {x:Ey}
end
structure zi where
 l:List Int
 marks:List Int
 loose:List Bool
 bQ:Int
 deriving Inhabited
section
variable {F S H:Nat→Prop} {w w':World} {b o:Nat} {cs:List Value} {x:zi}
end
structure zj where
 op:Int
 t:aO
 live:Bool
 lq:Bool
 deriving Inhabited
section
variable {F S H:Nat→Prop} {w w':World} {b o:Nat} {cs:List Value} {x:zj}
end
structure EE where
 s:zi
 JR:List zj
 results:List Int
 broken:Int
 deriving Inhabited
section
variable {F S H:Nat→Prop} {w w':World} {b o:Nat} {cs:List Value} {x:EE}
end
structure wV where
 at_:Int
 loose:Bool
 deriving Inhabited
section
variable {F S H:Nat→Prop} {w w':World} {b o:Nat} {cs:List Value} {x:wV}
end
structure AZ where
 types:List Int
 parts:List wV
 over:Bool
 deriving Inhabited
section
variable {F S H:Nat→Prop} {w w':World} {b o:Nat} {cs:List Value} {x:AZ}
end
structure CZ where
 ends:List Int
 Kn:List Int
 JP:List Int
 Kr:List Int
 deriving Inhabited
section
variable {F S H:Nat→Prop} {w w':World} {b o:Nat} {cs:List Value} {x:CZ}
end
structure CW where
 kind:Int
 t:aO
 other:Bool
 live:Bool
 deriving Inhabited
section
variable {F S H:Nat→Prop} {w w':World} {b o:Nat} {cs:List Value} {x:CW}
end
structure CY where
 at_:Int
 LU:Bool
 deriving Inhabited
section
variable {F S H:Nat→Prop} {w w':World} {b o:Nat} {cs:List Value} {x:CY}
end
structure Gj where
 f:aO
 e:Int
 deriving Inhabited
section
variable {F S H:Nat→Prop} {w w':World} {b o:Nat} {cs:List Value} {x:Gj}
end
structure HK where
 op:Int
 name:ByteArray
 LV:Int
 deriving Inhabited
section
variable {F S H:Nat→Prop} {w w':World} {b o:Nat} {cs:List Value} {x:HK}
end
structure C0 where
 first:Int
 head:ByteArray
 Kw:ByteArray
 deriving Inhabited
section
variable {F S H:Nat→Prop} {w w':World} {b o:Nat} {cs:List Value} {x:C0}
end
end Go.Proofs.YtdkcljdfbemnbaaGreatDoor
