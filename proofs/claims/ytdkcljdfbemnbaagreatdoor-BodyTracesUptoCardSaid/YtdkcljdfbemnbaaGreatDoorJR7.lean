import Derived.Test.YtdkcljdfbemnbaaGreatDoorJR6
import Derived.Deep.Slices
import Derived.SizedLaws
namespace Go.Proofs.YtdkcljdfbemnbaaGreatDoor
open Go.RowKit Go.Deep _root_.Go.Proofs.Tryz
open List renaming getElem?_eq_getElem→Pw,getElem?_map→PQ,mem_append→PI
def Tr (w:World) (t:TypeId) (cs:List Value):Prop:=
 ∃(H:Type) (enc:TypeId×Value→H) (spare:Nat→Bool) (held:Bool) (fuel:Nat) (x:DataW H×List MemPlace),DataW.trod enc G.P w 0 spare held fuel t cs=some x∧∀n∈x.1.weights G.P t,n≤reachBytes
section
variable {w:World} {t e:TypeId} {cs:List Value}
theorem mT:reachBytes=140737488351232:=by decide
theorem zu {a:Addr} {v:Value} (h:w.cell? (a.add 0)=some v):a.spot=none:=by
 obtain⟨b,o,s⟩:=a
 cases s with
 |none=>rfl
 |some k=>
  exfalso
  simp only[World.cell?,Addr.add,if_true]at h
  split at h<;>simp at h
theorem xQ {a:Addr} (hs:a.spot=none) (i:Nat):a.add i=⟨a.block,a.off+i,none⟩:=by
 obtain⟨b,o,s⟩:=a
 cases hs
 unfold Addr.add;split
 ·rename_i h;subst h;rfl
 ·rfl
theorem ss {H:Type} {P:Program} {e:TypeId}:∀{l:List (DataW H)} {d:DataW H},d∈l→∀n∈d.weights P e,n∈DataW.weightsAll P e l
 |x::r,d,hd,n,hn=>by
  simp only[DataW.weightsAll,PI]
  rcases List.mem_cons.1 hd with rfl|hd
  ·exact .inl hn
  ·exact .inr (ss hd n hn)
theorem rf {H:Type} {P:Program}:∀{ts:List TypeId} {l:List (DataW H)} {i:Nat} {t:TypeId} {d:DataW H},ts[i]?=some t→l[i]?=some d→∀n∈d.weights P t,n∈DataW.weightsEach P ts l
 |t::ts,x::r,0,_,_,h1,h2,n,hn=>by
  simp at h1 h2;subst h1;subst h2
  simp only[DataW.weightsEach,PI];exact .inl hn
 |t::ts,x::r,i+1,_,_,h1,h2,n,hn=>by
  simp only[DataW.weightsEach,PI]
  exact .inr (rf (ts:=ts) (l:=r) (i:=i) (by simpa using h1) (by simpa using h2) n hn)
 |[],_,_,_,_,h1,_,_,_=>by simp at h1
 |_::_,[],_,_,_,_,h2,_,_=>by simp at h2
theorem Ck {a:Int} (h:(Lit.int .i64 a).wf=true):eP a:=by
 have e1:IntKind.i64.min=-9223372036854775808:=by decide
 have e2:IntKind.i64.max=9223372036854775807:=by decide
 simp only[Lit.wf,e1,e2,Bool.and_eq_true,decide_eq_true_eq]at h
 exact h
theorem Tr.int {k:IntKind} (ht:G.P.underlying t=some (.int k)) (h:Tr w t cs):∃n,cs=[.int k n]∧(Lit.int k n).wf=true:=by
 obtain⟨H,enc,spare,held,fuel,x,h,hw⟩:=h
 obtain⟨n,h1,-,h2⟩:=DataW.trod_int ht h
 exact⟨n,h1,h2⟩
theorem Tr.bool (ht:G.P.underlying t=some .bool) (h:Tr w t cs):∃b,cs=[.bool b]:=by
 obtain⟨H,enc,spare,held,fuel,x,h,hw⟩:=h
 obtain⟨n,h1,-⟩:=DataW.trod_bool ht h
 exact⟨n,h1⟩
theorem Tr.string (ht:G.P.underlying t=some .string) (h:Tr w t cs):∃s:ByteArray,cs=[.string s]∧s.size≤reachBytes:=by
 obtain⟨H,enc,spare,held,fuel,x,h,hw⟩:=h
 obtain⟨s,h1,h2,h3⟩:=DataW.trod_string ht h
 subst h2
 refine⟨s,h1,?_⟩
 have:=hw s.data.toList.length (by simp[DataW.weights])
 simpa using this
theorem Tr.struct {fs:Array Field} (ht:G.P.underlying t=some (.struct fs)) (h:Tr w t cs):cs.length=G.P.cellsOf t∧∀(i:Nat) (f:Field),fs[i]?=some f→Tr w f.type ((cs.drop f.offset).take (G.P.cellsOf f.type)):=by
 obtain⟨H,enc,spare,held,fuel,x,h,hw⟩:=h
 obtain⟨xs,n,rfl,rfl,hl,hx,hf⟩:=DataW.trod_struct ht h
 refine⟨hl,fun i f hi=>?_⟩
 have h1:=hf i f hi
 have hlt:i<xs.length:=by rw[hx];exact(Array.getElem?_eq_some_iff.1 hi).1
 rw[Pw hlt]at h1
 refine⟨H,enc,spare,held,n,xs[i],h1,fun m hm=>hw m ?_⟩
 simp only[DataW.weights,ht]
 refine rf (i:=i) (t:=f.type) (d:=xs[i].1) ?_ ?_ m hm
 ·rw[PQ,Array.getElem?_toList,hi];rfl
 ·rw[PQ,Pw hlt];rfl
theorem Tr.slice {s bt:Nat} (ht:G.P.underlying t=some (.slice e)) (hc:G.P.cellsOf e=s) (hby:G.P.bytesOf e=bt) (h0:0<s) (h:Tr w t cs):
  ∃p len cap,cs=[.slice p len cap]∧len*bt≤140737488351232∧(len=0∨∃b off,p=some ⟨b,off,none⟩∧∀i,i<len→∃cs',cs'.length=s∧(∀j,j<s→w.cell? ⟨b,off+i*s+j,none⟩=cs'[j]?)∧Tr w e cs'):=by
 obtain⟨H,enc,spare,held,fuel,x,h,hw⟩:=h
 rcases open_slice ht h with⟨rfl,rfl⟩|⟨a,len,cap,m,n,D,Pl,rfl,hb,hl,hm,hmm,rfl,hx⟩
 ·exact⟨_,_,_,rfl,by omega,.inl rfl⟩
 ·rw[hc]at hx
  have hlm:len≤m:=by rw[hmm];split<;>omega
  refine⟨_,len,cap,rfl,?_,?_⟩
  ·have:=hw ((len+(m - len))*G.P.bytesOf e) (by simp[DataW.weights,ht])
   rw[hby,mT]at this
   exact Nat.le_trans (Nat.mul_le_mul_right _ Pi) this
  ·by_cases hz:len=0
   ·exact .inl hz
   ·right
    obtain⟨cs0,hc0,-⟩:=hx 0 Pi
    obtain⟨-,hl0,hg0⟩:=World.cells?_some hc0
    have hsp:a.spot=none:=by
     have h1:=hg0 0 h0
     rw[Nat.zero_mul,Pw Pi]at h1
     have e0:(a.add 0).add 0=a.add 0:=by unfold Addr.add;simp
     rw[e0]at h1
     exact zu h1
    refine⟨a.block,a.off,by obtain⟨_,_,s⟩:=a;cases hsp;rfl,fun i hi=>?_⟩
    obtain⟨cs',hc',htr⟩:=hx i Pi
    obtain⟨-,hl',hg'⟩:=World.cells?_some hc'
    refine⟨cs',hl',fun j hj=>?_,H,enc,spare,held,n,_,htr,fun q hq=>hw q ?_⟩
    ·rw[←hg' j hj,xQ hsp,xQ rfl]
    ·simp only[DataW.weights,ht]
     refine List.mem_cons_of_mem _ (List.mem_append_left _ (ss (d:=D i) (List.mem_map.2 ⟨i,List.mem_range.2 hi,rfl⟩) q hq))
theorem rS {α:Type} [Inhabited α] {p:Nat→α→Prop}:∀{n:Nat},(∀i,i<n→∃a,p i a)→∃xs:List α,xs.length=n∧∀i,i<n→p i (ix xs i)
 |0,_=>⟨[],rfl,fun i hi=>by omega⟩
 |n+1,h=>by
  obtain⟨xs,hl,hx⟩:=rS (n:=n) (fun i hi=>h i Pi)
  obtain⟨a,ha⟩:=h n Pi
  refine⟨xs++[a],by simp[hl],fun i hi=>?_⟩
  by_cases e:i=n
  ·subst e
   have:ix (xs++[a]) i=a:=by simp[ix,←hl]
   rw[this];exact ha
  ·have:ix (xs++[a]) i=ix xs i:=by simp only[ix,List.getD_eq_getElem?_getD];rw[List.getElem?_append_left Pi]
   rw[this];exact hx i Pi
theorem Tr.vu {α:Type} [Inhabited α] {s bt:Nat} (R:Nat→Nat→α→Prop) (ht:G.P.underlying t=some (.slice e)) (hc:G.P.cellsOf e=s) (hby:G.P.bytesOf e=bt) (h0:0<s)
  (hR:∀b o cs,cs.length=s→(∀j,j<s→w.cell? ⟨b,o+j,none⟩=cs[j]?)→Tr w e cs→∃y,R b o y) (h:Tr w t cs):
  ∃p cap,∃ys:List α,cs=[.slice p ys.length cap]∧ys.length*bt≤140737488351232∧(ys=[]∨∃b off,p=some ⟨b,off,none⟩∧True∧∀i,i<ys.length→R b (off+i*s) (ix ys i)):=by
 obtain⟨p,len,cap,rfl,hl,hx⟩:=h.slice ht hc hby h0
 rcases hx with rfl|⟨b,off,rfl,hx⟩
 ·exact⟨p,cap,[],rfl,by simp,.inl rfl⟩
 ·obtain⟨ys,hy,hyR⟩:=rS (p:=fun i y=>R b (off+i*s) y) (fun i hi=>by
   obtain⟨cs',h1,h2,h3⟩:=hx i hi
   exact hR b _ cs' h1 h2 h3)
  subst hy
  exact⟨_,cap,ys,rfl,hl,.inr ⟨b,off,rfl,trivial,hyR⟩⟩
theorem Tr.ints (ht:G.P.underlying t=some (.slice e)) (he:G.P.underlying e=some (.int .i64)) (hc:G.P.cellsOf e=1) (hby:G.P.bytesOf e=8) (h:Tr w t cs):∃v xs,cs=[v]∧ai (fun _=>True) w v xs:=by
 obtain⟨p,cap,ys,rfl,hl,h⟩:=h.vu (α:=Int) (fun b o y=>w.cell? ⟨b,o,none⟩=some (.int .i64 y)) ht hc hby Pi (fun b o cs hcl hcc hcs=>by
  obtain⟨n,rfl,-⟩:=hcs.int he
  exact⟨n,by simpa using hcc 0 Pi⟩)
 refine⟨_,ys,rfl,p,cap,rfl,by omega,?_⟩
 rcases h with h|⟨b,off,h1,h2,h3⟩
 ·exact .inl h
 ·exact .inr ⟨b,off,h1,h2,fun i hi=>by have:=h3 i hi;rwa[Nat.mul_one]at this⟩
theorem Tr.iy {fs:Array Field} (hf:∀(i:Nat) (f:Field),fs[i]?=some f→Tr w f.type ((cs.drop f.offset).take (G.P.cellsOf f.type))) (i o n:Nat) {t:TypeId} (hi:(fs[i]?).map (fun f=>(f.type,f.offset))=some (t,o)) (hn:G.P.cellsOf t=n):Tr w t ((cs.drop o).take n):=by
 cases h:fs[i]? with
 |none=>simp[h]at hi
 |some f=>
  simp only[h,Option.map_some,Option.some.injEq,Prod.mk.injEq]at hi
  obtain⟨rfl,rfl⟩:=hi
  subst hn
  exact hf i f h
theorem Je {cs:List Value} (h:cs.length=9):∃a b c d e f g i j,cs=[a,b,c,d,e,f,g,i,j]:=by
 match cs,h with|[a,b,c,d,e,f,g,i,j],_=>exact⟨a,b,c,d,e,f,g,i,j,rfl⟩
theorem Tr.ins {b o:Nat} (hcl:cs.length=9) (hcc:∀j,j<9→w.cell? ⟨b,o+j,none⟩=cs[j]?) (h:Tr w 69 cs):∃y,nQ (fun _=>True) w b o y:=by
 obtain⟨c0,c1,c2,c3,c4,c5,c6,c7,c8,rfl⟩:=Je hcl
 obtain⟨-,hf⟩:=h.struct underlying69
 obtain⟨n0,e0,w0⟩:=(show Tr w _ [c0]from Tr.iy hf 0 0 1 rfl Pb).int underlying63
 obtain⟨n1,e1,w1⟩:=(show Tr w _ [c1]from Tr.iy hf 1 1 1 rfl Pb).int underlying3
 obtain⟨n2,e2,w2⟩:=(show Tr w _ [c2]from Tr.iy hf 2 2 1 rfl Pb).int underlying3
 obtain⟨n3,e3,w3⟩:=(show Tr w _ [c3]from Tr.iy hf 3 3 1 rfl Pb).int underlying64
 obtain⟨-,hg⟩:=(show Tr w _ [c4,c5,c6]from Tr.iy hf 4 4 3 rfl Pb).struct underlying66
 obtain⟨n4,e4,w4⟩:=(show Tr w _ [c4]from Tr.iy hg 0 0 1 rfl Pb).int underlying3
 obtain⟨n5,e5,w5⟩:=(show Tr w _ [c5]from Tr.iy hg 1 1 1 rfl Pb).int underlying59
 obtain⟨n6,e6,w6⟩:=(show Tr w _ [c6]from Tr.iy hg 2 2 1 rfl Pb).int underlying3
 obtain⟨v7,x7,e7,r7⟩:=(show Tr w _ [c7]from Tr.iy hf 5 7 1 rfl Pb).ints underlying49 underlying59 Pb Pb
 obtain⟨v8,x8,e8,r8⟩:=(show Tr w _ [c8]from Tr.iy hf 6 8 1 rfl Pb).ints underlying67 underlying3 Pb Pb
 cases e0;cases e1;cases e2;cases e3;cases e4;cases e5;cases e6;cases e7;cases e8
 exact⟨⟨n0,n1,n2,n3,n4,n5,n6,x7,x8⟩,hcc 0 Pi,hcc 1 Pi,hcc 2 Pi,hcc 3 Pi,hcc 4 Pi,hcc 5 Pi,hcc 6 Pi,⟨_,hcc 7 Pi,r7⟩,⟨_,hcc 8 Pi,r8⟩,Ck w0,Ck w1⟩
theorem Tr.body (h:Tr w 56 cs):∃v xs,cs=[v]∧Body w v xs:=by
 obtain⟨p,cap,ys,rfl,hl,h⟩:=h.vu (nQ (fun _=>True) w) underlying56 (s:=9) (bt:=104) Pb Pb Pi (fun b o cs h1 h2 h3=>h3.ins h1 h2)
 exact⟨_,ys,rfl,p,cap,rfl,by omega,h⟩
end
open Go.RowKit
abbrev sY (α:Type):=(Nat→Prop)→World→Nat→Nat→α→Prop
def gF {α:Type} [Inhabited α] (s N:Nat) (R:sY α) (F:Nat→Prop) (w:World) (v:Value) (xs:List α):Prop:=
 ∃p cap,v=.slice p xs.length cap∧xs.length≤N∧(xs=[]∨∃b off,p=some ⟨b,off,none⟩∧F b∧∀i,i<xs.length→R F w b (off+i*s) (ix xs i))
def Fr {α:Type} (R:sY α):Prop:=∀{F S:Nat→Prop} {w w':World} {b o:Nat} {x:α},R F w b o x→bX S w w'→F b→(∀k,k<w.heap.size→F k→¬S k)→R F w' b o x
def Mo {α:Type} (R:sY α):Prop:=∀{F H:Nat→Prop} {w:World} {b o:Nat} {x:α},R F w b o x→(∀k,k<w.heap.size→F k→H k)→R H w b o x
def Ce {α:Type} (R:sY α):Prop:=∀{F:Nat→Prop} {w:World} {b o:Nat} {x:α},R F w b o x→b<w.heap.size
section
variable {α:Type} [Inhabited α] {s N:Nat} {R:sY α} {F S H:Nat→Prop} {w w':World} {v:Value} {xs:List α}
theorem gF.aN (hR:Fr R) (_hC:Ce R) (h:gF s N R F w v xs) (hc:bX S w w') (hd:∀k,k<w.heap.size→F k→¬S k):gF s N R F w' v xs:=by
 obtain⟨p,cap,rfl,hl,h⟩:=h
 refine⟨p,cap,rfl,hl,?_⟩
 rcases h with h|⟨b,off,hp,hF,h⟩
 ·exact .inl h
 ·exact .inr ⟨b,off,hp,hF,fun i hi=>hR (h i hi) hc hF hd⟩
theorem gF.mono (hR:Mo R) (hC:Ce R) (h:gF s N R F w v xs) (hFH:∀k,k<w.heap.size→F k→H k):gF s N R H w v xs:=by
 obtain⟨p,cap,rfl,hl,h⟩:=h
 refine⟨p,cap,rfl,hl,?_⟩
 rcases h with h|⟨b,off,hp,hF,h⟩
 ·exact .inl h
 ·by_cases hx:xs=[]
  ·exact .inl hx
  ·exact .inr ⟨b,off,hp,hFH b (hC (h 0 (List.length_pos_iff.2 hx))) hF,fun i hi=>hR (h i hi) hFH⟩
theorem gF.slice (h:gF s N R F w v xs):∃p cap,v=.slice p xs.length cap∧xs.length≤N:=by
 obtain⟨p,cap,rfl,hl,_⟩:=h
 exact⟨p,cap,rfl,hl⟩
theorem gF.at {p:Option Addr} {n cap:Nat} (h:gF s N R F w (.slice p n cap) xs) {i:Nat} (hi:i<xs.length):
  ∃b off,p=some ⟨b,off,none⟩∧F b∧∀i,i<xs.length→R F w b (off+i*s) (ix xs i):=by
 obtain⟨p',cap',e,hl,h⟩:=h
 cases e
 rcases h with h|⟨b,off,hp,hF,h⟩
 ·subst h;cases hi
 ·exact⟨b,off,hp,hF,h⟩
theorem gF.nil:gF s N R F w (.slice none 0 0) ([]:List α):=⟨none,0,rfl,Nat.zero_le _,.inl rfl⟩
end
def jQ (k:IntKind):sY Int:=fun _ w b o n=>w.cell? ⟨b,o,none⟩=some (.int k n)
variable (k:IntKind) {α:Type} {cs:List Value}
theorem jQ.fr:Fr (jQ k):=fun h hc hF hd=>hc.cell (hd _ (fy h) hF) h
theorem jQ.mo:Mo (jQ k):=fun h _=>h
theorem jQ.ce:Ce (jQ k):=fun h=>fy h
def kO:sY Bool:=fun _ w b o n=>w.cell? ⟨b,o,none⟩=some (.bool n)
theorem kO.fr:Fr kO:=fun h hc hF hd=>hc.cell (hd _ (fy h) hF) h
theorem kO.mo:Mo kO:=fun h _=>h
theorem kO.ce:Ce kO:=fun h=>fy h
def my {α:Type} (V:(Nat→Prop)→World→Value→List α→Prop):sY (List α):=fun F w b o xs=>∃v,w.cell? ⟨b,o,none⟩=some v∧V F w v xs
theorem my.fr {V:(Nat→Prop)→World→Value→List α→Prop} (hV:∀{F S:Nat→Prop} {w w':World} {v:Value} {xs:List α},V F w v xs→bX S w w'→(∀k,k<w.heap.size→F k→¬S k)→V F w' v xs):Fr (my V):=
 fun⟨v,h,hv⟩ hc hF hd=>⟨v,hc.cell (hd _ (fy h) hF) h,hV hv hc hd⟩
theorem my.mo {V:(Nat→Prop)→World→Value→List α→Prop} (hV:∀{F H:Nat→Prop} {w:World} {v:Value} {xs:List α},V F w v xs→(∀k,k<w.heap.size→F k→H k)→V H w v xs):Mo (my V):=
 fun⟨v,h,hv⟩ hd=>⟨v,h,hV hv hd⟩
theorem my.ce {V:(Nat→Prop)→World→Value→List α→Prop}:Ce (my V):=fun⟨_,h,_⟩=>fy h
theorem nQ.mo:Mo nQ:=fun h hd=>⟨h.op,h.a,h.b,h.n,h.kind,h.val,h.index,by obtain⟨v,h1,h2⟩:=h.types;exact⟨v,h1,h2.mono hd⟩,by obtain⟨v,h1,h2⟩:=h.labels;exact⟨v,h1,h2.mono hd⟩,h.KE,h.ra⟩
theorem nQ.ce:Ce nQ:=fun h=>fy h.op
theorem fF.mono {F H:Nat→Prop} {w:World} {v:Value} {xs:List cv} (h:fF F w v xs) (hd:∀k,k<w.heap.size→F k→H k):fF H w v xs:=gF.mono (R:=nQ) nQ.mo nQ.ce h hd
theorem Tr.sl [Inhabited α] {w:World} {t e:TypeId} {cs:List Value} {s bt N:Nat} (R:sY α) (ht:G.P.underlying t=some (.slice e)) (hc:G.P.cellsOf e=s) (hby:G.P.bytesOf e=bt) (h0:0<s) (hN:∀n,n*bt≤140737488351232→n≤N)
  (hR:∀b o cs,cs.length=s→(∀j,j<s→w.cell? ⟨b,o+j,none⟩=cs[j]?)→Tr w e cs→∃y,R (fun _=>True) w b o y) (h:Tr w t cs):
  ∃v xs,cs=[v]∧gF s N R (fun _=>True) w v xs:=by
 obtain⟨p,cap,ys,rfl,hl,h⟩:=h.vu (R (fun _=>True) w) ht hc hby h0 hR
 exact⟨_,ys,rfl,p,cap,rfl,hN _ hl,h⟩
def AtR {α:Type} (n:Nat) (V:(Nat→Prop)→World→List Value→α→Prop):sY α:=fun F w b o x=>∃cs,V F w cs x∧∀j,j<n→w.cell? ⟨b,o+j,none⟩=cs[j]?
section
variable {α:Type} {n t:Nat} {V:(Nat→Prop)→World→List Value→α→Prop}
theorem AtR.ce (hl:∀{F w cs x},V F w cs x→cs.length=n) (hn:0<n):Ce (AtR n V):=fun{F w b o x} ⟨cs,h,hc⟩=>by
 have h0:=hc 0 hn
 have hl:=hl h
 rw[Pw Pi]at h0
 exact fy h0
theorem AtR.fr (hl:∀{F w cs x},V F w cs x→cs.length=n) (hv:∀{F S:Nat→Prop} {w w' cs x},V F w cs x→bX S w w'→(∀k,k<w.heap.size→F k→¬S k)→V F w' cs x):Fr (AtR n V):=fun{F S w w' b o x} ⟨cs,h,hcc⟩ hc hF hd=>⟨cs,hv h hc hd,fun j hj=>by
 have h0:=hcc j hj
 have hl:=hl h
 rw[Pw Pi]at h0 ⊢
 exact hc.cell (hd _ (fy h0) hF) h0⟩
theorem AtR.mo (hv:∀{F H:Nat→Prop} {w cs x},V F w cs x→(∀k,k<w.heap.size→F k→H k)→V H w cs x):Mo (AtR n V):=fun⟨cs,h,hcc⟩ hd=>⟨cs,hv h hd,hcc⟩
theorem AtR.of {w:World} (hv:∀{cs},Tr w t cs→cs.length=n→∃x,V (fun _=>True) w cs x) (b o:Nat) (cs:List Value) (hcl:cs.length=n) (hcc:∀j,j<n→w.cell? ⟨b,o+j,none⟩=cs[j]?) (h:Tr w t cs):∃x,AtR n V (fun _=>True) w b o x:=by
 obtain⟨x,hx⟩:=hv h hcl
 exact⟨x,cs,hx,hcc⟩
end
theorem iW {n:Int} (h:(Lit.int .i64 n).wf=true):eP n:=Ck h
theorem HG (h:cs.length=2):∃c0 c1,cs=[c0,c1]:=by
 match cs,h with|[c0,c1],_=>exact⟨c0,c1,rfl⟩
theorem zT (h:cs.length=3):∃c0 c1 c2,cs=[c0,c1,c2]:=by
 match cs,h with|[c0,c1,c2],_=>exact⟨c0,c1,c2,rfl⟩
theorem HH (h:cs.length=4):∃c0 c1 c2 c3,cs=[c0,c1,c2,c3]:=by
 match cs,h with|[c0,c1,c2,c3],_=>exact⟨c0,c1,c2,c3,rfl⟩
theorem Jd (h:cs.length=5):∃c0 c1 c2 c3 c4,cs=[c0,c1,c2,c3,c4]:=by
 match cs,h with|[c0,c1,c2,c3,c4],_=>exact⟨c0,c1,c2,c3,c4,rfl⟩
theorem Ik (h:cs.length=12):∃c0 c1 c2 c3 c4 c5 c6 c7 c8 c9 c10 c11,cs=[c0,c1,c2,c3,c4,c5,c6,c7,c8,c9,c10,c11]:=by
 match cs,h with|[c0,c1,c2,c3,c4,c5,c6,c7,c8,c9,c10,c11],_=>exact⟨c0,c1,c2,c3,c4,c5,c6,c7,c8,c9,c10,c11,rfl⟩
theorem Il (h:cs.length=13):∃c0 c1 c2 c3 c4 c5 c6 c7 c8 c9 c10 c11 c12,cs=[c0,c1,c2,c3,c4,c5,c6,c7,c8,c9,c10,c11,c12]:=by
 match cs,h with|[c0,c1,c2,c3,c4,c5,c6,c7,c8,c9,c10,c11,c12],_=>exact⟨c0,c1,c2,c3,c4,c5,c6,c7,c8,c9,c10,c11,c12,rfl⟩
structure aO where
 params:List Int
 results:List Int
 deriving Inhabited
def dM (F:Nat→Prop) (w:World) (cs:List Value) (x:aO):Prop:=
 ∃v0 v1:Value,cs=[v0,v1]∧ai F w v0 x.params∧ai F w v1 x.results
def hO:sY aO:=fun F w b o x=>∃cs,dM F w cs x∧∀j,j<2→w.cell? ⟨b,o+j,none⟩=cs[j]?
section
variable {F S H:Nat→Prop} {w w':World} {b o:Nat} {cs:List Value} {x:aO}
theorem dM.len (h:dM F w cs x):cs.length=2:=by
 obtain⟨v0,v1,rfl,r0,r1⟩:=h
 rfl
theorem dM.aN (h:dM F w cs x) (hc:bX S w w') (hd:∀k,k<w.heap.size→F k→¬S k):dM F w' cs x:=by
 obtain⟨v0,v1,rfl,r0,r1⟩:=h
 exact⟨v0,v1,rfl,r0.aN hc hd,r1.aN hc hd⟩
theorem dM.mono (h:dM F w cs x) (hd:∀k,k<w.heap.size→F k→H k):dM H w cs x:=by
 obtain⟨v0,v1,rfl,r0,r1⟩:=h
 exact⟨v0,v1,rfl,r0.mono hd,r1.mono hd⟩
theorem hO.ce:Ce hO:=AtR.ce (V:=dM) dM.len Pi
theorem hO.fr:Fr hO:=AtR.fr (V:=dM) dM.len dM.aN
theorem hO.mo:Mo hO:=AtR.mo (V:=dM) dM.mono
set_option maxRecDepth 100000 in
theorem dM.of (h:Tr w 61 cs) (hcl:cs.length=2):∃x,dM (fun _=>True) w cs x:=by
 obtain⟨c0,c1,rfl⟩:=HG hcl
 obtain⟨-,hf⟩:=h.struct underlying61
 obtain⟨u0,y0,e0,z0⟩:=(show Tr w _ [c0]from Tr.iy hf 0 0 1 rfl Pb).ints underlying49 underlying59 Pb Pb
 cases e0
 obtain⟨u1,y1,e1,z1⟩:=(show Tr w _ [c1]from Tr.iy hf 1 1 1 rfl Pb).ints underlying49 underlying59 Pb Pb
 cases e1
 exact⟨⟨y0,y1⟩,⟨_,_,rfl,z0,z1⟩⟩
end
structure fu where
 min:Int
 max:Int
 has:Bool
 deriving Inhabited
def cP (_F:Nat→Prop) (_w:World) (cs:List Value) (x:fu):Prop:=
 cs=[.int .i64 x.min,.int .i64 x.max,.bool x.has]∧eP x.min∧eP x.max
def dS:sY fu:=fun F w b o x=>∃cs,cP F w cs x∧∀j,j<3→w.cell? ⟨b,o+j,none⟩=cs[j]?
section
variable {F S H:Nat→Prop} {w w':World} {b o:Nat} {cs:List Value} {x:fu}
theorem cP.len (h:cP F w cs x):cs.length=3:=by
 obtain⟨rfl,g0,g1⟩:=h
 rfl
theorem cP.aN (h:cP F w cs x) (_hc:bX S w w') (_hd:∀k,k<w.heap.size→F k→¬S k):cP F w' cs x:=by
 obtain⟨rfl,g0,g1⟩:=h
 exact⟨rfl,g0,g1⟩
theorem cP.mono (h:cP F w cs x) (_hd:∀k,k<w.heap.size→F k→H k):cP H w cs x:=by
 obtain⟨rfl,g0,g1⟩:=h
 exact⟨rfl,g0,g1⟩
theorem dS.ce:Ce dS:=AtR.ce (V:=cP) cP.len Pi
theorem dS.fr:Fr dS:=AtR.fr (V:=cP) cP.len cP.aN
theorem dS.mo:Mo dS:=AtR.mo (V:=cP) cP.mono
theorem dS.has (h:dS F w b o x):w.cell? ⟨b,o+2,none⟩=some (.bool x.has):=by
 obtain⟨_,⟨rfl,_⟩,hc⟩:=h
 exact hc 2 Pi
set_option maxRecDepth 100000 in
theorem cP.of (h:Tr w 85 cs) (hcl:cs.length=3):∃x,cP (fun _=>True) w cs x:=by
 obtain⟨c0,c1,c2,rfl⟩:=zT hcl
 obtain⟨-,hf⟩:=h.struct underlying85
 obtain⟨y0,e0,z0⟩:=(show Tr w _ [c0]from Tr.iy hf 0 0 1 rfl Pb).int underlying3
 cases e0
 obtain⟨y1,e1,z1⟩:=(show Tr w _ [c1]from Tr.iy hf 1 1 1 rfl Pb).int underlying3
 cases e1
 obtain⟨y2,e2⟩:=(show Tr w _ [c2]from Tr.iy hf 2 2 1 rfl Pb).bool underlying4
 cases e2
 exact⟨⟨y0,y1,y2⟩,⟨rfl,iW z0,iW z1⟩⟩
end
structure fJ where
 elem:Int
 m9:fu
 deriving Inhabited
def du (_F:Nat→Prop) (_w:World) (cs:List Value) (x:fJ):Prop:=
 cs=[.int .i64 x.elem,.int .i64 x.m9.min,.int .i64 x.m9.max,.bool x.m9.has]∧eP x.elem∧eP x.m9.min∧eP x.m9.max
def fG:sY fJ:=fun F w b o x=>∃cs,du F w cs x∧∀j,j<4→w.cell? ⟨b,o+j,none⟩=cs[j]?
section
variable {F S H:Nat→Prop} {w w':World} {b o:Nat} {cs:List Value} {x:fJ}
theorem du.len (h:du F w cs x):cs.length=4:=by
 obtain⟨rfl,g0,g1,g2⟩:=h
 rfl
theorem du.aN (h:du F w cs x) (_hc:bX S w w') (_hd:∀k,k<w.heap.size→F k→¬S k):du F w' cs x:=by
 obtain⟨rfl,g0,g1,g2⟩:=h
 exact⟨rfl,g0,g1,g2⟩
theorem du.mono (h:du F w cs x) (_hd:∀k,k<w.heap.size→F k→H k):du H w cs x:=by
 obtain⟨rfl,g0,g1,g2⟩:=h
 exact⟨rfl,g0,g1,g2⟩
theorem fG.ce:Ce fG:=AtR.ce (V:=du) du.len Pi
theorem fG.fr:Fr fG:=AtR.fr (V:=du) du.len du.aN
theorem fG.mo:Mo fG:=AtR.mo (V:=du) du.mono
set_option maxRecDepth 100000 in
theorem du.of (h:Tr w 87 cs) (hcl:cs.length=4):∃x,du (fun _=>True) w cs x:=by
 obtain⟨c0,c1,c2,c3,rfl⟩:=HH hcl
 obtain⟨-,hf⟩:=h.struct underlying87
 obtain⟨y0,e0,z0⟩:=(show Tr w _ [c0]from Tr.iy hf 0 0 1 rfl Pb).int underlying59
 cases e0
 obtain⟨y1,q1⟩:=cP.of (show Tr w _ [c1,c2,c3]from Tr.iy hf 1 1 3 rfl Pb) rfl
 obtain⟨e1,k1_0,k1_1⟩:=q1
 cases e1
 exact⟨⟨y0,y1⟩,⟨rfl,iW z0,k1_0,k1_1⟩⟩
end
structure iM where
 nY:Int
 sD:Bool
 deriving Inhabited
def na (_F:Nat→Prop) (_w:World) (cs:List Value) (x:iM):Prop:=
 cs=[.int .i64 x.nY,.bool x.sD]∧eP x.nY
section
variable {F S H:Nat→Prop} {w w':World} {b o:Nat} {cs:List Value} {x:iM}
set_option maxRecDepth 100000 in
theorem na.of (h:Tr w 89 cs) (hcl:cs.length=2):∃x,na (fun _=>True) w cs x:=by
 obtain⟨c0,c1,rfl⟩:=HG hcl
 obtain⟨-,hf⟩:=h.struct underlying89
 obtain⟨y0,e0,z0⟩:=(show Tr w _ [c0]from Tr.iy hf 0 0 1 rfl Pb).int underlying59
 cases e0
 obtain⟨y1,e1⟩:=(show Tr w _ [c1]from Tr.iy hf 1 1 1 rfl Pb).bool underlying4
 cases e1
 exact⟨⟨y0,y1⟩,⟨rfl,iW z0⟩⟩
end
structure bY where
 module:ByteArray
 name:ByteArray
 kind:Int
 func:Int
 table:fJ
 mem:fu
 ff:iM
 deriving Inhabited
def cO (_F:Nat→Prop) (_w:World) (cs:List Value) (x:bY):Prop:=
 cs=[.string x.module,.string x.name,.int .i64 x.kind,.int .i64 x.func,.int .i64 x.table.elem,.int .i64 x.table.m9.min,.int .i64 x.table.m9.max,.bool x.table.m9.has,.int .i64 x.mem.min,.int .i64 x.mem.max,.bool x.mem.has,.int .i64 x.ff.nY,.bool x.ff.sD]∧x.module.size≤140737488351232∧x.name.size≤140737488351232∧eP x.kind∧eP x.func∧eP x.table.elem∧eP x.table.m9.min∧eP x.table.m9.max∧eP x.mem.min∧eP x.mem.max∧eP x.ff.nY
def dz:sY bY:=fun F w b o x=>∃cs,cO F w cs x∧∀j,j<13→w.cell? ⟨b,o+j,none⟩=cs[j]?
section
variable {F S H:Nat→Prop} {w w':World} {b o:Nat} {cs:List Value} {x:bY}
theorem cO.len (h:cO F w cs x):cs.length=13:=by
 obtain⟨rfl,g0,g1,g2,g3,g4,g5,g6,g7,g8,g9⟩:=h
 rfl
theorem cO.aN (h:cO F w cs x) (_hc:bX S w w') (_hd:∀k,k<w.heap.size→F k→¬S k):cO F w' cs x:=by
 obtain⟨rfl,g0,g1,g2,g3,g4,g5,g6,g7,g8,g9⟩:=h
 exact⟨rfl,g0,g1,g2,g3,g4,g5,g6,g7,g8,g9⟩
theorem cO.mono (h:cO F w cs x) (_hd:∀k,k<w.heap.size→F k→H k):cO H w cs x:=by
 obtain⟨rfl,g0,g1,g2,g3,g4,g5,g6,g7,g8,g9⟩:=h
 exact⟨rfl,g0,g1,g2,g3,g4,g5,g6,g7,g8,g9⟩
theorem dz.ce:Ce dz:=AtR.ce (V:=cO) cO.len Pi
theorem dz.fr:Fr dz:=AtR.fr (V:=cO) cO.len cO.aN
theorem dz.mo:Mo dz:=AtR.mo (V:=cO) cO.mono
theorem dz.kind (h:dz F w b o x):w.cell? ⟨b,o+2,none⟩=some (.int .i64 x.kind):=by
 obtain⟨_,⟨rfl,_⟩,hc⟩:=h
 exact hc 2 Pi
theorem cO.Bn (h:cO F w cs x):eP x.kind:=by
 obtain⟨rfl,g0,g1,g2,g3,g4,g5,g6,g7,g8,g9⟩:=h
 exact g2
theorem dz.Bn (h:dz F w b o x):eP x.kind:=by
 obtain⟨cs,hv,hc⟩:=h
 exact hv.Bn
set_option maxRecDepth 100000 in
theorem cO.of (h:Tr w 91 cs) (hcl:cs.length=13):∃x,cO (fun _=>True) w cs x:=by
 obtain⟨c0,c1,c2,c3,c4,c5,c6,c7,c8,c9,c10,c11,c12,rfl⟩:=Il hcl
 obtain⟨-,hf⟩:=h.struct underlying91
 obtain⟨y0,e0,z0⟩:=(show Tr w _ [c0]from Tr.iy hf 0 0 1 rfl Pb).string underlying9
 rw[mT]at z0
 cases e0
 obtain⟨y1,e1,z1⟩:=(show Tr w _ [c1]from Tr.iy hf 1 1 1 rfl Pb).string underlying9
 rw[mT]at z1
 cases e1
 obtain⟨y2,e2,z2⟩:=(show Tr w _ [c2]from Tr.iy hf 2 2 1 rfl Pb).int underlying83
 cases e2
 obtain⟨y3,e3,z3⟩:=(show Tr w _ [c3]from Tr.iy hf 3 3 1 rfl Pb).int underlying3
 cases e3
 obtain⟨y4,q4⟩:=du.of (show Tr w _ [c4,c5,c6,c7]from Tr.iy hf 4 4 4 rfl Pb) rfl
 obtain⟨e4,k4_0,k4_1,k4_2⟩:=q4
 cases e4
 obtain⟨y5,q5⟩:=cP.of (show Tr w _ [c8,c9,c10]from Tr.iy hf 5 8 3 rfl Pb) rfl
 obtain⟨e5,k5_0,k5_1⟩:=q5
 cases e5
 obtain⟨y6,q6⟩:=na.of (show Tr w _ [c11,c12]from Tr.iy hf 6 11 2 rfl Pb) rfl
 obtain⟨e6,k6_0⟩:=q6
 cases e6
 exact⟨⟨y0,y1,y2,y3,y4,y5,y6⟩,⟨rfl,z0,z1,iW z2,iW z3,k4_0,k4_1,k4_2,k5_0,k5_1,k6_0⟩⟩
end
structure qq where
 dI:Int
 locals:List Int
 body:List cv
 deriving Inhabited
def dW (F:Nat→Prop) (w:World) (cs:List Value) (x:qq):Prop:=
 ∃v0 v1:Value,cs=[.int .i64 x.dI,v0,v1]∧ai F w v0 x.locals∧fF F w v1 x.body∧eP x.dI
def fW:sY qq:=fun F w b o x=>∃cs,dW F w cs x∧∀j,j<3→w.cell? ⟨b,o+j,none⟩=cs[j]?
section
variable {F S H:Nat→Prop} {w w':World} {b o:Nat} {cs:List Value} {x:qq}
theorem dW.len (h:dW F w cs x):cs.length=3:=by
 obtain⟨v0,v1,rfl,r0,r1,g0⟩:=h
 rfl
theorem dW.aN (h:dW F w cs x) (hc:bX S w w') (hd:∀k,k<w.heap.size→F k→¬S k):dW F w' cs x:=by
 obtain⟨v0,v1,rfl,r0,r1,g0⟩:=h
 exact⟨v0,v1,rfl,r0.aN hc hd,r1.aN hc hd,g0⟩
theorem dW.mono (h:dW F w cs x) (hd:∀k,k<w.heap.size→F k→H k):dW H w cs x:=by
 obtain⟨v0,v1,rfl,r0,r1,g0⟩:=h
 exact⟨v0,v1,rfl,r0.mono hd,r1.mono hd,g0⟩
theorem fW.ce:Ce fW:=AtR.ce (V:=dW) dW.len Pi
theorem fW.fr:Fr fW:=AtR.fr (V:=dW) dW.len dW.aN
theorem fW.mo:Mo fW:=AtR.mo (V:=dW) dW.mono
theorem fW.dI (h:fW F w b o x):w.cell? ⟨b,o,none⟩=some (.int .i64 x.dI):=by
 obtain⟨_,⟨_,_,rfl,_⟩,hc⟩:=h
 exact hc 0 Pi
set_option maxRecDepth 100000 in
theorem dW.of (h:Tr w 58 cs) (hcl:cs.length=3):∃x,dW (fun _=>True) w cs x:=by
 obtain⟨c0,c1,c2,rfl⟩:=zT hcl
 obtain⟨-,hf⟩:=h.struct underlying58
 obtain⟨y0,e0,z0⟩:=(show Tr w _ [c0]from Tr.iy hf 0 0 1 rfl Pb).int underlying3
 cases e0
 obtain⟨u1,y1,e1,z1⟩:=(show Tr w _ [c1]from Tr.iy hf 1 1 1 rfl Pb).ints underlying49 underlying59 Pb Pb
 cases e1
 obtain⟨u2,y2,e2,z2⟩:=(show Tr w _ [c2]from Tr.iy hf 2 2 1 rfl Pb).body
 cases e2
 exact⟨⟨y0,y1,y2⟩,⟨_,_,rfl,z1,z2,iW z0⟩⟩
end
structure gW where
 dI:iM
 nN:List cv
 deriving Inhabited
def bT (F:Nat→Prop) (w:World) (cs:List Value) (x:gW):Prop:=
 ∃v0:Value,cs=[.int .i64 x.dI.nY,.bool x.dI.sD,v0]∧fF F w v0 x.nN∧eP x.dI.nY
def cV:sY gW:=fun F w b o x=>∃cs,bT F w cs x∧∀j,j<3→w.cell? ⟨b,o+j,none⟩=cs[j]?
section
variable {F S H:Nat→Prop} {w w':World} {b o:Nat} {cs:List Value} {x:gW}
theorem bT.len (h:bT F w cs x):cs.length=3:=by
 obtain⟨v0,rfl,r0,g0⟩:=h
 rfl
theorem bT.aN (h:bT F w cs x) (hc:bX S w w') (hd:∀k,k<w.heap.size→F k→¬S k):bT F w' cs x:=by
 obtain⟨v0,rfl,r0,g0⟩:=h
 exact⟨v0,rfl,r0.aN hc hd,g0⟩
theorem bT.mono (h:bT F w cs x) (hd:∀k,k<w.heap.size→F k→H k):bT H w cs x:=by
 obtain⟨v0,rfl,r0,g0⟩:=h
 exact⟨v0,rfl,r0.mono hd,g0⟩
theorem cV.ce:Ce cV:=AtR.ce (V:=bT) bT.len Pi
theorem cV.fr:Fr cV:=AtR.fr (V:=bT) bT.len bT.aN
theorem cV.mo:Mo cV:=AtR.mo (V:=bT) bT.mono
theorem cV.nN (h:cV F w b o x):∃v,w.cell? ⟨b,o+2,none⟩=some v∧fF F w v x.nN:=by
 obtain⟨_,⟨_,rfl,r0,_⟩,hc⟩:=h
 exact⟨_,hc 2 Pi,r0⟩
set_option maxRecDepth 100000 in
theorem bT.of (h:Tr w 95 cs) (hcl:cs.length=3):∃x,bT (fun _=>True) w cs x:=by
 obtain⟨c0,c1,c2,rfl⟩:=zT hcl
 obtain⟨-,hf⟩:=h.struct underlying95
 obtain⟨y0,q0⟩:=na.of (show Tr w _ [c0,c1]from Tr.iy hf 0 0 2 rfl Pb) rfl
 obtain⟨e0,k0_0⟩:=q0
 cases e0
 obtain⟨u1,y1,e1,z1⟩:=(show Tr w _ [c2]from Tr.iy hf 1 2 1 rfl Pb).body
 cases e1
 exact⟨⟨y0,y1⟩,⟨_,rfl,z1,k0_0⟩⟩
end
structure mw where
 name:ByteArray
 kind:Int
 index:Int
 deriving Inhabited
def cM (_F:Nat→Prop) (_w:World) (cs:List Value) (x:mw):Prop:=
 cs=[.string x.name,.int .i64 x.kind,.int .i64 x.index]∧x.name.size≤140737488351232∧eP x.kind∧eP x.index
def dw:sY mw:=fun F w b o x=>∃cs,cM F w cs x∧∀j,j<3→w.cell? ⟨b,o+j,none⟩=cs[j]?
section
variable {F S H:Nat→Prop} {w w':World} {b o:Nat} {cs:List Value} {x:mw}
theorem cM.len (h:cM F w cs x):cs.length=3:=by
 obtain⟨rfl,g0,g1,g2⟩:=h
 rfl
theorem cM.aN (h:cM F w cs x) (_hc:bX S w w') (_hd:∀k,k<w.heap.size→F k→¬S k):cM F w' cs x:=by
 obtain⟨rfl,g0,g1,g2⟩:=h
 exact⟨rfl,g0,g1,g2⟩
theorem cM.mono (h:cM F w cs x) (_hd:∀k,k<w.heap.size→F k→H k):cM H w cs x:=by
 obtain⟨rfl,g0,g1,g2⟩:=h
 exact⟨rfl,g0,g1,g2⟩
theorem dw.ce:Ce dw:=AtR.ce (V:=cM) cM.len Pi
theorem dw.fr:Fr dw:=AtR.fr (V:=cM) cM.len cM.aN
theorem dw.mo:Mo dw:=AtR.mo (V:=cM) cM.mono
theorem dw.kind (h:dw F w b o x):w.cell? ⟨b,o+1,none⟩=some (.int .i64 x.kind):=by
 obtain⟨_,⟨rfl,_⟩,hc⟩:=h
 exact hc 1 Pi
theorem dw.index (h:dw F w b o x):w.cell? ⟨b,o+2,none⟩=some (.int .i64 x.index):=by
 obtain⟨_,⟨rfl,_⟩,hc⟩:=h
 exact hc 2 Pi
theorem cM.ye (h:cM F w cs x):eP x.index:=by
 obtain⟨rfl,g0,g1,g2⟩:=h
 exact g2
theorem dw.ye (h:dw F w b o x):eP x.index:=by
 obtain⟨cs,hv,hc⟩:=h
 exact hv.ye
set_option maxRecDepth 100000 in
theorem cM.of (h:Tr w 100 cs) (hcl:cs.length=3):∃x,cM (fun _=>True) w cs x:=by
 obtain⟨c0,c1,c2,rfl⟩:=zT hcl
 obtain⟨-,hf⟩:=h.struct underlying100
 obtain⟨y0,e0,z0⟩:=(show Tr w _ [c0]from Tr.iy hf 0 0 1 rfl Pb).string underlying9
 rw[mT]at z0
 cases e0
 obtain⟨y1,e1,z1⟩:=(show Tr w _ [c1]from Tr.iy hf 1 1 1 rfl Pb).int underlying83
 cases e1
 obtain⟨y2,e2,z2⟩:=(show Tr w _ [c2]from Tr.iy hf 2 2 1 rfl Pb).int underlying3
 cases e2
 exact⟨⟨y0,y1,y2⟩,⟨rfl,z0,iW z1,iW z2⟩⟩
end
structure qs where
 mode:Int
 table:Int
 offset:List cv
 dI:Int
 items:List (List cv)
 deriving Inhabited
def dY (F:Nat→Prop) (w:World) (cs:List Value) (x:qs):Prop:=
 ∃v0 v1:Value,cs=[.int .i64 x.mode,.int .i64 x.table,v0,.int .i64 x.dI,v1]∧fF F w v0 x.offset∧gF 1 5864062014634 (my fF) F w v1 x.items∧eP x.mode∧eP x.table∧eP x.dI
def fB:sY qs:=fun F w b o x=>∃cs,dY F w cs x∧∀j,j<5→w.cell? ⟨b,o+j,none⟩=cs[j]?
section
variable {F S H:Nat→Prop} {w w':World} {b o:Nat} {cs:List Value} {x:qs}
theorem dY.len (h:dY F w cs x):cs.length=5:=by
 obtain⟨v0,v1,rfl,r0,r1,g0,g1,g2⟩:=h
 rfl
theorem dY.aN (h:dY F w cs x) (hc:bX S w w') (hd:∀k,k<w.heap.size→F k→¬S k):dY F w' cs x:=by
 obtain⟨v0,v1,rfl,r0,r1,g0,g1,g2⟩:=h
 exact⟨v0,v1,rfl,r0.aN hc hd,gF.aN (my.fr (fun h hc hd=>h.aN hc hd)) my.ce r1 hc hd,g0,g1,g2⟩
theorem dY.mono (h:dY F w cs x) (hd:∀k,k<w.heap.size→F k→H k):dY H w cs x:=by
 obtain⟨v0,v1,rfl,r0,r1,g0,g1,g2⟩:=h
 exact⟨v0,v1,rfl,r0.mono hd,gF.mono (my.mo (fun h hd=>h.mono hd)) my.ce r1 hd,g0,g1,g2⟩
theorem fB.ce:Ce fB:=AtR.ce (V:=dY) dY.len Pi
theorem fB.fr:Fr fB:=AtR.fr (V:=dY) dY.len dY.aN
theorem fB.mo:Mo fB:=AtR.mo (V:=dY) dY.mono
theorem fB.dI (h:fB F w b o x):w.cell? ⟨b,o+3,none⟩=some (.int .i64 x.dI):=by
 obtain⟨_,⟨_,_,rfl,_⟩,hc⟩:=h
 exact hc 3 Pi
theorem fB.items (h:fB F w b o x):∃v,w.cell? ⟨b,o+4,none⟩=some v∧gF 1 5864062014634 (my fF) F w v x.items:=by
 obtain⟨_,⟨_,_,rfl,_,r1,_⟩,hc⟩:=h
 exact⟨_,hc 4 Pi,r1⟩
set_option maxRecDepth 100000 in
theorem dY.of (h:Tr w 98 cs) (hcl:cs.length=5):∃x,dY (fun _=>True) w cs x:=by
 obtain⟨c0,c1,c2,c3,c4,rfl⟩:=Jd hcl
 obtain⟨-,hf⟩:=h.struct underlying98
 obtain⟨y0,e0,z0⟩:=(show Tr w _ [c0]from Tr.iy hf 0 0 1 rfl Pb).int underlying3
 cases e0
 obtain⟨y1,e1,z1⟩:=(show Tr w _ [c1]from Tr.iy hf 1 1 1 rfl Pb).int underlying3
 cases e1
 obtain⟨u2,y2,e2,z2⟩:=(show Tr w _ [c2]from Tr.iy hf 2 2 1 rfl Pb).body
 cases e2
 obtain⟨y3,e3,z3⟩:=(show Tr w _ [c3]from Tr.iy hf 3 3 1 rfl Pb).int underlying59
 cases e3
 obtain⟨u4,y4,e4,z4⟩:=(show Tr w _ [c4]from Tr.iy hf 4 4 1 rfl Pb).sl (s:=1) (bt:=24) (N:=5864062014634) (my fF) underlying96 Pb Pb Pi (fun n hn=>by omega) (fun b o cs _ h2 h3=>by obtain⟨v,xs,rfl,h⟩:=(h3).body;exact⟨xs,v,h2 0 Pi,h⟩)
 cases e4
 exact⟨⟨y0,y1,y2,y3,y4⟩,⟨_,_,rfl,z2,z4,iW z0,iW z1,iW z3⟩⟩
end
structure sW where
 mode:Int
 mem:Int
 offset:List cv
 bytes:List Int
 deriving Inhabited
def dX (F:Nat→Prop) (w:World) (cs:List Value) (x:sW):Prop:=
 ∃v0 v1:Value,cs=[.int .i64 x.mode,.int .i64 x.mem,v0,v1]∧fF F w v0 x.offset∧gF 1 140737488351232 (jQ .u8) F w v1 x.bytes∧eP x.mode∧eP x.mem
def hH:sY sW:=fun F w b o x=>∃cs,dX F w cs x∧∀j,j<4→w.cell? ⟨b,o+j,none⟩=cs[j]?
section
variable {F S H:Nat→Prop} {w w':World} {b o:Nat} {cs:List Value} {x:sW}
theorem dX.len (h:dX F w cs x):cs.length=4:=by
 obtain⟨v0,v1,rfl,r0,r1,g0,g1⟩:=h
 rfl
theorem dX.aN (h:dX F w cs x) (hc:bX S w w') (hd:∀k,k<w.heap.size→F k→¬S k):dX F w' cs x:=by
 obtain⟨v0,v1,rfl,r0,r1,g0,g1⟩:=h
 exact⟨v0,v1,rfl,r0.aN hc hd,gF.aN (jQ.fr _) (jQ.ce _) r1 hc hd,g0,g1⟩
theorem dX.mono (h:dX F w cs x) (hd:∀k,k<w.heap.size→F k→H k):dX H w cs x:=by
 obtain⟨v0,v1,rfl,r0,r1,g0,g1⟩:=h
 exact⟨v0,v1,rfl,r0.mono hd,gF.mono (jQ.mo _) (jQ.ce _) r1 hd,g0,g1⟩
theorem hH.ce:Ce hH:=AtR.ce (V:=dX) dX.len Pi
theorem hH.fr:Fr hH:=AtR.fr (V:=dX) dX.len dX.aN
theorem hH.mo:Mo hH:=AtR.mo (V:=dX) dX.mono
set_option maxRecDepth 100000 in
theorem dX.of (h:Tr w 321 cs) (hcl:cs.length=4):∃x,dX (fun _=>True) w cs x:=by
 obtain⟨c0,c1,c2,c3,rfl⟩:=HH hcl
 obtain⟨-,hf⟩:=h.struct underlying321
 obtain⟨y0,e0,z0⟩:=(show Tr w _ [c0]from Tr.iy hf 0 0 1 rfl Pb).int underlying3
 cases e0
 obtain⟨y1,e1,z1⟩:=(show Tr w _ [c1]from Tr.iy hf 1 1 1 rfl Pb).int underlying3
 cases e1
 obtain⟨u2,y2,e2,z2⟩:=(show Tr w _ [c2]from Tr.iy hf 2 2 1 rfl Pb).body
 cases e2
 obtain⟨u3,y3,e3,z3⟩:=(show Tr w _ [c3]from Tr.iy hf 3 3 1 rfl Pb).sl (s:=1) (bt:=1) (N:=140737488351232) (jQ .u8) underlying319 Pb Pb Pi (fun n hn=>by omega) (fun b o cs _ h2 h3=>by obtain⟨n,rfl,_⟩:=h3.int underlying5;exact⟨n,h2 0 Pi⟩)
 cases e3
 exact⟨⟨y0,y1,y2,y3⟩,⟨_,_,rfl,z2,z3,iW z0,iW z1⟩⟩
end
structure oR where
 after:Int
 name:ByteArray
 bytes:List Int
 deriving Inhabited
def dh (F:Nat→Prop) (w:World) (cs:List Value) (x:oR):Prop:=
 ∃v0:Value,cs=[.int .i64 x.after,.string x.name,v0]∧gF 1 140737488351232 (jQ .u8) F w v0 x.bytes∧eP x.after∧x.name.size≤140737488351232
def fA:sY oR:=fun F w b o x=>∃cs,dh F w cs x∧∀j,j<3→w.cell? ⟨b,o+j,none⟩=cs[j]?
section
variable {F S H:Nat→Prop} {w w':World} {b o:Nat} {cs:List Value} {x:oR}
theorem dh.len (h:dh F w cs x):cs.length=3:=by
 obtain⟨v0,rfl,r0,g0,g1⟩:=h
 rfl
theorem dh.aN (h:dh F w cs x) (hc:bX S w w') (hd:∀k,k<w.heap.size→F k→¬S k):dh F w' cs x:=by
 obtain⟨v0,rfl,r0,g0,g1⟩:=h
 exact⟨v0,rfl,gF.aN (jQ.fr _) (jQ.ce _) r0 hc hd,g0,g1⟩
theorem dh.mono (h:dh F w cs x) (hd:∀k,k<w.heap.size→F k→H k):dh H w cs x:=by
 obtain⟨v0,rfl,r0,g0,g1⟩:=h
 exact⟨v0,rfl,gF.mono (jQ.mo _) (jQ.ce _) r0 hd,g0,g1⟩
theorem fA.ce:Ce fA:=AtR.ce (V:=dh) dh.len Pi
theorem fA.fr:Fr fA:=AtR.fr (V:=dh) dh.len dh.aN
theorem fA.mo:Mo fA:=AtR.mo (V:=dh) dh.mono
set_option maxRecDepth 100000 in
theorem dh.of (h:Tr w 323 cs) (hcl:cs.length=3):∃x,dh (fun _=>True) w cs x:=by
 obtain⟨c0,c1,c2,rfl⟩:=zT hcl
 obtain⟨-,hf⟩:=h.struct underlying323
 obtain⟨y0,e0,z0⟩:=(show Tr w _ [c0]from Tr.iy hf 0 0 1 rfl Pb).int underlying3
 cases e0
 obtain⟨y1,e1,z1⟩:=(show Tr w _ [c1]from Tr.iy hf 1 1 1 rfl Pb).string underlying9
 rw[mT]at z1
 cases e1
 obtain⟨u2,y2,e2,z2⟩:=(show Tr w _ [c2]from Tr.iy hf 2 2 1 rfl Pb).sl (s:=1) (bt:=1) (N:=140737488351232) (jQ .u8) underlying319 Pb Pb Pi (fun n hn=>by omega) (fun b o cs _ h2 h3=>by obtain⟨n,rfl,_⟩:=h3.int underlying5;exact⟨n,h2 0 Pi⟩)
 cases e2
 exact⟨⟨y0,y1,y2⟩,⟨_,rfl,z2,iW z0,z1⟩⟩
end
structure af where
 types:List aO
 imports:List bY
 funcs:List qq
 tables:List fJ
 bQ:List fu
 globals:List gW
 aJ:List mw
 aI:Bool
 start:Int
 elems:List qs
 bg:List sW
 bE:List oR
 deriving Inhabited
def au (F:Nat→Prop) (w:World) (cs:List Value) (x:af):Prop:=
 ∃v0 v1 v2 v3 v4 v5 v6 v7 v8 v9:Value,cs=[v0,v1,v2,v3,v4,v5,v6,.bool x.aI,.int .i64 x.start,v7,v8,v9]∧gF 2 2932031007317 hO F w v0 x.types∧gF 13 1172812402926 dz F w v1 x.imports∧gF 3 2513169434843 fW F w v2 x.funcs∧gF 4 4398046510976 fG F w v3 x.tables∧gF 3 5864062014634 dS F w v4 x.bQ∧gF 3 3518437208780 cV F w v5 x.globals∧gF 3 4398046510976 dw F w v6 x.aJ∧gF 5 1954687338211 fB F w v7 x.elems∧gF 4 2199023255488 hH F w v8 x.bg∧gF 3 2932031007317 fA F w v9 x.bE∧eP x.start
section
variable {F S H:Nat→Prop} {w w':World} {b o:Nat} {cs:List Value} {x:af}
theorem au.aN (h:au F w cs x) (hc:bX S w w') (hd:∀k,k<w.heap.size→F k→¬S k):au F w' cs x:=by
 obtain⟨v0,v1,v2,v3,v4,v5,v6,v7,v8,v9,rfl,r0,r1,r2,r3,r4,r5,r6,r7,r8,r9,g0⟩:=h
 exact⟨v0,v1,v2,v3,v4,v5,v6,v7,v8,v9,rfl,gF.aN hO.fr hO.ce r0 hc hd,gF.aN dz.fr dz.ce r1 hc hd,gF.aN fW.fr fW.ce r2 hc hd,gF.aN fG.fr fG.ce r3 hc hd,gF.aN dS.fr dS.ce r4 hc hd,gF.aN cV.fr cV.ce r5 hc hd,gF.aN dw.fr dw.ce r6 hc hd,gF.aN fB.fr fB.ce r7 hc hd,gF.aN hH.fr hH.ce r8 hc hd,gF.aN fA.fr fA.ce r9 hc hd,g0⟩
theorem au.mono (h:au F w cs x) (hd:∀k,k<w.heap.size→F k→H k):au H w cs x:=by
 obtain⟨v0,v1,v2,v3,v4,v5,v6,v7,v8,v9,rfl,r0,r1,r2,r3,r4,r5,r6,r7,r8,r9,g0⟩:=h
 exact⟨v0,v1,v2,v3,v4,v5,v6,v7,v8,v9,rfl,gF.mono hO.mo hO.ce r0 hd,gF.mono dz.mo dz.ce r1 hd,gF.mono fW.mo fW.ce r2 hd,gF.mono fG.mo fG.ce r3 hd,gF.mono dS.mo dS.ce r4 hd,gF.mono cV.mo cV.ce r5 hd,gF.mono dw.mo dw.ce r6 hd,gF.mono fB.mo fB.ce r7 hd,gF.mono hH.mo hH.ce r8 hd,gF.mono fA.mo fA.ce r9 hd,g0⟩
set_option maxRecDepth 100000 in
theorem au.of (h:Tr w 33 cs) (hcl:cs.length=12):∃x,au (fun _=>True) w cs x:=by
 obtain⟨c0,c1,c2,c3,c4,c5,c6,c7,c8,c9,c10,c11,rfl⟩:=Ik hcl
 obtain⟨-,hf⟩:=h.struct underlying33
 obtain⟨u0,y0,e0,z0⟩:=(show Tr w _ [c0]from Tr.iy hf 0 0 1 rfl Pb).sl (s:=2) (bt:=48) (N:=2932031007317) hO underlying22 Pb Pb Pi (fun n hn=>by omega) (AtR.of (V:=dM) dM.of)
 cases e0
 obtain⟨u1,y1,e1,z1⟩:=(show Tr w _ [c1]from Tr.iy hf 1 1 1 rfl Pb).sl (s:=13) (bt:=120) (N:=1172812402926) dz underlying23 Pb Pb Pi (fun n hn=>by omega) (AtR.of (V:=cO) cO.of)
 cases e1
 obtain⟨u2,y2,e2,z2⟩:=(show Tr w _ [c2]from Tr.iy hf 2 2 1 rfl Pb).sl (s:=3) (bt:=56) (N:=2513169434843) fW underlying24 Pb Pb Pi (fun n hn=>by omega) (AtR.of (V:=dW) dW.of)
 cases e2
 obtain⟨u3,y3,e3,z3⟩:=(show Tr w _ [c3]from Tr.iy hf 3 3 1 rfl Pb).sl (s:=4) (bt:=32) (N:=4398046510976) fG underlying25 Pb Pb Pi (fun n hn=>by omega) (AtR.of (V:=du) du.of)
 cases e3
 obtain⟨u4,y4,e4,z4⟩:=(show Tr w _ [c4]from Tr.iy hf 4 4 1 rfl Pb).sl (s:=3) (bt:=24) (N:=5864062014634) dS underlying26 Pb Pb Pi (fun n hn=>by omega) (AtR.of (V:=cP) cP.of)
 cases e4
 obtain⟨u5,y5,e5,z5⟩:=(show Tr w _ [c5]from Tr.iy hf 5 5 1 rfl Pb).sl (s:=3) (bt:=40) (N:=3518437208780) cV underlying27 Pb Pb Pi (fun n hn=>by omega) (AtR.of (V:=bT) bT.of)
 cases e5
 obtain⟨u6,y6,e6,z6⟩:=(show Tr w _ [c6]from Tr.iy hf 6 6 1 rfl Pb).sl (s:=3) (bt:=32) (N:=4398046510976) dw underlying28 Pb Pb Pi (fun n hn=>by omega) (AtR.of (V:=cM) cM.of)
 cases e6
 obtain⟨y7,e7⟩:=(show Tr w _ [c7]from Tr.iy hf 7 7 1 rfl Pb).bool underlying4
 cases e7
 obtain⟨y8,e8,z8⟩:=(show Tr w _ [c8]from Tr.iy hf 8 8 1 rfl Pb).int underlying3
 cases e8
 obtain⟨u9,y9,e9,z9⟩:=(show Tr w _ [c9]from Tr.iy hf 9 9 1 rfl Pb).sl (s:=5) (bt:=72) (N:=1954687338211) fB underlying29 Pb Pb Pi (fun n hn=>by omega) (AtR.of (V:=dY) dY.of)
 cases e9
 obtain⟨KI,y10,e10,z10⟩:=(show Tr w _ [c10]from Tr.iy hf 10 10 1 rfl Pb).sl (s:=4) (bt:=64) (N:=2199023255488) hH underlying30 Pb Pb Pi (fun n hn=>by omega) (AtR.of (V:=dX) dX.of)
 cases e10
 obtain⟨JK,y11,e11,z11⟩:=(show Tr w _ [c11]from Tr.iy hf 11 11 1 rfl Pb).sl (s:=3) (bt:=48) (N:=2932031007317) fA underlying31 Pb Pb Pi (fun n hn=>by omega) (AtR.of (V:=dh) dh.of)
 cases e11
 exact⟨⟨y0,y1,y2,y3,y4,y5,y6,y7,y8,y9,y10,y11⟩,⟨_,_,_,_,_,_,_,_,_,_,rfl,z0,z1,z2,z3,z4,z5,z6,z9,z10,z11,iW z8⟩⟩
end
structure EB where
 kind:Int
 nY:Int
 index:Int
 deriving Inhabited
structure Gq where
 live:Bool
 stack:List Int
 deriving Inhabited
structure EC where
 live:Bool
 stack:List Int
 deriving Inhabited
structure zm where
 l:List Int
 marks:List Int
 loose:List Bool
 bR:Int
 deriving Inhabited
structure zn where
 op:Int
 t:aO
 live:Bool
 lq:Bool
 deriving Inhabited
structure EI where
 s:zm
 JY:List zn
 results:List Int
 broken:Int
 deriving Inhabited
structure w8 where
 at_:Int
 loose:Bool
 deriving Inhabited
structure A5 where
 types:List Int
 parts:List w8
 over:Bool
 deriving Inhabited
structure C2 where
 ends:List Int
 Kv:List Int
 JV:List Int
 Ky:List Int
 deriving Inhabited
structure C0 where
 kind:Int
 t:aO
 other:Bool
 live:Bool
 deriving Inhabited
structure C1 where
 at_:Int
 Ma:Bool
 deriving Inhabited
structure Gp where
 f:aO
 e:Int
 deriving Inhabited
structure HV where
 op:Int
 name:ByteArray
 Md:Int
 deriving Inhabited
structure C3 where
 first:Int
 head:ByteArray
 KF:ByteArray
 deriving Inhabited
def eG (op:Int):Bool:=op==2 || op==3 || op==4
theorem nr (op:Int) (w:World):Calls G.P 60 #[.int .i64 op] w fun e w'=>e=.returned (.bool (eG op))∧w=w':=by
 by_cases h1:op=2
 ·refine enter (G:=G) func60 rfl ntmps60 rfl ?_
  refine lu ?_
  refine Fin.aG rfl rfl ⟨?_,rfl⟩
  simp[eG,h1]
 ·by_cases h2:op=3
  ·refine enter (G:=G) func60 rfl ntmps60 rfl ?_
   refine lu ?_
   refine Fin.aG rfl rfl ⟨?_,rfl⟩
   simp[eG,h2]
  ·by_cases h3:op=4
   all_goals
    refine enter (G:=G) func60 rfl ntmps60 rfl ?_
    refine lu ?_
    refine Fin.aG rfl rfl ⟨?_,rfl⟩
    simp[eG,h1,h2,h3]
theorem tN [Inhabited α] {l m:List α} {i:Nat} (h:i<l.length):ix (l++m) i=ix l i:=by
 rw[cz h,cz (by rw[List.length_append];omega),List.getElem_append_left h]
theorem tM [Inhabited α] {l:List α} {a:α} {i:Nat} (h:i=l.length):ix (l++[a]) i=a:=by
 subst h;rw[cz Pj];simp
end Go.Proofs.YtdkcljdfbemnbaaGreatDoor
