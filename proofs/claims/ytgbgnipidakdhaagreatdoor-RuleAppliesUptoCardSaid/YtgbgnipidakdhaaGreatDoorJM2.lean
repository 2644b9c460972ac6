/- From the statement's readings of the arguments to the own relations: what a typed reading of cells gives, type by type. -/
import Derived.Test.YtgbgnipidakdhaaGreatDoorJF2
import Derived.Deep.Slices
import Derived.SizedLaws
import Derived.Test.YtgbgnipidakdhaaGreatDoorJG
import Derived.Test.YtgbgnipidakdhaaGreatDoorJA
namespace Go.Proofs.YtgbgnipidakdhaaGreatDoor
open Go.RowKit Go.Deep
def Tr (w:World) (t:TypeId) (cs:List Value):Prop:=
 ∃(H:Type) (enc:TypeId×Value→H) (spare:Nat→Bool) (held:Bool) (fuel:Nat) (x:DataW H×List MemPlace),DataW.trod enc G.P w 0 spare held fuel t cs=some x∧∀n∈x.1.weights G.P t,n≤reachBytes
section
variable {w:World} {t e:TypeId} {cs:List Value}
theorem lE:reachBytes=140737488351232:=by decide
theorem Cx {a:Addr} {v:Value} (h:w.cell? (a.add 0)=some v):a.spot=none:=by
 obtain⟨b,o,s⟩:=a
 cases s with
 |none=>rfl
 |some k=>
  exfalso
  simp only[World.cell?,Addr.add,if_true]at h
  split at h<;>simp at h
theorem CL {a:Addr} (hs:a.spot=none) (i:Nat):a.add i=⟨a.block,a.off+i,none⟩:=by
 obtain⟨b,o,s⟩:=a
 cases hs
 unfold Addr.add;split
 ·rename_i h;subst h;rfl
 ·rfl
theorem pM {H:Type} {P:Program} {e:TypeId}:∀{l:List (DataW H)} {d:DataW H},d∈l→∀n∈d.weights P e,n∈DataW.weightsAll P e l
 |x::r,d,hd,n,hn=>by
  simp only[DataW.weightsAll,List.mem_append]
  rcases List.mem_cons.1 hd with rfl|hd
  ·exact .inl hn
  ·exact .inr (pM hd n hn)
theorem oE {H:Type} {P:Program}:∀{ts:List TypeId} {l:List (DataW H)} {i:Nat} {t:TypeId} {d:DataW H},ts[i]?=some t→l[i]?=some d→∀n∈d.weights P t,n∈DataW.weightsEach P ts l
 |t::ts,x::r,0,_,_,h1,h2,n,hn=>by
  simp at h1 h2;subst h1;subst h2
  simp only[DataW.weightsEach,List.mem_append];exact .inl hn
 |t::ts,x::r,i+1,_,_,h1,h2,n,hn=>by
  simp only[DataW.weightsEach,List.mem_append]
  exact .inr (oE (ts:=ts) (l:=r) (i:=i) (by simpa using h1) (by simpa using h2) n hn)
 |[],_,_,_,_,h1,_,_,_=>by simp at h1
 |_::_,[],_,_,_,_,h2,_,_=>by simp at h2
theorem ss {a:Int} (h:(Lit.int .i64 a).wf=true):dV a:=by
 have e1:IntKind.i64.min=-9223372036854775808:=by decide
 have e2:IntKind.i64.max=9223372036854775807:=by decide
 simp only[Lit.wf,e1,e2,Bool.and_eq_true,decide_eq_true_eq]at h
 exact h
theorem Tr.int {k:IntKind} (ht:G.P.underlying t=some (.int k)) (h:Tr w t cs):∃n,cs=[.int k n]∧(Lit.int k n).wf=true:=by
 obtain⟨H,enc,spare,held,fuel,x,h,hw⟩:=h
 obtain⟨n,h1,-,h2⟩:=DataW.trod_int ht h
 exact⟨n,h1,h2⟩
theorem Tr.bool (ht:G.P.underlying t=some .bool) (h:Tr w t cs):∃b,cs=[.bool b]:=by
 obtain⟨H,enc,spare,held,fuel,x,h,hw⟩:=h
 obtain⟨n,h1,-⟩:=DataW.trod_bool ht h
 exact⟨n,h1⟩
theorem Tr.string (ht:G.P.underlying t=some .string) (h:Tr w t cs):∃s:ByteArray,cs=[.string s]∧s.size≤reachBytes:=by
 obtain⟨H,enc,spare,held,fuel,x,h,hw⟩:=h
 obtain⟨s,h1,h2,h3⟩:=DataW.trod_string ht h
 subst h2
 refine⟨s,h1,?_⟩
 have:=hw s.data.toList.length (by simp[DataW.weights])
 simpa using this
theorem Tr.struct {fs:Array Field} (ht:G.P.underlying t=some (.struct fs)) (h:Tr w t cs):cs.length=G.P.cellsOf t∧∀(i:Nat) (f:Field),fs[i]?=some f→Tr w f.type ((cs.drop f.offset).take (G.P.cellsOf f.type)):=by
 obtain⟨H,enc,spare,held,fuel,x,h,hw⟩:=h
 obtain⟨xs,n,rfl,rfl,hl,hx,hf⟩:=DataW.trod_struct ht h
 refine⟨hl,fun i f hi=>?_⟩
 have h1:=hf i f hi
 have hlt:i<xs.length:=by rw[hx];exact(Array.getElem?_eq_some_iff.1 hi).1
 rw[List.getElem?_eq_getElem hlt]at h1
 refine⟨H,enc,spare,held,n,xs[i],h1,fun m hm=>hw m ?_⟩
 simp only[DataW.weights,ht]
 refine oE (i:=i) (t:=f.type) (d:=xs[i].1) ?_ ?_ m hm
 ·rw[List.getElem?_map,Array.getElem?_toList,hi];rfl
 ·rw[List.getElem?_map,List.getElem?_eq_getElem hlt];rfl
theorem Tr.slice {s bt:Nat} (ht:G.P.underlying t=some (.slice e)) (hc:G.P.cellsOf e=s) (hby:G.P.bytesOf e=bt) (h0:0<s) (h:Tr w t cs):
  ∃p len cap,cs=[.slice p len cap]∧len*bt≤140737488351232∧(len=0∨∃b off,p=some ⟨b,off,none⟩∧∀i,i<len→∃cs',cs'.length=s∧(∀j,j<s→w.cell? ⟨b,off+i*s+j,none⟩=cs'[j]?)∧Tr w e cs'):=by
 obtain⟨H,enc,spare,held,fuel,x,h,hw⟩:=h
 rcases open_slice ht h with⟨rfl,rfl⟩|⟨a,len,cap,m,n,D,Pl,rfl,hb,hl,hm,hmm,rfl,hx⟩
 ·exact⟨_,_,_,rfl,by omega,.inl rfl⟩
 ·rw[hc]at hx
  have hlm:len≤m:=by rw[hmm];split<;>omega
  refine⟨_,len,cap,rfl,?_,?_⟩
  ·have:=hw ((len+(m - len))*G.P.bytesOf e) (by simp[DataW.weights,ht])
   rw[hby,lE]at this
   exact Nat.le_trans (Nat.mul_le_mul_right _ Mj) this
  ·by_cases hz:len=0
   ·exact .inl hz
   ·right
    obtain⟨cs0,hc0,-⟩:=hx 0 Mj
    obtain⟨-,hl0,hg0⟩:=World.cells?_some hc0
    have hsp:a.spot=none:=by
     have h1:=hg0 0 h0
     rw[Nat.zero_mul,List.getElem?_eq_getElem Mj]at h1
     have e0:(a.add 0).add 0=a.add 0:=by unfold Addr.add;simp
     rw[e0]at h1
     exact Cx h1
    refine⟨a.block,a.off,by obtain⟨_,_,s⟩:=a;cases hsp;rfl,fun i hi=>?_⟩
    obtain⟨cs',hc',htr⟩:=hx i Mj
    obtain⟨-,hl',hg'⟩:=World.cells?_some hc'
    refine⟨cs',hl',fun j hj=>?_,H,enc,spare,held,n,_,htr,fun q hq=>hw q ?_⟩
    ·rw[←hg' j hj,CL hsp,CL rfl]
    ·simp only[DataW.weights,ht]
     refine List.mem_cons_of_mem _ (List.mem_append_left _ (pM (d:=D i) (List.mem_map.2 ⟨i,List.mem_range.2 hi,rfl⟩) q hq))
theorem pW {α:Type} [Inhabited α] {p:Nat→α→Prop}:∀{n:Nat},(∀i,i<n→∃a,p i a)→∃xs:List α,xs.length=n∧∀i,i<n→p i (ix xs i)
 |0,_=>⟨[],rfl,fun i hi=>by omega⟩
 |n+1,h=>by
  obtain⟨xs,hl,hx⟩:=pW (n:=n) (fun i hi=>h i Mj)
  obtain⟨a,ha⟩:=h n Mj
  refine⟨xs++[a],by simp[hl],fun i hi=>?_⟩
  by_cases e:i=n
  ·subst e
   have:ix (xs++[a]) i=a:=by simp[ix,←hl]
   rw[this];exact ha
  ·have:ix (xs++[a]) i=ix xs i:=by simp only[ix,List.getD_eq_getElem?_getD];rw[List.getElem?_append_left Mj]
   rw[this];exact hx i Mj
theorem Tr.sB {α:Type} [Inhabited α] {s bt:Nat} (R:Nat→Nat→α→Prop) (ht:G.P.underlying t=some (.slice e)) (hc:G.P.cellsOf e=s) (hby:G.P.bytesOf e=bt) (h0:0<s)
  (hR:∀b o cs,cs.length=s→(∀j,j<s→w.cell? ⟨b,o+j,none⟩=cs[j]?)→Tr w e cs→∃y,R b o y) (h:Tr w t cs):
  ∃p cap,∃ys:List α,cs=[.slice p ys.length cap]∧ys.length*bt≤140737488351232∧(ys=[]∨∃b off,p=some ⟨b,off,none⟩∧True∧∀i,i<ys.length→R b (off+i*s) (ix ys i)):=by
 obtain⟨p,len,cap,rfl,hl,hx⟩:=h.slice ht hc hby h0
 rcases hx with rfl|⟨b,off,rfl,hx⟩
 ·exact⟨p,cap,[],rfl,by simp,.inl rfl⟩
 ·obtain⟨ys,hy,hyR⟩:=pW (p:=fun i y=>R b (off+i*s) y) (fun i hi=>by
   obtain⟨cs',h1,h2,h3⟩:=hx i hi
   exact hR b _ cs' h1 h2 h3)
  subst hy
  exact⟨_,cap,ys,rfl,hl,.inr ⟨b,off,rfl,trivial,hyR⟩⟩
theorem Tr.ints (ht:G.P.underlying t=some (.slice e)) (he:G.P.underlying e=some (.int .i64)) (hc:G.P.cellsOf e=1) (hby:G.P.bytesOf e=8) (h:Tr w t cs):∃v xs,cs=[v]∧af (fun _=>True) w v xs:=by
 obtain⟨p,cap,ys,rfl,hl,h⟩:=h.sB (α:=Int) (fun b o y=>w.cell? ⟨b,o,none⟩=some (.int .i64 y)) ht hc hby Mj (fun b o cs hcl hcc hcs=>by
  obtain⟨n,rfl,-⟩:=hcs.int he
  exact⟨n,by simpa using hcc 0 Mj⟩)
 refine⟨_,ys,rfl,p,cap,rfl,by omega,?_⟩
 rcases h with h|⟨b,off,h1,h2,h3⟩
 ·exact .inl h
 ·exact .inr ⟨b,off,h1,h2,fun i hi=>by have:=h3 i hi;rwa[Nat.mul_one]at this⟩
theorem Tr.gB {fs:Array Field} (hf:∀(i:Nat) (f:Field),fs[i]?=some f→Tr w f.type ((cs.drop f.offset).take (G.P.cellsOf f.type))) (i o n:Nat) {t:TypeId} (hi:(fs[i]?).map (fun f=>(f.type,f.offset))=some (t,o)) (hn:G.P.cellsOf t=n):Tr w t ((cs.drop o).take n):=by
 cases h:fs[i]? with
 |none=>simp[h]at hi
 |some f=>
  simp only[h,Option.map_some,Option.some.injEq,Prod.mk.injEq]at hi
  obtain⟨rfl,rfl⟩:=hi
  subst hn
  exact hf i f h
theorem Gm {cs:List Value} (h:cs.length=9):∃a b c d e f g i j,cs=[a,b,c,d,e,f,g,i,j]:=by
 match cs,h with|[a,b,c,d,e,f,g,i,j],_=>exact⟨a,b,c,d,e,f,g,i,j,rfl⟩
theorem Tr.ins {b o:Nat} (hcl:cs.length=9) (hcc:∀j,j<9→w.cell? ⟨b,o+j,none⟩=cs[j]?) (h:Tr w 42 cs):∃y,nr (fun _=>True) w b o y:=by
 obtain⟨c0,c1,c2,c3,c4,c5,c6,c7,c8,rfl⟩:=Gm hcl
 obtain⟨-,hf⟩:=h.struct Tryz.underlying42
 obtain⟨n0,e0,w0⟩:=(show Tr w _ [c0]from Tr.gB hf 0 0 1 rfl L9).int Tryz.underlying35
 obtain⟨n1,e1,w1⟩:=(show Tr w _ [c1]from Tr.gB hf 1 1 1 rfl L9).int Tryz.underlying3
 obtain⟨n2,e2,w2⟩:=(show Tr w _ [c2]from Tr.gB hf 2 2 1 rfl L9).int Tryz.underlying3
 obtain⟨n3,e3,w3⟩:=(show Tr w _ [c3]from Tr.gB hf 3 3 1 rfl L9).int Tryz.underlying36
 obtain⟨-,hg⟩:=(show Tr w _ [c4,c5,c6]from Tr.gB hf 4 4 3 rfl L9).struct Tryz.underlying39
 obtain⟨n4,e4,w4⟩:=(show Tr w _ [c4]from Tr.gB hg 0 0 1 rfl L9).int Tryz.underlying3
 obtain⟨n5,e5,w5⟩:=(show Tr w _ [c5]from Tr.gB hg 1 1 1 rfl L9).int Tryz.underlying37
 obtain⟨n6,e6,w6⟩:=(show Tr w _ [c6]from Tr.gB hg 2 2 1 rfl L9).int Tryz.underlying3
 obtain⟨v7,x7,e7,r7⟩:=(show Tr w _ [c7]from Tr.gB hf 5 7 1 rfl L9).ints Tryz.underlying34 Tryz.underlying37 L9 L9
 obtain⟨v8,x8,e8,r8⟩:=(show Tr w _ [c8]from Tr.gB hf 6 8 1 rfl L9).ints Tryz.underlying40 Tryz.underlying3 L9 L9
 cases e0;cases e1;cases e2;cases e3;cases e4;cases e5;cases e6;cases e7;cases e8
 exact⟨⟨n0,n1,n2,n3,n4,n5,n6,x7,x8⟩,hcc 0 Mj,hcc 1 Mj,hcc 2 Mj,hcc 3 Mj,hcc 4 Mj,hcc 5 Mj,hcc 6 Mj,⟨_,hcc 7 Mj,r7⟩,⟨_,hcc 8 Mj,r8⟩,ss w0,ss w1⟩
theorem Tr.body (h:Tr w 44 cs):∃v xs,cs=[v]∧Body w v xs:=by
 obtain⟨p,cap,ys,rfl,hl,h⟩:=h.sB (nr (fun _=>True) w) Tryz.underlying44 (s:=9) (bt:=104) L9 L9 Mj (fun b o cs h1 h2 h3=>h3.ins h1 h2)
 exact⟨_,ys,rfl,p,cap,rfl,by omega,h⟩
end
open Go.RowKit
abbrev rH (α:Type):=(Nat→Prop)→World→Nat→Nat→α→Prop
def gy {α:Type} [Inhabited α] (s N:Nat) (R:rH α) (F:Nat→Prop) (w:World) (v:Value) (xs:List α):Prop:=
 ∃p cap,v=.slice p xs.length cap∧xs.length≤N∧(xs=[]∨∃b off,p=some ⟨b,off,none⟩∧F b∧∀i,i<xs.length→R F w b (off+i*s) (ix xs i))
def Fr {α:Type} (R:rH α):Prop:=∀{F S:Nat→Prop} {w w':World} {b o:Nat} {x:α},R F w b o x→cg S w w'→F b→(∀k,k<w.heap.size→F k→¬S k)→R F w' b o x
def Mo {α:Type} (R:rH α):Prop:=∀{F H:Nat→Prop} {w:World} {b o:Nat} {x:α},R F w b o x→(∀k,k<w.heap.size→F k→H k)→R H w b o x
def Ce {α:Type} (R:rH α):Prop:=∀{F:Nat→Prop} {w:World} {b o:Nat} {x:α},R F w b o x→b<w.heap.size
section
variable {α:Type} [Inhabited α] {s N:Nat} {R:rH α} {F S H:Nat→Prop} {w w':World} {v:Value} {xs:List α}
theorem gy.aO (hR:Fr R) (_hC:Ce R) (h:gy s N R F w v xs) (hc:cg S w w') (hd:∀k,k<w.heap.size→F k→¬S k):gy s N R F w' v xs:=by
 obtain⟨p,cap,rfl,hl,h⟩:=h
 refine⟨p,cap,rfl,hl,?_⟩
 rcases h with h|⟨b,off,hp,hF,h⟩
 ·exact .inl h
 ·exact .inr ⟨b,off,hp,hF,fun i hi=>hR (h i hi) hc hF hd⟩
theorem gy.mono (hR:Mo R) (hC:Ce R) (h:gy s N R F w v xs) (hFH:∀k,k<w.heap.size→F k→H k):gy s N R H w v xs:=by
 obtain⟨p,cap,rfl,hl,h⟩:=h
 refine⟨p,cap,rfl,hl,?_⟩
 rcases h with h|⟨b,off,hp,hF,h⟩
 ·exact .inl h
 ·by_cases hx:xs=[]
  ·exact .inl hx
  ·exact .inr ⟨b,off,hp,hFH b (hC (h 0 (List.length_pos_iff.2 hx))) hF,fun i hi=>hR (h i hi) hFH⟩
theorem gy.slice (h:gy s N R F w v xs):∃p cap,v=.slice p xs.length cap∧xs.length≤N:=by
 obtain⟨p,cap,rfl,hl,_⟩:=h
 exact⟨p,cap,rfl,hl⟩
theorem gy.at {p:Option Addr} {n cap:Nat} (h:gy s N R F w (.slice p n cap) xs) {i:Nat} (hi:i<xs.length):
  ∃b off,p=some ⟨b,off,none⟩∧F b∧∀i,i<xs.length→R F w b (off+i*s) (ix xs i):=by
 obtain⟨p',cap',e,hl,h⟩:=h
 cases e
 rcases h with h|⟨b,off,hp,hF,h⟩
 ·subst h;cases hi
 ·exact⟨b,off,hp,hF,h⟩
theorem gy.nil:gy s N R F w (.slice none 0 0) ([]:List α):=⟨none,0,rfl,Nat.zero_le _,.inl rfl⟩
end
def jh (k:IntKind):rH Int:=fun _ w b o n=>w.cell? ⟨b,o,none⟩=some (.int k n)
theorem jh.fr (k:IntKind):Fr (jh k):=fun h hc hF hd=>hc.cell (hd _ (fC h) hF) h
theorem jh.mo (k:IntKind):Mo (jh k):=fun h _=>h
theorem jh.ce (k:IntKind):Ce (jh k):=fun h=>fC h
def kb:rH Bool:=fun _ w b o n=>w.cell? ⟨b,o,none⟩=some (.bool n)
theorem kb.fr:Fr kb:=fun h hc hF hd=>hc.cell (hd _ (fC h) hF) h
theorem kb.mo:Mo kb:=fun h _=>h
theorem kb.ce:Ce kb:=fun h=>fC h
def lz {α:Type} (V:(Nat→Prop)→World→Value→List α→Prop):rH (List α):=fun F w b o xs=>∃v,w.cell? ⟨b,o,none⟩=some v∧V F w v xs
theorem lz.fr {α:Type} {V:(Nat→Prop)→World→Value→List α→Prop} (hV:∀{F S:Nat→Prop} {w w':World} {v:Value} {xs:List α},V F w v xs→cg S w w'→(∀k,k<w.heap.size→F k→¬S k)→V F w' v xs):Fr (lz V):=
 fun⟨v,h,hv⟩ hc hF hd=>⟨v,hc.cell (hd _ (fC h) hF) h,hV hv hc hd⟩
theorem lz.mo {α:Type} {V:(Nat→Prop)→World→Value→List α→Prop} (hV:∀{F H:Nat→Prop} {w:World} {v:Value} {xs:List α},V F w v xs→(∀k,k<w.heap.size→F k→H k)→V H w v xs):Mo (lz V):=
 fun⟨v,h,hv⟩ hd=>⟨v,h,hV hv hd⟩
theorem lz.ce {α:Type} {V:(Nat→Prop)→World→Value→List α→Prop}:Ce (lz V):=fun⟨_,h,_⟩=>fC h
theorem nr.mo:Mo nr:=fun h hd=>⟨h.op,h.a,h.b,h.n,h.kind,h.val,h.index,by obtain⟨v,h1,h2⟩:=h.types;exact⟨v,h1,h2.mono hd⟩,by obtain⟨v,h1,h2⟩:=h.labels;exact⟨v,h1,h2.mono hd⟩,h.Hj,h.ra⟩
theorem nr.ce:Ce nr:=fun h=>fC h.op
theorem gR.mono {F H:Nat→Prop} {w:World} {v:Value} {xs:List cJ} (h:gR F w v xs) (hd:∀k,k<w.heap.size→F k→H k):gR H w v xs:=gy.mono (R:=nr) nr.mo nr.ce h hd
theorem Tr.sl {α:Type} [Inhabited α] {w:World} {t e:TypeId} {cs:List Value} {s bt N:Nat} (R:rH α) (ht:G.P.underlying t=some (.slice e)) (hc:G.P.cellsOf e=s) (hby:G.P.bytesOf e=bt) (h0:0<s) (hN:∀n,n*bt≤140737488351232→n≤N)
  (hR:∀b o cs,cs.length=s→(∀j,j<s→w.cell? ⟨b,o+j,none⟩=cs[j]?)→Tr w e cs→∃y,R (fun _=>True) w b o y) (h:Tr w t cs):
  ∃v xs,cs=[v]∧gy s N R (fun _=>True) w v xs:=by
 obtain⟨p,cap,ys,rfl,hl,h⟩:=h.sB (R (fun _=>True) w) ht hc hby h0 hR
 exact⟨_,ys,rfl,p,cap,rfl,hN _ hl,h⟩
def AtR {α:Type} (n:Nat) (V:(Nat→Prop)→World→List Value→α→Prop):rH α:=fun F w b o x=>∃cs,V F w cs x∧∀j,j<n→w.cell? ⟨b,o+j,none⟩=cs[j]?
section
variable {α:Type} {n t:Nat} {V:(Nat→Prop)→World→List Value→α→Prop}
theorem AtR.ce (hl:∀{F w cs x},V F w cs x→cs.length=n) (hn:0<n):Ce (AtR n V):=fun{F w b o x} ⟨cs,h,hc⟩=>by
 have h0:=hc 0 hn
 have hl:=hl h
 rw[List.getElem?_eq_getElem Mj]at h0
 exact fC h0
theorem AtR.fr (hl:∀{F w cs x},V F w cs x→cs.length=n) (hv:∀{F S:Nat→Prop} {w w' cs x},V F w cs x→cg S w w'→(∀k,k<w.heap.size→F k→¬S k)→V F w' cs x):Fr (AtR n V):=fun{F S w w' b o x} ⟨cs,h,hcc⟩ hc hF hd=>⟨cs,hv h hc hd,fun j hj=>by
 have h0:=hcc j hj
 have hl:=hl h
 rw[List.getElem?_eq_getElem Mj]at h0 ⊢
 exact hc.cell (hd _ (fC h0) hF) h0⟩
theorem AtR.mo (hv:∀{F H:Nat→Prop} {w cs x},V F w cs x→(∀k,k<w.heap.size→F k→H k)→V H w cs x):Mo (AtR n V):=fun⟨cs,h,hcc⟩ hd=>⟨cs,hv h hd,hcc⟩
theorem AtR.of {w:World} (hv:∀{cs},Tr w t cs→cs.length=n→∃x,V (fun _=>True) w cs x) (b o:Nat) (cs:List Value) (hcl:cs.length=n) (hcc:∀j,j<n→w.cell? ⟨b,o+j,none⟩=cs[j]?) (h:Tr w t cs):∃x,AtR n V (fun _=>True) w b o x:=by
 obtain⟨x,hx⟩:=hv h hcl
 exact⟨x,cs,hx,hcc⟩
end
theorem ir {n:Int} (h:(Lit.int .i64 n).wf=true):dV n:=ss h
theorem EB {cs:List Value} (h:cs.length=2):∃c0 c1,cs=[c0,c1]:=by
 match cs,h with|[c0,c1],_=>exact⟨c0,c1,rfl⟩
theorem xc {cs:List Value} (h:cs.length=3):∃c0 c1 c2,cs=[c0,c1,c2]:=by
 match cs,h with|[c0,c1,c2],_=>exact⟨c0,c1,c2,rfl⟩
theorem EC {cs:List Value} (h:cs.length=4):∃c0 c1 c2 c3,cs=[c0,c1,c2,c3]:=by
 match cs,h with|[c0,c1,c2,c3],_=>exact⟨c0,c1,c2,c3,rfl⟩
theorem Gz {cs:List Value} (h:cs.length=5):∃c0 c1 c2 c3 c4,cs=[c0,c1,c2,c3,c4]:=by
 match cs,h with|[c0,c1,c2,c3,c4],_=>exact⟨c0,c1,c2,c3,c4,rfl⟩
theorem Ft {cs:List Value} (h:cs.length=12):∃c0 c1 c2 c3 c4 c5 c6 c7 c8 c9 c10 c11,cs=[c0,c1,c2,c3,c4,c5,c6,c7,c8,c9,c10,c11]:=by
 match cs,h with|[c0,c1,c2,c3,c4,c5,c6,c7,c8,c9,c10,c11],_=>exact⟨c0,c1,c2,c3,c4,c5,c6,c7,c8,c9,c10,c11,rfl⟩
theorem FH {cs:List Value} (h:cs.length=13):∃c0 c1 c2 c3 c4 c5 c6 c7 c8 c9 c10 c11 c12,cs=[c0,c1,c2,c3,c4,c5,c6,c7,c8,c9,c10,c11,c12]:=by
 match cs,h with|[c0,c1,c2,c3,c4,c5,c6,c7,c8,c9,c10,c11,c12],_=>exact⟨c0,c1,c2,c3,c4,c5,c6,c7,c8,c9,c10,c11,c12,rfl⟩
structure aL where
 params:List Int
 results:List Int
 deriving Inhabited
def dx (F:Nat→Prop) (w:World) (cs:List Value) (x:aL):Prop:=
 ∃v0 v1:Value,cs=[v0,v1]∧af F w v0 x.params∧af F w v1 x.results
def gC:rH aL:=fun F w b o x=>∃cs,dx F w cs x∧∀j,j<2→w.cell? ⟨b,o+j,none⟩=cs[j]?
section
variable {F S H:Nat→Prop} {w w':World} {b o:Nat} {cs:List Value} {x:aL}
theorem dx.len (h:dx F w cs x):cs.length=2:=by
 obtain⟨v0,v1,rfl,r0,r1⟩:=h
 rfl
theorem dx.aO (h:dx F w cs x) (hc:cg S w w') (hd:∀k,k<w.heap.size→F k→¬S k):dx F w' cs x:=by
 obtain⟨v0,v1,rfl,r0,r1⟩:=h
 exact⟨v0,v1,rfl,r0.aO hc hd,r1.aO hc hd⟩
theorem dx.mono (h:dx F w cs x) (hd:∀k,k<w.heap.size→F k→H k):dx H w cs x:=by
 obtain⟨v0,v1,rfl,r0,r1⟩:=h
 exact⟨v0,v1,rfl,r0.mono hd,r1.mono hd⟩
theorem gC.ce:Ce gC:=AtR.ce (V:=dx) dx.len Mj
theorem gC.fr:Fr gC:=AtR.fr (V:=dx) dx.len dx.aO
theorem gC.mo:Mo gC:=AtR.mo (V:=dx) dx.mono
set_option maxRecDepth 100000 in
theorem dx.of (h:Tr w 47 cs) (hcl:cs.length=2):∃x,dx (fun _=>True) w cs x:=by
 obtain⟨c0,c1,rfl⟩:=EB hcl
 obtain⟨-,hf⟩:=h.struct Tryz.underlying47
 obtain⟨u0,y0,e0,z0⟩:=(show Tr w _ [c0]from Tr.gB hf 0 0 1 rfl L9).ints Tryz.underlying34 Tryz.underlying37 L9 L9
 cases e0
 obtain⟨u1,y1,e1,z1⟩:=(show Tr w _ [c1]from Tr.gB hf 1 1 1 rfl L9).ints Tryz.underlying34 Tryz.underlying37 L9 L9
 cases e1
 exact⟨⟨y0,y1⟩,⟨_,_,rfl,z0,z1⟩⟩
end
structure eR where
 min:Int
 max:Int
 has:Bool
 deriving Inhabited
def cr (_F:Nat→Prop) (_w:World) (cs:List Value) (x:eR):Prop:=
 cs=[.int .i64 x.min,.int .i64 x.max,.bool x.has]∧dV x.min∧dV x.max
def dC:rH eR:=fun F w b o x=>∃cs,cr F w cs x∧∀j,j<3→w.cell? ⟨b,o+j,none⟩=cs[j]?
section
variable {F S H:Nat→Prop} {w w':World} {b o:Nat} {cs:List Value} {x:eR}
theorem cr.len (h:cr F w cs x):cs.length=3:=by
 obtain⟨rfl,g0,g1⟩:=h
 rfl
theorem cr.aO (h:cr F w cs x) (_hc:cg S w w') (_hd:∀k,k<w.heap.size→F k→¬S k):cr F w' cs x:=by
 obtain⟨rfl,g0,g1⟩:=h
 exact⟨rfl,g0,g1⟩
theorem cr.mono (h:cr F w cs x) (_hd:∀k,k<w.heap.size→F k→H k):cr H w cs x:=by
 obtain⟨rfl,g0,g1⟩:=h
 exact⟨rfl,g0,g1⟩
theorem dC.ce:Ce dC:=AtR.ce (V:=cr) cr.len Mj
theorem dC.fr:Fr dC:=AtR.fr (V:=cr) cr.len cr.aO
theorem dC.mo:Mo dC:=AtR.mo (V:=cr) cr.mono
theorem dC.has (h:dC F w b o x):w.cell? ⟨b,o+2,none⟩=some (.bool x.has):=by
 obtain⟨_,⟨rfl,_⟩,hc⟩:=h
 exact hc 2 Mj
set_option maxRecDepth 100000 in
theorem cr.of (h:Tr w 100 cs) (hcl:cs.length=3):∃x,cr (fun _=>True) w cs x:=by
 obtain⟨c0,c1,c2,rfl⟩:=xc hcl
 obtain⟨-,hf⟩:=h.struct Tryz.underlying100
 obtain⟨y0,e0,z0⟩:=(show Tr w _ [c0]from Tr.gB hf 0 0 1 rfl L9).int Tryz.underlying3
 cases e0
 obtain⟨y1,e1,z1⟩:=(show Tr w _ [c1]from Tr.gB hf 1 1 1 rfl L9).int Tryz.underlying3
 cases e1
 obtain⟨y2,e2⟩:=(show Tr w _ [c2]from Tr.gB hf 2 2 1 rfl L9).bool Tryz.underlying4
 cases e2
 exact⟨⟨y0,y1,y2⟩,⟨rfl,ir z0,ir z1⟩⟩
end
structure ff where
 elem:Int
 lG:eR
 deriving Inhabited
def cY (_F:Nat→Prop) (_w:World) (cs:List Value) (x:ff):Prop:=
 cs=[.int .i64 x.elem,.int .i64 x.lG.min,.int .i64 x.lG.max,.bool x.lG.has]∧dV x.elem∧dV x.lG.min∧dV x.lG.max
def eX:rH ff:=fun F w b o x=>∃cs,cY F w cs x∧∀j,j<4→w.cell? ⟨b,o+j,none⟩=cs[j]?
section
variable {F S H:Nat→Prop} {w w':World} {b o:Nat} {cs:List Value} {x:ff}
theorem cY.len (h:cY F w cs x):cs.length=4:=by
 obtain⟨rfl,g0,g1,g2⟩:=h
 rfl
theorem cY.aO (h:cY F w cs x) (_hc:cg S w w') (_hd:∀k,k<w.heap.size→F k→¬S k):cY F w' cs x:=by
 obtain⟨rfl,g0,g1,g2⟩:=h
 exact⟨rfl,g0,g1,g2⟩
theorem cY.mono (h:cY F w cs x) (_hd:∀k,k<w.heap.size→F k→H k):cY H w cs x:=by
 obtain⟨rfl,g0,g1,g2⟩:=h
 exact⟨rfl,g0,g1,g2⟩
theorem eX.ce:Ce eX:=AtR.ce (V:=cY) cY.len Mj
theorem eX.fr:Fr eX:=AtR.fr (V:=cY) cY.len cY.aO
theorem eX.mo:Mo eX:=AtR.mo (V:=cY) cY.mono
set_option maxRecDepth 100000 in
theorem cY.of (h:Tr w 102 cs) (hcl:cs.length=4):∃x,cY (fun _=>True) w cs x:=by
 obtain⟨c0,c1,c2,c3,rfl⟩:=EC hcl
 obtain⟨-,hf⟩:=h.struct Tryz.underlying102
 obtain⟨y0,e0,z0⟩:=(show Tr w _ [c0]from Tr.gB hf 0 0 1 rfl L9).int Tryz.underlying37
 cases e0
 obtain⟨y1,q1⟩:=cr.of (show Tr w _ [c1,c2,c3]from Tr.gB hf 1 1 3 rfl L9) rfl
 obtain⟨e1,k1_0,k1_1⟩:=q1
 cases e1
 exact⟨⟨y0,y1⟩,⟨rfl,ir z0,k1_0,k1_1⟩⟩
end
structure gY where
 mH:Int
 qb:Bool
 deriving Inhabited
def lZ (_F:Nat→Prop) (_w:World) (cs:List Value) (x:gY):Prop:=
 cs=[.int .i64 x.mH,.bool x.qb]∧dV x.mH
section
variable {F S H:Nat→Prop} {w w':World} {b o:Nat} {cs:List Value} {x:gY}
set_option maxRecDepth 100000 in
theorem lZ.of (h:Tr w 104 cs) (hcl:cs.length=2):∃x,lZ (fun _=>True) w cs x:=by
 obtain⟨c0,c1,rfl⟩:=EB hcl
 obtain⟨-,hf⟩:=h.struct Tryz.underlying104
 obtain⟨y0,e0,z0⟩:=(show Tr w _ [c0]from Tr.gB hf 0 0 1 rfl L9).int Tryz.underlying37
 cases e0
 obtain⟨y1,e1⟩:=(show Tr w _ [c1]from Tr.gB hf 1 1 1 rfl L9).bool Tryz.underlying4
 cases e1
 exact⟨⟨y0,y1⟩,⟨rfl,ir z0⟩⟩
end
structure bN where
 module:ByteArray
 name:ByteArray
 kind:Int
 func:Int
 table:ff
 mem:eR
 eG:gY
 deriving Inhabited
def cv (_F:Nat→Prop) (_w:World) (cs:List Value) (x:bN):Prop:=
 cs=[.string x.module,.string x.name,.int .i64 x.kind,.int .i64 x.func,.int .i64 x.table.elem,.int .i64 x.table.lG.min,.int .i64 x.table.lG.max,.bool x.table.lG.has,.int .i64 x.mem.min,.int .i64 x.mem.max,.bool x.mem.has,.int .i64 x.eG.mH,.bool x.eG.qb]∧x.module.size≤140737488351232∧x.name.size≤140737488351232∧dV x.kind∧dV x.func∧dV x.table.elem∧dV x.table.lG.min∧dV x.table.lG.max∧dV x.mem.min∧dV x.mem.max∧dV x.eG.mH
def dh:rH bN:=fun F w b o x=>∃cs,cv F w cs x∧∀j,j<13→w.cell? ⟨b,o+j,none⟩=cs[j]?
section
variable {F S H:Nat→Prop} {w w':World} {b o:Nat} {cs:List Value} {x:bN}
theorem cv.len (h:cv F w cs x):cs.length=13:=by
 obtain⟨rfl,g0,g1,g2,g3,g4,g5,g6,g7,g8,g9⟩:=h
 rfl
theorem cv.aO (h:cv F w cs x) (_hc:cg S w w') (_hd:∀k,k<w.heap.size→F k→¬S k):cv F w' cs x:=by
 obtain⟨rfl,g0,g1,g2,g3,g4,g5,g6,g7,g8,g9⟩:=h
 exact⟨rfl,g0,g1,g2,g3,g4,g5,g6,g7,g8,g9⟩
theorem cv.mono (h:cv F w cs x) (_hd:∀k,k<w.heap.size→F k→H k):cv H w cs x:=by
 obtain⟨rfl,g0,g1,g2,g3,g4,g5,g6,g7,g8,g9⟩:=h
 exact⟨rfl,g0,g1,g2,g3,g4,g5,g6,g7,g8,g9⟩
theorem dh.ce:Ce dh:=AtR.ce (V:=cv) cv.len Mj
theorem dh.fr:Fr dh:=AtR.fr (V:=cv) cv.len cv.aO
theorem dh.mo:Mo dh:=AtR.mo (V:=cv) cv.mono
theorem dh.kind (h:dh F w b o x):w.cell? ⟨b,o+2,none⟩=some (.int .i64 x.kind):=by
 obtain⟨_,⟨rfl,_⟩,hc⟩:=h
 exact hc 2 Mj
theorem cv.zd (h:cv F w cs x):dV x.kind:=by
 obtain⟨rfl,g0,g1,g2,g3,g4,g5,g6,g7,g8,g9⟩:=h
 exact g2
theorem dh.zd (h:dh F w b o x):dV x.kind:=by
 obtain⟨cs,hv,hc⟩:=h
 exact hv.zd
set_option maxRecDepth 100000 in
theorem cv.of (h:Tr w 106 cs) (hcl:cs.length=13):∃x,cv (fun _=>True) w cs x:=by
 obtain⟨c0,c1,c2,c3,c4,c5,c6,c7,c8,c9,c10,c11,c12,rfl⟩:=FH hcl
 obtain⟨-,hf⟩:=h.struct Tryz.underlying106
 obtain⟨y0,e0,z0⟩:=(show Tr w _ [c0]from Tr.gB hf 0 0 1 rfl L9).string Tryz.underlying9
 rw[lE]at z0
 cases e0
 obtain⟨y1,e1,z1⟩:=(show Tr w _ [c1]from Tr.gB hf 1 1 1 rfl L9).string Tryz.underlying9
 rw[lE]at z1
 cases e1
 obtain⟨y2,e2,z2⟩:=(show Tr w _ [c2]from Tr.gB hf 2 2 1 rfl L9).int Tryz.underlying98
 cases e2
 obtain⟨y3,e3,z3⟩:=(show Tr w _ [c3]from Tr.gB hf 3 3 1 rfl L9).int Tryz.underlying3
 cases e3
 obtain⟨y4,q4⟩:=cY.of (show Tr w _ [c4,c5,c6,c7]from Tr.gB hf 4 4 4 rfl L9) rfl
 obtain⟨e4,k4_0,k4_1,k4_2⟩:=q4
 cases e4
 obtain⟨y5,q5⟩:=cr.of (show Tr w _ [c8,c9,c10]from Tr.gB hf 5 8 3 rfl L9) rfl
 obtain⟨e5,k5_0,k5_1⟩:=q5
 cases e5
 obtain⟨y6,q6⟩:=lZ.of (show Tr w _ [c11,c12]from Tr.gB hf 6 11 2 rfl L9) rfl
 obtain⟨e6,k6_0⟩:=q6
 cases e6
 exact⟨⟨y0,y1,y2,y3,y4,y5,y6⟩,⟨rfl,z0,z1,ir z2,ir z3,k4_0,k4_1,k4_2,k5_0,k5_1,k6_0⟩⟩
end
structure oF where
 eD:Int
 locals:List Int
 body:List cJ
 deriving Inhabited
def dE (F:Nat→Prop) (w:World) (cs:List Value) (x:oF):Prop:=
 ∃v0 v1:Value,cs=[.int .i64 x.eD,v0,v1]∧af F w v0 x.locals∧gR F w v1 x.body∧dV x.eD
def fD:rH oF:=fun F w b o x=>∃cs,dE F w cs x∧∀j,j<3→w.cell? ⟨b,o+j,none⟩=cs[j]?
section
variable {F S H:Nat→Prop} {w w':World} {b o:Nat} {cs:List Value} {x:oF}
theorem dE.len (h:dE F w cs x):cs.length=3:=by
 obtain⟨v0,v1,rfl,r0,r1,g0⟩:=h
 rfl
theorem dE.aO (h:dE F w cs x) (hc:cg S w w') (hd:∀k,k<w.heap.size→F k→¬S k):dE F w' cs x:=by
 obtain⟨v0,v1,rfl,r0,r1,g0⟩:=h
 exact⟨v0,v1,rfl,r0.aO hc hd,r1.aO hc hd,g0⟩
theorem dE.mono (h:dE F w cs x) (hd:∀k,k<w.heap.size→F k→H k):dE H w cs x:=by
 obtain⟨v0,v1,rfl,r0,r1,g0⟩:=h
 exact⟨v0,v1,rfl,r0.mono hd,r1.mono hd,g0⟩
theorem fD.ce:Ce fD:=AtR.ce (V:=dE) dE.len Mj
theorem fD.fr:Fr fD:=AtR.fr (V:=dE) dE.len dE.aO
theorem fD.mo:Mo fD:=AtR.mo (V:=dE) dE.mono
theorem fD.eD (h:fD F w b o x):w.cell? ⟨b,o,none⟩=some (.int .i64 x.eD):=by
 obtain⟨_,⟨_,_,rfl,_⟩,hc⟩:=h
 exact hc 0 Mj
set_option maxRecDepth 100000 in
theorem dE.of (h:Tr w 109 cs) (hcl:cs.length=3):∃x,dE (fun _=>True) w cs x:=by
 obtain⟨c0,c1,c2,rfl⟩:=xc hcl
 obtain⟨-,hf⟩:=h.struct Tryz.underlying109
 obtain⟨y0,e0,z0⟩:=(show Tr w _ [c0]from Tr.gB hf 0 0 1 rfl L9).int Tryz.underlying3
 cases e0
 obtain⟨u1,y1,e1,z1⟩:=(show Tr w _ [c1]from Tr.gB hf 1 1 1 rfl L9).ints Tryz.underlying34 Tryz.underlying37 L9 L9
 cases e1
 obtain⟨u2,y2,e2,z2⟩:=(show Tr w _ [c2]from Tr.gB hf 2 2 1 rfl L9).body
 cases e2
 exact⟨⟨y0,y1,y2⟩,⟨_,_,rfl,z1,z2,ir z0⟩⟩
end
structure gn where
 eD:gY
 mE:List cJ
 deriving Inhabited
def bI (F:Nat→Prop) (w:World) (cs:List Value) (x:gn):Prop:=
 ∃v0:Value,cs=[.int .i64 x.eD.mH,.bool x.eD.qb,v0]∧gR F w v0 x.mE∧dV x.eD.mH
def cz:rH gn:=fun F w b o x=>∃cs,bI F w cs x∧∀j,j<3→w.cell? ⟨b,o+j,none⟩=cs[j]?
section
variable {F S H:Nat→Prop} {w w':World} {b o:Nat} {cs:List Value} {x:gn}
theorem bI.len (h:bI F w cs x):cs.length=3:=by
 obtain⟨v0,rfl,r0,g0⟩:=h
 rfl
theorem bI.aO (h:bI F w cs x) (hc:cg S w w') (hd:∀k,k<w.heap.size→F k→¬S k):bI F w' cs x:=by
 obtain⟨v0,rfl,r0,g0⟩:=h
 exact⟨v0,rfl,r0.aO hc hd,g0⟩
theorem bI.mono (h:bI F w cs x) (hd:∀k,k<w.heap.size→F k→H k):bI H w cs x:=by
 obtain⟨v0,rfl,r0,g0⟩:=h
 exact⟨v0,rfl,r0.mono hd,g0⟩
theorem cz.ce:Ce cz:=AtR.ce (V:=bI) bI.len Mj
theorem cz.fr:Fr cz:=AtR.fr (V:=bI) bI.len bI.aO
theorem cz.mo:Mo cz:=AtR.mo (V:=bI) bI.mono
theorem cz.mE (h:cz F w b o x):∃v,w.cell? ⟨b,o+2,none⟩=some v∧gR F w v x.mE:=by
 obtain⟨_,⟨_,rfl,r0,_⟩,hc⟩:=h
 exact⟨_,hc 2 Mj,r0⟩
set_option maxRecDepth 100000 in
theorem bI.of (h:Tr w 112 cs) (hcl:cs.length=3):∃x,bI (fun _=>True) w cs x:=by
 obtain⟨c0,c1,c2,rfl⟩:=xc hcl
 obtain⟨-,hf⟩:=h.struct Tryz.underlying112
 obtain⟨y0,q0⟩:=lZ.of (show Tr w _ [c0,c1]from Tr.gB hf 0 0 2 rfl L9) rfl
 obtain⟨e0,k0_0⟩:=q0
 cases e0
 obtain⟨u1,y1,e1,z1⟩:=(show Tr w _ [c2]from Tr.gB hf 1 2 1 rfl L9).body
 cases e1
 exact⟨⟨y0,y1⟩,⟨_,rfl,z1,k0_0⟩⟩
end
structure lh where
 name:ByteArray
 kind:Int
 index:Int
 deriving Inhabited
def cn (_F:Nat→Prop) (_w:World) (cs:List Value) (x:lh):Prop:=
 cs=[.string x.name,.int .i64 x.kind,.int .i64 x.index]∧x.name.size≤140737488351232∧dV x.kind∧dV x.index
def db:rH lh:=fun F w b o x=>∃cs,cn F w cs x∧∀j,j<3→w.cell? ⟨b,o+j,none⟩=cs[j]?
section
variable {F S H:Nat→Prop} {w w':World} {b o:Nat} {cs:List Value} {x:lh}
theorem cn.len (h:cn F w cs x):cs.length=3:=by
 obtain⟨rfl,g0,g1,g2⟩:=h
 rfl
theorem cn.aO (h:cn F w cs x) (_hc:cg S w w') (_hd:∀k,k<w.heap.size→F k→¬S k):cn F w' cs x:=by
 obtain⟨rfl,g0,g1,g2⟩:=h
 exact⟨rfl,g0,g1,g2⟩
theorem cn.mono (h:cn F w cs x) (_hd:∀k,k<w.heap.size→F k→H k):cn H w cs x:=by
 obtain⟨rfl,g0,g1,g2⟩:=h
 exact⟨rfl,g0,g1,g2⟩
theorem db.ce:Ce db:=AtR.ce (V:=cn) cn.len Mj
theorem db.fr:Fr db:=AtR.fr (V:=cn) cn.len cn.aO
theorem db.mo:Mo db:=AtR.mo (V:=cn) cn.mono
theorem db.kind (h:db F w b o x):w.cell? ⟨b,o+1,none⟩=some (.int .i64 x.kind):=by
 obtain⟨_,⟨rfl,_⟩,hc⟩:=h
 exact hc 1 Mj
theorem db.index (h:db F w b o x):w.cell? ⟨b,o+2,none⟩=some (.int .i64 x.index):=by
 obtain⟨_,⟨rfl,_⟩,hc⟩:=h
 exact hc 2 Mj
theorem cn.vD (h:cn F w cs x):dV x.index:=by
 obtain⟨rfl,g0,g1,g2⟩:=h
 exact g2
theorem db.vD (h:db F w b o x):dV x.index:=by
 obtain⟨cs,hv,hc⟩:=h
 exact hv.vD
set_option maxRecDepth 100000 in
theorem cn.of (h:Tr w 117 cs) (hcl:cs.length=3):∃x,cn (fun _=>True) w cs x:=by
 obtain⟨c0,c1,c2,rfl⟩:=xc hcl
 obtain⟨-,hf⟩:=h.struct Tryz.underlying117
 obtain⟨y0,e0,z0⟩:=(show Tr w _ [c0]from Tr.gB hf 0 0 1 rfl L9).string Tryz.underlying9
 rw[lE]at z0
 cases e0
 obtain⟨y1,e1,z1⟩:=(show Tr w _ [c1]from Tr.gB hf 1 1 1 rfl L9).int Tryz.underlying98
 cases e1
 obtain⟨y2,e2,z2⟩:=(show Tr w _ [c2]from Tr.gB hf 2 2 1 rfl L9).int Tryz.underlying3
 cases e2
 exact⟨⟨y0,y1,y2⟩,⟨rfl,z0,ir z1,ir z2⟩⟩
end
structure oW where
 mode:Int
 table:Int
 offset:List cJ
 eD:Int
 items:List (List cJ)
 deriving Inhabited
def dF (F:Nat→Prop) (w:World) (cs:List Value) (x:oW):Prop:=
 ∃v0 v1:Value,cs=[.int .i64 x.mode,.int .i64 x.table,v0,.int .i64 x.eD,v1]∧gR F w v0 x.offset∧gy 1 5864062014634 (lz gR) F w v1 x.items∧dV x.mode∧dV x.table∧dV x.eD
def eU:rH oW:=fun F w b o x=>∃cs,dF F w cs x∧∀j,j<5→w.cell? ⟨b,o+j,none⟩=cs[j]?
section
variable {F S H:Nat→Prop} {w w':World} {b o:Nat} {cs:List Value} {x:oW}
theorem dF.len (h:dF F w cs x):cs.length=5:=by
 obtain⟨v0,v1,rfl,r0,r1,g0,g1,g2⟩:=h
 rfl
theorem dF.aO (h:dF F w cs x) (hc:cg S w w') (hd:∀k,k<w.heap.size→F k→¬S k):dF F w' cs x:=by
 obtain⟨v0,v1,rfl,r0,r1,g0,g1,g2⟩:=h
 exact⟨v0,v1,rfl,r0.aO hc hd,gy.aO (lz.fr (fun h hc hd=>h.aO hc hd)) lz.ce r1 hc hd,g0,g1,g2⟩
theorem dF.mono (h:dF F w cs x) (hd:∀k,k<w.heap.size→F k→H k):dF H w cs x:=by
 obtain⟨v0,v1,rfl,r0,r1,g0,g1,g2⟩:=h
 exact⟨v0,v1,rfl,r0.mono hd,gy.mono (lz.mo (fun h hd=>h.mono hd)) lz.ce r1 hd,g0,g1,g2⟩
theorem eU.ce:Ce eU:=AtR.ce (V:=dF) dF.len Mj
theorem eU.fr:Fr eU:=AtR.fr (V:=dF) dF.len dF.aO
theorem eU.mo:Mo eU:=AtR.mo (V:=dF) dF.mono
theorem eU.eD (h:eU F w b o x):w.cell? ⟨b,o+3,none⟩=some (.int .i64 x.eD):=by
 obtain⟨_,⟨_,_,rfl,_⟩,hc⟩:=h
 exact hc 3 Mj
theorem eU.items (h:eU F w b o x):∃v,w.cell? ⟨b,o+4,none⟩=some v∧gy 1 5864062014634 (lz gR) F w v x.items:=by
 obtain⟨_,⟨_,_,rfl,_,r1,_⟩,hc⟩:=h
 exact⟨_,hc 4 Mj,r1⟩
set_option maxRecDepth 100000 in
theorem dF.of (h:Tr w 115 cs) (hcl:cs.length=5):∃x,dF (fun _=>True) w cs x:=by
 obtain⟨c0,c1,c2,c3,c4,rfl⟩:=Gz hcl
 obtain⟨-,hf⟩:=h.struct Tryz.underlying115
 obtain⟨y0,e0,z0⟩:=(show Tr w _ [c0]from Tr.gB hf 0 0 1 rfl L9).int Tryz.underlying3
 cases e0
 obtain⟨y1,e1,z1⟩:=(show Tr w _ [c1]from Tr.gB hf 1 1 1 rfl L9).int Tryz.underlying3
 cases e1
 obtain⟨u2,y2,e2,z2⟩:=(show Tr w _ [c2]from Tr.gB hf 2 2 1 rfl L9).body
 cases e2
 obtain⟨y3,e3,z3⟩:=(show Tr w _ [c3]from Tr.gB hf 3 3 1 rfl L9).int Tryz.underlying37
 cases e3
 obtain⟨u4,y4,e4,z4⟩:=(show Tr w _ [c4]from Tr.gB hf 4 4 1 rfl L9).sl (s:=1) (bt:=24) (N:=5864062014634) (lz gR) Tryz.underlying113 L9 L9 Mj (fun n hn=>by omega) (fun b o cs _ h2 h3=>by obtain⟨v,xs,rfl,h⟩:=(h3).body;exact⟨xs,v,h2 0 Mj,h⟩)
 cases e4
 exact⟨⟨y0,y1,y2,y3,y4⟩,⟨_,_,rfl,z2,z4,ir z0,ir z1,ir z3⟩⟩
end
structure qu where
 mode:Int
 mem:Int
 offset:List cJ
 bytes:List Int
 deriving Inhabited
def dG (F:Nat→Prop) (w:World) (cs:List Value) (x:qu):Prop:=
 ∃v0 v1:Value,cs=[.int .i64 x.mode,.int .i64 x.mem,v0,v1]∧gR F w v0 x.offset∧gy 1 140737488351232 (jh .u8) F w v1 x.bytes∧dV x.mode∧dV x.mem
def gG:rH qu:=fun F w b o x=>∃cs,dG F w cs x∧∀j,j<4→w.cell? ⟨b,o+j,none⟩=cs[j]?
section
variable {F S H:Nat→Prop} {w w':World} {b o:Nat} {cs:List Value} {x:qu}
theorem dG.len (h:dG F w cs x):cs.length=4:=by
 obtain⟨v0,v1,rfl,r0,r1,g0,g1⟩:=h
 rfl
theorem dG.aO (h:dG F w cs x) (hc:cg S w w') (hd:∀k,k<w.heap.size→F k→¬S k):dG F w' cs x:=by
 obtain⟨v0,v1,rfl,r0,r1,g0,g1⟩:=h
 exact⟨v0,v1,rfl,r0.aO hc hd,gy.aO (jh.fr _) (jh.ce _) r1 hc hd,g0,g1⟩
theorem dG.mono (h:dG F w cs x) (hd:∀k,k<w.heap.size→F k→H k):dG H w cs x:=by
 obtain⟨v0,v1,rfl,r0,r1,g0,g1⟩:=h
 exact⟨v0,v1,rfl,r0.mono hd,gy.mono (jh.mo _) (jh.ce _) r1 hd,g0,g1⟩
theorem gG.ce:Ce gG:=AtR.ce (V:=dG) dG.len Mj
theorem gG.fr:Fr gG:=AtR.fr (V:=dG) dG.len dG.aO
theorem gG.mo:Mo gG:=AtR.mo (V:=dG) dG.mono
set_option maxRecDepth 100000 in
theorem dG.of (h:Tr w 295 cs) (hcl:cs.length=4):∃x,dG (fun _=>True) w cs x:=by
 obtain⟨c0,c1,c2,c3,rfl⟩:=EC hcl
 obtain⟨-,hf⟩:=h.struct Tryz.underlying295
 obtain⟨y0,e0,z0⟩:=(show Tr w _ [c0]from Tr.gB hf 0 0 1 rfl L9).int Tryz.underlying3
 cases e0
 obtain⟨y1,e1,z1⟩:=(show Tr w _ [c1]from Tr.gB hf 1 1 1 rfl L9).int Tryz.underlying3
 cases e1
 obtain⟨u2,y2,e2,z2⟩:=(show Tr w _ [c2]from Tr.gB hf 2 2 1 rfl L9).body
 cases e2
 obtain⟨u3,y3,e3,z3⟩:=(show Tr w _ [c3]from Tr.gB hf 3 3 1 rfl L9).sl (s:=1) (bt:=1) (N:=140737488351232) (jh .u8) Tryz.underlying293 L9 L9 Mj (fun n hn=>by omega) (fun b o cs _ h2 h3=>by obtain⟨n,rfl,_⟩:=h3.int Tryz.underlying5;exact⟨n,h2 0 Mj⟩)
 cases e3
 exact⟨⟨y0,y1,y2,y3⟩,⟨_,_,rfl,z2,z3,ir z0,ir z1⟩⟩
end
structure nf where
 after:Int
 name:ByteArray
 bytes:List Int
 deriving Inhabited
def cH (F:Nat→Prop) (w:World) (cs:List Value) (x:nf):Prop:=
 ∃v0:Value,cs=[.int .i64 x.after,.string x.name,v0]∧gy 1 140737488351232 (jh .u8) F w v0 x.bytes∧dV x.after∧x.name.size≤140737488351232
def eS:rH nf:=fun F w b o x=>∃cs,cH F w cs x∧∀j,j<3→w.cell? ⟨b,o+j,none⟩=cs[j]?
section
variable {F S H:Nat→Prop} {w w':World} {b o:Nat} {cs:List Value} {x:nf}
theorem cH.len (h:cH F w cs x):cs.length=3:=by
 obtain⟨v0,rfl,r0,g0,g1⟩:=h
 rfl
theorem cH.aO (h:cH F w cs x) (hc:cg S w w') (hd:∀k,k<w.heap.size→F k→¬S k):cH F w' cs x:=by
 obtain⟨v0,rfl,r0,g0,g1⟩:=h
 exact⟨v0,rfl,gy.aO (jh.fr _) (jh.ce _) r0 hc hd,g0,g1⟩
theorem cH.mono (h:cH F w cs x) (hd:∀k,k<w.heap.size→F k→H k):cH H w cs x:=by
 obtain⟨v0,rfl,r0,g0,g1⟩:=h
 exact⟨v0,rfl,gy.mono (jh.mo _) (jh.ce _) r0 hd,g0,g1⟩
theorem eS.ce:Ce eS:=AtR.ce (V:=cH) cH.len Mj
theorem eS.fr:Fr eS:=AtR.fr (V:=cH) cH.len cH.aO
theorem eS.mo:Mo eS:=AtR.mo (V:=cH) cH.mono
set_option maxRecDepth 100000 in
theorem cH.of (h:Tr w 297 cs) (hcl:cs.length=3):∃x,cH (fun _=>True) w cs x:=by
 obtain⟨c0,c1,c2,rfl⟩:=xc hcl
 obtain⟨-,hf⟩:=h.struct Tryz.underlying297
 obtain⟨y0,e0,z0⟩:=(show Tr w _ [c0]from Tr.gB hf 0 0 1 rfl L9).int Tryz.underlying3
 cases e0
 obtain⟨y1,e1,z1⟩:=(show Tr w _ [c1]from Tr.gB hf 1 1 1 rfl L9).string Tryz.underlying9
 rw[lE]at z1
 cases e1
 obtain⟨u2,y2,e2,z2⟩:=(show Tr w _ [c2]from Tr.gB hf 2 2 1 rfl L9).sl (s:=1) (bt:=1) (N:=140737488351232) (jh .u8) Tryz.underlying293 L9 L9 Mj (fun n hn=>by omega) (fun b o cs _ h2 h3=>by obtain⟨n,rfl,_⟩:=h3.int Tryz.underlying5;exact⟨n,h2 0 Mj⟩)
 cases e2
 exact⟨⟨y0,y1,y2⟩,⟨_,rfl,z2,ir z0,z1⟩⟩
end
structure aj where
 types:List aL
 imports:List bN
 funcs:List oF
 tables:List ff
 da:List eR
 globals:List gn
 bh:List lh
 br:Bool
 start:Int
 elems:List oW
 bD:List qu
 dI:List nf
 deriving Inhabited
def ay (F:Nat→Prop) (w:World) (cs:List Value) (x:aj):Prop:=
 ∃v0 v1 v2 v3 v4 v5 v6 v7 v8 v9:Value,cs=[v0,v1,v2,v3,v4,v5,v6,.bool x.br,.int .i64 x.start,v7,v8,v9]∧gy 2 2932031007317 gC F w v0 x.types∧gy 13 1172812402926 dh F w v1 x.imports∧gy 3 2513169434843 fD F w v2 x.funcs∧gy 4 4398046510976 eX F w v3 x.tables∧gy 3 5864062014634 dC F w v4 x.da∧gy 3 3518437208780 cz F w v5 x.globals∧gy 3 4398046510976 db F w v6 x.bh∧gy 5 1954687338211 eU F w v7 x.elems∧gy 4 2199023255488 gG F w v8 x.bD∧gy 3 2932031007317 eS F w v9 x.dI∧dV x.start
section
variable {F S H:Nat→Prop} {w w':World} {b o:Nat} {cs:List Value} {x:aj}
theorem ay.aO (h:ay F w cs x) (hc:cg S w w') (hd:∀k,k<w.heap.size→F k→¬S k):ay F w' cs x:=by
 obtain⟨v0,v1,v2,v3,v4,v5,v6,v7,v8,v9,rfl,r0,r1,r2,r3,r4,r5,r6,r7,r8,r9,g0⟩:=h
 exact⟨v0,v1,v2,v3,v4,v5,v6,v7,v8,v9,rfl,gy.aO gC.fr gC.ce r0 hc hd,gy.aO dh.fr dh.ce r1 hc hd,gy.aO fD.fr fD.ce r2 hc hd,gy.aO eX.fr eX.ce r3 hc hd,gy.aO dC.fr dC.ce r4 hc hd,gy.aO cz.fr cz.ce r5 hc hd,gy.aO db.fr db.ce r6 hc hd,gy.aO eU.fr eU.ce r7 hc hd,gy.aO gG.fr gG.ce r8 hc hd,gy.aO eS.fr eS.ce r9 hc hd,g0⟩
theorem ay.mono (h:ay F w cs x) (hd:∀k,k<w.heap.size→F k→H k):ay H w cs x:=by
 obtain⟨v0,v1,v2,v3,v4,v5,v6,v7,v8,v9,rfl,r0,r1,r2,r3,r4,r5,r6,r7,r8,r9,g0⟩:=h
 exact⟨v0,v1,v2,v3,v4,v5,v6,v7,v8,v9,rfl,gy.mono gC.mo gC.ce r0 hd,gy.mono dh.mo dh.ce r1 hd,gy.mono fD.mo fD.ce r2 hd,gy.mono eX.mo eX.ce r3 hd,gy.mono dC.mo dC.ce r4 hd,gy.mono cz.mo cz.ce r5 hd,gy.mono db.mo db.ce r6 hd,gy.mono eU.mo eU.ce r7 hd,gy.mono gG.mo gG.ce r8 hd,gy.mono eS.mo eS.ce r9 hd,g0⟩
set_option maxRecDepth 100000 in
theorem ay.of (h:Tr w 33 cs) (hcl:cs.length=12):∃x,ay (fun _=>True) w cs x:=by
 obtain⟨c0,c1,c2,c3,c4,c5,c6,c7,c8,c9,c10,c11,rfl⟩:=Ft hcl
 obtain⟨-,hf⟩:=h.struct Tryz.underlying33
 obtain⟨u0,y0,e0,z0⟩:=(show Tr w _ [c0]from Tr.gB hf 0 0 1 rfl L9).sl (s:=2) (bt:=48) (N:=2932031007317) gC Tryz.underlying22 L9 L9 Mj (fun n hn=>by omega) (AtR.of (V:=dx) dx.of)
 cases e0
 obtain⟨u1,y1,e1,z1⟩:=(show Tr w _ [c1]from Tr.gB hf 1 1 1 rfl L9).sl (s:=13) (bt:=120) (N:=1172812402926) dh Tryz.underlying23 L9 L9 Mj (fun n hn=>by omega) (AtR.of (V:=cv) cv.of)
 cases e1
 obtain⟨u2,y2,e2,z2⟩:=(show Tr w _ [c2]from Tr.gB hf 2 2 1 rfl L9).sl (s:=3) (bt:=56) (N:=2513169434843) fD Tryz.underlying24 L9 L9 Mj (fun n hn=>by omega) (AtR.of (V:=dE) dE.of)
 cases e2
 obtain⟨u3,y3,e3,z3⟩:=(show Tr w _ [c3]from Tr.gB hf 3 3 1 rfl L9).sl (s:=4) (bt:=32) (N:=4398046510976) eX Tryz.underlying25 L9 L9 Mj (fun n hn=>by omega) (AtR.of (V:=cY) cY.of)
 cases e3
 obtain⟨u4,y4,e4,z4⟩:=(show Tr w _ [c4]from Tr.gB hf 4 4 1 rfl L9).sl (s:=3) (bt:=24) (N:=5864062014634) dC Tryz.underlying26 L9 L9 Mj (fun n hn=>by omega) (AtR.of (V:=cr) cr.of)
 cases e4
 obtain⟨u5,y5,e5,z5⟩:=(show Tr w _ [c5]from Tr.gB hf 5 5 1 rfl L9).sl (s:=3) (bt:=40) (N:=3518437208780) cz Tryz.underlying27 L9 L9 Mj (fun n hn=>by omega) (AtR.of (V:=bI) bI.of)
 cases e5
 obtain⟨u6,y6,e6,z6⟩:=(show Tr w _ [c6]from Tr.gB hf 6 6 1 rfl L9).sl (s:=3) (bt:=32) (N:=4398046510976) db Tryz.underlying28 L9 L9 Mj (fun n hn=>by omega) (AtR.of (V:=cn) cn.of)
 cases e6
 obtain⟨y7,e7⟩:=(show Tr w _ [c7]from Tr.gB hf 7 7 1 rfl L9).bool Tryz.underlying4
 cases e7
 obtain⟨y8,e8,z8⟩:=(show Tr w _ [c8]from Tr.gB hf 8 8 1 rfl L9).int Tryz.underlying3
 cases e8
 obtain⟨u9,y9,e9,z9⟩:=(show Tr w _ [c9]from Tr.gB hf 9 9 1 rfl L9).sl (s:=5) (bt:=72) (N:=1954687338211) eU Tryz.underlying29 L9 L9 Mj (fun n hn=>by omega) (AtR.of (V:=dF) dF.of)
 cases e9
 obtain⟨Io,y10,e10,z10⟩:=(show Tr w _ [c10]from Tr.gB hf 10 10 1 rfl L9).sl (s:=4) (bt:=64) (N:=2199023255488) gG Tryz.underlying30 L9 L9 Mj (fun n hn=>by omega) (AtR.of (V:=dG) dG.of)
 cases e10
 obtain⟨H8,y11,e11,z11⟩:=(show Tr w _ [c11]from Tr.gB hf 11 11 1 rfl L9).sl (s:=3) (bt:=48) (N:=2932031007317) eS Tryz.underlying31 L9 L9 Mj (fun n hn=>by omega) (AtR.of (V:=cH) cH.of)
 cases e11
 exact⟨⟨y0,y1,y2,y3,y4,y5,y6,y7,y8,y9,y10,y11⟩,⟨_,_,_,_,_,_,_,_,_,_,rfl,z0,z1,z2,z3,z4,z5,z6,z9,z10,z11,ir z8⟩⟩
end
structure Cr where
 kind:Int
 mH:Int
 index:Int
 deriving Inhabited
section
variable {F S H:Nat→Prop} {w w':World} {b o:Nat} {cs:List Value} {x:Cr}
end
structure wM where
 l:List Int
 marks:List Int
 loose:List Bool
 bH:Int
 deriving Inhabited
section
variable {F S H:Nat→Prop} {w w':World} {b o:Nat} {cs:List Value} {x:wM}
end
structure xi where
 op:Int
 t:aL
 live:Bool
 kf:Bool
 deriving Inhabited
section
variable {F S H:Nat→Prop} {w w':World} {b o:Nat} {cs:List Value} {x:xi}
end
structure Cf where
 s:wM
 G3:List xi
 results:List Int
 broken:Int
 deriving Inhabited
section
variable {F S H:Nat→Prop} {w w':World} {b o:Nat} {cs:List Value} {x:Cf}
end
structure Ec where
 f:aL
 e:Int
 deriving Inhabited
section
variable {F S H:Nat→Prop} {w w':World} {b o:Nat} {cs:List Value} {x:Ec}
end
structure Bm where
 kind:Int
 t:aL
 other:Bool
 live:Bool
 deriving Inhabited
section
variable {F S H:Nat→Prop} {w w':World} {b o:Nat} {cs:List Value} {x:Bm}
end
structure uV where
 at_:Int
 loose:Bool
 deriving Inhabited
section
variable {F S H:Nat→Prop} {w w':World} {b o:Nat} {cs:List Value} {x:uV}
end
structure zQ where
 types:List Int
 parts:List uV
 over:Bool
 deriving Inhabited
section
variable {F S H:Nat→Prop} {w w':World} {b o:Nat} {cs:List Value} {x:zQ}
end
structure FD where
 op:Int
 name:ByteArray
 IQ:Int
 deriving Inhabited
section
variable {F S H:Nat→Prop} {w w':World} {b o:Nat} {cs:List Value} {x:FD}
end
structure AZ where
 first:Int
 head:ByteArray
 HI:ByteArray
 deriving Inhabited
section
variable {F S H:Nat→Prop} {w w':World} {b o:Nat} {cs:List Value} {x:AZ}
end
def Cq (op:Int):Bool:=op==2 || op==3 || op==4
def FY (l:List Int) (i:Int) (op:Int):List Int:=
 let l1:=if Cq op then l++[i]else l
 if op=11∧0<l1.length then l1.dropLast else l1
def mh (xs:List cJ):Nat→List Int
 |0=>[-1]
 |k+1=>FY (mh xs k) k (ix xs k).op
def wK (l:List Int):Int:=ix l (l.length - 1)
def Fv (xs:List cJ) (h:Nat) (i:Nat):Bool:=decide (h<i∧(ix xs i).op=5∧0<(mh xs i).length∧wK (mh xs i)=h)
def Fx (xs:List cJ) (h at_:Nat):Bool:=(List.range at_).any (Fv xs h)
def Eu (xs:List cJ) (i:Nat):Option (Int×Int):=
 let l:=mh xs i
 let h:=wK l
 if l.length=0 then some (i,16)
 else if(ix xs i).op=5∧(h<0∨(ix xs h.toNat).op≠4∨Fx xs h.toNat i=true)then some (i,16)
 else if Cq (ix xs i).op=true∧32≤l.length then some (i,6)
 else none
def uG (xs:List cJ):Nat→Nat→Int×Int
 |0,i=>if 0<(mh xs i).length then(i,3)else(0,0)
 |f+1,i=>match Eu xs i with
  |some r=>r
  |none=>uG xs f (i+1)
def E2 (xs:List cJ):Int×Int:=uG xs xs.length 0
def yT (xs:List cJ):Nat→List Int
 |0=>List.replicate xs.length (-1)
 |k+1=>if(ix xs k).op=11∧0≤wK (mh xs k)then(yT xs k).set (wK (mh xs k)).toNat k else yT xs k
def vO (xs:List cJ):Nat→List Int
 |0=>List.replicate xs.length (-1)
 |k+1=>if(ix xs k).op=5 then(vO xs k).set (wK (mh xs k)).toNat k else vO xs k
def Cl (xs:List cJ):List Int:=yT xs xs.length
def yW (xs:List cJ):List Int:=vO xs xs.length
def DT (xs:List cJ) (a:Nat) (l:Int):Option Int:=
 let r:=mh xs a
 if l<0∨(r.length:Int)≤l then none
 else
  let h:=ix r (r.length - 1 - l.toNat)
  if h<0 then some ((xs.length:Int) - 1)
  else if(ix xs h.toNat).op=3 then some (h+1)
  else some (ix (Cl xs) h.toNat)
section
variable {P:Program} {md:Region.Mode} {C:World→Prop}
theorem F7 {l:List Oper} {listed:Array Bool}:l.length ∉ Region.ready md l.toArray listed:=by
 intro h
 obtain⟨_,o2,ho2,_⟩:=mem_ready.1 h
 have:=(Array.getElem?_eq_some_iff.1 ho2).1
 simp at this
end
section
variable {G:yP} {Q:Exit→Act→World→Prop} {n:Nat} {E:Env} {w:World}
end
end Go.Proofs.YtgbgnipidakdhaaGreatDoor
