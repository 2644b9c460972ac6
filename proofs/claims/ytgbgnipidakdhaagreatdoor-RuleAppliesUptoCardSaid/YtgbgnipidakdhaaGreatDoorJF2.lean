/- Plain words: lists read at a place; slices of numbers and of instructions read in a world; rows of the call's own. -/
import Derived.Test.YtgbgnipidakdhaaGreatDoorJG
namespace Go.Proofs.YtgbgnipidakdhaaGreatDoor
open Go.RowKit
def ix {α:Type} [Inhabited α] (xs:List α) (i:Nat):α:=xs.getD i default
theorem cD {α:Type} [Inhabited α] {xs:List α} {i:Nat} (h:i<xs.length):ix xs i=xs[i]:=by
 simp[ix,h]
theorem gZ {α:Type} [Inhabited α] {xs:List α} {i:Nat} (h:i<xs.length):xs[i]?=some (ix xs i):=by
 rw[cD h,List.getElem?_eq_getElem h]
theorem bE {α:Type} [Inhabited α] {xs:List α} {k:Nat} (h:k<xs.length):xs.take (k+1)=xs.take k++[ix xs k]:=by
 rw[cD h,List.take_succ_eq_append_getElem h]
def dV (n:Int):Prop:=-9223372036854775808≤n∧n≤9223372036854775807
def af (F:Nat→Prop) (w:World) (v:Value) (xs:List Int):Prop:=
 ∃p cap,v=.slice p xs.length cap∧xs.length≤17592186044416∧
  (xs=[]∨∃b off,p=some ⟨b,off,none⟩∧F b∧∀i,i<xs.length→w.cell? ⟨b,off+i,none⟩=some (.int .i64 (ix xs i)))
theorem af.aO {F S:Nat→Prop} {w w':World} {v:Value} {xs:List Int} (h:af F w v xs) (hc:cg S w w') (hd:∀k,k<w.heap.size→F k→¬S k):af F w' v xs:=by
 obtain⟨p,cap,rfl,hl,h⟩:=h
 refine⟨p,cap,rfl,hl,?_⟩
 rcases h with h|⟨b,off,hp,hF,h⟩
 ·exact .inl h
 ·exact .inr ⟨b,off,hp,hF,fun i hi=>hc.cell (hd b (fC (h i hi)) hF) (h i hi)⟩
theorem af.mono {F H:Nat→Prop} {w:World} {v:Value} {xs:List Int} (h:af F w v xs) (hFG:∀k,k<w.heap.size→F k→H k):af H w v xs:=by
 obtain⟨p,cap,rfl,hl,h⟩:=h
 refine⟨p,cap,rfl,hl,?_⟩
 rcases h with h|⟨b,off,hp,hF,h⟩
 ·exact .inl h
 ·by_cases hx:xs=[]
  ·exact .inl hx
  ·have h0:0<xs.length:=List.length_pos_iff.2 hx
   exact .inr ⟨b,off,hp,hFG b (fC (h 0 h0)) hF,h⟩
theorem af.slice {F:Nat→Prop} {w:World} {v:Value} {xs:List Int} (h:af F w v xs):∃p cap,v=.slice p xs.length cap∧xs.length≤17592186044416:=by
 obtain⟨p,cap,rfl,hl,_⟩:=h
 exact⟨p,cap,rfl,hl⟩
theorem af.at {F:Nat→Prop} {w:World} {p:Option Addr} {n cap:Nat} {xs:List Int} (h:af F w (.slice p n cap) xs) {i:Nat} (hi:i<xs.length):
  ∃b off,p=some ⟨b,off,none⟩∧F b∧∀i,i<xs.length→w.cell? ⟨b,off+i,none⟩=some (.int .i64 (ix xs i)):=by
 obtain⟨p',cap',e,hl,h⟩:=h
 cases e
 rcases h with h|⟨b,off,hp,hF,h⟩
 ·subst h;cases hi
 ·exact⟨b,off,hp,hF,h⟩
theorem ax {w:World} {base:Nat} {e:TypeId} {size n:Nat} {v:Value} {xs:List Value} (h:w.ownsRow base e size v n xs):∃p cap,v=.slice p n cap∧n≤cap∧cap≤maxLen∧(0<n→∃g,p=some ⟨g,0,none⟩∧base≤g∧g<w.heap.size):=by
 obtain⟨h1,h2⟩:=h
 rcases h2 with⟨rfl,rfl⟩|⟨g,cap,cur,rfl,hg,hh,hn,hc,hs,ht⟩
 ·exact⟨none,0,rfl,by omega,by unfold maxLen;omega,by omega⟩
 ·refine⟨_,cap,rfl,hn,hc,fun _=>⟨g,rfl,hg,?_⟩⟩
  by_cases hlt:g<w.heap.size
  ·exact hlt
  ·simp[Array.getElem?_eq_none (Nat.le_of_not_lt hlt)]at hh
theorem lI {S:Nat→Prop} {w w':World} {base:Nat} {e:TypeId} {size n:Nat} {v:Value} {xs:List Value} (h:w.ownsRow base e size v n xs) (hc:cg S w w') (hd:∀k,v.ownBlock=some k→¬S k):w'.ownsRow base e size v n xs:=by
 have hlt:=h.lt
 obtain⟨h1,h2⟩:=h
 refine⟨h1,?_⟩
 rcases h2 with h2|⟨g,cap,cur,rfl,hg,hh,r⟩
 ·exact .inl h2
 ·exact .inr ⟨g,cap,cur,rfl,hg,by rw[hc.block g (hlt g rfl).2 (hd g rfl)];exact hh,r⟩
theorem BT {w:World} {base base':Nat} {e:TypeId} {size n:Nat} {v:Value} {xs:List Value} (h:w.ownsRow base e size v n xs) (hd:∀k,v.ownBlock=some k→base'≤k):w.ownsRow base' e size v n xs:=by
 obtain⟨h1,h2⟩:=h
 refine⟨h1,?_⟩
 rcases h2 with h2|⟨g,cap,cur,rfl,hg,r⟩
 ·exact .inl h2
 ·exact .inr ⟨g,cap,cur,rfl,hd g rfl,r⟩
theorem oD {w w':World} {cs:List Value} {T base size n:Nat} (h:Aw w w' cs T) (hb:base≤w.heap.size) (hm:n≤maxLen) (hs:cs.length=n*size):w'.ownsRow base T size (.slice (some ⟨w.heap.size,0,none⟩) n n) n cs:=
 ⟨hs,.inr ⟨w.heap.size,n,cs.toArray,rfl,hb,h.aT,Nat.le_refl _,hm,by simpa using hs,by simp[←hs]⟩⟩
structure cJ where
 op:Int
 a:Int
 b:Int
 n:Int
 kind:Int
 val:Int
 index:Int
 types:List Int
 labels:List Int
 deriving Inhabited
structure nr (F:Nat→Prop) (w:World) (bk o:Nat) (x:cJ):Prop where
 op:w.cell? ⟨bk,o,none⟩=some (.int .i64 x.op)
 a:w.cell? ⟨bk,o+1,none⟩=some (.int .i64 x.a)
 b:w.cell? ⟨bk,o+2,none⟩=some (.int .i64 x.b)
 n:w.cell? ⟨bk,o+3,none⟩=some (.int .u64 x.n)
 kind:w.cell? ⟨bk,o+4,none⟩=some (.int .i64 x.kind)
 val:w.cell? ⟨bk,o+5,none⟩=some (.int .i64 x.val)
 index:w.cell? ⟨bk,o+6,none⟩=some (.int .i64 x.index)
 types:∃tv,w.cell? ⟨bk,o+7,none⟩=some tv∧af F w tv x.types
 labels:∃lv,w.cell? ⟨bk,o+8,none⟩=some lv∧af F w lv x.labels
 Hj:dV x.op
 ra:dV x.a
theorem nr.aO {F S:Nat→Prop} {w w':World} {b o:Nat} {x:cJ} (h:nr F w b o x) (hc:cg S w w') (hF:F b) (hd:∀k,k<w.heap.size→F k→¬S k):nr F w' b o x:=by
 have hb:¬S b:=hd b (fC h.op) hF
 refine⟨hc.cell hb h.op,hc.cell hb h.a,hc.cell hb h.b,hc.cell hb h.n,hc.cell hb h.kind,hc.cell hb h.val,hc.cell hb h.index,?_,?_,h.Hj,h.ra⟩
 ·obtain⟨tv,h1,h2⟩:=h.types
  exact⟨tv,hc.cell hb h1,h2.aO hc hd⟩
 ·obtain⟨tv,h1,h2⟩:=h.labels
  exact⟨tv,hc.cell hb h1,h2.aO hc hd⟩
def gR (F:Nat→Prop) (w:World) (v:Value) (xs:List cJ):Prop:=
 ∃p cap,v=.slice p xs.length cap∧xs.length≤1353247013952∧
  (xs=[]∨∃b off,p=some ⟨b,off,none⟩∧F b∧∀i,i<xs.length→nr F w b (off+i*9) (ix xs i))
theorem gR.aO {F S:Nat→Prop} {w w':World} {v:Value} {xs:List cJ} (h:gR F w v xs) (hc:cg S w w') (hd:∀k,k<w.heap.size→F k→¬S k):gR F w' v xs:=by
 obtain⟨p,cap,rfl,hl,h⟩:=h
 refine⟨p,cap,rfl,hl,?_⟩
 rcases h with h|⟨b,off,hp,hF,h⟩
 ·exact .inl h
 ·exact .inr ⟨b,off,hp,hF,fun i hi=>(h i hi).aO hc hF hd⟩
abbrev Body (w:World) (v:Value) (xs:List cJ):Prop:=gR (fun _=>True) w v xs
theorem gR.ext {F:Nat→Prop} {w w':World} {v:Value} {xs:List cJ} (h:gR F w v xs) (hc:Ext w w'):gR F w' v xs:=h.aO hc (fun _ _ _ h=>h)
theorem gR.slice {F:Nat→Prop} {w:World} {v:Value} {xs:List cJ} (h:gR F w v xs):∃p cap,v=.slice p xs.length cap∧xs.length≤1353247013952:=by
 obtain⟨p,cap,rfl,hl,_⟩:=h
 exact⟨p,cap,rfl,hl⟩
theorem gR.at {F:Nat→Prop} {w:World} {p:Option Addr} {n cap:Nat} {xs:List cJ} (h:gR F w (.slice p n cap) xs) {i:Nat} (hi:i<xs.length):
  ∃b off,p=some ⟨b,off,none⟩∧F b∧∀i,i<xs.length→nr F w b (off+i*9) (ix xs i):=by
 obtain⟨p',cap',e,hl,h⟩:=h
 cases e
 rcases h with h|⟨b,off,hp,hF,h⟩
 ·subst h;cases hi
 ·exact⟨b,off,hp,hF,h⟩
theorem Fu (s:Nat) (f:Nat→List Value):∀n,(∀i,i<n→(f i).length=s)→((List.range n).flatMap f).length=n*s
 |0,_=>by simp
 |n+1,h=>by
  rw[List.range_succ,List.flatMap_append,List.length_append,Fu s f n (fun i hi=>h i Mj)]
  simp[h n Mj,Nat.succ_mul]
theorem xg (s:Nat) (f:Nat→List Value):∀n,(∀i,i<n→(f i).length=s)→∀i j,i<n→j<s→((List.range n).flatMap f)[i*s+j]?=(f i)[j]?
 |0,_,_,_,hi,_=>by omega
 |n+1,h,i,j,hi,hj=>by
  have hl:=Fu s f n (fun i hi=>h i Mj)
  rw[List.range_succ,List.flatMap_append]
  by_cases e:i=n
  ·subst e
   rw[List.getElem?_append_right (by rw[hl];omega),hl]
   simp[Nat.add_sub_cancel_left]
  ·have:i*s+j<n*s:=by
    have:(i+1)*s≤n*s:=Nat.mul_le_mul_right _ Mj
    rw[Nat.succ_mul]at this;omega
   rw[List.getElem?_append_left (by rw[hl];exact this)]
   exact xg s f n (fun i hi=>h i Mj) i j Mj hj
structure Bk where
 fr:Int
 to:Int
 next:List Int
 live:Bool
 deriving Inhabited,DecidableEq
def F8 (op:Int):Bool:=op==3 || op==4 || op==5 || op==12 || op==13 || op==14 || op==15 || op==0
def CR (bs:List Bk) (q:Int):Nat→Nat→Int
 |0,_=>-1
 |f+1,k=>if(ix bs k).fr≤q∧q<(ix bs k).to then k else CR bs q f (k+1)
def IB (bs:List Bk) (q:Int):Int:=CR bs q bs.length 0
end Go.Proofs.YtgbgnipidakdhaaGreatDoor
