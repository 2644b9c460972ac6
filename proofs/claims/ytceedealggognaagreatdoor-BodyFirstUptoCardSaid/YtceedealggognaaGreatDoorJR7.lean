/- Plain words: lists read at a place; slices of numbers and of instructions read in a world; rows of the call's own. -/
import Derived.Test.YtceedealggognaaGreatDoorJG
import Derived.Deep.Slices
import Derived.SizedLaws
namespace Go.Proofs.YtceedealggognaaGreatDoor
open Go.RowKit
def ix {α:Type} [Inhabited α] (xs:List α) (i:Nat):α:=xs.getD i default
theorem cw {α:Type} [Inhabited α] {xs:List α} {i:Nat} (h:i<xs.length):ix xs i=xs[i]:=by
 simp[ix,h]
theorem gF {α:Type} [Inhabited α] {xs:List α} {i:Nat} (h:i<xs.length):xs[i]?=some (ix xs i):=by
 rw[cw h,List.getElem?_eq_getElem h]
theorem bu {α:Type} [Inhabited α] {xs:List α} {k:Nat} (h:k<xs.length):xs.take (k+1)=xs.take k++[ix xs k]:=by
 rw[cw h,List.take_succ_eq_append_getElem h]
def gJ (n:Int):Prop:=-9223372036854775808≤n∧n≤9223372036854775807
def af (F:Nat→Prop) (w:World) (v:Value) (xs:List Int):Prop:=
 ∃p cap,v=.slice p xs.length cap∧xs.length≤17592186044416∧
  (xs=[]∨∃b off,p=some ⟨b,off,none⟩∧F b∧∀i,i<xs.length→w.cell? ⟨b,off+i,none⟩=some (.int .i64 (ix xs i)))
theorem af.aD {F S:Nat→Prop} {w w':World} {v:Value} {xs:List Int} (h:af F w v xs) (hc:bA S w w') (hd:∀k,k<w.heap.size→F k→¬S k):af F w' v xs:=by
 obtain⟨p,cap,rfl,hl,h⟩:=h
 refine⟨p,cap,rfl,hl,?_⟩
 rcases h with h|⟨b,off,hp,hF,h⟩
 ·exact .inl h
 ·exact .inr ⟨b,off,hp,hF,fun i hi=>hc.cell (hd b (ed (h i hi)) hF) (h i hi)⟩
theorem af.mono {F H:Nat→Prop} {w:World} {v:Value} {xs:List Int} (h:af F w v xs) (hFG:∀k,k<w.heap.size→F k→H k):af H w v xs:=by
 obtain⟨p,cap,rfl,hl,h⟩:=h
 refine⟨p,cap,rfl,hl,?_⟩
 rcases h with h|⟨b,off,hp,hF,h⟩
 ·exact .inl h
 ·by_cases hx:xs=[]
  ·exact .inl hx
  ·have h0:0<xs.length:=List.length_pos_iff.2 hx
   exact .inr ⟨b,off,hp,hFG b (ed (h 0 h0)) hF,h⟩
theorem af.slice {F:Nat→Prop} {w:World} {v:Value} {xs:List Int} (h:af F w v xs):∃p cap,v=.slice p xs.length cap∧xs.length≤17592186044416:=by
 obtain⟨p,cap,rfl,hl,_⟩:=h
 exact⟨p,cap,rfl,hl⟩
theorem af.at {F:Nat→Prop} {w:World} {p:Option Addr} {n cap:Nat} {xs:List Int} (h:af F w (.slice p n cap) xs) {i:Nat} (hi:i<xs.length):
  ∃b off,p=some ⟨b,off,none⟩∧F b∧∀i,i<xs.length→w.cell? ⟨b,off+i,none⟩=some (.int .i64 (ix xs i)):=by
 obtain⟨p',cap',e,hl,h⟩:=h
 cases e
 rcases h with h|⟨b,off,hp,hF,h⟩
 ·subst h;cases hi
 ·exact⟨b,off,hp,hF,h⟩
def js (base:Nat) (w:World) (v:Value) (xs:List Int):Prop:=w.ownsRow base 3 1 v xs.length (xs.map (Value.int .i64))
theorem av {w:World} {base:Nat} {e:TypeId} {size n:Nat} {v:Value} {xs:List Value} (h:w.ownsRow base e size v n xs):∃p cap,v=.slice p n cap∧n≤cap∧cap≤maxLen∧(0<n→∃g,p=some ⟨g,0,none⟩∧base≤g∧g<w.heap.size):=by
 obtain⟨h1,h2⟩:=h
 rcases h2 with⟨rfl,rfl⟩|⟨g,cap,cur,rfl,hg,hh,hn,hc,hs,ht⟩
 ·exact⟨none,0,rfl,by omega,by unfold maxLen;omega,by omega⟩
 ·refine⟨_,cap,rfl,hn,hc,fun _=>⟨g,rfl,hg,?_⟩⟩
  by_cases hlt:g<w.heap.size
  ·exact hlt
  ·simp[Array.getElem?_eq_none (Nat.le_of_not_lt hlt)]at hh
theorem bC {S:Nat→Prop} {w w':World} {base:Nat} {e:TypeId} {size n:Nat} {v:Value} {xs:List Value} (h:w.ownsRow base e size v n xs) (hc:bA S w w') (hd:∀k,v.ownBlock=some k→¬S k):w'.ownsRow base e size v n xs:=by
 have hlt:=h.lt
 obtain⟨h1,h2⟩:=h
 refine⟨h1,?_⟩
 rcases h2 with h2|⟨g,cap,cur,rfl,hg,hh,r⟩
 ·exact .inl h2
 ·exact .inr ⟨g,cap,cur,rfl,hg,by rw[hc.block g (hlt g rfl).2 (hd g rfl)];exact hh,r⟩
theorem mP {w:World} {base base':Nat} {e:TypeId} {size n:Nat} {v:Value} {xs:List Value} (h:w.ownsRow base e size v n xs) (hd:∀k,v.ownBlock=some k→base'≤k):w.ownsRow base' e size v n xs:=by
 obtain⟨h1,h2⟩:=h
 refine⟨h1,?_⟩
 rcases h2 with h2|⟨g,cap,cur,rfl,hg,r⟩
 ·exact .inl h2
 ·exact .inr ⟨g,cap,cur,rfl,hd g rfl,r⟩
theorem Aw {w w':World} {cs:List Value} {T base size n:Nat} (h:uv w w' cs T) (hb:base≤w.heap.size) (hm:n≤maxLen) (hs:cs.length=n*size):w'.ownsRow base T size (.slice (some ⟨w.heap.size,0,none⟩) n n) n cs:=
 ⟨hs,.inr ⟨w.heap.size,n,cs.toArray,rfl,hb,h.aJ,Nat.le_refl _,hm,by simpa using hs,by simp[←hs]⟩⟩
theorem js.get {base:Nat} {w:World} {g n cap:Nat} {xs:List Int} (h:js base w (.slice (some ⟨g,0,none⟩) n cap) xs) {i:Nat} (hi:i<xs.length):w.cell? ⟨g,0+i,none⟩=some (.int .i64 (ix xs i)):=by
 have h1:n=xs.length:=by obtain⟨p,c,e,_⟩:=av h;cases e;rfl
 subst h1
 rw[Nat.zero_add,World.ownsRow.cellAt h i Hb,List.getElem?_map,gF hi];rfl
theorem js.free {base:Nat} {w:World} {g n cap:Nat} {xs:List Int} (h:js base w (.slice (some ⟨g,0,none⟩) n cap) xs) (j:Nat):w.frozen? ⟨g,j,none⟩=false:=by
 have h1:n=xs.length:=by obtain⟨p,c,e,_⟩:=av h;cases e;rfl
 subst h1
 exact World.ownsRow.frozenAt h j
theorem js.set {base:Nat} {w:World} {g n cap:Nat} {xs:List Int} (h:js base w (.slice (some ⟨g,0,none⟩) n cap) xs) (i:Nat) (a:Int):
  js base (w.setCell ⟨g,0+i,none⟩ (.int .i64 a)) (.slice (some ⟨g,0,none⟩) n cap) (xs.set i a)∧bA (fun k=>k=g) w (w.setCell ⟨g,0+i,none⟩ (.int .i64 a)):=by
 have h1:n=xs.length:=by obtain⟨p,c,e,_⟩:=av h;cases e;rfl
 subst h1
 obtain⟨h2,h3⟩:=World.ownsRow.stored h i (.int .i64 a)
 rw[Nat.zero_add]
 refine⟨?_,(bA.jd h3).mono (fun k _ e=>by cases e;rfl)⟩
 unfold js
 rw[List.length_set,List.map_set];exact h2
structure bP where
 op:Int
 a:Int
 b:Int
 n:Int
 kind:Int
 val:Int
 index:Int
 types:List Int
 labels:List Int
 deriving Inhabited
structure kv (F:Nat→Prop) (w:World) (bk o:Nat) (x:bP):Prop where
 op:w.cell? ⟨bk,o,none⟩=some (.int .i64 x.op)
 a:w.cell? ⟨bk,o+1,none⟩=some (.int .i64 x.a)
 b:w.cell? ⟨bk,o+2,none⟩=some (.int .i64 x.b)
 n:w.cell? ⟨bk,o+3,none⟩=some (.int .u64 x.n)
 kind:w.cell? ⟨bk,o+4,none⟩=some (.int .i64 x.kind)
 val:w.cell? ⟨bk,o+5,none⟩=some (.int .i64 x.val)
 index:w.cell? ⟨bk,o+6,none⟩=some (.int .i64 x.index)
 types:∃tv,w.cell? ⟨bk,o+7,none⟩=some tv∧af F w tv x.types
 labels:∃lv,w.cell? ⟨bk,o+8,none⟩=some lv∧af F w lv x.labels
 DM:gJ x.op
 ra:gJ x.a
theorem kv.aD {F S:Nat→Prop} {w w':World} {b o:Nat} {x:bP} (h:kv F w b o x) (hc:bA S w w') (hF:F b) (hd:∀k,k<w.heap.size→F k→¬S k):kv F w' b o x:=by
 have hb:¬S b:=hd b (ed h.op) hF
 refine⟨hc.cell hb h.op,hc.cell hb h.a,hc.cell hb h.b,hc.cell hb h.n,hc.cell hb h.kind,hc.cell hb h.val,hc.cell hb h.index,?_,?_,h.DM,h.ra⟩
 ·obtain⟨tv,h1,h2⟩:=h.types
  exact⟨tv,hc.cell hb h1,h2.aD hc hd⟩
 ·obtain⟨tv,h1,h2⟩:=h.labels
  exact⟨tv,hc.cell hb h1,h2.aD hc hd⟩
def dN (F:Nat→Prop) (w:World) (v:Value) (xs:List bP):Prop:=
 ∃p cap,v=.slice p xs.length cap∧xs.length≤1353247013952∧
  (xs=[]∨∃b off,p=some ⟨b,off,none⟩∧F b∧∀i,i<xs.length→kv F w b (off+i*9) (ix xs i))
theorem dN.aD {F S:Nat→Prop} {w w':World} {v:Value} {xs:List bP} (h:dN F w v xs) (hc:bA S w w') (hd:∀k,k<w.heap.size→F k→¬S k):dN F w' v xs:=by
 obtain⟨p,cap,rfl,hl,h⟩:=h
 refine⟨p,cap,rfl,hl,?_⟩
 rcases h with h|⟨b,off,hp,hF,h⟩
 ·exact .inl h
 ·exact .inr ⟨b,off,hp,hF,fun i hi=>(h i hi).aD hc hF hd⟩
abbrev Body (w:World) (v:Value) (xs:List bP):Prop:=dN (fun _=>True) w v xs
theorem dN.ext {F:Nat→Prop} {w w':World} {v:Value} {xs:List bP} (h:dN F w v xs) (hc:Ext w w'):dN F w' v xs:=h.aD hc (fun _ _ _ h=>h)
theorem dN.slice {F:Nat→Prop} {w:World} {v:Value} {xs:List bP} (h:dN F w v xs):∃p cap,v=.slice p xs.length cap∧xs.length≤1353247013952:=by
 obtain⟨p,cap,rfl,hl,_⟩:=h
 exact⟨p,cap,rfl,hl⟩
theorem dN.at {F:Nat→Prop} {w:World} {p:Option Addr} {n cap:Nat} {xs:List bP} (h:dN F w (.slice p n cap) xs) {i:Nat} (hi:i<xs.length):
  ∃b off,p=some ⟨b,off,none⟩∧F b∧∀i,i<xs.length→kv F w b (off+i*9) (ix xs i):=by
 obtain⟨p',cap',e,hl,h⟩:=h
 cases e
 rcases h with h|⟨b,off,hp,hF,h⟩
 ·subst h;cases hi
 ·exact⟨b,off,hp,hF,h⟩
theorem mI (s:Nat) (f:Nat→List Value):∀n,(∀i,i<n→(f i).length=s)→((List.range n).flatMap f).length=n*s
 |0,_=>by simp
 |n+1,h=>by
  rw[List.range_succ,List.flatMap_append,List.length_append,mI s f n (fun i hi=>h i Hb)]
  simp[h n Hb,Nat.succ_mul]
theorem oL (s:Nat) (f:Nat→List Value):∀n,(∀i,i<n→(f i).length=s)→∀i j,i<n→j<s→((List.range n).flatMap f)[i*s+j]?=(f i)[j]?
 |0,_,_,_,hi,_=>by omega
 |n+1,h,i,j,hi,hj=>by
  have hl:=mI s f n (fun i hi=>h i Hb)
  rw[List.range_succ,List.flatMap_append]
  by_cases e:i=n
  ·subst e
   rw[List.getElem?_append_right (by rw[hl];omega),hl]
   simp[Nat.add_sub_cancel_left]
  ·have:i*s+j<n*s:=by
    have:(i+1)*s≤n*s:=Nat.mul_le_mul_right _ Hb
    rw[Nat.succ_mul]at this;omega
   rw[List.getElem?_append_left (by rw[hl];exact this)]
   exact oL s f n (fun i hi=>h i Hb) i j Hb hj
def nL (f:Nat→List Value) (i:Nat) (c:List Value):Nat→List Value:=fun k=>if k=i then c else f k
theorem kW (f:Nat→List Value) (i:Nat) (c:List Value):nL f i c i=c:=by simp[nL]
theorem h9 (f:Nat→List Value) {i k:Nat} (c:List Value) (h:k≠i):nL f i c k=f k:=by simp[nL,h]
theorem jV {f g:Nat→List Value}:∀{n:Nat},(∀i,i<n→f i=g i)→(List.range n).flatMap f=(List.range n).flatMap g
 |0,_=>by simp
 |n+1,h=>by
  rw[List.range_succ,List.flatMap_append,List.flatMap_append,jV (fun i hi=>h i Hb)]
  simp[h n Hb]
theorem tC (s:Nat) (f:Nat→List Value) (u:Value):∀n,(∀i,i<n→(f i).length=s)→∀i j,i<n→j<s→((List.range n).flatMap f).set (i*s+j) u=(List.range n).flatMap (nL f i ((f i).set j u))
 |0,_,_,_,hi,_=>by omega
 |n+1,h,i,j,hi,hj=>by
  have hl:=mI s f n (fun i hi=>h i Hb)
  rw[List.range_succ,List.flatMap_append,List.flatMap_append]
  by_cases e:i=n
  ·subst e
   rw[List.set_append_right _ _ (by rw[hl];omega),hl,Nat.add_sub_cancel_left]
   congr 1
   ·exact jV (fun k hk=>(h9 f _ Hb).symm)
   ·simp[nL]
  ·have:i*s+j<n*s:=by
    have:(i+1)*s≤n*s:=Nat.mul_le_mul_right _ Hb
    rw[Nat.succ_mul]at this;omega
   rw[List.set_append_left _ _ (by rw[hl];exact this),tC s f u n (fun i hi=>h i Hb) i j Hb hj]
   congr 1
   simp[nL,Ne.symm e]
structure eQ (base T s:Nat) (w:World) (v:Value) (n:Nat) (f:Nat→List Value):Prop where
 own:w.ownsRow base T s v n ((List.range n).flatMap f)
 len:∀i,i<n→(f i).length=s
theorem eQ.aD {S:Nat→Prop} {base T s n:Nat} {w w':World} {v:Value} {f:Nat→List Value} (h:eQ base T s w v n f) (hc:bA S w w') (hd:∀k,v.ownBlock=some k→¬S k):eQ base T s w' v n f:=⟨bC h.own hc hd,h.len⟩
theorem eQ.ext {base T s n:Nat} {w w':World} {v:Value} {f:Nat→List Value} (h:eQ base T s w v n f) (hc:Ext w w'):eQ base T s w' v n f:=h.aD hc (fun _ _ h=>h)
theorem eQ.lt {base T s n:Nat} {w:World} {v:Value} {f:Nat→List Value} (h:eQ base T s w v n f):∀k,v.ownBlock=some k→base≤k∧k<w.heap.size:=h.own.lt
theorem eQ.slice {base T s n:Nat} {w:World} {v:Value} {f:Nat→List Value} (h:eQ base T s w v n f):∃p cap,v=.slice p n cap∧n≤cap∧cap≤maxLen∧(0<n→∃g,p=some ⟨g,0,none⟩∧base≤g∧g<w.heap.size):=av h.own
theorem eQ.cell {base T s n g cap:Nat} {w:World} {f:Nat→List Value} (h:eQ base T s w (.slice (some ⟨g,0,none⟩) n cap) n f) {i j:Nat} {u:Value} (hi:i<n) (hu:(f i)[j]?=some u):w.cell? ⟨g,0+i*s+j,none⟩=some u:=by
 have hj:j<s:=by rw[←h.len i hi];exact(List.getElem?_eq_some_iff.1 hu).1
 have hlt:i*s+j<n*s:=by
  have:(i+1)*s≤n*s:=Nat.mul_le_mul_right _ Hb
  rw[Nat.succ_mul]at this;omega
 rw[Nat.zero_add,h.own.cellAt (i*s+j) hlt,oL s f n h.len i j hi hj,hu]
theorem eQ.free {base T s n g cap:Nat} {w:World} {f:Nat→List Value} (h:eQ base T s w (.slice (some ⟨g,0,none⟩) n cap) n f) (j:Nat):w.frozen? ⟨g,j,none⟩=false:=h.own.frozenAt j
theorem eQ.set {base T s n g cap:Nat} {w:World} {f:Nat→List Value} (h:eQ base T s w (.slice (some ⟨g,0,none⟩) n cap) n f) {i j:Nat} (hi:i<n) (hj:j<s) (u:Value):
  eQ base T s (w.setCell ⟨g,0+i*s+j,none⟩ u) (.slice (some ⟨g,0,none⟩) n cap) n (nL f i ((f i).set j u))∧bA (fun k=>k=g) w (w.setCell ⟨g,0+i*s+j,none⟩ u):=by
 rw[Nat.zero_add]
 obtain⟨h1,h2⟩:=h.own.stored (i*s+j) u
 refine⟨⟨by rw[←tC s f u n h.len i j hi hj];exact h1,fun k hk=>?_⟩,(bA.jd h2).mono (fun k _ e=>by cases e;rfl)⟩
 by_cases e:k=i
 ·subst e;rw[kW];simpa using h.len k hk
 ·rw[h9 _ _ e];exact h.len k hk
theorem eQ.congr {base T s n:Nat} {w:World} {v:Value} {f g:Nat→List Value} (h:eQ base T s w v n f) (e:∀i,i<n→f i=g i):eQ base T s w v n g:=
 ⟨by rw[←jV e];exact h.own,fun i hi=>by rw[←e i hi];exact h.len i hi⟩
theorem eQ.pop {base T s n g cap:Nat} {w:World} {f:Nat→List Value} (h:eQ base T s w (.slice (some ⟨g,0,none⟩) (n+1) cap) (n+1) f):eQ base T s w (.slice (some ⟨g,0,none⟩) n cap) n f:=by
 refine⟨?_,fun i hi=>h.len i Hb⟩
 have h1:=h.own
 rw[List.range_succ,List.flatMap_append]at h1
 exact ownsRow_pop (mI s f n (fun i hi=>h.len i Hb)) h1
theorem eQ.cO {w w':World} {c:List Value} {T base:Nat} (h:uv w w' c T) (hb:base≤w.heap.size):eQ base T c.length w' (.slice (some ⟨w.heap.size,0,none⟩) 1 1) 1 (fun _=>c):=
 ⟨by have:=Aw (n:=1) (size:=c.length) h hb G0 Hc;simpa using this,fun _ _=>rfl⟩
theorem eQ.Bp {n:Nat} {E:Env} {w:World} {t:TypeId} {v:Value} {x y:Operand} {ti te:TI}
  {base T s m bk:Nat} {f:Nat→List Value} {c:List Value} (hown:eQ base T s w v m f) (ht:G.ty t=some ti) (he:ti.elem=some T) (hte:G.ty T=some te) (hs:te.size=s) (hzs:te.zero.cells.size=te.size) (hsz:0<te.size) (hbt:te.bytes≤1000)
  (hx:ev E x=some v) (hy:ev E y=some (.slice (some ⟨bk,0,none⟩) 1 1)) (hb:base≤w.heap.size) (hc:dZ w bk c T) (hcl:c.length=s) (h1:∀u∈c,u.oneCell'=true) (hlen:m≤100000000000):
  bB G n (.call ⟨.builtin .append,#[x,y],#[t,t]⟩) E w (fun v' w'=>eQ base T s w' v' (m+1) (nL f m c)∧bA (fun k=>v.ownBlock=some k) w w'∧(v'.ownBlock=v.ownBlock∨v'.ownBlock=some w.heap.size)):=by
 subst hs
 refine(bB.ou (G:=G) (ti:=ti) (te:=te) (e:=T) (base:=base) (len:=m) (m:=1) (c:=1) (bk:=bk) (of_:=0) (xs:=(List.range m).flatMap f) (news:=c) ht he hte hzs hsz hx hown.own hy (by rw[hcl];omega) ?_ h1 ?_ ?_ hb).mono ?_
 ·intro j u hj
  rw[Nat.zero_add];exact hc.cell hj
 ·unfold maxLen;omega
 ·have:=Nat.mul_le_mul (show m+1≤100000000001 by omega) hbt;omega
 ·rintro v' w' ⟨h2,h3⟩
  refine⟨⟨?_,fun i hi=>?_⟩,h3⟩
  ·rw[List.range_succ,List.flatMap_append,jV (fun k hk=>h9 f c Hb)]
   simpa[nL]using h2
  ·by_cases e:i=m
   ·subst e;rw[kW];exact hcl
   ·rw[h9 _ _ e];exact hown.len i Hb
structure Bk where
 fr:Int
 to:Int
 next:List Int
 live:Bool
 deriving Inhabited,DecidableEq
open Go.RowKit Go.Deep
def Tr (w:World) (t:TypeId) (cs:List Value):Prop:=
 ∃(H:Type) (enc:TypeId×Value→H) (spare:Nat→Bool) (held:Bool) (fuel:Nat) (x:DataW H×List MemPlace),DataW.trod enc G.P w 0 spare held fuel t cs=some x∧∀n∈x.1.weights G.P t,n≤reachBytes
section
variable {w:World} {t e:TypeId} {cs:List Value}
theorem jH:reachBytes=140737488351232:=by decide
theorem sZ {a:Addr} {v:Value} (h:w.cell? (a.add 0)=some v):a.spot=none:=by
 obtain⟨b,o,s⟩:=a
 cases s with
 |none=>rfl
 |some k=>
  exfalso
  simp only[World.cell?,Addr.add,if_true]at h
  split at h<;>simp at h
theorem rq {a:Addr} (hs:a.spot=none) (i:Nat):a.add i=⟨a.block,a.off+i,none⟩:=by
 obtain⟨b,o,s⟩:=a
 cases hs
 unfold Addr.add;split
 ·rename_i h;subst h;rfl
 ·rfl
theorem nM {H:Type} {P:Program} {e:TypeId}:∀{l:List (DataW H)} {d:DataW H},d∈l→∀n∈d.weights P e,n∈DataW.weightsAll P e l
 |x::r,d,hd,n,hn=>by
  simp only[DataW.weightsAll,List.mem_append]
  rcases List.mem_cons.1 hd with rfl|hd
  ·exact .inl hn
  ·exact .inr (nM hd n hn)
theorem mY {H:Type} {P:Program}:∀{ts:List TypeId} {l:List (DataW H)} {i:Nat} {t:TypeId} {d:DataW H},ts[i]?=some t→l[i]?=some d→∀n∈d.weights P t,n∈DataW.weightsEach P ts l
 |t::ts,x::r,0,_,_,h1,h2,n,hn=>by
  simp at h1 h2;subst h1;subst h2
  simp only[DataW.weightsEach,List.mem_append];exact .inl hn
 |t::ts,x::r,i+1,_,_,h1,h2,n,hn=>by
  simp only[DataW.weightsEach,List.mem_append]
  exact .inr (mY (ts:=ts) (l:=r) (i:=i) (by simpa using h1) (by simpa using h2) n hn)
 |[],_,_,_,_,h1,_,_,_=>by simp at h1
 |_::_,[],_,_,_,_,h2,_,_=>by simp at h2
theorem qb {a:Int} (h:(Lit.int .i64 a).wf=true):gJ a:=by
 have e1:IntKind.i64.min=-9223372036854775808:=by decide
 have e2:IntKind.i64.max=9223372036854775807:=by decide
 simp only[Lit.wf,e1,e2,Bool.and_eq_true,decide_eq_true_eq]at h
 exact h
theorem Tr.int {k:IntKind} (ht:G.P.underlying t=some (.int k)) (h:Tr w t cs):∃n,cs=[.int k n]∧(Lit.int k n).wf=true:=by
 obtain⟨H,enc,spare,held,fuel,x,h,hw⟩:=h
 obtain⟨n,h1,-,h2⟩:=DataW.trod_int ht h
 exact⟨n,h1,h2⟩
theorem Tr.bool (ht:G.P.underlying t=some .bool) (h:Tr w t cs):∃b,cs=[.bool b]:=by
 obtain⟨H,enc,spare,held,fuel,x,h,hw⟩:=h
 obtain⟨n,h1,-⟩:=DataW.trod_bool ht h
 exact⟨n,h1⟩
theorem Tr.string (ht:G.P.underlying t=some .string) (h:Tr w t cs):∃s:ByteArray,cs=[.string s]∧s.size≤reachBytes:=by
 obtain⟨H,enc,spare,held,fuel,x,h,hw⟩:=h
 obtain⟨s,h1,h2,h3⟩:=DataW.trod_string ht h
 subst h2
 refine⟨s,h1,?_⟩
 have:=hw s.data.toList.length (by simp[DataW.weights])
 simpa using this
theorem Tr.struct {fs:Array Field} (ht:G.P.underlying t=some (.struct fs)) (h:Tr w t cs):cs.length=G.P.cellsOf t∧∀(i:Nat) (f:Field),fs[i]?=some f→Tr w f.type ((cs.drop f.offset).take (G.P.cellsOf f.type)):=by
 obtain⟨H,enc,spare,held,fuel,x,h,hw⟩:=h
 obtain⟨xs,n,rfl,rfl,hl,hx,hf⟩:=DataW.trod_struct ht h
 refine⟨hl,fun i f hi=>?_⟩
 have h1:=hf i f hi
 have hlt:i<xs.length:=by rw[hx];exact(Array.getElem?_eq_some_iff.1 hi).1
 rw[List.getElem?_eq_getElem hlt]at h1
 refine⟨H,enc,spare,held,n,xs[i],h1,fun m hm=>hw m ?_⟩
 simp only[DataW.weights,ht]
 refine mY (i:=i) (t:=f.type) (d:=xs[i].1) ?_ ?_ m hm
 ·rw[List.getElem?_map,Array.getElem?_toList,hi];rfl
 ·rw[List.getElem?_map,List.getElem?_eq_getElem hlt];rfl
theorem Tr.slice {s bt:Nat} (ht:G.P.underlying t=some (.slice e)) (hc:G.P.cellsOf e=s) (hby:G.P.bytesOf e=bt) (h0:0<s) (h:Tr w t cs):
  ∃p len cap,cs=[.slice p len cap]∧len*bt≤140737488351232∧(len=0∨∃b off,p=some ⟨b,off,none⟩∧∀i,i<len→∃cs',cs'.length=s∧(∀j,j<s→w.cell? ⟨b,off+i*s+j,none⟩=cs'[j]?)∧Tr w e cs'):=by
 obtain⟨H,enc,spare,held,fuel,x,h,hw⟩:=h
 rcases open_slice ht h with⟨rfl,rfl⟩|⟨a,len,cap,m,n,D,Pl,rfl,hb,hl,hm,hmm,rfl,hx⟩
 ·exact⟨_,_,_,rfl,by omega,.inl rfl⟩
 ·rw[hc]at hx
  have hlm:len≤m:=by rw[hmm];split<;>omega
  refine⟨_,len,cap,rfl,?_,?_⟩
  ·have:=hw ((len+(m - len))*G.P.bytesOf e) (by simp[DataW.weights,ht])
   rw[hby,jH]at this
   exact Nat.le_trans (Nat.mul_le_mul_right _ Hb) this
  ·by_cases hz:len=0
   ·exact .inl hz
   ·right
    obtain⟨cs0,hc0,-⟩:=hx 0 Hb
    obtain⟨-,hl0,hg0⟩:=World.cells?_some hc0
    have hsp:a.spot=none:=by
     have h1:=hg0 0 h0
     rw[Nat.zero_mul,List.getElem?_eq_getElem Hb]at h1
     have e0:(a.add 0).add 0=a.add 0:=by unfold Addr.add;simp
     rw[e0]at h1
     exact sZ h1
    refine⟨a.block,a.off,by obtain⟨_,_,s⟩:=a;cases hsp;rfl,fun i hi=>?_⟩
    obtain⟨cs',hc',htr⟩:=hx i Hb
    obtain⟨-,hl',hg'⟩:=World.cells?_some hc'
    refine⟨cs',hl',fun j hj=>?_,H,enc,spare,held,n,_,htr,fun q hq=>hw q ?_⟩
    ·rw[←hg' j hj,rq hsp,rq rfl]
    ·simp only[DataW.weights,ht]
     refine List.mem_cons_of_mem _ (List.mem_append_left _ (nM (d:=D i) (List.mem_map.2 ⟨i,List.mem_range.2 hi,rfl⟩) q hq))
theorem nA {α:Type} [Inhabited α] {p:Nat→α→Prop}:∀{n:Nat},(∀i,i<n→∃a,p i a)→∃xs:List α,xs.length=n∧∀i,i<n→p i (ix xs i)
 |0,_=>⟨[],rfl,fun i hi=>by omega⟩
 |n+1,h=>by
  obtain⟨xs,hl,hx⟩:=nA (n:=n) (fun i hi=>h i Hb)
  obtain⟨a,ha⟩:=h n Hb
  refine⟨xs++[a],by simp[hl],fun i hi=>?_⟩
  by_cases e:i=n
  ·subst e
   have:ix (xs++[a]) i=a:=by simp[ix,←hl]
   rw[this];exact ha
  ·have:ix (xs++[a]) i=ix xs i:=by simp only[ix,List.getD_eq_getElem?_getD];rw[List.getElem?_append_left Hb]
   rw[this];exact hx i Hb
theorem Tr.pP {α:Type} [Inhabited α] {s bt:Nat} (R:Nat→Nat→α→Prop) (ht:G.P.underlying t=some (.slice e)) (hc:G.P.cellsOf e=s) (hby:G.P.bytesOf e=bt) (h0:0<s)
  (hR:∀b o cs,cs.length=s→(∀j,j<s→w.cell? ⟨b,o+j,none⟩=cs[j]?)→Tr w e cs→∃y,R b o y) (h:Tr w t cs):
  ∃p cap,∃ys:List α,cs=[.slice p ys.length cap]∧ys.length*bt≤140737488351232∧(ys=[]∨∃b off,p=some ⟨b,off,none⟩∧True∧∀i,i<ys.length→R b (off+i*s) (ix ys i)):=by
 obtain⟨p,len,cap,rfl,hl,hx⟩:=h.slice ht hc hby h0
 rcases hx with rfl|⟨b,off,rfl,hx⟩
 ·exact⟨p,cap,[],rfl,by simp,.inl rfl⟩
 ·obtain⟨ys,hy,hyR⟩:=nA (p:=fun i y=>R b (off+i*s) y) (fun i hi=>by
   obtain⟨cs',h1,h2,h3⟩:=hx i hi
   exact hR b _ cs' h1 h2 h3)
  subst hy
  exact⟨_,cap,ys,rfl,hl,.inr ⟨b,off,rfl,trivial,hyR⟩⟩
theorem Tr.ints (ht:G.P.underlying t=some (.slice e)) (he:G.P.underlying e=some (.int .i64)) (hc:G.P.cellsOf e=1) (hby:G.P.bytesOf e=8) (h:Tr w t cs):∃v xs,cs=[v]∧af (fun _=>True) w v xs:=by
 obtain⟨p,cap,ys,rfl,hl,h⟩:=h.pP (α:=Int) (fun b o y=>w.cell? ⟨b,o,none⟩=some (.int .i64 y)) ht hc hby Hb (fun b o cs hcl hcc hcs=>by
  obtain⟨n,rfl,-⟩:=hcs.int he
  exact⟨n,by simpa using hcc 0 Hb⟩)
 refine⟨_,ys,rfl,p,cap,rfl,by omega,?_⟩
 rcases h with h|⟨b,off,h1,h2,h3⟩
 ·exact .inl h
 ·exact .inr ⟨b,off,h1,h2,fun i hi=>by have:=h3 i hi;rwa[Nat.mul_one]at this⟩
theorem Tr.ew {fs:Array Field} (hf:∀(i:Nat) (f:Field),fs[i]?=some f→Tr w f.type ((cs.drop f.offset).take (G.P.cellsOf f.type))) (i o n:Nat) {t:TypeId} (hi:(fs[i]?).map (fun f=>(f.type,f.offset))=some (t,o)) (hn:G.P.cellsOf t=n):Tr w t ((cs.drop o).take n):=by
 cases h:fs[i]? with
 |none=>simp[h]at hi
 |some f=>
  simp only[h,Option.map_some,Option.some.injEq,Prod.mk.injEq]at hi
  obtain⟨rfl,rfl⟩:=hi
  subst hn
  exact hf i f h
theorem BP {cs:List Value} (h:cs.length=9):∃a b c d e f g i j,cs=[a,b,c,d,e,f,g,i,j]:=by
 match cs,h with|[a,b,c,d,e,f,g,i,j],_=>exact⟨a,b,c,d,e,f,g,i,j,rfl⟩
theorem Tr.ins {b o:Nat} (hcl:cs.length=9) (hcc:∀j,j<9→w.cell? ⟨b,o+j,none⟩=cs[j]?) (h:Tr w 63 cs):∃y,kv (fun _=>True) w b o y:=by
 obtain⟨c0,c1,c2,c3,c4,c5,c6,c7,c8,rfl⟩:=BP hcl
 obtain⟨-,hf⟩:=h.struct Tryz.underlying63
 obtain⟨n0,e0,w0⟩:=(show Tr w _ [c0]from Tr.ew hf 0 0 1 rfl G7).int Tryz.underlying56
 obtain⟨n1,e1,w1⟩:=(show Tr w _ [c1]from Tr.ew hf 1 1 1 rfl G7).int Tryz.underlying3
 obtain⟨n2,e2,w2⟩:=(show Tr w _ [c2]from Tr.ew hf 2 2 1 rfl G7).int Tryz.underlying3
 obtain⟨n3,e3,w3⟩:=(show Tr w _ [c3]from Tr.ew hf 3 3 1 rfl G7).int Tryz.underlying57
 obtain⟨-,hg⟩:=(show Tr w _ [c4,c5,c6]from Tr.ew hf 4 4 3 rfl G7).struct Tryz.underlying60
 obtain⟨n4,e4,w4⟩:=(show Tr w _ [c4]from Tr.ew hg 0 0 1 rfl G7).int Tryz.underlying3
 obtain⟨n5,e5,w5⟩:=(show Tr w _ [c5]from Tr.ew hg 1 1 1 rfl G7).int Tryz.underlying58
 obtain⟨n6,e6,w6⟩:=(show Tr w _ [c6]from Tr.ew hg 2 2 1 rfl G7).int Tryz.underlying3
 obtain⟨v7,x7,e7,r7⟩:=(show Tr w _ [c7]from Tr.ew hf 5 7 1 rfl G7).ints Tryz.underlying49 Tryz.underlying58 G7 G7
 obtain⟨v8,x8,e8,r8⟩:=(show Tr w _ [c8]from Tr.ew hf 6 8 1 rfl G7).ints Tryz.underlying61 Tryz.underlying3 G7 G7
 cases e0;cases e1;cases e2;cases e3;cases e4;cases e5;cases e6;cases e7;cases e8
 exact⟨⟨n0,n1,n2,n3,n4,n5,n6,x7,x8⟩,hcc 0 Hb,hcc 1 Hb,hcc 2 Hb,hcc 3 Hb,hcc 4 Hb,hcc 5 Hb,hcc 6 Hb,⟨_,hcc 7 Hb,r7⟩,⟨_,hcc 8 Hb,r8⟩,qb w0,qb w1⟩
theorem Tr.body (h:Tr w 66 cs):∃v xs,cs=[v]∧Body w v xs:=by
 obtain⟨p,cap,ys,rfl,hl,h⟩:=h.pP (kv (fun _=>True) w) Tryz.underlying66 (s:=9) (bt:=104) G7 G7 Hb (fun b o cs h1 h2 h3=>h3.ins h1 h2)
 exact⟨_,ys,rfl,p,cap,rfl,by omega,h⟩
end
abbrev qd (α:Type):=(Nat→Prop)→World→Nat→Nat→α→Prop
def fc {α:Type} [Inhabited α] (s N:Nat) (R:qd α) (F:Nat→Prop) (w:World) (v:Value) (xs:List α):Prop:=
 ∃p cap,v=.slice p xs.length cap∧xs.length≤N∧(xs=[]∨∃b off,p=some ⟨b,off,none⟩∧F b∧∀i,i<xs.length→R F w b (off+i*s) (ix xs i))
def Fr {α:Type} (R:qd α):Prop:=∀{F S:Nat→Prop} {w w':World} {b o:Nat} {x:α},R F w b o x→bA S w w'→F b→(∀k,k<w.heap.size→F k→¬S k)→R F w' b o x
def Mo {α:Type} (R:qd α):Prop:=∀{F H:Nat→Prop} {w:World} {b o:Nat} {x:α},R F w b o x→(∀k,k<w.heap.size→F k→H k)→R H w b o x
def Ce {α:Type} (R:qd α):Prop:=∀{F:Nat→Prop} {w:World} {b o:Nat} {x:α},R F w b o x→b<w.heap.size
section
variable {α:Type} [Inhabited α] {s N:Nat} {R:qd α} {F S H:Nat→Prop} {w w':World} {v:Value} {xs:List α}
theorem fc.aD (hR:Fr R) (_hC:Ce R) (h:fc s N R F w v xs) (hc:bA S w w') (hd:∀k,k<w.heap.size→F k→¬S k):fc s N R F w' v xs:=by
 obtain⟨p,cap,rfl,hl,h⟩:=h
 refine⟨p,cap,rfl,hl,?_⟩
 rcases h with h|⟨b,off,hp,hF,h⟩
 ·exact .inl h
 ·exact .inr ⟨b,off,hp,hF,fun i hi=>hR (h i hi) hc hF hd⟩
theorem fc.mono (hR:Mo R) (hC:Ce R) (h:fc s N R F w v xs) (hFH:∀k,k<w.heap.size→F k→H k):fc s N R H w v xs:=by
 obtain⟨p,cap,rfl,hl,h⟩:=h
 refine⟨p,cap,rfl,hl,?_⟩
 rcases h with h|⟨b,off,hp,hF,h⟩
 ·exact .inl h
 ·by_cases hx:xs=[]
  ·exact .inl hx
  ·exact .inr ⟨b,off,hp,hFH b (hC (h 0 (List.length_pos_iff.2 hx))) hF,fun i hi=>hR (h i hi) hFH⟩
theorem fc.slice (h:fc s N R F w v xs):∃p cap,v=.slice p xs.length cap∧xs.length≤N:=by
 obtain⟨p,cap,rfl,hl,_⟩:=h
 exact⟨p,cap,rfl,hl⟩
theorem fc.at {p:Option Addr} {n cap:Nat} (h:fc s N R F w (.slice p n cap) xs) {i:Nat} (hi:i<xs.length):
  ∃b off,p=some ⟨b,off,none⟩∧F b∧∀i,i<xs.length→R F w b (off+i*s) (ix xs i):=by
 obtain⟨p',cap',e,hl,h⟩:=h
 cases e
 rcases h with h|⟨b,off,hp,hF,h⟩
 ·subst h;cases hi
 ·exact⟨b,off,hp,hF,h⟩
theorem fc.nil:fc s N R F w (.slice none 0 0) ([]:List α):=⟨none,0,rfl,Nat.zero_le _,.inl rfl⟩
end
def gl (k:IntKind):qd Int:=fun _ w b o n=>w.cell? ⟨b,o,none⟩=some (.int k n)
theorem gl.fr (k:IntKind):Fr (gl k):=fun h hc hF hd=>hc.cell (hd _ (ed h) hF) h
theorem gl.mo (k:IntKind):Mo (gl k):=fun h _=>h
theorem gl.ce (k:IntKind):Ce (gl k):=fun h=>ed h
def ko {α:Type} (V:(Nat→Prop)→World→Value→List α→Prop):qd (List α):=fun F w b o xs=>∃v,w.cell? ⟨b,o,none⟩=some v∧V F w v xs
theorem ko.fr {α:Type} {V:(Nat→Prop)→World→Value→List α→Prop} (hV:∀{F S:Nat→Prop} {w w':World} {v:Value} {xs:List α},V F w v xs→bA S w w'→(∀k,k<w.heap.size→F k→¬S k)→V F w' v xs):Fr (ko V):=
 fun⟨v,h,hv⟩ hc hF hd=>⟨v,hc.cell (hd _ (ed h) hF) h,hV hv hc hd⟩
theorem ko.mo {α:Type} {V:(Nat→Prop)→World→Value→List α→Prop} (hV:∀{F H:Nat→Prop} {w:World} {v:Value} {xs:List α},V F w v xs→(∀k,k<w.heap.size→F k→H k)→V H w v xs):Mo (ko V):=
 fun⟨v,h,hv⟩ hd=>⟨v,h,hV hv hd⟩
theorem ko.ce {α:Type} {V:(Nat→Prop)→World→Value→List α→Prop}:Ce (ko V):=fun⟨_,h,_⟩=>ed h
theorem kv.mo:Mo kv:=fun h hd=>⟨h.op,h.a,h.b,h.n,h.kind,h.val,h.index,by obtain⟨v,h1,h2⟩:=h.types;exact⟨v,h1,h2.mono hd⟩,by obtain⟨v,h1,h2⟩:=h.labels;exact⟨v,h1,h2.mono hd⟩,h.DM,h.ra⟩
theorem kv.ce:Ce kv:=fun h=>ed h.op
theorem dN.mono {F H:Nat→Prop} {w:World} {v:Value} {xs:List bP} (h:dN F w v xs) (hd:∀k,k<w.heap.size→F k→H k):dN H w v xs:=fc.mono (R:=kv) kv.mo kv.ce h hd
theorem Tr.sl {α:Type} [Inhabited α] {w:World} {t e:TypeId} {cs:List Value} {s bt N:Nat} (R:qd α) (ht:G.P.underlying t=some (.slice e)) (hc:G.P.cellsOf e=s) (hby:G.P.bytesOf e=bt) (h0:0<s) (hN:∀n,n*bt≤140737488351232→n≤N)
  (hR:∀b o cs,cs.length=s→(∀j,j<s→w.cell? ⟨b,o+j,none⟩=cs[j]?)→Tr w e cs→∃y,R (fun _=>True) w b o y) (h:Tr w t cs):
  ∃v xs,cs=[v]∧fc s N R (fun _=>True) w v xs:=by
 obtain⟨p,cap,ys,rfl,hl,h⟩:=h.pP (R (fun _=>True) w) ht hc hby h0 hR
 exact⟨_,ys,rfl,p,cap,rfl,hN _ hl,h⟩
def CC (op:Int):Bool:=op==3 || op==4 || op==5 || op==12 || op==13 || op==14 || op==15 || op==0
def yi (bs:List Bk) (q:Int):Nat→Nat→Int
 |0,_=>-1
 |f+1,k=>if(ix bs k).fr≤q∧q<(ix bs k).to then k else yi bs q f (k+1)
def EP (bs:List Bk) (q:Int):Int:=yi bs q bs.length 0
def DY (seen:List Bool):Nat:=seen.countP (fun b=>!b)
def AW (bs:List Bk):Nat→Int→List Bool×List Int→List Bool×List Int
 |0,_,s=>s
 |f+1,a,s=>
  if a<0∨(bs.length:Int)≤a∨ix s.1 a.toNat=true then s
  else
   let t:=(ix bs a.toNat).next.foldl (fun s b=>AW bs f b s) (s.1.set a.toNat true,s.2)
   (t.1,t.2++[a])
def BV (bs:List Bk):List Int:=(AW bs (bs.length+1) 0 (List.replicate bs.length false,[])).2.reverse
theorem oS {α:Type} [Inhabited α] {l m:List α} {i:Nat} (h:i<l.length):ix (l++m) i=ix l i:=by
 rw[cw h,cw (by rw[List.length_append];omega),List.getElem_append_left h]
theorem oR {α:Type} [Inhabited α] {l:List α} {a:α} {i:Nat} (h:i=l.length):ix (l++[a]) i=a:=by
 subst h;rw[cw Hc];simp
end Go.Proofs.YtceedealggognaaGreatDoor
