import Derived.Test.YtdkcljdfbemnbaaGreatDoorJG
namespace Go.Proofs.YtdkcljdfbemnbaaGreatDoor
open Go.RowKit
open List renaming flatMap_append→PY,range→PH,range_succ→Qh
open Nat renaming mul_le_mul_right→Qa,succ_mul→Qg,zero_add→Ps
def ix {α:Type} [Inhabited α] (xs:List α) (i:Nat):α:=xs.getD i default
variable {α:Type} {S:Nat→Prop} {F:Nat→Prop} {base T s n:Nat} {w:World} {p:Option Addr} {v:Value} {f:Nat→List Value}
theorem cz [Inhabited α] {xs:List α} {i:Nat} (h:i<xs.length):ix xs i=xs[i]:=by
 simp[ix,h]
theorem iz [Inhabited α] {xs:List α} {i:Nat} (h:i<xs.length):xs[i]?=some (ix xs i):=by
 rw[cz h,List.getElem?_eq_getElem h]
theorem bN [Inhabited α] {xs:List α} {k:Nat} (h:k<xs.length):xs.take (k+1)=xs.take k++[ix xs k]:=by
 rw[cz h,List.take_succ_eq_append_getElem h]
def eP (n:Int):Prop:=-9223372036854775808≤n∧n≤9223372036854775807
def ai (F:Nat→Prop) (w:World) (v:Value) (xs:List Int):Prop:=
 ∃p cap,v=.slice p xs.length cap∧xs.length≤17592186044416∧
  (xs=[]∨∃b off,p=some ⟨b,off,none⟩∧F b∧∀i,i<xs.length→w.cell? ⟨b,off+i,none⟩=some (.int .i64 (ix xs i)))
theorem ai.aN {F S:Nat→Prop} {w w':World} {v:Value} {xs:List Int} (h:ai F w v xs) (hc:bX S w w') (hd:∀k,k<w.heap.size→F k→¬S k):ai F w' v xs:=by
 obtain⟨p,cap,rfl,hl,h⟩:=h
 refine⟨p,cap,rfl,hl,?_⟩
 rcases h with h|⟨b,off,hp,hF,h⟩
 ·exact .inl h
 ·exact .inr ⟨b,off,hp,hF,fun i hi=>hc.cell (hd b (fy (h i hi)) hF) (h i hi)⟩
theorem ai.mono {F H:Nat→Prop} {w:World} {v:Value} {xs:List Int} (h:ai F w v xs) (hFG:∀k,k<w.heap.size→F k→H k):ai H w v xs:=by
 obtain⟨p,cap,rfl,hl,h⟩:=h
 refine⟨p,cap,rfl,hl,?_⟩
 rcases h with h|⟨b,off,hp,hF,h⟩
 ·exact .inl h
 ·by_cases hx:xs=[]
  ·exact .inl hx
  ·have h0:0<xs.length:=List.length_pos_iff.2 hx
   exact .inr ⟨b,off,hp,hFG b (fy (h 0 h0)) hF,h⟩
theorem ai.slice {xs:List Int} (h:ai F w v xs):∃p cap,v=.slice p xs.length cap∧xs.length≤17592186044416:=by
 obtain⟨p,cap,rfl,hl,_⟩:=h
 exact⟨p,cap,rfl,hl⟩
theorem ai.at {n cap:Nat} {xs:List Int} (h:ai F w (.slice p n cap) xs) {i:Nat} (hi:i<xs.length):
  ∃b off,p=some ⟨b,off,none⟩∧F b∧∀i,i<xs.length→w.cell? ⟨b,off+i,none⟩=some (.int .i64 (ix xs i)):=by
 obtain⟨p',cap',e,hl,h⟩:=h
 cases e
 rcases h with h|⟨b,off,hp,hF,h⟩
 ·subst h;cases hi
 ·exact⟨b,off,hp,hF,h⟩
def hU (base:Nat) (w:World) (v:Value) (xs:List Int):Prop:=w.ownsRow base 3 1 v xs.length (xs.map (Value.int .i64))
theorem aw {base:Nat} {e:TypeId} {size n:Nat} {v:Value} {xs:List Value} (h:w.ownsRow base e size v n xs):∃p cap,v=.slice p n cap∧n≤cap∧cap≤maxLen∧(0<n→∃g,p=some ⟨g,0,none⟩∧base≤g∧g<w.heap.size):=by
 obtain⟨h1,h2⟩:=h
 rcases h2 with⟨rfl,rfl⟩|⟨g,cap,cur,rfl,hg,hh,hn,hc,hs,ht⟩
 ·exact⟨none,0,rfl,by omega,by unfold maxLen;omega,by omega⟩
 ·refine⟨_,cap,rfl,hn,hc,fun _=>⟨g,rfl,hg,?_⟩⟩
  by_cases hlt:g<w.heap.size
  ·exact hlt
  ·simp[Array.getElem?_eq_none (Nat.le_of_not_lt hlt)]at hh
theorem cm {w w':World} {base:Nat} {e:TypeId} {size n:Nat} {v:Value} {xs:List Value} (h:w.ownsRow base e size v n xs) (hc:bX S w w') (hd:∀k,v.ownBlock=some k→¬S k):w'.ownsRow base e size v n xs:=by
 have hlt:=h.lt
 obtain⟨h1,h2⟩:=h
 refine⟨h1,?_⟩
 rcases h2 with h2|⟨g,cap,cur,rfl,hg,hh,r⟩
 ·exact .inl h2
 ·exact .inr ⟨g,cap,cur,rfl,hg,by rw[hc.block g (hlt g rfl).2 (hd g rfl)];exact hh,r⟩
theorem ox {base base':Nat} {e:TypeId} {size n:Nat} {v:Value} {xs:List Value} (h:w.ownsRow base e size v n xs) (hd:∀k,v.ownBlock=some k→base'≤k):w.ownsRow base' e size v n xs:=by
 obtain⟨h1,h2⟩:=h
 refine⟨h1,?_⟩
 rcases h2 with h2|⟨g,cap,cur,rfl,hg,r⟩
 ·exact .inl h2
 ·exact .inr ⟨g,cap,cur,rfl,hd g rfl,r⟩
theorem hU.ext {base:Nat} {w w':World} {v:Value} {xs:List Int} (h:hU base w v xs) (hc:Ext w w'):hU base w' v xs:=cm h hc (fun _ _ h=>h)
theorem np {w w':World} {cs:List Value} {T base size n:Nat} (h:zk w w' cs T) (hb:base≤w.heap.size) (hm:n≤maxLen) (hs:cs.length=n*size):w'.ownsRow base T size (.slice (some ⟨w.heap.size,0,none⟩) n n) n cs:=
 ⟨hs,.inr ⟨w.heap.size,n,cs.toArray,rfl,hb,h.aW,Nat.le_refl _,hm,by simpa using hs,by simp[←hs]⟩⟩
theorem hU.dR {w w':World} {cs:List Value} {base n:Nat} {xs:List Int} (h:zk w w' cs 3) (hx:cs=xs.map (Value.int .i64)) (hb:base≤w.heap.size) (hm:xs.length≤maxLen) (hn:n=xs.length:=by rfl):hU base w' (.slice (some ⟨w.heap.size,0,none⟩) n n) xs:=by
 subst hn
 subst hx
 exact np h hb hm Pj
theorem hU.get {base:Nat} {w:World} {g n cap:Nat} {xs:List Int} (h:hU base w (.slice (some ⟨g,0,none⟩) n cap) xs) {i:Nat} (hi:i<xs.length):w.cell? ⟨g,0+i,none⟩=some (.int .i64 (ix xs i)):=by
 have h1:n=xs.length:=by obtain⟨p,c,e,_⟩:=aw h;cases e;rfl
 subst h1
 rw[Ps,World.ownsRow.cellAt h i Pi,List.getElem?_map,iz hi];rfl
theorem hU.free {base:Nat} {w:World} {g n cap:Nat} {xs:List Int} (h:hU base w (.slice (some ⟨g,0,none⟩) n cap) xs) (j:Nat):w.frozen? ⟨g,j,none⟩=false:=by
 have h1:n=xs.length:=by obtain⟨p,c,e,_⟩:=aw h;cases e;rfl
 subst h1
 exact World.ownsRow.frozenAt h j
theorem hU.set {base:Nat} {w:World} {g n cap:Nat} {xs:List Int} (h:hU base w (.slice (some ⟨g,0,none⟩) n cap) xs) (i:Nat) (a:Int):
  hU base (w.setCell ⟨g,0+i,none⟩ (.int .i64 a)) (.slice (some ⟨g,0,none⟩) n cap) (xs.set i a)∧bX (fun k=>k=g) w (w.setCell ⟨g,0+i,none⟩ (.int .i64 a)):=by
 have h1:n=xs.length:=by obtain⟨p,c,e,_⟩:=aw h;cases e;rfl
 subst h1
 obtain⟨h2,h3⟩:=World.ownsRow.stored h i (.int .i64 a)
 rw[Ps]
 refine⟨?_,(bX.lX h3).mono (fun k _ e=>by cases e;rfl)⟩
 unfold hU
 rw[List.length_set,List.map_set];exact h2
theorem hU.pop {base:Nat} {w:World} {g cap n:Nat} {xs:List Int} (h:hU base w (.slice (some ⟨g,0,none⟩) (n+1) cap) xs) (hn:xs.length=n+1):
  hU base w (.slice (some ⟨g,0,none⟩) n cap) xs.dropLast:=by
 have hne:xs≠[]:=by intro e;subst e;simp at hn
 have e:xs.map (Value.int .i64)=xs.dropLast.map (Value.int .i64)++[.int .i64 (xs.getLast hne)]:=by
  rw[←List.map_singleton,←List.map_append,List.dropLast_concat_getLast]
 unfold hU at*
 rw[e,hn]at h
 have hl:xs.dropLast.length=n:=by simp[hn]
 rw[hl]
 exact ownsRow_pop (by simp[hn]) h
theorem bU.IP {n:Nat} {E:Env} {w:World} {v:Value} {x y:Operand}
  {base:Nat} {xs:List Int} {bk:Nat} {a:Int} (hx:ev E x=some v) (hy:ev E y=some (.slice (some ⟨bk,0,none⟩) 1 1)) (hown:hU base w v xs) (hb:base≤w.heap.size) (hc:w.cell? ⟨bk,0,none⟩=some (.int .i64 a)) (_hlen:xs.length≤10000000000000):
  bU G n (.call ⟨.builtin .append,#[x,y],#[67,67]⟩) E w (fun v' w'=>hU base w' v' (xs++[a])∧bX (fun k=>v.ownBlock=some k) w w'∧(v'.ownBlock=v.ownBlock∨v'.ownBlock=some w.heap.size)):=by
 refine(bU.oT (G:=G) (ti:=Kl) (te:=Lp) (e:=3) (base:=base) (len:=xs.length) (m:=1) (c:=1) (bk:=bk) (of_:=0) (xs:=xs.map (Value.int .i64)) (news:=[.int .i64 a]) rfl rfl rfl rfl Ph hx hown hy rfl ?_ ?_ ?_ ?_ hb).mono ?_
 ·intro j u hj
  match j,hj with
  |0,hj=>simp at hj;subst hj;simpa using hc
 ·simp[Value.oneCell']
 ·unfold maxLen;omega
 ·show(xs.length+1)*8≤_;omega
 ·rintro v' w' ⟨h1,h2⟩
  refine⟨?_,h2⟩
  have h3:w'.ownsRow base 3 1 v' (xs.length+1) (xs.map (Value.int .i64)++[.int .i64 a]):=h1
  simpa[hU]using h3
theorem bU.JR {n:Nat} {E:Env} {w:World} {v:Value} {x y:Operand}
  {base:Nat} {xs:List Int} {bk:Nat} {a:Int} (hx:ev E x=some v) (hy:ev E y=some (.slice (some ⟨bk,0,none⟩) 1 1)) (hown:hU base w v xs) (hb:base≤w.heap.size) (hc:w.cell? ⟨bk,0,none⟩=some (.int .i64 a)) (hlen:xs.length≤10000000000000):
  bU G n (.call ⟨.builtin .append,#[x,y],#[67,67]⟩) E w (fun v' w'=>hU base w' v' (xs++[a])∧bX (fun k=>v.ownBlock=some k) w w'):=
 (bU.IP hx hy hown hb hc hlen).mono fun _ _ h=>⟨h.1,h.2.1⟩
structure cv where
 op:Int
 a:Int
 b:Int
 n:Int
 kind:Int
 val:Int
 index:Int
 types:List Int
 labels:List Int
 deriving Inhabited
structure nQ (F:Nat→Prop) (w:World) (bk o:Nat) (x:cv):Prop where
 op:w.cell? ⟨bk,o,none⟩=some (.int .i64 x.op)
 a:w.cell? ⟨bk,o+1,none⟩=some (.int .i64 x.a)
 b:w.cell? ⟨bk,o+2,none⟩=some (.int .i64 x.b)
 n:w.cell? ⟨bk,o+3,none⟩=some (.int .u64 x.n)
 kind:w.cell? ⟨bk,o+4,none⟩=some (.int .i64 x.kind)
 val:w.cell? ⟨bk,o+5,none⟩=some (.int .i64 x.val)
 index:w.cell? ⟨bk,o+6,none⟩=some (.int .i64 x.index)
 types:∃tv,w.cell? ⟨bk,o+7,none⟩=some tv∧ai F w tv x.types
 labels:∃lv,w.cell? ⟨bk,o+8,none⟩=some lv∧ai F w lv x.labels
 KE:eP x.op
 ra:eP x.a
theorem nQ.aN {F S:Nat→Prop} {w w':World} {b o:Nat} {x:cv} (h:nQ F w b o x) (hc:bX S w w') (hF:F b) (hd:∀k,k<w.heap.size→F k→¬S k):nQ F w' b o x:=by
 have hb:¬S b:=hd b (fy h.op) hF
 refine⟨hc.cell hb h.op,hc.cell hb h.a,hc.cell hb h.b,hc.cell hb h.n,hc.cell hb h.kind,hc.cell hb h.val,hc.cell hb h.index,?_,?_,h.KE,h.ra⟩
 ·obtain⟨tv,h1,h2⟩:=h.types
  exact⟨tv,hc.cell hb h1,h2.aN hc hd⟩
 ·obtain⟨tv,h1,h2⟩:=h.labels
  exact⟨tv,hc.cell hb h1,h2.aN hc hd⟩
def fF (F:Nat→Prop) (w:World) (v:Value) (xs:List cv):Prop:=
 ∃p cap,v=.slice p xs.length cap∧xs.length≤1353247013952∧
  (xs=[]∨∃b off,p=some ⟨b,off,none⟩∧F b∧∀i,i<xs.length→nQ F w b (off+i*9) (ix xs i))
theorem fF.aN {F S:Nat→Prop} {w w':World} {v:Value} {xs:List cv} (h:fF F w v xs) (hc:bX S w w') (hd:∀k,k<w.heap.size→F k→¬S k):fF F w' v xs:=by
 obtain⟨p,cap,rfl,hl,h⟩:=h
 refine⟨p,cap,rfl,hl,?_⟩
 rcases h with h|⟨b,off,hp,hF,h⟩
 ·exact .inl h
 ·exact .inr ⟨b,off,hp,hF,fun i hi=>(h i hi).aN hc hF hd⟩
abbrev Body (w:World) (v:Value) (xs:List cv):Prop:=fF (fun _=>True) w v xs
theorem fF.ext {w w':World} {v:Value} {xs:List cv} (h:fF F w v xs) (hc:Ext w w'):fF F w' v xs:=h.aN hc (fun _ _ _ h=>h)
theorem fF.slice {xs:List cv} (h:fF F w v xs):∃p cap,v=.slice p xs.length cap∧xs.length≤1353247013952:=by
 obtain⟨p,cap,rfl,hl,_⟩:=h
 exact⟨p,cap,rfl,hl⟩
theorem fF.at {n cap:Nat} {xs:List cv} (h:fF F w (.slice p n cap) xs) {i:Nat} (hi:i<xs.length):
  ∃b off,p=some ⟨b,off,none⟩∧F b∧∀i,i<xs.length→nQ F w b (off+i*9) (ix xs i):=by
 obtain⟨p',cap',e,hl,h⟩:=h
 cases e
 rcases h with h|⟨b,off,hp,hF,h⟩
 ·subst h;cases hi
 ·exact⟨b,off,hp,hF,h⟩
theorem qJ (s:Nat) (f:Nat→List Value):∀n,(∀i,i<n→(f i).length=s)→((PH n).flatMap f).length=n*s
 |0,_=>by simp
 |n+1,h=>by
  rw[Qh,PY,List.length_append,qJ s f n (fun i hi=>h i Pi)]
  simp[h n Pi,Qg]
theorem tF (s:Nat) (f:Nat→List Value):∀n,(∀i,i<n→(f i).length=s)→∀i j,i<n→j<s→((PH n).flatMap f)[i*s+j]?=(f i)[j]?
 |0,_,_,_,hi,_=>by omega
 |n+1,h,i,j,hi,hj=>by
  have hl:=qJ s f n (fun i hi=>h i Pi)
  rw[Qh,PY]
  by_cases e:i=n
  ·subst e
   rw[List.getElem?_append_right (by rw[hl];omega),hl]
   simp[Nat.add_sub_cancel_left]
  ·have:i*s+j<n*s:=by
    have:(i+1)*s≤n*s:=Qa _ Pi
    rw[Qg]at this;omega
   rw[List.getElem?_append_left (by rw[hl];exact this)]
   exact tF s f n (fun i hi=>h i Pi) i j Pi hj
def qj (f:Nat→List Value) (i:Nat) (c:List Value):Nat→List Value:=fun k=>if k=i then c else f k
theorem oQ (f:Nat→List Value) (i:Nat) (c:List Value):qj f i c i=c:=by simp[qj]
theorem kM (f:Nat→List Value) {i k:Nat} (c:List Value) (h:k≠i):qj f i c k=f k:=by simp[qj,h]
theorem nh {f g:Nat→List Value}:∀{n:Nat},(∀i,i<n→f i=g i)→(PH n).flatMap f=(PH n).flatMap g
 |0,_=>by simp
 |n+1,h=>by
  rw[Qh,PY,PY,nh (fun i hi=>h i Pi)]
  simp[h n Pi]
theorem zL (s:Nat) (f:Nat→List Value) (u:Value):∀n,(∀i,i<n→(f i).length=s)→∀i j,i<n→j<s→((PH n).flatMap f).set (i*s+j) u=(PH n).flatMap (qj f i ((f i).set j u))
 |0,_,_,_,hi,_=>by omega
 |n+1,h,i,j,hi,hj=>by
  have hl:=qJ s f n (fun i hi=>h i Pi)
  rw[Qh,PY,PY]
  by_cases e:i=n
  ·subst e
   rw[List.set_append_right _ _ (by rw[hl];omega),hl,Nat.add_sub_cancel_left]
   congr 1
   ·exact nh (fun k hk=>(kM f _ Pi).symm)
   ·simp[qj]
  ·have:i*s+j<n*s:=by
    have:(i+1)*s≤n*s:=Qa _ Pi
    rw[Qg]at this;omega
   rw[List.set_append_left _ _ (by rw[hl];exact this),zL s f u n (fun i hi=>h i Pi) i j Pi hj]
   congr 1
   simp[qj,Ne.symm e]
structure iE (base T s:Nat) (w:World) (v:Value) (n:Nat) (f:Nat→List Value):Prop where
 own:w.ownsRow base T s v n ((PH n).flatMap f)
 len:∀i,i<n→(f i).length=s
theorem iE.aN {w w':World} {v:Value} {f:Nat→List Value} (h:iE base T s w v n f) (hc:bX S w w') (hd:∀k,v.ownBlock=some k→¬S k):iE base T s w' v n f:=⟨cm h.own hc hd,h.len⟩
theorem iE.ext {w w':World} {v:Value} {f:Nat→List Value} (h:iE base T s w v n f) (hc:Ext w w'):iE base T s w' v n f:=h.aN hc (fun _ _ h=>h)
theorem iE.lt (h:iE base T s w v n f):∀k,v.ownBlock=some k→base≤k∧k<w.heap.size:=h.own.lt
theorem iE.slice (h:iE base T s w v n f):∃p cap,v=.slice p n cap∧n≤cap∧cap≤maxLen∧(0<n→∃g,p=some ⟨g,0,none⟩∧base≤g∧g<w.heap.size):=aw h.own
theorem iE.cell {base T s n g cap:Nat} {w:World} {f:Nat→List Value} (h:iE base T s w (.slice (some ⟨g,0,none⟩) n cap) n f) {i j:Nat} {u:Value} (hi:i<n) (hu:(f i)[j]?=some u):w.cell? ⟨g,0+i*s+j,none⟩=some u:=by
 have hj:j<s:=by rw[←h.len i hi];exact(List.getElem?_eq_some_iff.1 hu).1
 have hlt:i*s+j<n*s:=by
  have:(i+1)*s≤n*s:=Qa _ Pi
  rw[Qg]at this;omega
 rw[Ps,h.own.cellAt (i*s+j) hlt,tF s f n h.len i j hi hj,hu]
theorem iE.free {base T s n g cap:Nat} {w:World} {f:Nat→List Value} (h:iE base T s w (.slice (some ⟨g,0,none⟩) n cap) n f) (j:Nat):w.frozen? ⟨g,j,none⟩=false:=h.own.frozenAt j
theorem iE.set {base T s n g cap:Nat} {w:World} {f:Nat→List Value} (h:iE base T s w (.slice (some ⟨g,0,none⟩) n cap) n f) {i j:Nat} (hi:i<n) (hj:j<s) (u:Value):
  iE base T s (w.setCell ⟨g,0+i*s+j,none⟩ u) (.slice (some ⟨g,0,none⟩) n cap) n (qj f i ((f i).set j u))∧bX (fun k=>k=g) w (w.setCell ⟨g,0+i*s+j,none⟩ u):=by
 rw[Ps]
 obtain⟨h1,h2⟩:=h.own.stored (i*s+j) u
 refine⟨⟨by rw[←zL s f u n h.len i j hi hj];exact h1,fun k hk=>?_⟩,(bX.lX h2).mono (fun k _ e=>by cases e;rfl)⟩
 by_cases e:k=i
 ·subst e;rw[oQ];simpa using h.len k hk
 ·rw[kM _ _ e];exact h.len k hk
theorem iE.congr {f g:Nat→List Value} (h:iE base T s w v n f) (e:∀i,i<n→f i=g i):iE base T s w v n g:=
 ⟨by rw[←nh e];exact h.own,fun i hi=>by rw[←e i hi];exact h.len i hi⟩
theorem iE.pop {base T s n g cap:Nat} {w:World} {f:Nat→List Value} (h:iE base T s w (.slice (some ⟨g,0,none⟩) (n+1) cap) (n+1) f):iE base T s w (.slice (some ⟨g,0,none⟩) n cap) n f:=by
 refine⟨?_,fun i hi=>h.len i Pi⟩
 have h1:=h.own
 rw[Qh,PY]at h1
 exact ownsRow_pop (qJ s f n (fun i hi=>h.len i Pi)) h1
theorem iE.dR {w w':World} {c:List Value} {T base:Nat} (h:zk w w' c T) (hb:base≤w.heap.size):iE base T c.length w' (.slice (some ⟨w.heap.size,0,none⟩) 1 1) 1 (fun _=>c):=
 ⟨by have:=np (n:=1) (size:=c.length) h hb O4 Pj;simpa using this,fun _ _=>rfl⟩
theorem iE.HX {n:Nat} {E:Env} {w:World} {t:TypeId} {v:Value} {x y:Operand} {ti te:TI}
  {base T s m bk:Nat} {f:Nat→List Value} {c:List Value} (hown:iE base T s w v m f) (ht:G.ty t=some ti) (he:ti.elem=some T) (hte:G.ty T=some te) (hs:te.size=s) (hzs:te.zero.cells.size=te.size) (hsz:0<te.size) (hbt:te.bytes≤1000)
  (hx:ev E x=some v) (hy:ev E y=some (.slice (some ⟨bk,0,none⟩) 1 1)) (hb:base≤w.heap.size) (hc:gQ w bk c T) (hcl:c.length=s) (h1:∀u∈c,u.oneCell'=true) (_hlen:m≤100000000000):
  bU G n (.call ⟨.builtin .append,#[x,y],#[t,t]⟩) E w (fun v' w'=>iE base T s w' v' (m+1) (qj f m c)∧bX (fun k=>v.ownBlock=some k) w w'∧(v'.ownBlock=v.ownBlock∨v'.ownBlock=some w.heap.size)):=by
 subst hs
 refine(bU.oT (G:=G) (ti:=ti) (te:=te) (e:=T) (base:=base) (len:=m) (m:=1) (c:=1) (bk:=bk) (of_:=0) (xs:=(PH m).flatMap f) (news:=c) ht he hte hzs hsz hx hown.own hy (by rw[hcl];omega) ?_ h1 ?_ ?_ hb).mono ?_
 ·intro j u hj
  rw[Ps];exact hc.cell hj
 ·unfold maxLen;omega
 ·have:=Nat.mul_le_mul (show m+1≤100000000001 by omega) hbt;omega
 ·rintro v' w' ⟨h2,h3⟩
  refine⟨⟨?_,fun i hi=>?_⟩,h3⟩
  ·rw[Qh,PY,nh (fun k hk=>kM f c Pi)]
   simpa[qj]using h2
  ·by_cases e:i=m
   ·subst e;rw[oQ];exact hcl
   ·rw[kM _ _ e];exact hown.len i Pi
structure Bk where
 fr:Int
 to:Int
 next:List Int
 live:Bool
 deriving Inhabited,DecidableEq
def I4 (op:Int):Bool:=op==3 || op==4 || op==5 || op==12 || op==13 || op==14 || op==15 || op==0
def EO (bs:List Bk) (q:Int):Nat→Nat→Int
 |0,_=>-1
 |f+1,k=>if(ix bs k).fr≤q∧q<(ix bs k).to then k else EO bs q f (k+1)
def Le (bs:List Bk) (q:Int):Int:=EO bs q bs.length 0
def JD (seen:List Bool):Nat:=seen.countP (fun b=>!b)
def Hy (bs:List Bk):Nat→Int→List Bool×List Int→List Bool×List Int
 |0,_,s=>s
 |f+1,a,s=>
  if a<0∨(bs.length:Int)≤a∨ix s.1 a.toNat=true then s
  else
   let t:=(ix bs a.toNat).next.foldl (fun s b=>Hy bs f b s) (s.1.set a.toNat true,s.2)
   (t.1,t.2++[a])
def Ir (bs:List Bk):List Int:=(Hy bs (bs.length+1) 0 (List.replicate bs.length false,[])).2.reverse
end Go.Proofs.YtdkcljdfbemnbaaGreatDoor
