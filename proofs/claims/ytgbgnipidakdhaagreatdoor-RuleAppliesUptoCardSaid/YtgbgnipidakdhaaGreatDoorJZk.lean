/- Layer 23, plain: bounds for a sequence of instructions, where no type is longer than K. -/
import Derived.Test.YtgbgnipidakdhaaGreatDoorJOh
import Derived.Test.YtgbgnipidakdhaaGreatDoorJZt
namespace Go.Proofs.YtgbgnipidakdhaaGreatDoor
set_option maxRecDepth 100000
def HC (K:Nat) (m:aj):Prop:=∀f∈m.types,f.params.length≤K∧f.results.length≤K
theorem HC.b {K:Nat} {m:aj} (h:HC K m) (hK:K≤17592186043904):kx m:=fun f hf=>⟨Nat.le_trans (h f hf).1 hK,Nat.le_trans (h f hf).2 hK⟩
theorem wQ {K:Nat} {m:aj} (h1:1≤K) (hT:HC K m) {k v i:Int} {f:aL} (h:cA m k v i=some f):f.params.length≤K∧f.results.length≤K:=by
 unfold cA at h
 split at h
 ·cases h;exact⟨Nat.zero_le _,Nat.zero_le _⟩
 ·split at h
  ·split at h
   ·cases h;exact⟨Nat.zero_le _,h1⟩
   ·cases h
  ·split at h
   ·exact hT _ (nc h)
   ·cases h
theorem Dp {K:Nat} {m:aj} {locals:List Int} {x:cJ} {f:aL} {e:Int} (h1:100≤K) (hT:HC K m) (h:ed m locals x=(f,e)):f.results.length≤K:=by
 have hfun:∀g,fS m x.a=some g→g∈m.types:=fun g hg=>by
  unfold fS at hg
  cases ha:cx (fX m) x.a with
  |none=>rw[ha]at hg;cases hg
  |some t=>rw[ha]at hg;exact nc hg
 have hs:=GP x.op
 unfold ed dH bM ec cX cU at h
 dsimp only at h
 repeat' split at h
 all_goals cases h
 all_goals first
  |(dsimp only[dy,List.length_cons,List.length_nil];omega)
  |(have:=hT _ (hfun _ Md);omega)
  |(have:=hT _ (nc Md);dsimp only;omega)
  |omega
theorem GU {K:Nat} (results:List Int) (h:results.length≤K):ic K 0 (jd results):=by
 refine⟨oP _,rfl,by unfold bP.Fit;exact Nat.zero_le _,fun f hf=>?_,Nat.le_refl 0⟩
 have:f=⟨0,[],results,false,true⟩:=by simpa[jd]using hf
 subst this
 exact⟨Nat.zero_le _,h⟩
structure DV (K:Nat) (results:List Int) (i:Nat) (c:di):Prop where
 k:ic K (i*K) c
 fs:c.fs.length≤i+1
 rs:c.results=results
theorem DV.new {K:Nat} (results:List Int) (h:results.length≤K):DV K results 0 (jd results):=
 ⟨by rw[Nat.zero_mul];exact GU results h,Nat.le_refl 1,rfl⟩
theorem DV.bounds {K i:Nat} {results:List Int} {c:di} (h:DV K results i c) {m:aj} {locals:List Int} {x:cJ} (hT:HC K m) (hK:100≤K) (hK2:K≤1048576) (hr:results.length≤20) (hi:i≤60) (hll:x.labels.length≤1000):GK c m locals x:=by
 have hts:=h.k.ts
 have hfs:=h.fs
 have hm:i*K≤60*1048576:=Nat.mul_le_mul hi hK2
 refine⟨by omega,by omega,by rw[h.rs];omega,fun n=>Nat.le_trans (h.k.fr.label n) Mj,Nat.le_trans h.k.fr.top.1 Mj,Nat.le_trans h.k.fr.top.2 Mj,hll,fun f hf=>?_,?_⟩
 ·have:=(wQ Mj hT hf).1;omega
 ·obtain⟨r,hr⟩:∃r,ed m locals x=r:=⟨_,rfl⟩
  obtain⟨f,e⟩:=r
  have:=Dp hK hT hr
  rw[hr];dsimp only;omega
theorem DV.next {K i:Nat} {results:List Int} {c cC:di} (h:DV K results i c) {m:aj} {locals:List Int} {x:cJ} (hT:HC K m) (hK:100≤K) (e:jV c m locals x=(cC,0)):DV K results (i+1) cC:=by
 have:=wo h.k (m:=m) (locals:=locals) (x:=x) Mj (fun f hf=>wQ Mj hT hf) (by
  obtain⟨r,hr⟩:∃r,ed m locals x=r:=⟨_,rfl⟩
  obtain⟨f,e⟩:=r
  rw[hr];exact Dp hK hT hr) (by rw[e])
 rw[e]at this
 obtain⟨h1,h2,h2',-⟩:=this
 have hfs:=h.fs
 have hm:(i+1)*K=i*K+K:=Nat.succ_mul i K
 have h4:cC.fs.length≤c.fs.length+1:=h2'
 exact⟨by rw[hm];exact h1,by omega,by rw[←h.rs];exact h2⟩
open Go.ChangeShapes Go.WideShapes Go.ChangeAt Go.RowKit Go.Deep
def Fk (N:Nat) (w:World) (t:TypeId) (cs:List Value):Prop:=
 ∃(H:Type) (enc:TypeId×Value→H) (spare:Nat→Bool) (held:Bool) (fuel:Nat) (x:DataW H×List MemPlace),DataW.trod enc G.P w 0 spare held fuel t cs=some x∧Rows.uptoBulk x.1≤N
section
variable {H:Type} {N:Nat} {w:World} {t e:TypeId} {cs:List Value}
theorem Hb (d:DataW H):1≤Rows.uptoBulk d:=by
 cases d with
 |lit l=>cases l<;>simp[Rows.uptoBulk]
 |_=>simp[Rows.uptoBulk]
theorem uF {d:DataW H} {l:List (DataW H)} (h:d∈l):Rows.uptoBulk d≤Rows.uptoBulkAll l:=by
 induction l with
 |nil=>cases h
 |cons x r ih=>
  simp only[Rows.uptoBulkAll]
  rcases List.mem_cons.1 h with rfl|h
  ·omega
  ·have:=ih h;omega
theorem G1 (l:List (DataW H)):l.length≤Rows.uptoBulkAll l:=by
 induction l with
 |nil=>simp[Rows.uptoBulkAll]
 |cons x r ih=>have:=Hb x;simp only[Rows.uptoBulkAll,List.length_cons];omega
theorem Fk.struct {fs:Array Field} (ht:G.P.underlying t=some (.struct fs)) (h:Fk N w t cs):∀(i:Nat) (f:Field),fs[i]?=some f→Fk N w f.type ((cs.drop f.offset).take (G.P.cellsOf f.type)):=by
 obtain⟨H,enc,spare,held,fuel,x,h,hw⟩:=h
 obtain⟨xs,n,rfl,rfl,hl,hx,hf⟩:=DataW.trod_struct ht h
 intro i f hi
 have h1:=hf i f hi
 have hlt:i<xs.length:=by rw[hx];exact(Array.getElem?_eq_some_iff.1 hi).1
 rw[List.getElem?_eq_getElem hlt]at h1
 refine⟨H,enc,spare,held,n,xs[i],h1,Nat.le_trans (uF (l:=xs.map (·.1)) (List.mem_map.2 ⟨xs[i],List.getElem_mem hlt,rfl⟩)) ?_⟩
 simp only[Rows.uptoBulk]at hw
 omega
theorem Fk.slice {s:Nat} (ht:G.P.underlying t=some (.slice e)) (hc:G.P.cellsOf e=s) (h0:0<s) (h:Fk N w t cs):
  ∃p len cap,cs=[.slice p len cap]∧len≤N∧(len=0∨∃b off,p=some ⟨b,off,none⟩∧∀i,i<len→∃cs',cs'.length=s∧(∀j,j<s→w.cell? ⟨b,off+i*s+j,none⟩=cs'[j]?)∧Fk N w e cs'):=by
 obtain⟨H,enc,spare,held,fuel,x,h,hw⟩:=h
 rcases open_slice ht h with⟨rfl,rfl⟩|⟨a,len,cap,m,n,D,Pl,rfl,hb,hl,hm,hmm,rfl,hx⟩
 ·exact⟨_,_,_,rfl,by omega,.inl rfl⟩
 ·rw[hc]at hx
  have hlm:len≤m:=by rw[hmm];split<;>omega
  simp only[Rows.uptoBulk]at hw
  refine⟨_,len,cap,rfl,?_,?_⟩
  ·have:=G1 ((List.range len).map D)
   rw[List.length_map,List.length_range]at this
   omega
  ·by_cases hz:len=0
   ·exact .inl hz
   ·right
    obtain⟨cs0,hc0,-⟩:=hx 0 Mj
    obtain⟨-,hl0,hg0⟩:=World.cells?_some hc0
    have hsp:a.spot=none:=by
     have h1:=hg0 0 h0
     rw[Nat.zero_mul,List.getElem?_eq_getElem Mj]at h1
     have e0:(a.add 0).add 0=a.add 0:=by unfold Addr.add;simp
     rw[e0]at h1
     exact Cx h1
    refine⟨a.block,a.off,by obtain⟨_,_,s⟩:=a;cases hsp;rfl,fun i hi=>?_⟩
    obtain⟨cs',hc',htr⟩:=hx i Mj
    obtain⟨-,hl',hg'⟩:=World.cells?_some hc'
    refine⟨cs',hl',fun j hj=>?_,H,enc,spare,held,n,_,htr,?_⟩
    ·rw[←hg' j hj,CL hsp,CL rfl]
    ·have:=uF (d:=D i) (l:=(List.range len).map D) (List.mem_map.2 ⟨i,List.mem_range.2 hi,rfl⟩)
     show Rows.uptoBulk (D i)≤N
     omega
theorem Fk.gB {fs:Array Field} (hf:∀(i:Nat) (f:Field),fs[i]?=some f→Fk N w f.type ((cs.drop f.offset).take (G.P.cellsOf f.type))) (i o n:Nat) {t:TypeId} (hi:(fs[i]?).map (fun f=>(f.type,f.offset))=some (t,o)) (hn:G.P.cellsOf t=n):Fk N w t ((cs.drop o).take n):=by
 obtain⟨f,h1,h2⟩:=Option.map_eq_some_iff.1 hi
 simp only[Prod.mk.injEq]at h2
 obtain⟨rfl,rfl⟩:=h2
 rw[←hn]
 exact hf i f h1
theorem H7 {u:Value} (h:Fk N w 34 [u]) {p:Option Addr} {n c:Nat} (e:u=.slice p n c):n≤N:=by
 obtain⟨p',n',c',e',hl,-⟩:=h.slice (s:=1) Tryz.underlying34 L9 Mj
 subst e
 simp only[List.cons.injEq,Value.slice.injEq,and_true]at e'
 omega
theorem HS {m:aj} (h:Fk N w 33 cs) (hm:ay (fun _=>True) w cs m):HC N m:=by
 obtain⟨v0,v1,v2,v3,v4,v5,v6,v7,v8,v9,rfl,r0,-⟩:=hm
 have hf:=h.struct Tryz.underlying33
 obtain⟨p,len,cap,e,-,hx⟩:=(show Fk N w _ [v0]from Fk.gB hf 0 0 1 rfl L9).slice (s:=2) Tryz.underlying22 L9 Mj
 simp only[List.cons.injEq,and_true]at e
 subst e
 obtain⟨p',c',e',-⟩:=r0.slice
 simp only[Value.slice.injEq]at e'
 obtain⟨rfl,rfl,rfl⟩:=e'
 intro f hfm
 obtain⟨i,hi,rfl⟩:=List.getElem_of_mem hfm
 obtain⟨b,o,rfl,-,cs2,⟨u0,u1,rfl,q0,q1⟩,hc⟩:=r0.el hi
 obtain⟨b',o',e2,hx⟩:=hx.resolve_left Mj
 cases e2
 obtain⟨cs',hl',hcc,ht⟩:=hx i hi
 match cs',hl' with
 |[a0,a1],_=>
  have e0:a0=u0:=by
   have h1:=hcc 0 Mj;have h2:=hc 0 Mj
   rw[h1]at h2;simpa using h2
  have e1:a1=u1:=by
   have h1:=hcc 1 Mj;have h2:=hc 1 Mj
   rw[h1]at h2;simpa using h2
  subst e0 e1
  have hg:=ht.struct Tryz.underlying47
  rw[cD hi]at q0 q1
  obtain⟨x0,y0,z0,-⟩:=q0.slice
  obtain⟨x1,y1,z1,-⟩:=q1.slice
  exact⟨H7 (show Fk N w _ [a0]from Fk.gB hg 0 0 1 rfl L9) z0,H7 (show Fk N w _ [a1]from Fk.gB hg 1 1 1 rfl L9) z1⟩
end
theorem Hs {H:Type} {enc:TypeId×Value→H} {N:Nat} {w:World} {t:TypeId} {cs:List Value} {d:DataW H} {ps:List MemPlace} (h:DataW.Trod enc G.P w 0 (fun _=>true) true t (.agg cs.toArray) d ps) (hb:Rows.uptoBulk d≤N):Fk N w t cs:=by
 obtain⟨fuel,h⟩:=h
 exact⟨H,enc,_,_,fuel,_,by simpa[Value.cells]using h,hb⟩
theorem GW {H:Type} {enc:TypeId×Value→H} {w:World} {v:Value} {d:DataW H} {ps:List MemPlace} {bs:Nat} (ho:Value.okWide G.P w .any bs 44 v) (h:DataW.Trod enc G.P w 0 (fun _=>true) true 44 v d ps) (hw:∀n∈d.weights G.P 44,n≤reachBytes):∃xs,gR (fun _=>True) w v xs:=by
 obtain⟨p0,l0,c0,rfl⟩:=okWide_slice Tryz.underlying44 ho
 obtain⟨u,xs,e,hb⟩:=(BW h hw).body
 cases e
 exact⟨xs,hb⟩
end Go.Proofs.YtgbgnipidakdhaaGreatDoor
