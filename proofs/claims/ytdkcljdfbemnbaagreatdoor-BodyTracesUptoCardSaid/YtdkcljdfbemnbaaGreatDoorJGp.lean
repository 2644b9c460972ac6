import Derived.Test.YtdkcljdfbemnbaaGreatDoorJSk
namespace Go.Proofs.YtdkcljdfbemnbaaGreatDoor
open Go.RowKit _root_.Go.Proofs.Tryz
set_option maxHeartbeats 8000000
open List renaming all_eq_true→PC,range→PH
set_option maxRecDepth 100000
def tj (op:Int):Int:=
 if op=37∨op=38∨op=64528∨op=64527∨op=64529 then 9 else if op=64526 then 10 else if op=64524 then 11 else if op=64525 then 12 else
 if op=63∨op=64∨op=64523 then 13 else if op=64522 then 14 else if op=64520 then 15 else if op=64521 then 16 else 0
def qM (op:Int):Int:=
 if op=2∨op=3∨op=4 then 1 else if op=12∨op=13 then 2 else if op=14 then 3 else if op=16∨op=210 then 4 else if op=17 then 5 else if op=28 then 6 else
 if op=32∨op=33∨op=34 then 7 else if op=35∨op=36 then 8 else if op=65 then 18 else if op=66 then 19 else if op=208 then 20 else if 0<iL op then 17 else tj op
def Bw:List Int:=[2,3,4,12,13,14,16,210,17,28,32,33,34,35,36,65,66,208,37,38,64528,64527,64529,64526,64524,64525,63,64,64523,64522,64520,64521]
theorem Ip:(lL.all fun r=>decide (qM r.1=r.2.2))=true:=by decide+kernel
theorem DN:(Bw.all fun c=>(fz c).isSome)=true:=by decide+kernel
theorem Io (op:Int):qM op=eR op:=by
 cases h:fz op with
 |some r=>
  have:=PC.1 Ip r (List.mem_of_find?_eq_some h)
  have e:r.1=op:=by have:=List.find?_some h;simpa using this
  rw[e]at this
  rw[of_decide_eq_true this]
  unfold eR eH;rw[h];rfl
 |none=>
  have hne:∀c∈Bw,op≠c:=by
   rintro c hc rfl
   have:=PC.1 DN _ hc
   rw[h]at this;cases this
  have hw:iL op=0:=by rw[vG];unfold iY eH;rw[h];rfl
  have e:eR op=0:=by unfold eR eH;rw[h];rfl
  rw[e]
  simp only[Bw,List.mem_cons,List.not_mem_nil,or_false,forall_eq_or_imp,forall_eq]at hne
  unfold qM tj
  simp[hne,hw]
theorem vV (op:Int) (w:World):Calls G.P 134 #[.int .i64 op] w fun e w'=>e=.returned (.int .i64 (tj op))∧Ext w w':=by
 refine ae (l:=[.int .i64 op]) func134 rfl ntmps134 rfl (Ok.start w) ?_
 repeat'(first|refine mu ?_|(refine gP ?_ ?_<;>(intro hc_;try subst hc_)))
 all_goals first|exact ah.aG rfl rfl fun w' hw'=>⟨rfl,hw'.at⟩|exact ah.aG rfl rfl fun w' hw'=>⟨by unfold tj;simp only[*,if_false,or_false],hw'.at⟩
theorem ij (op:Int) (w:World) (h0:fK w):Calls G.P 95 #[.int .i64 op] w fun e w'=>e=.returned (.int .i64 (eR op))∧Ext w w':=by
 rw[←Io]
 refine ae (l:=[.int .i64 op]) func95 rfl ntmps95 rfl (Ok.start w) ?_
 repeat'(first|refine mu ?_|(refine aa.aj (f:=133) ?_;refine aa.av rfl rfl rfl (fun w' hw'=>qQ _ w' (h0.ext hw'.at)) ?_)|(refine aa.aj (f:=134) ?_;refine aa.av rfl rfl rfl (fun w' hw'=>vV _ w') ?_)|(refine gP ?_ ?_<;>(intro hc_;try subst hc_)))
 all_goals first|exact ah.aG rfl rfl fun w' hw'=>⟨rfl,hw'.at⟩|exact ah.aG rfl rfl fun w' hw'=>⟨by unfold qM;simp only[*,if_true,if_false,or_false],hw'.at⟩
theorem Fin.AB {fn:Func} {R:Ending→World→Prop} {w:World} {n:Nat} {E:Env} {t u s:Nat} {v x y:Value} (hr:fn.results=#[.tmp t,.tmp u,.tmp s]) (hv:lk E t=some v) (hx:lk E u=some x) (hy:lk E s=some y) (hR:R (.returned (.tuple #[v,x,y])) w):Fin (bodyPost G.P fn R) n .ret E w:=
 Fin.qN (.inl rfl) (fun ac hac=>by
  have g1:ac.tmps[t]?.getD undef=v:=by have:=(hac.eq t _ hv).2;simpa using this
  have g2:ac.tmps[u]?.getD undef=x:=by have:=(hac.eq u _ hx).2;simpa using this
  have g3:ac.tmps[s]?.getD undef=y:=by have:=(hac.eq s _ hy).2;simpa using this
  simp[results,hr,g1,g2,g3]) hR
theorem ah.AB {fn:Func} {Rp:Ending→World→Prop} {n:Nat} {E:Env} {M:List bu} {R:List (World→Prop)} {t u s:Nat} {v x y:Value} (hr:fn.results=#[.tmp t,.tmp u,.tmp s]) (hv:lk E t=some v) (hx:lk E u=some x) (hy:lk E s=some y) (hR:∀w,Ok M R w→Rp (.returned (.tuple #[v,x,y])) w):ah (bodyPost G.P fn Rp) n .ret E M R:=⟨fun w hw=>Fin.AB hr hv hx hy (hR w hw)⟩
def HK (P:Program) (t n:Nat):Bool:=((P.fieldsOf t).toList.all fun f=>f.name != "_" && (match P.underlying f.type with|some (.int .i64)=>true|_=>false) && Nat.blt f.offset n) && (((P.fieldsOf t).toList.map fun f=>f.offset)==PH n)
theorem qL {P:Program} {t n:Nat} (h:HK P t n=true):(∀f∈(P.fieldsOf t).toList,f.name≠ "_" ∧P.underlying f.type=some (.int .i64)∧f.offset<n)∧((P.fieldsOf t).toList.map fun f=>f.offset)=PH n:=by
 unfold HK at h
 rw[Bool.and_eq_true]at h
 refine⟨fun f hf=>?_,by simpa using h.2⟩
 have:=PC.1 h.1 f hf
 simp only[Bool.and_eq_true,bne_iff_ne,ne_eq]at this
 obtain⟨⟨h1,h2⟩,h3⟩:=this
 refine⟨h1,?_,by simpa using h3⟩
 split at h2
 ·assumption
 ·cases h2
abbrev C6:Nat:=66
variable {n:Nat} {E:Env} {l:List Int} {f:Int→Bool} {j:Nat} (k v i:Int) (w:World)
theorem Yl.JW {C:World→Prop} {x y:Operand} {t2:TypeId} {a b c d e f:Int} (hx:ev E x=some (.agg #[.int .i64 a,.int .i64 b,.int .i64 c])) (hy:ev E y=some (.agg #[.int .i64 d,.int .i64 e,.int .i64 f])):Yl G n (.binOp .eql C6 x y t2) E C (.bool (decide ([a,b,c]=[d,e,f]))):=
 Yl.Lf [a,b,c] [d,e,f] hx hy rfl Pb Pb Pb (qL (P:=G.P) (t:=C6) (n:=3) Pb).1 (qL (P:=G.P) (t:=C6) (n:=3) Pb).2
theorem Yl.sc {C:World→Prop} {x y:Operand} {t2:TypeId} {a b c d e f:Int} (hx:ev E x=some (.agg #[.int .i64 a,.int .i64 b,.int .i64 c])) (hy:ev E y=some (.agg #[.int .i64 d,.int .i64 e,.int .i64 f])):Yl G n (.binOp .neq C6 x y t2) E C (.bool (decide ([a,b,c]≠[d,e,f]))):=
 Yl.Ka [a,b,c] [d,e,f] hx hy rfl Pb Pb Pb (qL (P:=G.P) (t:=C6) (n:=3) Pb).1 (qL (P:=G.P) (t:=C6) (n:=3) Pb).2
def pJ (k:Int):Bool:=decide (k=2∨k=3∨k=4∨k=7∨k=8∨k=9∨k=12∨k=16∨k=20∨k=5∨k=10∨k=11∨k=14∨k=15∨k=17)
def pK (k:Int):Bool:=decide (k=5∨k=10∨k=11∨k=14∨k=15∨k=13∨k=17)
def pM (k:Int):Bool:=decide (k=17∨k=18∨k=19)
theorem zY (k:Int) (w:World):Calls G.P 123 #[.int .i64 k] w fun e w'=>e=.returned (.tuple #[.bool (pJ k),.bool (pK k),.bool (pM k)])∧Ext w w':=by
 refine ae (l:=[.int .i64 k]) func123 rfl ntmps123 rfl (Ok.start w) ?_
 repeat'(first|refine mu ?_|(refine gP ?_ ?_<;>(intro hc_;try subst hc_)))
 all_goals exact ah.AB rfl rfl rfl rfl fun w' hw'=>⟨by simp[pJ,pK,pM, *],hw'.at⟩
attribute [local irreducible] br ki
theorem yx:Calls G.P 126 #[.agg #[.int .i64 k,.int .i64 v,.int .i64 i]] w fun e w'=>e=.returned (.bool (jq k v i))∧Ext w w':=by
 refine ae (l:=[.agg #[.int .i64 k,.int .i64 v,.int .i64 i]]) func126 rfl ntmps126 rfl (Ok.start w) ?_
 repeat'(first|refine mu ?_|(refine aF fun b_=>?_)|(refine aa.aE ?_;refine aa.y_ (Yl.JW rfl rfl) rfl ?_)|(refine aa.aj (f:=127) ?_;refine aa.av rfl rfl rfl (fun w' hw'=>ud v w') ?_)|(refine aa.cK (f:=125) ?_;refine aa.cB pk rfl rfl rfl (fun w' hw'=>cE i w') ?_)|(refine gP ?_ ?_<;>(intro hc_;try subst hc_)))
 all_goals exact ah.aG rfl rfl fun w' hw'=>⟨by simp_all [jq],hw'.at⟩
def FL (known:Bool) (k a b n kind val index:Int) (types labels:List Int):Bool:=
 let ab:=decide (a=0) && decide (b=0)
 if known=false∨(k≠1∧¬(kind=0∧val=0∧index=0))∨(k≠3∧0<labels.length)∨(k≠6∧0<types.length)then false else
 if k=0 then ab && decide (n=0)else
 if k=1 then ab && decide (n=0) && jq kind val index else
 if k=3 then br a && decide (b=0) && decide (n=0) && labels.all br else
 if k=6 then ab && decide (n=0) && decide (types.length=1) && ki (ix types 0)else
 if k=2∨k=4∨k=7∨k=8∨k=9∨k=12∨k=16 then br a && decide (b=0) && decide (n=0)else
 if k=5∨k=10∨k=11∨k=14∨k=15 then br a && br b && decide (n=0)else
 if k=13 then decide (a=0) && br b && decide (n=0)else
 if k=17 then decide (0≤a) && decide (a≤63) && br b && decide (n<4294967296)else
 if k=18 then ab && decide (n<4294967296)else
 if k=19 then ab else(decide (a=3) || decide (a=4)) && decide (b=0) && decide (n=0)
theorem rF (x:cv):cW x=FL (fz x.op).isSome (eR x.op) x.a x.b x.n x.kind x.val x.index x.types x.labels:=rfl
theorem ko (hj:j<l.length):(l.take (j+1)).all f=((l.take j).all f && f (ix l j)):=by rw[bN hj,List.all_append];simp
theorem lN (h:(l.take j).all f=false):l.all f=false:=by
 cases e:l.all f with
 |false=>rfl
 |true=>
  have:(l.take j).all f=true:=by rw[PC]at e ⊢;exact fun x hx=>e x (List.mem_of_mem_take hx)
  rw[this]at h;cases h
theorem Ah:Calls G.P 107 #[.agg #[.int .i64 k,.int .i64 v,.int .i64 i]] w fun e w'=>e=.returned (.bool (jq k v i))∧Ext w w':=by
 refine ae (l:=[.agg #[.int .i64 k,.int .i64 v,.int .i64 i]]) func107 rfl ntmps107 rfl (Ok.start w) ?_
 repeat'(first|refine mu ?_|(refine aF fun b_=>?_)|(refine aa.aj (f:=110) ?_;refine aa.av rfl rfl rfl (fun w' hw'=>xE v w') ?_)|(refine aa.cK (f:=108) ?_;refine aa.cB pk rfl rfl rfl (fun w' hw'=>fm i w') ?_)|(refine gP ?_ ?_<;>(intro hc_;try subst hc_)))
 all_goals exact ah.aG rfl rfl fun w' hw'=>⟨by simp_all [jq],hw'.at⟩
theorem yE (F:Nat→Prop) (l:List Int) (v:Value) (w:World) (h:ai F w v l):Calls G.P 109 #[v] w fun e w'=>e=.returned (.bool (l.all br))∧Ext w w':=by
 obtain⟨p,c,rfl,hl⟩:=h.slice
 refine ae (l:=[_]) func109 rfl ntmps109 rfl (Ok.start w) ?_
 refine cq ?_
 refine bh.loop (σ:=Nat) (fun j=>[(0,.slice p l.length c),(3,.int .i64 j)]) (fun _=>[]) (fun _=>[Ext w]) (fun j=>j≤l.length∧(l.take j).all br=true) (fun j=>l.length - j) 0 bH bz aU ⟨by omega,by simp⟩ ?_
 rintro j ⟨hj,hall⟩
 by_cases hjl:j<l.length
 ·obtain⟨b7,o7,rfl,-,hc⟩:=h.at hjl
  have hcj:=hc j hjl
  have hst:=ko (f:=br) hjl
  rw[hall,Bool.true_and]at hst
  cases hi:br (ix l j)with
  |true=>
   repeat'(first|refine ar ?_|(refine aa.aj (f:=108) ?_;refine aa.av (v:=.bool true) rfl rfl rfl (fun w' hw'=>by have:=fm (ix l j) w';rw[hi]at this;exact this) ?_)|fail)
   all_goals exact ii
  |false=>
   repeat'(first|refine ar ?_|(refine aa.aj (f:=108) ?_;refine aa.av (v:=.bool false) rfl rfl rfl (fun w' hw'=>by have:=fm (ix l j) w';rw[hi]at this;exact this) ?_)|fail)
   all_goals exact ah.aG rfl rfl fun w' hw'=>⟨by rw[lN (j:=j+1) Pd],hw'.at⟩
 ·obtain rfl:j=l.length:=by omega
  rw[List.take_length]at hall
  refine cq ?_
  exact ah.aG rfl rfl fun w' hw'=>⟨by rw[hall],hw'.at⟩
end Go.Proofs.YtdkcljdfbemnbaaGreatDoor
