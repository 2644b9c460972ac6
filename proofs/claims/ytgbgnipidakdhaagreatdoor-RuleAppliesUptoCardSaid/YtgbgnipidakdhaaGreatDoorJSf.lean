/- The reference's table of opcodes: ref05.rows, find, Known, Name, Of, All, within, Width. Printed by gen_b1.py. -/
import Derived.Test.YtgbgnipidakdhaaGreatDoorJW2
import Derived.Test.YtgbgnipidakdhaaGreatDoorJIn
import Derived.Test.YtgbgnipidakdhaaGreatDoorJSb
import Derived.Test.YtgbgnipidakdhaaGreatDoorJM2
namespace Go.Proofs.YtgbgnipidakdhaaGreatDoor
open Go.RowKit
set_option maxRecDepth 100000
abbrev oV:=Int×List UInt8×Int
def oh (r:oV):List Value:=[.int .i64 r.1,.string ⟨r.2.1.toArray⟩,.int .i64 r.2.2]
def mP:List oV:=[(0,[117,110,114,101,97,99,104,97,98,108,101],0),(1,[110,111,112],0),(2,[98,108,111,99,107],1),(3,[108,111,111,112],1),(4,[105,102],1),(5,[101,108,115,101],0),(11,[101,110,100],0),(12,[98,114],2),(13,[98,114,95,105,102],2),(14,[98,114,95,116,97,98,108,101],3),(15,[114,101,116,117,114,110],0),(16,[99,97,108,108],4),(17,[99,97,108,108,95,105,110,100,105,114,101,99,116],5),(26,[100,114,111,112],0),(27,[115,101,108,101,99,116],0),(28,[115,101,108,101,99,116],6),(32,[108,111,99,97,108,46,103,101,116],7),(33,[108,111,99,97,108,46,115,101,116],7),(34,[108,111,99,97,108,46,116,101,101],7),(35,[103,108,111,98,97,108,46,103,101,116],8),(36,[103,108,111,98,97,108,46,115,101,116],8),(37,[116,97,98,108,101,46,103,101,116],9),(38,[116,97,98,108,101,46,115,101,116],9)]
def oy:List oV:=[(40,[105,51,50,46,108,111,97,100],17),(41,[105,54,52,46,108,111,97,100],17),(44,[105,51,50,46,108,111,97,100,56,95,115],17),(45,[105,51,50,46,108,111,97,100,56,95,117],17),(46,[105,51,50,46,108,111,97,100,49,54,95,115],17),(47,[105,51,50,46,108,111,97,100,49,54,95,117],17),(48,[105,54,52,46,108,111,97,100,56,95,115],17),(49,[105,54,52,46,108,111,97,100,56,95,117],17),(50,[105,54,52,46,108,111,97,100,49,54,95,115],17),(51,[105,54,52,46,108,111,97,100,49,54,95,117],17),(52,[105,54,52,46,108,111,97,100,51,50,95,115],17),(53,[105,54,52,46,108,111,97,100,51,50,95,117],17),(54,[105,51,50,46,115,116,111,114,101],17),(55,[105,54,52,46,115,116,111,114,101],17),(58,[105,51,50,46,115,116,111,114,101,56],17),(59,[105,51,50,46,115,116,111,114,101,49,54],17),(60,[105,54,52,46,115,116,111,114,101,56],17),(61,[105,54,52,46,115,116,111,114,101,49,54],17),(62,[105,54,52,46,115,116,111,114,101,51,50],17),(63,[109,101,109,111,114,121,46,115,105,122,101],13),(64,[109,101,109,111,114,121,46,103,114,111,119],13),(65,[105,51,50,46,99,111,110,115,116],18),(66,[105,54,52,46,99,111,110,115,116],19)]
def CJ:List oV:=[(208,[114,101,102,46,110,117,108,108],20),(209,[114,101,102,46,105,115,95,110,117,108,108],0),(210,[114,101,102,46,102,117,110,99],4),(64520,[109,101,109,111,114,121,46,105,110,105,116],15),(64521,[100,97,116,97,46,100,114,111,112],16),(64522,[109,101,109,111,114,121,46,99,111,112,121],14),(64523,[109,101,109,111,114,121,46,102,105,108,108],13),(64524,[116,97,98,108,101,46,105,110,105,116],11),(64525,[101,108,101,109,46,100,114,111,112],12),(64526,[116,97,98,108,101,46,99,111,112,121],10),(64527,[116,97,98,108,101,46,103,114,111,119],9),(64528,[116,97,98,108,101,46,115,105,122,101],9),(64529,[116,97,98,108,101,46,102,105,108,108],9)]
def FR:List oV:=[(167,[105,51,50,46,119,114,97,112,95,105,54,52],0),(172,[105,54,52,46,101,120,116,101,110,100,95,105,51,50,95,115],0),(173,[105,54,52,46,101,120,116,101,110,100,95,105,51,50,95,117],0)]
def fU:List (List UInt8):=[[101,113,122],[101,113],[110,101],[108,116,95,115],[108,116,95,117],[103,116,95,115],[103,116,95,117],[108,101,95,115],[108,101,95,117],[103,101,95,115],[103,101,95,117]]
def na:List (List UInt8):=[[99,108,122],[99,116,122],[112,111,112,99,110,116],[97,100,100],[115,117,98],[109,117,108],[100,105,118,95,115],[100,105,118,95,117],[114,101,109,95,115],[114,101,109,95,117],[97,110,100],[111,114],[120,111,114],[115,104,108],[115,104,114,95,115],[115,104,114,95,117],[114,111,116,108],[114,111,116,114]]
def fR (f:Int) (t:List UInt8) (l:List (List UInt8)):List oV:=l.zipIdx.map fun p=>(f+p.2,t++[46]++p.1,0)
def Cb:List (List UInt8):=[[101,120,116,101,110,100,56,95,115],[101,120,116,101,110,100,49,54,95,115]]
def Da:List (List UInt8):=[[101,120,116,101,110,100,56,95,115],[101,120,116,101,110,100,49,54,95,115],[101,120,116,101,110,100,51,50,95,115]]
def kg:List oV:=((((((((mP++oy)++fR 69 [105,51,50] fU)++fR 80 [105,54,52] fU)++fR 103 [105,51,50] na)++fR 121 [105,54,52] na)++FR)++fR 192 [105,51,50] Cb)++fR 194 [105,54,52] Da)++CJ
theorem Ew (xs:List oV):(xs.flatMap oh).length=xs.length*3:=by
 induction xs with
 |nil=>rfl
 |cons a r ih=>rw[List.flatMap_cons,List.length_append,ih,List.length_cons];simp[oh];omega
theorem ky {xs:List oV}:∀u∈xs.flatMap oh,u.oneCell'=true:=by
 intro u hu
 obtain⟨r,_,hr⟩:=List.mem_flatMap.1 hu
 simp only[oh,List.mem_cons,List.not_mem_nil,or_false]at hr
 rcases hr with rfl|rfl|rfl<;>rfl
abbrev T5:Nat:=212
def BR (w:World) (xs:List oV) (e:Ending) (w':World):Prop:=(∃v,e=.returned v∧w'.ownsRow w.heap.size T5 3 v xs.length (xs.flatMap oh))∧Ext w w'
theorem uv (w:World):Calls G.P 186 #[] w (BR w mP):=by
 refine enter (G:=G) Tryz.func186 rfl Tryz.ntmps186 rfl ?_
 refine bT ?_
 refine aw.e (ck.buildSlice (cs:=mP.flatMap oh) (e:=T5) rfl L9) rfl ?_
 rintro _ w1 ⟨rfl,hn⟩
 refine bT ?_
 exact i9
theorem vG (w:World):Calls G.P 187 #[] w (BR w oy):=by
 refine enter (G:=G) Tryz.func187 rfl Tryz.ntmps187 rfl ?_
 refine bT ?_
 refine aw.e (ck.buildSlice (cs:=oy.flatMap oh) (e:=T5) rfl L9) rfl ?_
 rintro _ w1 ⟨rfl,hn⟩
 refine bT ?_
 exact i9
theorem BF (w:World):Calls G.P 191 #[] w (BR w CJ):=by
 refine enter (G:=G) Tryz.func191 rfl Tryz.ntmps191 rfl ?_
 refine bT ?_
 refine aw.e (ck.buildSlice (cs:=CJ.flatMap oh) (e:=T5) rfl L9) rfl ?_
 rintro _ w1 ⟨rfl,hn⟩
 refine bT ?_
 exact i9
theorem mS (w:World):Calls G.P 189 #[] w fun e w'=>(∃v,e=.returned v∧w'.ownsRow w.heap.size 9 1 v fU.length (fU.map fun l=>Value.string ⟨l.toArray⟩))∧Ext w w':=by
 refine enter (G:=G) Tryz.func189 rfl Tryz.ntmps189 rfl ?_
 refine bT ?_
 refine aw.e (ck.buildSlice (cs:=fU.map fun l=>Value.string ⟨l.toArray⟩) (e:=9) rfl L9) rfl ?_
 rintro _ w1 ⟨rfl,hn⟩
 refine bT ?_
 exact i9
theorem qT (w:World):Calls G.P 190 #[] w fun e w'=>(∃v,e=.returned v∧w'.ownsRow w.heap.size 9 1 v na.length (na.map fun l=>Value.string ⟨l.toArray⟩))∧Ext w w':=by
 refine enter (G:=G) Tryz.func190 rfl Tryz.ntmps190 rfl ?_
 refine bT ?_
 refine aw.e (ck.buildSlice (cs:=na.map fun l=>Value.string ⟨l.toArray⟩) (e:=9) rfl L9) rfl ?_
 rintro _ w1 ⟨rfl,hn⟩
 refine bT ?_
 exact i9
theorem vi (f:Int) (t:List UInt8) (l:List (List UInt8)):(fR f t l).length=l.length:=by simp[fR]
theorem zP {f:Int} {t:List UInt8} {l:List (List UInt8)} {k:Nat} (h:k<l.length):(fR f t l).take (k+1)=(fR f t l).take k++[(f+k,t++[46]++ix l k,0)]:=by
 have hl:k<(fR f t l).length:=by rw[vi];exact h
 rw[List.take_succ_eq_append_getElem hl]
 congr 2
 simp only[fR,List.getElem_map,List.getElem_zipIdx,cD h]
 simp
theorem GD (a b:List UInt8):(⟨a.toArray⟩:ByteArray)++⟨b.toArray⟩=⟨(a++b).toArray⟩:=by
 apply ByteArray.ext
 simp
def CG (w:World) (v:Value) (l:List (List UInt8)):Prop:=∃p c,v=.slice p l.length c∧∀i,i<l.length→∃b o,p=some ⟨b,o,none⟩∧w.cell? ⟨b,o+i,none⟩=some (.string ⟨(ix l i).toArray⟩)
theorem k9 {w:World} {B:Nat} {v:Value} {l:List (List UInt8)} (h:w.ownsRow B 9 1 v l.length (l.map fun l=>Value.string ⟨l.toArray⟩)):CG w v l:=by
 obtain⟨p,c,rfl,_,_,hg⟩:=ax h
 refine⟨p,c,rfl,fun i hi=>?_⟩
 obtain⟨g,rfl,_,_⟩:=hg Mj
 exact⟨g,0,rfl,by rw[Nat.zero_add];exact dP h LL⟩
set_option maxHeartbeats 4000000 in
theorem gJ (f:Int) (t:List UInt8) (l:List (List UInt8)) (v:Value) (w:World) (hv:CG w v l) (hf:0≤f∧f≤100000) (ht:t.length≤100) (hl:l.length≤100) (hs:∀i,i<l.length→(ix l i).length≤100):
  Calls G.P 188 #[.int .i64 f,.string ⟨t.toArray⟩,v] w (BR w (fR f t l)):=by
 obtain⟨p,c,rfl,hc⟩:=hv
 refine ae (l:=[.int .i64 f,.string ⟨t.toArray⟩,.slice p l.length c]) Tryz.func188 rfl Tryz.ntmps188 rfl (Ok.start w) ?_
 refine aZ.ji w.heap.size T5 3 ?_
 refine bQ ?_
 refine aZ.loop (σ:=Nat×Value) (fun s=>[(0,.int .i64 f),(1,.string ⟨t.toArray⟩),(2,.slice p l.length c),(7,s.2),(8,.int .i64 s.1)]) (fun s=>[.own w.heap.size T5 3 s.2 s.1 (((fR f t l).take s.1).flatMap oh)]) (fun _=>[Ext w]) (fun s=>s.1≤l.length) (fun s=>l.length - s.1) (0,.slice none 0 0) bJ bc aV LT ?_
 rintro⟨i,v⟩ hi
 dsimp only at hi ⊢
 by_cases hlt:i<l.length
 ·obtain⟨b,o,rfl,c1⟩:=hc i hlt
  have hsi:=hs i hlt
  have z1:(⟨t.toArray⟩:ByteArray).size=t.length:=rfl
  have z2:(⟨#[46]⟩:ByteArray).size=1:=rfl
  have z3:(⟨(ix l i).toArray⟩:ByteArray).size=(ix l i).length:=rfl
  have z4:((⟨t.toArray⟩:ByteArray)++⟨#[46]⟩).size=t.length+1:=by rw[ByteArray.size_append,z1,z2]
  refine bQ ?_
  refine JM ?_
  intro b2 _
  refine aa.he (HE.app rfl rfl (fun _=>aA) aA rfl rfl rfl Ml Ml Ml Ml Ml Ml Mj mI) rfl ?_
  intro v2 _
  refine bQ ?_
  refine ah.next (i+1,v2) bJ (.cons _ (vI rfl rfl ?_ (List.nil_sublist _))) aV LT LT
  rw[zP hlt,List.flatMap_append,show(⟨t.toArray⟩:ByteArray)++⟨#[46]⟩=⟨(t++[46]).toArray⟩from GD t [46],GD]
  rfl
 ·obtain rfl:i=l.length:=by omega
  refine bQ ?_
  refine ah.aB rfl rfl fun w' hw'=>?_
  have h1:w'.ownsRow w.heap.size T5 3 v l.length (((fR f t l).take l.length).flatMap oh):=(hw'.m _ (List.mem_singleton.2 rfl)).1
  refine⟨⟨v,rfl,?_⟩,hw'.get ak⟩
  rw[←vi f t l,List.take_length]at h1;exact h1
end Go.Proofs.YtgbgnipidakdhaaGreatDoor
namespace Go.Proofs.YtgbgnipidakdhaaGreatDoor
open Go.RowKit
set_option maxRecDepth 100000
theorem xA {w:World} {B:Nat} {v:Value} (l:List (List UInt8)) {n:Nat} {xs:List Value} (h:w.ownsRow B 9 1 v n xs) (hn:n=l.length) (hx:xs=l.map fun l=>Value.string ⟨l.toArray⟩):CG w v l:=by
 subst hn;subst hx;exact k9 h
set_option maxHeartbeats 8000000 in
theorem yO (w:World):Calls G.P 169 #[] w (BR w kg):=by
 refine ae (l:=[]) Tryz.func169 rfl Tryz.ntmps169 rfl (Ok.start w) ?_
 refine bQ ?_
 refine aa.he (HE.kG (B:=w.heap.size) rfl rfl mI (fun w' _=>uv w')) rfl ?_
 intro v1 _
 refine aa.he (HE.kG (B:=w.heap.size) rfl rfl mI (fun w' _=>vG w')) rfl ?_
 intro v2 _
 refine JN ?_
 intro v3 _
 refine bQ ?_
 refine aa.he (HE.kG (B:=w.heap.size) rfl rfl mI (fun w' _=>mS w')) rfl ?_
 intro s1 _
 refine aa.he (HE.kG (B:=w.heap.size) rfl rfl mI (fun w' hw'=>gJ 69 [105,51,50] fU s1 w' (k9 hw'.own) Mj Mh Mh Mh)) rfl ?_
 intro v4 _
 refine JN ?_
 intro v5 _
 refine bQ ?_
 refine aa.he (HE.kG (B:=w.heap.size) rfl rfl mI (fun w' _=>mS w')) rfl ?_
 intro s2 _
 refine aa.he (HE.kG (B:=w.heap.size) rfl rfl mI (fun w' hw'=>gJ 80 [105,54,52] fU s2 w' (k9 hw'.own) Mj Mh Mh Mh)) rfl ?_
 intro v6 _
 refine JN ?_
 intro v7 _
 refine bQ ?_
 refine aa.he (HE.kG (B:=w.heap.size) rfl rfl mI (fun w' _=>qT w')) rfl ?_
 intro s3 _
 refine aa.he (HE.kG (B:=w.heap.size) rfl rfl mI (fun w' hw'=>gJ 103 [105,51,50] na s3 w' (k9 hw'.own) Mj Mh Mh Mh)) rfl ?_
 intro v8 _
 refine JN ?_
 intro v9 _
 refine bQ ?_
 refine aa.he (HE.kG (B:=w.heap.size) rfl rfl mI (fun w' _=>qT w')) rfl ?_
 intro s4 _
 refine aa.he (HE.kG (B:=w.heap.size) rfl rfl mI (fun w' hw'=>gJ 121 [105,54,52] na s4 w' (k9 hw'.own) Mj Mh Mh Mh)) rfl ?_
 intro v10 _
 refine JN ?_
 intro v11 _
 refine bQ ?_
 refine JM ?_
 intro b1 _
 refine aa.iS (b:=b1) (len:=3) 3 aA rfl (by unfold maxLen;decide) ?_
 refine aa.he (HE.mu rfl rfl (fun _=>aA) aA rfl rfl rfl Ml Ml Ml Ml Mh Mh mI) rfl ?_
 intro v12 _
 refine bQ ?_
 refine JM ?_
 intro b2 _
 refine aa.iS (b:=b2) (len:=2) 1 aA rfl (by unfold maxLen;decide) ?_
 refine aa.he (HE.kG (B:=w.heap.size) rfl rfl mI (fun w' hw'=>gJ 192 [105,51,50] Cb _ w' (xA Cb hw'.own Ml Ml) Mj Mh Mh Mh)) rfl ?_
 intro v13 _
 refine JN ?_
 intro v14 _
 refine bQ ?_
 refine JM ?_
 intro b3 _
 refine aa.iS (b:=b3) (len:=3) 1 aA rfl (by unfold maxLen;decide) ?_
 refine aa.he (HE.kG (B:=w.heap.size) rfl rfl mI (fun w' hw'=>gJ 194 [105,54,52] Da _ w' (xA Da hw'.own Ml Ml) Mj Mh Mh Mh)) rfl ?_
 intro v15 _
 refine JN ?_
 intro v16 _
 refine bQ ?_
 refine aa.he (HE.kG (B:=w.heap.size) rfl rfl mI (fun w' _=>BF w')) rfl ?_
 intro v17 _
 refine JN ?_
 intro v18 _
 refine bQ ?_
 refine ah.aB rfl rfl fun w' hw'=>⟨⟨v18,rfl,?_⟩,hw'.at⟩
 have h1:=(hw'.m (.own w.heap.size T5 3 v18 ((((((((((mP.length+oy.length)+(fR 69 [105,51,50] fU).length)+(fR 80 [105,54,52] fU).length)+(fR 103 [105,51,50] na).length)+(fR 121 [105,54,52] na).length)+3)+(fR 192 [105,51,50] Cb).length)+(fR 194 [105,54,52] Da).length)+CJ.length)) _) bG).1
 have e:kg.flatMap oh=(((((((((mP.flatMap oh++oy.flatMap oh)++(fR 69 [105,51,50] fU).flatMap oh)++(fR 80 [105,54,52] fU).flatMap oh)++(fR 103 [105,51,50] na).flatMap oh)++(fR 121 [105,54,52] na).flatMap oh)++FR.flatMap oh)++(fR 192 [105,51,50] Cb).flatMap oh)++(fR 194 [105,54,52] Da).flatMap oh)++CJ.flatMap oh):=by
  unfold kg;simp only[List.flatMap_append]
 rw[e]
 exact h1
end Go.Proofs.YtgbgnipidakdhaaGreatDoor
namespace Go.Proofs.YtgbgnipidakdhaaGreatDoor
open Go.RowKit
set_option maxRecDepth 100000
def eO (op:Int):Option oV:=kg.find? fun r=>decide (r.1=op)
def dU (op:Int):oV:=(eO op).getD (0,[],0)
theorem At:∀(xs:List oV) (i j:Nat),i<xs.length→j<3→(xs.flatMap oh)[i*3+j]?=(oh (ix xs i))[j]?
 |[],i,_,h,_=>by simp at h
 |a::r,0,j,_,hj=>by
  rw[List.flatMap_cons,List.getElem?_append_left (by simp[oh];omega)]
  simp[ix]
 |a::r,i+1,j,h,hj=>by
  rw[List.flatMap_cons,List.getElem?_append_right (by simp[oh];omega)]
  have e:(i+1)*3+j - (oh a).length=i*3+j:=by simp[oh];omega
  rw[e,At r i j LY hj]
  simp[ix]
def GV (g:Nat):World→Prop:=fun w=>∀i,i<kg.length→∀j,j<3→w.cell? ⟨g,0+i*3+j,none⟩=(oh (ix kg i))[j]?
theorem DG {w:World} {B g cap:Nat} (h:w.ownsRow B T5 3 (.slice (some ⟨g,0,none⟩) kg.length cap) kg.length (kg.flatMap oh)):GV g w:=fun i hi j hj=>by
 rw[←At kg i j hi hj]
 have hs:∃u,(kg.flatMap oh)[i*3+j]?=some u:=⟨_,List.getElem?_eq_getElem (by rw[Ew];omega)⟩
 obtain⟨u,hu⟩:=hs
 rw[hu,Nat.zero_add]
 exact dP h hu
theorem Ad:kg.length=125:=by decide+kernel
theorem CO {op:Int} {i:Nat} (hi:i<kg.length) (h:∀j,j<i→(ix kg j).1≠op) (e:(ix kg i).1=op):eO op=some (ix kg i):=by
 unfold eO
 rw[List.find?_eq_some_iff_getElem]
 refine⟨by simpa using e,i,hi,(cD hi).symm,fun j hj=>?_⟩
 have:=h j hj
 rw[cD Mj]at this
 simpa using this
theorem zh {op:Int} (h:∀j,j<kg.length→(ix kg j).1≠op):eO op=none:=by
 unfold eO
 rw[List.find?_eq_none]
 intro x hx
 obtain⟨j,hj,e⟩:=List.getElem_of_mem hx
 have:=h j hj
 rw[cD hj,e]at this
 simpa using this
def Co (op:Int):Value:=.tuple #[.agg #[.int .i64 (dU op).1,.string ⟨(dU op).2.1.toArray⟩,.int .i64 (dU op).2.2],.bool (eO op).isSome]
set_option maxHeartbeats 8000000 in
theorem oc (op:Int) (w:World):Calls G.P 144 #[.int .i64 op] w fun e w'=>e=.returned (Co op)∧Ext w w':=by
 refine ae (l:=[.int .i64 op]) Tryz.func144 rfl Tryz.ntmps144 rfl (Ok.start w) ?_
 refine bQ ?_
 refine aa.alloc [.int .i64 0,.string ⟨#[]⟩,.int .i64 0] rfl rfl rfl fun b=>?_
 refine bQ ?_
 refine aa.he (HE.kG (B:=w.heap.size) rfl rfl mI (fun w' _=>yO w')) rfl ?_
 intro v1 _
 refine aa.pure (φ:=∃g cap,v1=.slice (some ⟨g,0,none⟩) kg.length cap) (fun w' hw'=>?_) ?_
 ·obtain⟨p,c,rfl,_,_,hg⟩:=ax (hw'.own (v:=v1))
  obtain⟨g,rfl,_⟩:=hg (by rw[Ad];omega)
  exact⟨g,c,rfl⟩
 rintro⟨g,cap,rfl⟩
 refine aa.freeze (GV g) je (fun w' hq _=>DG hq) ?_
 have hlen:=Ad
 generalize hn:kg.length=n at*
 refine bQ ?_
 refine aZ.loop (σ:=Nat) (fun i=>[(0,.int .i64 op),(2,.pointer (some ⟨b,0,none⟩)),(4,.slice (some ⟨g,0,none⟩) n cap),(5,.int .i64 i)]) (fun _=>[.aT b [.int .i64 0,.string ⟨#[]⟩,.int .i64 0] T5]) (fun _=>[GV g,Ext w]) (fun i=>i≤n∧∀j,j<i→(ix kg j).1≠op) (fun i=>n - i) 0 bJ bc aV ⟨by omega,fun j hj=>by omega⟩ ?_
 rintro i ⟨hi,hall⟩
 by_cases hlt:i<n
 ·have hlt':i<kg.length:=by omega
  refine aZ.lL (Cs g (0+i*3) [.int .i64 (ix kg i).1,.string ⟨(ix kg i).2.1.toArray⟩,.int .i64 (ix kg i).2.2]) (fun w' hw' j hj=>(yB hw':GV g w') i hlt' j hj) ?_
  by_cases he:(ix kg i).1=op
  ·have hf:=CO hlt' hall he
   refine bQ ?_
   refine ah.aF (cs:=[.int .i64 (ix kg i).1,.string ⟨(ix kg i).2.1.toArray⟩,.int .i64 (ix kg i).2.2]) (.inl rfl) rfl rfl rfl rfl rfl aA rfl rfl fun w' hw'=>⟨?_,hw'.at⟩
   unfold Co dU;rw[hf];rfl
  ·refine bQ ?_
   refine ah.next (i+1) bJ bc aV ⟨by omega,fun j hj=>?_⟩ Mj
   by_cases e:j=i
   ·subst e;exact he
   ·exact hall j Mj
 ·obtain rfl:i=n:=by omega
  have hf:=zh (op:=op) (by rw[hn];exact hall)
  refine bQ ?_
  refine ah.aF (.inl rfl) rfl rfl rfl rfl rfl aA rfl rfl fun w' hw'=>⟨?_,hw'.at⟩
  unfold Co dU;rw[hf];rfl
theorem xq (op:Int) (w:World):Calls G.P 87 #[.int .i64 op] w fun e w'=>e=.returned (.bool (eO op).isSome)∧Ext w w':=by
 refine ae (l:=[.int .i64 op]) Tryz.func87 rfl Tryz.ntmps87 rfl (Ok.start w) ?_
 refine bQ ?_
 refine aa.aq rfl rfl rfl (fun w' _=>oc op w') ?_
 refine bQ ?_
 refine aa.alloc [.int .i64 0,.string ⟨#[]⟩,.int .i64 0] rfl rfl rfl fun b=>?_
 refine bQ ?_
 exact am
theorem sI (op:Int) (w:World):Calls G.P 177 #[.int .i64 op] w fun e w'=>e=.returned (.string ⟨(dU op).2.1.toArray⟩)∧Ext w w':=by
 refine ae (l:=[.int .i64 op]) Tryz.func177 rfl Tryz.ntmps177 rfl (Ok.start w) ?_
 refine bQ ?_
 refine aa.aq rfl rfl rfl (fun w' _=>oc op w') ?_
 refine bQ ?_
 refine aa.alloc [.int .i64 0,.string ⟨#[]⟩,.int .i64 0] rfl rfl rfl fun b=>?_
 refine bQ ?_
 exact am
theorem cW (op:Int) (w:World):Calls G.P 86 #[.int .i64 op] w fun e w'=>e=.returned (.int .i64 (dU op).2.2)∧Ext w w':=by
 refine ae (l:=[.int .i64 op]) Tryz.func86 rfl Tryz.ntmps86 rfl (Ok.start w) ?_
 refine bQ ?_
 refine aa.aq rfl rfl rfl (fun w' _=>oc op w') ?_
 refine bQ ?_
 refine aa.alloc [.int .i64 0,.string ⟨#[]⟩,.int .i64 0] rfl rfl rfl fun b=>?_
 refine bQ ?_
 exact am
def FO (s p:List UInt8) (i:Nat):Bool:=(s.drop i).take p.length==p
def eh (s p:List UInt8):Bool:=(List.range (s.length+1)).any fun i=>decide (i+p.length≤s.length) && FO s p i
theorem Bw {s p:List UInt8} {i:Nat} (h:i+p.length≤s.length) (e:FO s p i=true):eh s p=true:=by
 unfold eh;rw[List.any_eq_true];exact⟨i,by simp;omega,by simp[h,e]⟩
theorem Bg {s p:List UInt8} {i:Nat} (h:s.length<i+p.length) (hall:∀j,j<i→FO s p j=false):eh s p=false:=by
 unfold eh;rw[List.any_eq_false]
 intro j _
 by_cases hj:j<i
 ·simp[hall j hj]
 ·simp;omega
set_option maxHeartbeats 8000000 in
theorem fB (s p:List UInt8) (w:World) (hs:s.length≤1000) (hp:p.length≤1000):Calls G.P 179 #[.string ⟨s.toArray⟩,.string ⟨p.toArray⟩] w fun e w'=>e=.returned (.bool (eh s p))∧Ext w w':=by
 refine ae (l:=[.string ⟨s.toArray⟩,.string ⟨p.toArray⟩]) Tryz.func179 rfl Tryz.ntmps179 rfl (Ok.start w) ?_
 have z1:(⟨s.toArray⟩:ByteArray).size=s.length:=rfl
 have z2:(⟨p.toArray⟩:ByteArray).size=p.length:=rfl
 refine bQ ?_
 refine aZ.loop (σ:=Nat) (fun i=>[(0,.string ⟨s.toArray⟩),(1,.string ⟨p.toArray⟩),(5,.int .i64 i)]) (fun _=>[]) (fun _=>[Ext w]) (fun i=>i≤s.length+1∧∀j,j<i→FO s p j=false) (fun i=>s.length+1 - i) 0 bJ bc aV ⟨by omega,fun j hj=>by omega⟩ ?_
 rintro i ⟨hi,hall⟩
 by_cases hlt:i+p.length≤s.length
 ·refine bQ ?_
  have e:((ByteArray.mk s.toArray).extract i (i+(⟨p.toArray⟩:ByteArray).size)).data.toList=(s.drop i).take p.length:=by
   show gz _=_
   rw[jr,List.drop_take,z2]
   have:i+p.length - i=p.length:=by omega
   rw[this]
  refine aZ.Au (b:=FO s p i) (by unfold FO;rw[←e];rfl) (fun h=>?_) (fun h=>?_)
  ·refine bQ ?_
   exact ah.aB rfl rfl fun w' hw'=>⟨by rw[Bw hlt h],hw'.at⟩
  ·refine bQ ?_
   refine ah.next (i+1) bJ bc aV ⟨by omega,fun j hj=>?_⟩ Mj
   by_cases e:j=i
   ·subst e;exact h
   ·exact hall j Mj
 ·refine bQ ?_
  exact ah.aB rfl rfl fun w' hw'=>⟨by rw[Bg Mj hall],hw'.at⟩
def rO (s:List UInt8) (d e:List UInt8):Bool:=eh s d || eh s e
def il (op:Int):Int:=
 if(dU op).2.2≠17 then 0 else
 let s:=(dU op).2.1
 if rO s [100,56] [101,56]=true then 1 else if rO s [100,49,54] [101,49,54]=true then 2 else if rO s [100,51,50] [101,51,50]=true then 4 else if((s.drop 1).take 2==[51,50])=true then 4 else 8
theorem BC:(kg.all fun r=>decide (r.2.1.length≤100) && (decide (r.2.2≠17) || decide (3≤r.2.1.length)))=true:=by decide+kernel
theorem zn (op:Int):(dU op).2.1.length≤100∧((dU op).2.2=17→3≤(dU op).2.1.length):=by
 unfold dU
 cases h:eO op with
 |none=>simp
 |some r=>
  have:=List.all_eq_true.1 BC r (List.mem_of_find?_eq_some h)
  simp only[Bool.and_eq_true,Bool.or_eq_true,decide_eq_true_eq]at this
  exact⟨this.1,fun e=>this.2.resolve_left (fun h=>h e)⟩
set_option maxHeartbeats 8000000 in
theorem xb (op:Int) (w:World):Calls G.P 175 #[.int .i64 op] w fun e w'=>e=.returned (.int .i64 (il op))∧Ext w w':=by
 obtain⟨q1,q2⟩:=zn op
 have hw5:il op=il op:=rfl
 conv at hw5=>rhs;unfold il
 refine ae (l:=[.int .i64 op]) Tryz.func175 rfl Tryz.ntmps175 rfl (Ok.start w) ?_
 refine bQ ?_
 refine aa.aq rfl rfl rfl (fun w' _=>sI op w') ?_
 refine bQ ?_
 refine aa.aq rfl rfl rfl (fun w' _=>cW op w') ?_
 by_cases h17:(dU op).2.2=17
 ·rw[if_neg (by simp[h17])]at hw5
  have q3:=q2 h17
  dsimp only at hw5
  generalize (dU op).2.1=s at*
  have z1:(⟨s.toArray⟩:ByteArray).size=s.length:=rfl
  refine bQ ?_
  refine aa.aq (v:=.bool (eh s [100,56])) rfl rfl rfl (fun w' _=>fB s [100,56] w' Mj Mh) ?_
  cases a0:eh s [100,56]with
  |true=>
   refine bQ ?_
   refine ah.aB rfl rfl fun w' hw'=>⟨?_,hw'.at⟩
   rw[hw5];simp[rO,a0]
  |false=>
   refine bQ ?_
   refine aa.bV (v:=.bool (eh s [101,56])) rfl rfl rfl rfl (fun w' _=>fB s [101,56] w' Mj Mh) ?_
   cases b0:eh s [101,56]with
   |true=>
    refine bQ ?_
    refine ah.aB rfl rfl fun w' hw'=>⟨?_,hw'.at⟩
    rw[hw5];simp[rO,a0,b0]
   |false=>
    refine bQ ?_
    refine aa.aq (v:=.bool (eh s [100,49,54])) rfl rfl rfl (fun w' _=>fB s [100,49,54] w' Mj Mh) ?_
    cases a1:eh s [100,49,54]with
    |true=>
     refine bQ ?_
     refine ah.aB rfl rfl fun w' hw'=>⟨?_,hw'.at⟩
     rw[hw5];simp[rO,a0,b0,a1]
    |false=>
     refine bQ ?_
     refine aa.bV (v:=.bool (eh s [101,49,54])) rfl rfl rfl rfl (fun w' _=>fB s [101,49,54] w' Mj Mh) ?_
     cases b1:eh s [101,49,54]with
     |true=>
      refine bQ ?_
      refine ah.aB rfl rfl fun w' hw'=>⟨?_,hw'.at⟩
      rw[hw5];simp[rO,a0,b0,a1,b1]
     |false=>
      refine bQ ?_
      refine aa.aq (v:=.bool (eh s [100,51,50])) rfl rfl rfl (fun w' _=>fB s [100,51,50] w' Mj Mh) ?_
      cases a2:eh s [100,51,50]with
      |true=>
       refine bQ ?_
       refine ah.aB rfl rfl fun w' hw'=>⟨?_,hw'.at⟩
       rw[hw5];simp[rO,a0,b0,a1,b1,a2]
      |false=>
       refine bQ ?_
       refine aa.bV (v:=.bool (eh s [101,51,50])) rfl rfl rfl rfl (fun w' _=>fB s [101,51,50] w' Mj Mh) ?_
       cases b2:eh s [101,51,50]with
       |true=>
        refine bQ ?_
        refine ah.aB rfl rfl fun w' hw'=>⟨?_,hw'.at⟩
        rw[hw5];simp[rO,a0,b0,a1,b1,a2,b2]
       |false=>
        refine bQ ?_
        refine aa.y_ (Yl.dR (i:=1) (j:=3) Tryz.underlying9 rfl rfl rfl rfl rfl Mj Mj) rfl ?_
        have e:((ByteArray.mk s.toArray).extract 1 3).data.toList=(s.drop 1).take 2:=by
         show gz _=_
         rw[jr,List.drop_take]
        refine bQ ?_
        refine aZ.Au (b:=((s.drop 1).take 2==[51,50])) (by rw[←e];rfl) (fun h=>?_) (fun h=>?_)
        ·refine bQ ?_
         refine ah.aB rfl rfl fun w' hw'=>⟨?_,hw'.at⟩
         rw[hw5];simp only[rO,a0,b0,a1,b1,a2,b2,h,Bool.or_false,Bool.false_eq_true,if_false,if_true]
        ·refine bQ ?_
         refine ah.aB rfl rfl fun w' hw'=>⟨?_,hw'.at⟩
         rw[hw5];simp only[rO,a0,b0,a1,b1,a2,b2,h,Bool.or_false,Bool.false_eq_true,if_false]
 ·rw[if_pos h17]at hw5
  refine bQ ?_
  exact ah.aB rfl rfl fun w' hw'=>⟨by rw[hw5],hw'.at⟩
theorem tables:wF=kg.map fun r=>(r.1,⟨r.2.1.toArray⟩):=by decide+kernel
theorem uD (op:Int):∀l:List oV,kM op (l.map fun r=>(r.1,⟨r.2.1.toArray⟩))=(l.find? fun r=>decide (r.1=op)).map fun r=>⟨r.2.1.toArray⟩
 |[]=>rfl
 |a::r=>by
  rw[List.map_cons,kM,List.find?_cons]
  by_cases h:a.1=op
  ·simp[h]
  ·simp[h,uD op r]
theorem Ej (op:Int):kM op wF=(eO op).map fun r=>⟨r.2.1.toArray⟩:=by rw[tables,uD];rfl
theorem Av (op:Int):gz (gF op)=(dU op).2.1:=by
 unfold gF dU;rw[Ej]
 cases eO op<;>rfl
theorem By:(kg.all fun r=>!(r.2.1==[]))=true:=by decide+kernel
theorem xp (op:Int):zF op=(eO op).isSome:=by
 unfold zF;rw[Av];unfold dU
 cases h:eO op with
 |none=>rfl
 |some r=>
  have:=List.all_eq_true.1 By r (List.mem_of_find?_eq_some h)
  simpa using this
theorem A4:(kg.all fun r=>il r.1==gQ r.1)=true:=by decide+kernel
theorem rI (op:Int):gQ op=il op:=by
 cases h:eO op with
 |none=>
  have h1:=xp op
  rw[h]at h1
  have h2:jM op=false:=by unfold jM;rw[h1];simp
  unfold gQ il dU
  rw[h2,h];rfl
 |some r=>
  have:=List.all_eq_true.1 A4 r (List.mem_of_find?_eq_some h)
  have e:r.1=op:=by have:=List.find?_some h;simpa using this
  rw[e]at this
  exact(beq_iff_eq.1 this).symm
end Go.Proofs.YtgbgnipidakdhaaGreatDoor
namespace Go.Proofs.YtgbgnipidakdhaaGreatDoor
open Go.RowKit
set_option maxRecDepth 100000
theorem gy.el {α:Type} [Inhabited α] {s N:Nat} {R:rH α} {F:Nat→Prop} {w:World} {p:Option Addr} {n cap:Nat} {xs:List α} (h:gy s N R F w (.slice p n cap) xs) {i:Nat} (hi:i<xs.length):∃b off,p=some ⟨b,off,none⟩∧F b∧R F w b (off+i*s) (ix xs i):=by
 obtain⟨b,off,e,hF,hall⟩:=h.at hi
 exact⟨b,off,e,hF,hall i hi⟩
def tN (l:List bN) (k:Int) (n:Nat):Nat:=((l.take n).filter fun x=>decide (x.kind=k)).length
def j9 (m:aj) (k:Int):Nat:=tN m.imports k m.imports.length
theorem uS {l:List bN} {k:Int} {n:Nat} (h:n<l.length):tN l k (n+1)=tN l k n+if(ix l n).kind=k then 1 else 0:=by
 unfold tN
 rw[bE h,List.filter_append,List.length_append]
 by_cases e:(ix l n).kind=k<;>simp[e]
theorem vu (l:List bN) (k:Int) (n:Nat):tN l k n≤n:=by
 unfold tN
 exact Nat.le_trans (List.length_filter_le _ _) LN
abbrev kU:Nat:=33
set_option maxHeartbeats 8000000 in
theorem mU (F:Nat→Prop) (m:aj) (k:Int) (cs:List Value) (w:World) (hm:ay F w cs m):
  Calls G.P 192 #[.agg cs.toArray,.int .i64 k] w fun e w'=>e=.returned (.int .i64 (j9 m k))∧Ext w w':=by
 obtain⟨v0,v1,v2,v3,v4,v5,v6,v7,v8,v9,rfl,r0,r1,r2,r3,r4,r5,r6,r7,r8,r9,g0⟩:=hm
 obtain⟨p1,c1,rfl,l1⟩:=r1.slice
 refine ae (l:=[.agg ([v0,.slice p1 m.imports.length c1,v2,v3,v4,v5,v6,.bool m.br,.int .i64 m.start,v7,v8,v9]).toArray,.int .i64 k]) Tryz.func192 rfl Tryz.ntmps192 rfl (Ok.start w) ?_
 refine bQ ?_
 refine aa.box [v0,.slice p1 m.imports.length c1,v2,v3,v4,v5,v6,.bool m.br,.int .i64 m.start,v7,v8,v9] rfl rfl rfl fun b=>?_
 refine bQ ?_
 refine aZ.loop (σ:=Nat) (fun i=>[(1,.int .i64 k),(2,.pointer (some ⟨b,0,none⟩)),(5,.int .i64 (tN m.imports k i)),(6,.int .i64 i)]) (fun _=>[.aT b [v0,.slice p1 m.imports.length c1,v2,v3,v4,v5,v6,.bool m.br,.int .i64 m.start,v7,v8,v9] kU]) (fun _=>[Ext w]) (fun i=>i≤m.imports.length) (fun i=>m.imports.length - i) 0 bJ bc aV Mj ?_
 intro i hi
 by_cases hlt:i<m.imports.length
 ·obtain⟨b1,o1,rfl,hF,he⟩:=r1.el hlt
  have c:=he.kind
  have hs:=uS (k:=k) hlt
  have hle:=vu m.imports k i
  by_cases hk:(ix m.imports i).kind=k
  ·rw[if_pos hk]at hs
   refine bQ ?_
   exact ah.next (i+1) bJ bc aV Mj Mj
  ·rw[if_neg hk]at hs
   refine bQ ?_
   exact ah.next (i+1) bJ bc aV Mj Mj
 ·obtain rfl:i=m.imports.length:=by omega
  refine bQ ?_
  exact am
end Go.Proofs.YtgbgnipidakdhaaGreatDoor
namespace Go.Proofs.YtgbgnipidakdhaaGreatDoor
open Go.RowKit
set_option maxRecDepth 100000
theorem iy {α:Type} [Inhabited α] {a b:List α} {i:Nat} (h:i<a.length):ix (a++b) i=ix a i:=by simp[ix,List.getElem?_append_left h]
theorem gD {α:Type} [Inhabited α] {a b:List α} {i:Nat} (h:a.length≤i):ix (a++b) i=ix b (i - a.length):=by simp[ix,List.getElem?_append_right h]
def ni (P:Prop) (w:World) (e:Ending) (w':World):Prop:=(∃b:Bool,e=.returned (.bool b)∧(b=true→P))∧Ext w w'
section
variable {n:Nat} {E:Env} {M:List a8} {R:List (World→Prop)}
theorem HE.BN {f:Nat} {args:List Operand} {tys:Array TypeId} {vs:List Value} {P:Prop} (hf:G.fb[f]?=some true) (ha:jQ E args=some vs) (hc:∀w,Ok M R w→Calls G.P f vs.toArray w (ni P w)):
  HE n (.call ⟨.value (.func f),args.toArray,tys⟩) E M R (fun b:Bool=>b=true→P) (fun b=>.bool b) (fun _=>M) (fun _=>R):=
 HE.call (fun b:Bool=>.bool b) hf ha fun w hw=>(hc w hw).mono fun _e _w' ⟨⟨b,e1,h1⟩,hx⟩=>⟨b,e1,h1,hw.ext hx⟩
end
end Go.Proofs.YtgbgnipidakdhaaGreatDoor
namespace Go.Proofs.YtgbgnipidakdhaaGreatDoor
open Go.RowKit
set_option maxRecDepth 100000
section
variable {n:Nat} {E:Env} {M M':List a8} {R:List (World→Prop)}
theorem D8 {b T:Nat} {cs cs':List Value} (h:cs'=cs) (hs:M'.Sublist M):(a8.aT b cs' T::M').Sublist (a8.aT b cs T::M):=by subst h;exact hs.cons_cons _
end
def zC:EO:=⟨0,0,0,0,0,0,0,0⟩
def Hi (a b:EO):EO:=⟨a.funcs+b.funcs,a.instrs+b.instrs,a.blocks+b.blocks,a.loops+b.loops,a.calls+b.calls,a.Ch+b.Ch,a.zI+b.zI,a.consts+b.consts⟩
def F0 {α:Type} (f:α→EO):List α→EO
 |[]=>zC
 |a::r=>Hi (f a) (F0 f r)
def G5 (op:Int):EO:=⟨0,1,0,FQ (op==3),FQ (op==16 || op==17),FQ (decide (0<il op) && decide (op<54)),FQ (decide (0<il op) && !decide (op<54)),FQ (op==65 || op==66)⟩
noncomputable def IC (xs:List cJ):Nat:=open Classical in if(E2 xs).2=0∧¬G0 xs then(Du xs).length else 0
end Go.Proofs.YtgbgnipidakdhaaGreatDoor
namespace Go.Proofs.YtgbgnipidakdhaaGreatDoor
open Go.RowKit
set_option maxRecDepth 100000
abbrev Gi:Nat:=109
theorem nr.Hc {F:Nat→Prop} {w:World} {b o:Nat} {x:cJ} (h:nr F w b o x):∃tv lv,af F w tv x.types∧af F w lv x.labels∧∀j,j<9→w.cell? ⟨b,o+j,none⟩=([Value.int .i64 x.op,.int .i64 x.a,.int .i64 x.b,.int .u64 x.n,.int .i64 x.kind,.int .i64 x.val,.int .i64 x.index,tv,lv]:List Value)[j]?:=by
 obtain⟨tv,h1,h2⟩:=h.types
 obtain⟨lv,h3,h4⟩:=h.labels
 refine⟨tv,lv,h2,h4,fun j hj=>?_⟩
 match j,hj with
 |0,_=>exact h.op
 |1,_=>exact h.a
 |2,_=>exact h.b
 |3,_=>exact h.n
 |4,_=>exact h.kind
 |5,_=>exact h.val
 |6,_=>exact h.index
 |7,_=>exact h1
 |8,_=>exact h3
end Go.Proofs.YtgbgnipidakdhaaGreatDoor
namespace Go.Proofs.YtgbgnipidakdhaaGreatDoor
open Go.RowKit
set_option maxRecDepth 100000
def s5 (xs:List cJ) (j:Nat):EO:=F0 (fun x:cJ=>G5 x.op) (xs.take j)
noncomputable def c5 (xs:List cJ) (j:Nat):EO:=⟨1,xs.length,IC xs,(s5 xs j).loops,(s5 xs j).calls,(s5 xs j).Ch,(s5 xs j).zI,(s5 xs j).consts⟩
end Go.Proofs.YtgbgnipidakdhaaGreatDoor
namespace Go.Proofs.YtgbgnipidakdhaaGreatDoor
open Go.RowKit
set_option maxRecDepth 100000
structure nY where
 funcs:List Int
 tables:List ff
 da:List eR
 globals:List gY
 elems:List Int
 bD:Int
 deriving Inhabited
@[simp] def lA (t:ff):List Value:=[.int .i64 t.elem,.int .i64 t.lG.min,.int .i64 t.lG.max,.bool t.lG.has]
@[simp] def lD (t:eR):List Value:=[.int .i64 t.min,.int .i64 t.max,.bool t.has]
@[simp] def nW (t:gY):List Value:=[.int .i64 t.mH,.bool t.qb]
abbrev wY:Nat:=96
abbrev oI:Nat:=58
abbrev ou:Nat:=102
theorem aI {ops:Array Oper} {Q:Exit→Act→World→Prop} {n:Nat} {rest:List Oper} {E:Env} {M:List a8} {R:List (World→Prop)} {d:Nat} {ty:TypeId} {pos:String} {aft:Array Edge} (h:∀b:Nat,aa ops Q n rest ((d,.pointer (some ⟨b,0,none⟩))::E) (.aT b [Value.int .i64 0,Value.int .i64 0,Value.int .i64 0,Value.bool false] ou::M) R) (hd:Nat.blt d n=true:=by rfl):aa ops Q n (⟨some d,.alloc ou,ty,pos,aft,none⟩::rest) E M R:=aa.alloc (t:=ou) [Value.int .i64 0,Value.int .i64 0,Value.int .i64 0,Value.bool false] rfl rfl hd h
abbrev pc:Nat:=100
theorem aH {ops:Array Oper} {Q:Exit→Act→World→Prop} {n:Nat} {rest:List Oper} {E:Env} {M:List a8} {R:List (World→Prop)} {d:Nat} {ty:TypeId} {pos:String} {aft:Array Edge} (h:∀b:Nat,aa ops Q n rest ((d,.pointer (some ⟨b,0,none⟩))::E) (.aT b [Value.int .i64 0,Value.int .i64 0,Value.bool false] pc::M) R) (hd:Nat.blt d n=true:=by rfl):aa ops Q n (⟨some d,.alloc pc,ty,pos,aft,none⟩::rest) E M R:=aa.alloc (t:=pc) [Value.int .i64 0,Value.int .i64 0,Value.bool false] rfl rfl hd h
abbrev pq:Nat:=104
theorem aG {ops:Array Oper} {Q:Exit→Act→World→Prop} {n:Nat} {rest:List Oper} {E:Env} {M:List a8} {R:List (World→Prop)} {d:Nat} {ty:TypeId} {pos:String} {aft:Array Edge} (h:∀b:Nat,aa ops Q n rest ((d,.pointer (some ⟨b,0,none⟩))::E) (.aT b [Value.int .i64 0,Value.bool false] pq::M) R) (hd:Nat.blt d n=true:=by rfl):aa ops Q n (⟨some d,.alloc pq,ty,pos,aft,none⟩::rest) E M R:=aa.alloc (t:=pq) [Value.int .i64 0,Value.bool false] rfl rfl hd h
abbrev m7:Nat:=37
abbrev gU:Nat:=106
abbrev rf:Nat:=47
theorem au {ops:Array Oper} {Q:Exit→Act→World→Prop} {n:Nat} {rest:List Oper} {E:Env} {M:List a8} {R:List (World→Prop)} {d:Nat} {ty:TypeId} {pos:String} {aft:Array Edge} (h:∀b:Nat,aa ops Q n rest ((d,.pointer (some ⟨b,0,none⟩))::E) (.aT b [Value.slice none 0 0,Value.slice none 0 0] rf::M) R) (hd:Nat.blt d n=true:=by rfl):aa ops Q n (⟨some d,.alloc rf,ty,pos,aft,none⟩::rest) E M R:=aa.alloc (t:=rf) [Value.slice none 0 0,Value.slice none 0 0] rfl rfl hd h
structure AN where
 tv:Value
 fv:Value
 bv:Value
 mv:Value
 gv:Value
 ev:Value
def ke (B bx sp im dm:Nat) (v:AN) (tn:Nat) (tc:List Value) (X:nY) (ig dg:Int→Option Value):List a8:=
 [.aT bx [.pointer (some ⟨sp,0,none⟩)] oI,.aT sp [v.tv,v.fv,v.bv,v.mv,v.gv,v.ev,.int .i64 X.bD,.map (some im),.map (some dm)] wY,.own B 3 1 v.fv X.funcs.length (X.funcs.map (Value.int .i64)),.own B ou 4 v.bv X.tables.length (X.tables.flatMap lA),.own B pc 3 v.mv X.da.length (X.da.flatMap lD),.own B pq 2 v.gv X.globals.length (X.globals.flatMap nW),.own B m7 1 v.ev X.elems.length (X.elems.map (Value.int .i64)),.iv im ig,.iv dm dg,.own B rf 2 v.tv tn tc]
def E4 (g:Int→Option Value) (c:Int→Int):Prop:=∀k,(g k).getD (.int .i64 0)=.int .i64 (c k)
def kS (x:bN):List Value:=[.string x.module,.string x.name,.int .i64 x.kind,.int .i64 x.func,.int .i64 x.table.elem,.int .i64 x.table.lG.min,.int .i64 x.table.lG.max,.bool x.table.lG.has,.int .i64 x.mem.min,.int .i64 x.mem.max,.bool x.mem.has,.int .i64 x.eG.mH,.bool x.eG.qb]
def nY.my (X:nY) (x:bN):nY:=
 if x.kind=0 then{X with funcs:=X.funcs++[x.func]}else if x.kind=1 then{X with tables:=X.tables++[x.table]}else if x.kind=2 then{X with da:=X.da++[x.mem]}else if x.kind=3 then{X with globals:=X.globals++[x.eG]}else X
def inc (c:Int→Int) (k:Int):Int→Int:=fun b=>if b=k then c k+1 else c b
theorem E4.put {g:Int→Option Value} {c:Int→Int} (h:E4 g c) (k:Int):E4 (put g k (.int .i64 (c k+1))) (inc c k):=fun b=>by
 unfold Go.Proofs.YtgbgnipidakdhaaGreatDoor.put inc
 by_cases e:b=k
 ·subst e;simp
 ·simp only[if_neg e];exact h b
def nY.ok (X:nY):Prop:=X.funcs.length≤1000000∧X.tables.length≤1000000∧X.da.length≤1000000∧X.globals.length≤1000000∧X.elems.length≤1000000
def jT (B bx sp im dm:Nat) (v:AN) (tn:Nat) (tc:List Value) (X:nY) (ig dg:Int→Option Value) (x:bN) (c:Int→Int) (w:World):Ending→World→Prop:=
 aM (ke B bx sp im dm v tn tc X ig dg) w (fun _:AN×(Int→Option Value)=>.tuple #[]) (fun y=>E4 y.2 (inc c x.kind)∧y.1.tv=v.tv) (fun y=>ke B bx sp im dm y.1 tn tc (X.my x) y.2 dg)
set_option maxHeartbeats 16000000 in
theorem yh (B bx sp im dm:Nat) (v:AN) (tn:Nat) (tc:List Value) (X:nY) (ig dg:Int→Option Value) (x:bN) (c:Int→Int) (w:World) (hw:Ok (ke B bx sp im dm v tn tc X ig dg) [] w) (hB:B≤w.heap.size) (hX:X.ok) (hc:E4 ig c) (hk:dV x.kind) (hcx:-1000000≤c x.kind∧c x.kind≤1000000):
  Calls G.P 38 #[.agg (kS x).toArray,.pointer (some ⟨bx,0,none⟩)] w (jT B bx sp im dm v tn tc X ig dg x c w):=by
 obtain⟨tv,fv,bv,mv,gv,ev⟩:=v
 obtain⟨x1,x2,x3,x4,x5⟩:=hX
 refine ae (l:=[.agg (kS x).toArray,.pointer (some ⟨bx,0,none⟩)]) Tryz.func38 rfl Tryz.ntmps38 rfl (Ok.dj hw) ?_
 generalize hS:Mb (ke B bx sp im dm ⟨tv,fv,bv,mv,gv,ev⟩ tn tc X ig dg)=S0
 unfold ke
 dsimp only
 refine bQ ?_
 refine aa.box (kS x) rfl rfl rfl fun b=>?_
 unfold kS
 refine bQ ?_
 refine aZ.dB [0,1,2,3,4,5,6,7] 8 [.aT b _ gU,.aT bx [.pointer (some ⟨sp,0,none⟩)] oI,.aT sp [tv,fv,bv,mv,gv,ev,.int .i64 X.bD,.map (some im),.map (some dm)] wY,.iv im ig] [] L9 bc aV ?_
 refine pO ?_
 refine bq.y_ (Yl.Ds (zv:=.int .i64 0) Tryz.underlying92 Tryz.underlying98 (fun _=>rfl) rfl rfl hk Ly) rfl ?_
 rw[hc x.kind]
 refine pO ?_
 refine bq.iq (fQ.mapUpdate Tryz.underlying92 Tryz.underlying98 rfl rfl rfl hk aA) rfl ?_
 rintro⟨⟩ _
 have hcp:=hc.put x.kind
 generalize put ig x.kind (.int .i64 (c x.kind+1))=ig' at*
 generalize hkx:x.kind=kd at*
 rcases(show kd=0∨kd=1∨kd=2∨kd=3∨(kd≠0∧kd≠1∧kd≠2∧kd≠3)from by omega)with hc_|hc_|hc_|hc_|⟨hc0_,hc1_,hc2_,hc3_⟩
 ·have hb:X.my x={X with funcs:=X.funcs++[x.func]}:=by unfold nY.my;simp[hkx,hc_]
  refine bQ ?_
  refine JO ?_
  refine pO ?_
  refine JP ?_
  intro b3 _
  refine JQ ?_
  intro v2 _
  refine pO ?_
  refine bq.pure (φ:=v2.oneCell'=true) (fun w' hw'=>ju (hw'.own (v:=v2))) fun hone=>?_
  refine JR ?_
  rintro⟨⟩ _
  refine bQ ?_
  refine ah.n8 rfl fun w' hw'=>?_
  unfold jT
  refine aM.of (x:=((⟨tv,v2,bv,mv,gv,ev⟩:AN),ig')) (M:=ke B bx sp im dm ⟨tv,v2,bv,mv,gv,ev⟩ tn tc {X with funcs:=X.funcs++[x.func]} ig' dg) ⟨by rw[hkx];exact hcp,rfl⟩ (hw'.sub (R':=[cg S0 w]) LS aV) (by dsimp only;rw[hb]) LU
 ·have hb:X.my x={X with tables:=X.tables++[x.table]}:=by unfold nY.my;simp[hkx,hc_]
  refine bQ ?_
  refine JO ?_
  refine pO ?_
  refine JP ?_
  intro b3 _
  refine JQ ?_
  intro v2 _
  refine pO ?_
  refine bq.pure (φ:=v2.oneCell'=true) (fun w' hw'=>ju (hw'.own (v:=v2))) fun hone=>?_
  refine JR ?_
  rintro⟨⟩ _
  refine bQ ?_
  refine ah.n8 rfl fun w' hw'=>?_
  unfold jT
  refine aM.of (x:=((⟨tv,fv,v2,mv,gv,ev⟩:AN),ig')) (M:=ke B bx sp im dm ⟨tv,fv,v2,mv,gv,ev⟩ tn tc {X with tables:=X.tables++[x.table]} ig' dg) ⟨by rw[hkx];exact hcp,rfl⟩ (hw'.sub (R':=[cg S0 w]) LS aV) (by dsimp only;rw[hb]) LU
 ·have hb:X.my x={X with da:=X.da++[x.mem]}:=by unfold nY.my;simp[hkx,hc_]
  refine bQ ?_
  refine JO ?_
  refine pO ?_
  refine JP ?_
  intro b3 _
  refine JQ ?_
  intro v2 _
  refine pO ?_
  refine bq.pure (φ:=v2.oneCell'=true) (fun w' hw'=>ju (hw'.own (v:=v2))) fun hone=>?_
  refine JR ?_
  rintro⟨⟩ _
  refine bQ ?_
  refine ah.n8 rfl fun w' hw'=>?_
  unfold jT
  refine aM.of (x:=((⟨tv,fv,bv,v2,gv,ev⟩:AN),ig')) (M:=ke B bx sp im dm ⟨tv,fv,bv,v2,gv,ev⟩ tn tc {X with da:=X.da++[x.mem]} ig' dg) ⟨by rw[hkx];exact hcp,rfl⟩ (hw'.sub (R':=[cg S0 w]) LS aV) (by dsimp only;rw[hb]) LU
 ·have hb:X.my x={X with globals:=X.globals++[x.eG]}:=by unfold nY.my;simp[hkx,hc_]
  refine bQ ?_
  refine JO ?_
  refine pO ?_
  refine JP ?_
  intro b3 _
  refine JQ ?_
  intro v2 _
  refine pO ?_
  refine bq.pure (φ:=v2.oneCell'=true) (fun w' hw'=>ju (hw'.own (v:=v2))) fun hone=>?_
  refine JR ?_
  rintro⟨⟩ _
  refine bQ ?_
  refine ah.n8 rfl fun w' hw'=>?_
  unfold jT
  refine aM.of (x:=((⟨tv,fv,bv,mv,v2,ev⟩:AN),ig')) (M:=ke B bx sp im dm ⟨tv,fv,bv,mv,v2,ev⟩ tn tc {X with globals:=X.globals++[x.eG]} ig' dg) ⟨by rw[hkx];exact hcp,rfl⟩ (hw'.sub (R':=[cg S0 w]) LS aV) (by dsimp only;rw[hb]) LU
 ·have hb:X.my x=X:=by unfold nY.my;simp[hkx,hc0_,hc1_,hc2_,hc3_]
  refine bQ ?_
  refine ah.n8 rfl fun w' hw'=>?_
  unfold jT
  exact aM.of (x:=((⟨tv,fv,bv,mv,gv,ev⟩:AN),ig')) (M:=ke B bx sp im dm ⟨tv,fv,bv,mv,gv,ev⟩ tn tc X ig' dg) ⟨by rw[hkx];exact hcp,rfl⟩ (hw'.sub (R':=[cg S0 w]) LS aV) (by dsimp only;rw[hb]) LU
end Go.Proofs.YtgbgnipidakdhaaGreatDoor
namespace Go.Proofs.YtgbgnipidakdhaaGreatDoor
open Go.RowKit
set_option maxRecDepth 100000
section
variable {ops:Array Oper} {Q:Exit→Act→World→Prop} {n:Nat} {E:Env} {M M':List a8} {R:List (World→Prop)} {rest l:List Oper} {op:Op} {d:Nat} {ty:TypeId} {pos:String} {aft:Array Edge} {v:Value} {x y z:Operand} {t:TypeId} {C:World→Prop}
theorem HE.gA {Mf:Value→List a8} {ti te:TI} {B T s m k c:Nat} {po:Option Addr} {xs:List Value} (ys:List Value) (hx:ev E x=some v) (hy:ev E y=some (.slice po k c)) (hM:∀v',Up (.own B T s v m xs) (.own B T s v' (m+k) (xs++ys)) M (Mf v'))
  (hrd:k=0∨∃bk o,po=some ⟨bk,o,none⟩∧∀w,Ok M R w→∀j u,ys[j]?=some u→w.cell? ⟨bk,o+j,none⟩=some u) (hys:ys.length=k*s)
  (ht:G.ty t=some ti) (he:ti.elem=some T) (hte:G.ty T=some te) (hs:te.size=s) (hzs:Nat.beq te.zero.cells.size te.size=true) (hsz:Nat.blt 0 te.size=true) (h1:∀u∈ys,u.oneCell'=true) (hby:(m+k)*te.bytes≤140737488355328) (hml:m+k≤9223372036854775807) (hB:∀w,Ok M R w→B≤w.heap.size):
  HE n (.call ⟨.builtin .append,#[x,y],#[t,t]⟩) E M R (fun _:Value=>True) (fun v'=>v') Mf (fun _=>R):=
 ⟨fun w hw=>by
  subst hs
  have hm:=(hw.m _ (hM undef).mem)
  have ho:w.ownsRow B T te.size v m xs:=hm.1
  have hsz':0<te.size:=by simpa using hsz
  have key:∀v' w',w'.ownsRow B T te.size v' (m+k) (xs++ys)→cg (fun k=>v.ownBlock=some k) w w'→(v'.ownBlock=v.ownBlock∨v'.ownBlock=some w.heap.size)→∃x:Value,True∧v'=x∧Ok (Mf x) R w':=fun v' w' ho' hc hob=>
   ⟨v',trivial,rfl,hw.yu (hM v') hc ho' fun i hi=>⟨(ho'.lt i hi).2,fun hlt=>by
    rcases hob with e|e
    ·show v.ownBlock=some i
     rw[←e];exact hi
    ·have hk':v'.ownBlock=some i:=hi
     rw[e]at hk';cases hk';omega⟩⟩
  by_cases h0:k=0
  ·subst h0
   obtain⟨po,c,rfl,hc,_⟩:=ax ho
   have hy0:ys=[]:=List.eq_nil_of_length_eq_zero (by simpa using hys)
   subst hy0
   refine(ck.vH (G:=G) ht he hte hx hc hy).mono ?_
   rintro _ _ ⟨rfl,rfl⟩
   exact jp
  ·obtain⟨bk,o,rfl,hr⟩:=hrd.resolve_left h0
   refine(ck.qE (G:=G) (news:=ys) ht he hte (Nat.eq_of_beq_eq_true hzs) hsz' hx ho hy hys (fun j u hj=>hr w hw j u hj) h1 LR hby (hB w hw)).mono fun v' w' ⟨a,b,c⟩=>key v' w' a b c⟩
end
def CX (g:Int→Option Value) (d:Int→Bool):Prop:=∀k,(g k).getD (.bool false)=.bool (d k)
def named (l:List cJ) (k:Int):Bool:=l.any fun x=>decide (x.op=210) && decide (x.a=k)
def nS (d:Int→Bool) (l:List cJ):Int→Bool:=fun k=>d k || named l k
theorem uy (l r:List cJ) (k:Int):named (l++r) k=(named l k || named r k):=by unfold named;rw[List.any_append]
theorem CX.put {g:Int→Option Value} {d:Int→Bool} (h:CX g d) (a:Int):CX (put g a (.bool true)) (fun k=>d k || decide (a=k)):=fun b=>by
 unfold Go.Proofs.YtgbgnipidakdhaaGreatDoor.put
 by_cases e:b=a
 ·subst e;simp
 ·have e':¬a=b:=fun h=>e h.symm
  simp only[if_neg e,e',decide_false,Bool.or_false];exact h b
abbrev GC:Nat:=42
def yf (B bx sp im dm:Nat) (v:AN) (tn:Nat) (tc:List Value) (X:nY) (ig dg:Int→Option Value) (d:Int→Bool) (l:List cJ) (w:World):Ending→World→Prop:=
 aM (ke B bx sp im dm v tn tc X ig dg) w (fun _:(Int→Option Value)=>.tuple #[]) (fun g=>CX g (nS d l)) (fun g=>ke B bx sp im dm v tn tc X ig g)
set_option maxHeartbeats 16000000 in
theorem si (F:Nat→Prop) (B bx sp im dm:Nat) (v:AN) (tn:Nat) (tc:List Value) (X:nY) (ig dg:Int→Option Value) (d:Int→Bool) (l:List cJ) (lv:Value) (w0 w:World) (hw:Ok (ke B bx sp im dm v tn tc X ig dg) [Ext w0] w) (hl:gR F w0 lv l) (hd:CX dg d):
  Calls G.P 39 #[lv,.pointer (some ⟨bx,0,none⟩)] w (yf B bx sp im dm v tn tc X ig dg d l w):=by
 obtain⟨tv,fv,bv,mv,gv,ev⟩:=v
 obtain⟨p,c,rfl,hll⟩:=hl.slice
 refine ae (l:=[.slice p l.length c,.pointer (some ⟨bx,0,none⟩)]) Tryz.func39 rfl Tryz.ntmps39 rfl (Ok.dj hw) ?_
 generalize hS:Mb (ke B bx sp im dm ⟨tv,fv,bv,mv,gv,ev⟩ tn tc X ig dg)=S0
 refine bQ ?_
 refine aZ.loop (σ:=Nat×(Int→Option Value)) (fun s=>[(1,.pointer (some ⟨bx,0,none⟩)),(5,.slice p l.length c),(6,.int .i64 l.length),(7,.int .i64 s.1)]) (fun s=>ke B bx sp im dm ⟨tv,fv,bv,mv,gv,ev⟩ tn tc X ig s.2) (fun _=>[cg S0 w,Ext w0]) (fun s=>s.1≤l.length∧CX s.2 (nS d (l.take s.1))) (fun s=>l.length - s.1) (0,dg) bJ bc aV ⟨by dsimp only;omega,by dsimp only;intro k;rw[hd k];simp[nS,named]⟩ ?_
 rintro⟨i,g⟩ ⟨hi,hg⟩
 dsimp only at hi hg ⊢
 by_cases hlt:i<l.length
 ·obtain⟨b6,o6,rfl,-,hall⟩:=hl.at hlt
  have hra:=(hall i hlt).ra
  obtain⟨tv9,lv9,htv,hlv,hc9⟩:=(hall i hlt).Hc
  obtain⟨xt,yt,rfl,-⟩:=htv.slice
  obtain⟨xl,yl,rfl,-⟩:=hlv.slice
  have hnx:∀k,nS d (l.take (i+1)) k=(nS d (l.take i) k || (decide ((ix l i).op=210) && decide ((ix l i).a=k))):=fun k=>by
   unfold nS;rw[bE hlt,uy,Bool.or_assoc];simp[named]
  unfold ke
  dsimp only
  refine bQ ?_
  refine aa.y_ (Yl.nO rfl rfl rfl ak Ml Ml hc9) rfl ?_
  refine aa.alloc [Value.int .i64 0,Value.int .i64 0,Value.int .i64 0,Value.int .u64 0,Value.int .i64 0,Value.int .i64 0,Value.int .i64 0,Value.slice none 0 0,Value.slice none 0 0] rfl rfl rfl fun b9=>?_
  refine bQ ?_
  by_cases h210:(ix l i).op=210
  ·refine bQ ?_
   refine aZ.dB [0,1,2,3,4,5] 6 [.aT b9 _ GC,.aT bx [.pointer (some ⟨sp,0,none⟩)] oI,.aT sp [tv,fv,bv,mv,gv,ev,.int .i64 X.bD,.map (some im),.map (some dm)] wY] [] L9 bc aV ?_
   refine pO ?_
   refine bq.iq (fQ.mapUpdate Tryz.underlying93 Tryz.underlying3 rfl rfl rfl hra aA) rfl ?_
   rintro⟨⟩ _
   refine bQ ?_
   refine ah.next (i+1,put g (ix l i).a (.bool true)) bJ bc aV ⟨by dsimp only;omega,?_⟩ LT
   dsimp only
   intro k
   rw[hg.put _ k,hnx k];simp[h210]
  ·refine bQ ?_
   refine ah.next (i+1,g) bJ bc aV ⟨by dsimp only;omega,?_⟩ LT
   dsimp only
   intro k
   rw[hg k,hnx k];simp[h210]
 ·obtain rfl:i=l.length:=by omega
  refine bQ ?_
  refine ah.n8 rfl fun w' hw'=>?_
  unfold yf
  rw[List.take_length]at hg
  exact aM.of (x:=g) hg hw' rfl LU
theorem iT {F:Nat→Prop} {w:World} {p:Option Addr} {n c:Nat} {xs:List Int} {M:List a8} {R:List (World→Prop)} (h:af F w (.slice p n c) xs) (hR:Ext w∈R):xs.length=0∨∃bk o,p=some ⟨bk,o,none⟩∧∀w',Ok M R w'→∀j u,(xs.map (Value.int .i64))[j]?=some u→w'.cell? ⟨bk,o+j,none⟩=some u:=by
 obtain⟨p',c',e,hl,h⟩:=h
 cases e
 rcases h with h|⟨b,o,rfl,hF,h⟩
 ·exact .inl (by rw[h];rfl)
 ·refine .inr ⟨b,o,rfl,fun w' hw' j u hj=>?_⟩
  rw[List.getElem?_map]at hj
  by_cases hlt:j<xs.length
  ·rw[gZ hlt]at hj
   cases hj
   exact(show Ext w w' from hw'.get hR).cell (h j hlt)
  ·rw[List.getElem?_eq_none Mj]at hj;cases hj
theorem eV (xs:List Int):∀u∈xs.map (Value.int .i64),u.oneCell'=true:=by
 intro u hu;obtain⟨a,_,rfl⟩:=List.mem_map.1 hu;rfl
theorem j0 {w:World} {B T:Nat} {v:Value} {xs:List Int} (h:w.ownsRow B T 1 v xs.length (xs.map (Value.int .i64))) (hl:xs.length≤17592186044416):af (fun k=>B≤k) w v xs:=by
 obtain⟨p,c,rfl,hn,hc,hg⟩:=ax h
 refine⟨p,c,rfl,hl,?_⟩
 by_cases hx:xs=[]
 ·exact .inl hx
 ·obtain⟨g,rfl,h1,h2⟩:=hg (List.length_pos_iff.2 hx)
  exact .inr ⟨g,0,rfl,h1,fun i hi=>by rw[Nat.zero_add];exact dP h LL⟩
set_option maxHeartbeats 16000000 in
theorem vt (F:Nat→Prop) (f:aL) (u0 u1:Value) (w:World) (h0:af F w u0 f.params) (h1:af F w u1 f.results):Calls G.P 37 #[.agg #[u0,u1]] w fun e w'=>(∃x:Value×Value,e=.returned (.agg #[x.1,x.2])∧af (fun k=>w.heap.size≤k) w' x.1 f.params∧af (fun k=>w.heap.size≤k) w' x.2 f.results)∧Ext w w':=by
 obtain⟨p0,c0,rfl,l0⟩:=h0.slice
 obtain⟨p1,c1,rfl,l1⟩:=h1.slice
 refine ae (l:=[.agg #[.slice p0 f.params.length c0,.slice p1 f.results.length c1]]) Tryz.func37 rfl Tryz.ntmps37 rfl (Ok.start w) ?_
 refine bQ ?_
 refine aa.box [.slice p0 f.params.length c0,.slice p1 f.results.length c1] rfl rfl rfl fun b1=>?_
 refine bQ ?_
 refine aa.alloc [Value.slice none 0 0,Value.slice none 0 0] rfl rfl rfl fun b2=>?_
 refine bQ ?_
 refine aZ.ji w.heap.size m7 1 ?_
 refine aZ.ji w.heap.size m7 1 ?_
 refine aZ.dB [0,1,3,4,2,5,6] 7 [.aT b1 [.slice p0 f.params.length c0,.slice p1 f.results.length c1] rf] [Ext w] L9 bc aV ?_
 refine pO ?_
 refine bq.he (HE.gA (f.params.map (Value.int .i64)) rfl rfl (fun _=>aA) (iT h0 ak) Mk rfl rfl rfl Ml Ml Ml (eV _) (by show(0+f.params.length)*8≤_;omega) Mj mI) rfl (fun _=>bc) (fun _=>aV) ?_
 intro v1 _
 refine bq.he (HE.gA (f.results.map (Value.int .i64)) rfl rfl (fun _=>aA) (iT h1 ak) Mk rfl rfl rfl Ml Ml Ml (eV _) (by show(0+f.results.length)*8≤_;omega) Mj mI) rfl (fun _=>bc) (fun _=>aV) ?_
 intro v2 _
 refine bq.pure (φ:=(∃p c,v1=.slice p (0+f.params.length) c)∧∃p c,v2=.slice p (0+f.results.length) c) (fun w' hw'=>⟨?_,?_⟩) ?_
 ·obtain⟨p,c,e,_⟩:=ax (hw'.own (v:=v1));exact⟨p,c,e⟩
 ·obtain⟨p,c,e,_⟩:=ax (hw'.own (v:=v2));exact⟨p,c,e⟩
 rintro⟨⟨q1,d1,rfl⟩,⟨q2,d2,rfl⟩⟩
 refine pO ?_
 refine bq.iq (fQ.bn _ rfl rfl rfl rfl rfl rfl aA rfl) rfl ?_
 rintro⟨⟩ _
 refine bQ ?_
 refine ah.a6 (.inl rfl) rfl rfl rfl rfl rfl aA rfl fun w' hw'=>⟨⟨(_,_),rfl,?_,?_⟩,hw'.at⟩
 ·have:=hw'.own (v:=.slice q1 (0+f.params.length) d1)
  rw[Nat.zero_add]at this ⊢
  exact j0 this l0
 ·have:=hw'.own (v:=.slice q2 (0+f.results.length) d2)
  have e:0+f.results.length=f.results.length:=Nat.zero_add _
  rw[e]at this
  show af _ w' (.slice q2 (0+f.results.length) d2) _
  rw[e];exact j0 this l1
end Go.Proofs.YtgbgnipidakdhaaGreatDoor
namespace Go.Proofs.YtgbgnipidakdhaaGreatDoor
open Go.RowKit
set_option maxRecDepth 100000
section
variable {ops:Array Oper} {Q:Exit→Act→World→Prop} {n:Nat} {E:Env} {M M':List a8} {R R':List (World→Prop)} {rest l:List Oper} {op:Op} {d:Nat} {ty:TypeId} {pos:String} {aft:Array Edge} {v:Value} {x y z:Operand} {t:TypeId}
theorem Ok.perm {w:World} (h:Ok M R w) (hp:M.Perm M'):Ok M' R w:=
 h.step (cg.refl _ w) (fun q hq=>h.m q (hp.mem_iff.2 hq)) ((hp.pairwise_iff (fun h k h1 h2=>h k h2 h1)).1 h.d) (fun _k ⟨q,hq,hk⟩ _=>⟨q,hp.mem_iff.2 hq,hk⟩)
theorem ah.lL {e:Exit} (p:World→Prop) (hp:∀w',(∀r,r∈R→r w')→p w') (h:ah Q n e E M (p::R)):ah Q n e E M R:=⟨fun w hw=>h.h w (hw.lL hp)⟩
theorem HE.yF {β:Type} {B:Nat} {M0 Mr:List a8} {tf:β→Value} {φ:β→Prop} {M1:β→List a8} {f:Nat} {fo:Operand} {cap:List Value} {args:List Operand} {tys:Array TypeId} {vs:List Value} (hfo:ev E fo=some (.func (.func f) #[] cap.toArray)) (hf:G.fb[f]?=some true) (ha:jQ E args=some vs) (hM:M.Perm (M0++Mr))
  (hR':∀p,p∈R'→p∈R) (hc:∀w,Ok M0 R' w→B≤w.heap.size→Calls G.P f (vs++cap).toArray w (aM M0 w tf φ M1)) (hB:∀w,Ok M R w→B≤w.heap.size):HE n (.call ⟨.value fo,args.toArray,tys⟩) E M R φ tf (fun x=>M1 x++Mr) (fun _=>R):=
 ⟨fun w hw0=>by
  have hw:=hw0.perm hM
  refine(ck.dX hfo hf ha (hc w (hw.sub (List.sublist_append_left _ _) hR') (hB w hw0)) (fun e w' h=>by obtain⟨x,e1,_⟩:=h;exact⟨_,e1⟩)).mono fun v w' ⟨x,e1,h1,h2,h3,h4⟩=>?_
  cases e1
  exact⟨x,h1,rfl,hw.frame h2 h3 h4⟩⟩
end
def FJ (f:aL) (lo:Nat) (w:World) (x:Value×Value):Prop:=af (fun k=>lo≤k) w x.1 f.params∧af (fun k=>lo≤k) w x.2 f.results
theorem FJ.fresh (f:aL):EL (FJ f):=fun h hc hS=>⟨h.1.aO hc hS,h.2.aO hc hS⟩
theorem np {M M':List a8} (h:M'.Sublist M:=by repeat(first|with_reducible exact List.Sublist.refl _|exact List.nil_sublist _|(with_reducible refine List.Sublist.cons_cons _ ?_)|((with_reducible refine vI ?_ ?_ ?_ ?_);rfl;(first|rfl|simp);(first|rfl|simp))|((with_reducible refine D8 ?_ ?_);(first|rfl|simp))|refine List.Sublist.cons _ ?_)):M'.Sublist M:=h
def lf (B:Nat) (tc:List Value) (l:List aL):World→Prop:=fun w=>tc.length=l.length*2∧∀i,i<l.length→∃p r,tc[i*2]?=some p∧tc[i*2+1]?=some r∧af (fun k=>B≤k) w p (ix l i).params∧af (fun k=>B≤k) w r (ix l i).results
theorem lf.app {B:Nat} {tc:List Value} {l:List aL} {w:World} (h:lf B tc l w) {p r:Value} {f:aL} (hp:af (fun k=>B≤k) w p f.params) (hr:af (fun k=>B≤k) w r f.results):lf B (tc++[p,r]) (l++[f]) w:=by
 obtain⟨h1,h2⟩:=h
 refine⟨by simp[h1];omega,fun i hi=>?_⟩
 by_cases hlt:i<l.length
 ·obtain⟨p',r',e1,e2,e3,e4⟩:=h2 i hlt
  rw[iy hlt]
  exact⟨p',r',by rw[List.getElem?_append_left Mj];exact e1,by rw[List.getElem?_append_left Mj];exact e2,e3,e4⟩
 ·have e:i=l.length:=by simp at hi;omega
  subst e
  rw[gD (Nat.le_refl _),Nat.sub_self]
  exact⟨p,r,by rw[List.getElem?_append_right Mj];simp[h1],by rw[List.getElem?_append_right Mj];simp[h1,show l.length*2+1 - l.length*2=1 by omega],hp,hr⟩
theorem lf.aO {B:Nat} {tc:List Value} {l:List aL} {S:Nat→Prop} {w w':World} (h:lf B tc l w) (hc:cg S w w') (hS:∀k,B≤k→¬S k):lf B tc l w':=
 ⟨h.1,fun i hi=>by
  obtain⟨p,r,e1,e2,e3,e4⟩:=h.2 i hi
  exact⟨p,r,e1,e2,e3.aO hc (fun k _ hk=>hS k hk),e4.aO hc (fun k _ hk=>hS k hk)⟩⟩
def zc (l:List bN) (X:nY):nY:=l.foldl nY.my X
theorem xQ (l:List bN) (X:nY) (x:bN):zc (l++[x]) X=(zc l X).my x:=by unfold zc;rw[List.foldl_append];rfl
theorem AI (X:nY) (x:bN):(X.my x).funcs.length≤X.funcs.length+1∧(X.my x).tables.length≤X.tables.length+1∧(X.my x).da.length≤X.da.length+1∧(X.my x).globals.length≤X.globals.length+1∧(X.my x).elems.length≤X.elems.length∧(X.my x).bD=X.bD:=by
 unfold nY.my
 split
 ·simp
 ·split
  ·simp
  ·split
   ·simp
   ·split<;>simp
def X0 (m:aj):nY:=⟨[],[],[],[],[],m.bD.length⟩
theorem Al (m:aj):∀i,i≤m.imports.length→(zc (m.imports.take i) (X0 m)).funcs.length≤i∧(zc (m.imports.take i) (X0 m)).tables.length≤i∧(zc (m.imports.take i) (X0 m)).da.length≤i∧(zc (m.imports.take i) (X0 m)).globals.length≤i∧(zc (m.imports.take i) (X0 m)).elems.length≤0∧(zc (m.imports.take i) (X0 m)).bD=m.bD.length
 |0,_=>by simp[zc,X0]
 |i+1,h=>by
  have ih:=Al m i Mj
  rw[bE Mj,xQ]
  have:=AI (zc (m.imports.take i) (X0 m)) (ix m.imports i)
  omega
def cN (m:aj) (i:Nat):Int→Int:=fun k=>tN m.imports k i
theorem Ea (m:aj) {i:Nat} (h:i<m.imports.length):inc (cN m i) (ix m.imports i).kind=cN m (i+1):=by
 funext b
 unfold inc cN
 rw[uS h]
 by_cases e:b=(ix m.imports i).kind
 ·subst e;simp
 ·have e':¬(ix m.imports i).kind=b:=fun h=>e h.symm
  simp[e,e']
def X1 (m:aj):nY:=zc m.imports (X0 m)
def X2 (m:aj) (i:Nat):nY:={X1 m with funcs:=(X1 m).funcs++(m.funcs.take i).map (·.eD)}
def X3 (m:aj):nY:={X2 m m.funcs.length with tables:=(X1 m).tables++m.tables,da:=(X1 m).da++m.da}
def X4 (m:aj) (i:Nat):nY:={X3 m with globals:=(X1 m).globals++(m.globals.take i).map (·.eD)}
def X5 (m:aj) (i:Nat):nY:={X4 m m.globals.length with elems:=(X1 m).elems++(m.elems.take i).map (·.eD)}
theorem jB {α:Type} [Inhabited α] (cf:α→List Value) {s:Nat} (hs:∀x,(cf x).length=s):∀(xs:List α) (i j:Nat),i<xs.length→j<s→(xs.flatMap cf)[i*s+j]?=(cf (ix xs i))[j]?
 |[],i,_,h,_=>by simp at h
 |a::r,0,j,_,hj=>by
  rw[List.flatMap_cons,Nat.zero_mul,Nat.zero_add,List.getElem?_append_left (by rw[hs];exact hj)]
  simp[ix]
 |a::r,i+1,j,h,hj=>by
  rw[List.flatMap_cons,List.getElem?_append_right (by rw[hs,Nat.succ_mul];omega)]
  have e:(i+1)*s+j - (cf a).length=i*s+j:=by rw[hs,Nat.succ_mul];omega
  rw[e,jB cf hs r i j LY hj]
  simp[ix]
theorem jA {α:Type} (cf:α→List Value) {s:Nat} (hs:∀x,(cf x).length=s):∀xs:List α,(xs.flatMap cf).length=xs.length*s
 |[]=>by simp
 |a::r=>by rw[List.flatMap_cons,List.length_append,hs,jA cf hs r,List.length_cons,Nat.succ_mul];omega
theorem Ah {α:Type} [Inhabited α] {s N:Nat} {Rd:rH α} (cf:α→List Value) (hs:∀x,(cf x).length=s) (h0:0<s) (hRd:∀{F w b o x},Rd F w b o x→∀j,j<s→w.cell? ⟨b,o+j,none⟩=(cf x)[j]?) {F:Nat→Prop} {w:World} {p:Option Addr} {n c:Nat} {xs:List α} {M:List a8} {R:List (World→Prop)} (h:gy s N Rd F w (.slice p n c) xs) (hR:Ext w∈R):
  xs.length=0∨∃bk o,p=some ⟨bk,o,none⟩∧∀w',Ok M R w'→∀j u,(xs.flatMap cf)[j]?=some u→w'.cell? ⟨bk,o+j,none⟩=some u:=by
 obtain⟨p',c',e,hl,h⟩:=h
 cases e
 rcases h with h|⟨b,o,rfl,hF,h⟩
 ·exact .inl (by rw[h];rfl)
 ·refine .inr ⟨b,o,rfl,fun w' hw' j u hj=>?_⟩
  have hlt:j<xs.length*s:=by rw[←jA cf hs];exact(List.getElem?_eq_some_iff.1 hj).1
  have hi:j / s<xs.length:=Nat.div_lt_of_lt_mul (by rw[Nat.mul_comm];exact hlt)
  have hr:j % s<s:=Nat.mod_lt _ h0
  have ej:j=j / s*s+j % s:=by rw[Nat.mul_comm];exact(Nat.div_add_mod j s).symm
  have h1:=hRd (h (j / s) hi) (j % s) hr
  rw[←jB cf hs xs _ _ hi hr,←ej,hj,Nat.add_assoc,←ej]at h1
  exact(show Ext w w' from hw'.get hR).cell h1
theorem wG {F:Nat→Prop} {w:World} {b o:Nat} {x:ff} (h:eX F w b o x):∀j,j<4→w.cell? ⟨b,o+j,none⟩=(lA x)[j]?:=by
 obtain⟨cs,hV,hc⟩:=h
 obtain⟨rfl,-⟩:=hV
 exact hc
theorem uT {F:Nat→Prop} {w:World} {b o:Nat} {x:eR} (h:dC F w b o x):∀j,j<3→w.cell? ⟨b,o+j,none⟩=(lD x)[j]?:=by
 obtain⟨cs,hV,hc⟩:=h
 obtain⟨rfl,-⟩:=hV
 exact hc
theorem C5 (l:List ff):∀u∈l.flatMap lA,u.oneCell'=true:=by
 intro u hu;obtain⟨a,_,h⟩:=List.mem_flatMap.1 hu
 simp only[lA,List.mem_cons,List.not_mem_nil,or_false]at h
 rcases h with rfl|rfl|rfl|rfl<;>rfl
theorem CV (l:List eR):∀u∈l.flatMap lD,u.oneCell'=true:=by
 intro u hu;obtain⟨a,_,h⟩:=List.mem_flatMap.1 hu
 simp only[lD,List.mem_cons,List.not_mem_nil,or_false]at h
 rcases h with rfl|rfl|rfl<;>rfl
abbrev Ie:Nat:=112
abbrev Ih:Nat:=115
abbrev Hd:Nat:=117
abbrev vE:Nat:=60
def d4 (m:aj) (i:Nat):Int→Bool:=fun k=>(m.globals.take i).any fun g=>named g.mE k
def d5 (m:aj) (i j:Nat):Int→Bool:=fun k=>d4 m m.globals.length k || (m.elems.take i).any (fun e=>e.items.any fun l=>named l k) || ((ix m.elems i).items.take j).any fun l=>named l k
def d6 (m:aj) (i:Nat):Int→Bool:=fun k=>d4 m m.globals.length k || m.elems.any (fun e=>e.items.any fun l=>named l k) || (m.bh.take i).any fun x=>decide (x.kind=0) && decide (x.index=k)
def tR (m:aj):nY:=X5 m m.elems.length
structure En (B bS sp im dm:Nat) (v:AN) (tc:List Value) (ig dg:Int→Option Value) (m:aj) (w:World):Prop where
 s:gO w bS [.pointer (some ⟨sp,0,none⟩)] vE
 x:gO w sp [v.tv,v.fv,v.bv,v.mv,v.gv,v.ev,.int .i64 (tR m).bD,.map (some im),.map (some dm)] wY
 fs:w.ownsRow B 3 1 v.fv (tR m).funcs.length ((tR m).funcs.map (Value.int .i64))
 bs:w.ownsRow B ou 4 v.bv (tR m).tables.length ((tR m).tables.flatMap lA)
 ms:w.ownsRow B pc 3 v.mv (tR m).da.length ((tR m).da.flatMap lD)
 gs:w.ownsRow B pq 2 v.gv (tR m).globals.length ((tR m).globals.flatMap nW)
 es:w.ownsRow B m7 1 v.ev (tR m).elems.length ((tR m).elems.map (Value.int .i64))
 ts:w.ownsRow B rf 2 v.tv m.types.length tc
 im:IV w im ig
 dm:IV w dm dg
 Hv:E4 ig (cN m m.imports.length)
 dec:CX dg (d6 m m.bh.length)
 ty:lf B tc m.types w
def bL (B:Nat) (m:aj) (w:World) (v:Value):Prop:=∃bS sp im dm vs tc ig dg,v=.pointer (some ⟨bS,0,none⟩)∧(B≤bS∧B≤sp∧B≤im∧B≤dm)∧En B bS sp im dm vs tc ig dg m w
def xS (m:aj):Prop:=m.types.length≤1000∧m.imports.length≤1000∧m.funcs.length≤1000∧m.tables.length≤1000∧m.da.length≤1000∧m.globals.length≤1000∧m.bh.length≤1000∧m.elems.length≤1000∧m.bD.length≤1000
def vg (m:aj) (w:World) (e:Ending) (w':World):Prop:=(∃v,e=.returned v∧bL w.heap.size m w' v)∧Ext w w'
theorem bL.aO {B:Nat} {m:aj} {S:Nat→Prop} {w w':World} {v:Value} (h:bL B m w v) (hc:cg S w w') (hS:∀k,B≤k→¬S k):bL B m w' v:=by
 obtain⟨bS,sp,im,dm,vs,tc,ig,dg,rfl,⟨g1,g2,g3,g4⟩,h⟩:=h
 exact⟨bS,sp,im,dm,vs,tc,ig,dg,rfl,⟨g1,g2,g3,g4⟩,h.s.aO hc (hS _ g1),h.x.aO hc (hS _ g2),lI h.fs hc (fun k hk=>hS k (h.fs.lt k hk).1),lI h.bs hc (fun k hk=>hS k (h.bs.lt k hk).1),lI h.ms hc (fun k hk=>hS k (h.ms.lt k hk).1),lI h.gs hc (fun k hk=>hS k (h.gs.lt k hk).1),lI h.es hc (fun k hk=>hS k (h.es.lt k hk).1),lI h.ts hc (fun k hk=>hS k (h.ts.lt k hk).1),h.im.aO hc (hS _ g3),h.dm.aO hc (hS _ g4),h.Hv,h.dec,h.ty.aO hc hS⟩
set_option maxHeartbeats 32000000 in
theorem xa (F:Nat→Prop) (m:aj) (cs:List Value) (w:World) (hm:ay F w cs m) (hL:xS m):Calls G.P 12 #[.agg cs.toArray] w (vg m w):=by
 obtain⟨v0,v1,v2,v3,v4,v5,v6,v7,v8,v9,rfl,r0,r1,r2,r3,r4,r5,r6,r7,r8,r9,g0⟩:=hm
 obtain⟨L0,L1,L2,L3,L4,L5,L6,L7,L8⟩:=hL
 obtain⟨p0,c0,rfl,-⟩:=r0.slice
 obtain⟨p1,c1,rfl,-⟩:=r1.slice
 obtain⟨p2,c2,rfl,-⟩:=r2.slice
 obtain⟨p3,c3,rfl,-⟩:=r3.slice
 obtain⟨p4,c4,rfl,-⟩:=r4.slice
 obtain⟨p5,c5,rfl,-⟩:=r5.slice
 obtain⟨p6,c6,rfl,-⟩:=r6.slice
 obtain⟨p7,c7,rfl,-⟩:=r7.slice
 obtain⟨p8,c8,rfl,-⟩:=r8.slice
 refine ae (l:=[.agg (([Value.slice p0 m.types.length c0,Value.slice p1 m.imports.length c1,Value.slice p2 m.funcs.length c2,Value.slice p3 m.tables.length c3,Value.slice p4 m.da.length c4,Value.slice p5 m.globals.length c5,Value.slice p6 m.bh.length c6,Value.bool m.br,Value.int .i64 m.start,Value.slice p7 m.elems.length c7,Value.slice p8 m.bD.length c8,v9]:List Value)).toArray]) Tryz.func12 rfl Tryz.ntmps12 rfl (Ok.start w) ?_
 refine bQ ?_
 refine aa.box ([Value.slice p0 m.types.length c0,Value.slice p1 m.imports.length c1,Value.slice p2 m.funcs.length c2,Value.slice p3 m.tables.length c3,Value.slice p4 m.da.length c4,Value.slice p5 m.globals.length c5,Value.slice p6 m.bh.length c6,Value.bool m.br,Value.int .i64 m.start,Value.slice p7 m.elems.length c7,Value.slice p8 m.bD.length c8,v9]:List Value) rfl rfl rfl fun b=>?_
 refine bQ ?_
 refine aa.he HE.makeMap rfl ?_
 intro im _
 refine aa.he HE.makeMap rfl ?_
 intro dm _
 refine bQ ?_
 refine aa.box [Value.slice none 0 0,Value.slice none 0 0,Value.slice none 0 0,Value.slice none 0 0,Value.slice none 0 0,Value.slice none 0 0,Value.int .i64 m.bD.length,Value.map (some im),Value.map (some dm)] rfl rfl rfl fun sp=>?_
 refine bQ ?_
 refine aa.alloc [Value.pointer none] rfl rfl rfl fun bx=>?_
 refine bQ ?_
 refine aZ.ji w.heap.size rf 2 ?_
 refine aZ.ji w.heap.size m7 1 ?_
 refine aZ.ji w.heap.size pq 2 ?_
 refine aZ.ji w.heap.size pc 3 ?_
 refine aZ.ji w.heap.size ou 4 ?_
 refine aZ.ji w.heap.size 3 1 ?_
 refine aZ.front (q:=.own w.heap.size rf 2 _ _ _) je ?_
 refine aZ.front (q:=.iv dm _) je ?_
 refine aZ.front (q:=.iv im _) je ?_
 refine aZ.front (q:=.own w.heap.size m7 1 _ _ _) je ?_
 refine aZ.front (q:=.own w.heap.size pq 2 _ _ _) je ?_
 refine aZ.front (q:=.own w.heap.size pc 3 _ _ _) je ?_
 refine aZ.front (q:=.own w.heap.size ou 4 _ _ _) je ?_
 refine aZ.front (q:=.own w.heap.size 3 1 _ _ _) je ?_
 refine aZ.front (q:=.aT sp _ _) je ?_
 refine aZ.front (q:=.aT bx _ _) je ?_
 refine aZ.lL (lf w.heap.size [] (m.types.take 0)) (fun w' _=>⟨rfl,fun i hi=>by simp at hi⟩) ?_
 refine aZ.loop (σ:=Nat×Value×List Value) (fun s=>[(1,.pointer (some ⟨b,0,none⟩)),(3,.pointer (some ⟨bx,0,none⟩)),(28,.slice p0 m.types.length c0),(29,.int .i64 m.types.length),(30,.int .i64 s.1)]) (fun s=>ke w.heap.size bx sp im dm ⟨s.2.1,.slice none 0 0,.slice none 0 0,.slice none 0 0,.slice none 0 0,.slice none 0 0⟩ s.1 s.2.2 (X0 m) (fun _=>none) (fun _=>none)++[.aT b ([Value.slice p0 m.types.length c0,Value.slice p1 m.imports.length c1,Value.slice p2 m.funcs.length c2,Value.slice p3 m.tables.length c3,Value.slice p4 m.da.length c4,Value.slice p5 m.globals.length c5,Value.slice p6 m.bh.length c6,Value.bool m.br,Value.int .i64 m.start,Value.slice p7 m.elems.length c7,Value.slice p8 m.bD.length c8,v9]:List Value) kU]) (fun s=>[lf w.heap.size s.2.2 (m.types.take s.1),Ext w]) (fun s=>s.1≤m.types.length) (fun s=>m.types.length - s.1) (0,.slice none 0 0,[]) bJ LB Lv LT ?_
 rintro⟨i,tv,tc⟩ hi
 dsimp only at hi ⊢
 unfold ke
 simp only[List.cons_append,List.nil_append]
 by_cases hlt:i<m.types.length
 ·obtain⟨b1,o1,rfl,hF,cs5,⟨u0,u1,rfl,q0,q1⟩,hc5⟩:=r0.el hlt
  obtain⟨x0,y0,rfl,-⟩:=q0.slice
  obtain⟨x1,y1,rfl,-⟩:=q1.slice
  refine bQ ?_
  refine JS ?_
  refine aa.alloc [Value.slice none 0 0,Value.slice none 0 0] rfl rfl rfl fun b5=>?_
  refine bQ ?_
  refine aZ.dB [0,1,2,3,4,5,6,7,8,9,10] 11 [.aT b5 _ rf,.aT bx [.pointer (some ⟨sp,0,none⟩)] oI,.aT sp [tv,.slice none 0 0,.slice none 0 0,.slice none 0 0,.slice none 0 0,.slice none 0 0,.int .i64 (X0 m).bD,.map (some im),.map (some dm)] wY] [] L9 bc aV ?_
  refine pO ?_
  refine bq.he (HE.FZ (V:=FJ (ix m.types i)) (fun x=>.agg #[x.1,x.2]) (FJ.fresh _) rfl rfl (fun w' hw'=>vt F (ix m.types i) _ _ w' (q0.aO (show Ext w w' from hw'.at) (fun _ _ _ h=>h)) (q1.aO (show Ext w w' from hw'.at) (fun _ _ _ h=>h)))) rfl (fun _=>bc) (fun _=>aV) ?_
  rintro⟨lo,z1,z2⟩ ⟨wx,hwx,hlo⟩
  have hlo':w.heap.size≤lo:=by have h:=mI (w:=w) ak wx hwx;have:lo=wx.heap.size:=hlo;omega
  dsimp only
  refine bq.pure (φ:=(∃p c,z1=.slice p (ix m.types i).params.length c)∧∃p c,z2=.slice p (ix m.types i).results.length c) (fun w' hw'=>?_) ?_
  ·have hv:FJ (ix m.types i) lo w' (z1,z2):=hw'.at
   obtain⟨p,c,e,_⟩:=hv.1.slice
   obtain⟨p',c',e',_⟩:=hv.2.slice
   exact⟨⟨p,c,e⟩,⟨p',c',e'⟩⟩
  rintro⟨⟨e1,f1,rfl⟩,⟨e2,f2,rfl⟩⟩
  refine JP ?_
  intro b3 _
  refine JT ?_
  intro v2 _
  refine pO ?_
  refine bq.pure (φ:=v2.oneCell'=true) (fun w' hw'=>ju (hw'.own (v:=v2))) fun hone=>?_
  refine JR ?_
  rintro⟨⟩ _
  refine bQ ?_
  refine ah.lL (lf w.heap.size (tc++[.slice e1 (ix m.types i).params.length f1,.slice e2 (ix m.types i).results.length f2]) (m.types.take (i+1))) (fun w' hw'=>?_) ?_
  ·rw[bE hlt]
   have hv:FJ (ix m.types i) lo w' (.slice e1 (ix m.types i).params.length f1,.slice e2 (ix m.types i).results.length f2):=yB hw'
   exact lf.app (yB hw') (hv.1.mono (fun k _ hk=>Nat.le_trans hlo' hk)) (hv.2.mono (fun k _ hk=>Nat.le_trans hlo' hk))
  exact ah.next (i+1,v2,tc++[.slice e1 (ix m.types i).params.length f1,.slice e2 (ix m.types i).results.length f2]) bJ (by dsimp only;exact np) Lv LT LT
 ·obtain rfl:i=m.types.length:=by omega
  refine bQ ?_
  refine aZ.loop (σ:=Nat×AN×(Int→Option Value)) (fun s=>[(1,.pointer (some ⟨b,0,none⟩)),(3,.pointer (some ⟨bx,0,none⟩)),(6,.func (.func 38) #[] #[.pointer (some ⟨bx,0,none⟩)]),(48,.slice p1 m.imports.length c1),(49,.int .i64 m.imports.length),(50,.int .i64 s.1)]) (fun s=>ke w.heap.size bx sp im dm s.2.1 m.types.length tc (zc (m.imports.take s.1) (X0 m)) s.2.2 (fun _=>none)++[.aT b ([Value.slice p0 m.types.length c0,Value.slice p1 m.imports.length c1,Value.slice p2 m.funcs.length c2,Value.slice p3 m.tables.length c3,Value.slice p4 m.da.length c4,Value.slice p5 m.globals.length c5,Value.slice p6 m.bh.length c6,Value.bool m.br,Value.int .i64 m.start,Value.slice p7 m.elems.length c7,Value.slice p8 m.bD.length c8,v9]:List Value) kU]) (fun s=>[lf w.heap.size tc (m.types.take m.types.length),Ext w]) (fun s=>s.1≤m.imports.length∧s.2.1.tv=tv∧E4 s.2.2 (cN m s.1)) (fun s=>m.imports.length - s.1) (0,⟨tv,.slice none 0 0,.slice none 0 0,.slice none 0 0,.slice none 0 0,.slice none 0 0⟩,fun _=>none) bJ LB aV ⟨by dsimp only;omega,rfl,fun k=>by simp[cN,tN]⟩ ?_
  rintro⟨i,v,ig⟩ ⟨hi,hvt,hcnt⟩
  dsimp only at hi hvt hcnt ⊢
  have hbl:=Al m i hi
  by_cases hlt:i<m.imports.length
  ·obtain⟨b1,o1,rfl,hF,he⟩:=r1.el hlt
   have hk9:=he.zd
   have hcs:=Ea m hlt
   have hcl:=vu m.imports (ix m.imports i).kind i
   obtain⟨cs9,hV9,hc9⟩:=he
   obtain⟨rfl,-⟩:=hV9
   refine bQ ?_
   refine aa.y_ (Yl.nO rfl rfl rfl ak Ml Ml hc9) rfl ?_
   refine aa.alloc [Value.string ⟨#[]⟩,Value.string ⟨#[]⟩,Value.int .i64 0,Value.int .i64 0,Value.int .i64 0,Value.int .i64 0,Value.int .i64 0,Value.bool false,Value.int .i64 0,Value.int .i64 0,Value.bool false,Value.int .i64 0,Value.bool false] rfl rfl rfl fun b8=>?_
   refine bQ ?_
   refine aa.he (HE.yF (B:=w.heap.size) (R':=[]) rfl rfl rfl List.perm_middle.symm (fun p hp=>absurd hp Mk) (fun w' hw' hB=>yh w.heap.size bx sp im dm v m.types.length tc _ ig (fun _=>none) (ix m.imports i) (cN m i) w' hw' hB ⟨by omega,by omega,by omega,by omega,by omega⟩ hcnt hk9 (by unfold cN;omega)) mI) rfl ?_
   rintro⟨v',ig'⟩ ⟨hc',ht'⟩
   dsimp only at hc' ht' ⊢
   rw[hcs]at hc'
   refine bQ ?_
   refine ah.next (i+1,v',ig') bJ ?_ aV ⟨by dsimp only;omega,by dsimp only;rw[ht',hvt],hc'⟩ LT
   dsimp only
   rw[bE hlt,xQ]
   unfold ke;simp only[List.cons_append,List.nil_append];exact np
  ·obtain rfl:i=m.imports.length:=by omega
   obtain⟨tv',fv0,bv,mv,gv,ev⟩:=v
   dsimp only at hvt
   subst hvt
   have e1:zc (m.imports.take m.imports.length) (X0 m)=X1 m:=by unfold X1;rw[List.take_length]
   have hlen1:(X1 m).funcs.length≤1000∧(X1 m).tables.length≤1000∧(X1 m).da.length≤1000∧(X1 m).globals.length≤1000∧(X1 m).elems.length≤0:=by rw[←e1];omega
   rw[e1]
   unfold ke
   simp only[List.cons_append,List.nil_append]
   refine bQ ?_
   have e2:(X2 m 0).funcs=(X1 m).funcs:=by simp[X2]
   refine aZ.loop (σ:=Nat×Value) (fun s=>[(1,.pointer (some ⟨b,0,none⟩)),(3,.pointer (some ⟨bx,0,none⟩)),(59,.slice p2 m.funcs.length c2),(60,.int .i64 m.funcs.length),(61,.int .i64 s.1)]) (fun s=>ke w.heap.size bx sp im dm ⟨tv',s.2,bv,mv,gv,ev⟩ m.types.length tc (X2 m s.1) ig (fun _=>none)++[.aT b ([Value.slice p0 m.types.length c0,Value.slice p1 m.imports.length c1,Value.slice p2 m.funcs.length c2,Value.slice p3 m.tables.length c3,Value.slice p4 m.da.length c4,Value.slice p5 m.globals.length c5,Value.slice p6 m.bh.length c6,Value.bool m.br,Value.int .i64 m.start,Value.slice p7 m.elems.length c7,Value.slice p8 m.bD.length c8,v9]:List Value) kU]) (fun s=>[lf w.heap.size tc (m.types.take m.types.length),Ext w]) (fun s=>s.1≤m.funcs.length) (fun s=>m.funcs.length - s.1) (0,fv0) bJ (by unfold ke;dsimp only;simp only[List.cons_append,List.nil_append,e2];exact np) aV LT ?_
   rintro⟨i,fv⟩ hi
   dsimp only at hi ⊢
   unfold ke
   simp only[List.cons_append,List.nil_append]
   by_cases hlt:i<m.funcs.length
   ·obtain⟨b1,o1,rfl,hF,cs5,⟨u0,u1,rfl,q0,q1,q2⟩,hc5⟩:=r2.el hlt
    obtain⟨x2,y2,rfl,z2⟩:=q1.slice
    obtain⟨x0,y0,rfl,z0⟩:=q0.slice
    have e3:(X2 m (i+1)).funcs=(X2 m i).funcs++[(ix m.funcs i).eD]:=by simp[X2,bE hlt]
    have l3:(X2 m i).funcs.length≤3000:=by simp[X2];omega
    refine bQ ?_
    refine JS ?_
    refine aa.alloc [Value.int .i64 0,Value.slice none 0 0,Value.slice none 0 0] rfl rfl rfl fun b10=>?_
    refine bQ ?_
    refine aZ.dB [0,1,2,3,4,5,6,7,8,9,10] 11 [.aT b10 _ Gi,.aT bx [.pointer (some ⟨sp,0,none⟩)] oI,.aT sp [tv',fv,bv,mv,gv,ev,.int .i64 (X2 m i).bD,.map (some im),.map (some dm)] wY] [] L9 bc aV ?_
    refine pO ?_
    refine JP ?_
    intro b3 _
    refine JT ?_
    intro v2 _
    refine pO ?_
    refine bq.pure (φ:=v2.oneCell'=true) (fun w' hw'=>ju (hw'.own (v:=v2))) fun hone=>?_
    refine JR ?_
    rintro⟨⟩ _
    refine bQ ?_
    exact ah.next (i+1,v2) bJ (by dsimp only;simp only[e3];exact np) aV LT LT
   ·obtain rfl:i=m.funcs.length:=by omega
    refine bQ ?_
    refine aZ.dB [0,1,2,3,4,5,6,7,8,9] 10 [.aT bx [.pointer (some ⟨sp,0,none⟩)] oI,.aT sp [tv',fv,bv,mv,gv,ev,.int .i64 (X2 m m.funcs.length).bD,.map (some im),.map (some dm)] wY,.aT b ([Value.slice p0 m.types.length c0,Value.slice p1 m.imports.length c1,Value.slice p2 m.funcs.length c2,Value.slice p3 m.tables.length c3,Value.slice p4 m.da.length c4,Value.slice p5 m.globals.length c5,Value.slice p6 m.bh.length c6,Value.bool m.br,Value.int .i64 m.start,Value.slice p7 m.elems.length c7,Value.slice p8 m.bD.length c8,v9]:List Value) kU] [Ext w] L9 bc aV ?_
    refine pO ?_
    refine bq.he (HE.Gk (m.tables.flatMap lA) rfl rfl (fun _=>aA) (Ah lA (fun _=>rfl) Mj (fun h=>wG h) r3 ak) (jA lA (fun _=>rfl) _) rfl rfl rfl Ml Ml Ml Ml (C5 _) (by have:(X2 m m.funcs.length).tables.length=(X1 m).tables.length:=rfl;omega) mI) rfl (fun _=>bc) (fun _=>aV) ?_
    intro v2 _
    refine pO ?_
    refine bq.pure (φ:=v2.oneCell'=true) (fun w' hw'=>ju (hw'.own (v:=v2))) fun hone=>?_
    refine JR ?_
    rintro⟨⟩ _
    refine bQ ?_
    refine aZ.dB [0,1,2,3,4,5,6,7,8,9] 10 [.aT bx [.pointer (some ⟨sp,0,none⟩)] oI,.aT sp [tv',fv,v2,mv,gv,ev,.int .i64 (X2 m m.funcs.length).bD,.map (some im),.map (some dm)] wY,.aT b ([Value.slice p0 m.types.length c0,Value.slice p1 m.imports.length c1,Value.slice p2 m.funcs.length c2,Value.slice p3 m.tables.length c3,Value.slice p4 m.da.length c4,Value.slice p5 m.globals.length c5,Value.slice p6 m.bh.length c6,Value.bool m.br,Value.int .i64 m.start,Value.slice p7 m.elems.length c7,Value.slice p8 m.bD.length c8,v9]:List Value) kU] [Ext w] L9 bc aV ?_
    refine pO ?_
    refine bq.he (HE.Gk (m.da.flatMap lD) rfl rfl (fun _=>aA) (Ah lD (fun _=>rfl) Mj (fun h=>uT h) r4 ak) (jA lD (fun _=>rfl) _) rfl rfl rfl Ml Ml Ml Ml (CV _) (by have:(X2 m m.funcs.length).da.length=(X1 m).da.length:=rfl;omega) mI) rfl (fun _=>bc) (fun _=>aV) ?_
    intro v3 _
    refine pO ?_
    refine bq.pure (φ:=v3.oneCell'=true) (fun w' hw'=>ju (hw'.own (v:=v3))) fun hone3=>?_
    refine bq.iq (fQ.gg rfl rfl rfl rfl hone3 aA nZ) rfl ?_
    rintro⟨⟩ _
    refine bQ ?_
    have e4:(X4 m 0).globals=(X1 m).globals:=by simp[X4]
    have e5:(X4 m 0).tables=(X2 m m.funcs.length).tables++m.tables:=rfl
    have e6:(X4 m 0).da=(X2 m m.funcs.length).da++m.da:=rfl
    refine aZ.loop (σ:=Nat×Value×(Int→Option Value)) (fun s=>[(1,.pointer (some ⟨b,0,none⟩)),(3,.pointer (some ⟨bx,0,none⟩)),(11,.func (.func 39) #[] #[.pointer (some ⟨bx,0,none⟩)]),(99,.slice p5 m.globals.length c5),(100,.int .i64 m.globals.length),(101,.int .i64 s.1)]) (fun s=>ke w.heap.size bx sp im dm ⟨tv',fv,v2,v3,s.2.1,ev⟩ m.types.length tc (X4 m s.1) ig s.2.2++[.aT b ([Value.slice p0 m.types.length c0,Value.slice p1 m.imports.length c1,Value.slice p2 m.funcs.length c2,Value.slice p3 m.tables.length c3,Value.slice p4 m.da.length c4,Value.slice p5 m.globals.length c5,Value.slice p6 m.bh.length c6,Value.bool m.br,Value.int .i64 m.start,Value.slice p7 m.elems.length c7,Value.slice p8 m.bD.length c8,v9]:List Value) kU]) (fun s=>[lf w.heap.size tc (m.types.take m.types.length),Ext w]) (fun s=>s.1≤m.globals.length∧CX s.2.2 (d4 m s.1)) (fun s=>m.globals.length - s.1) (0,gv,fun _=>none) bJ (by unfold ke;dsimp only;simp only[List.cons_append,List.nil_append,e4,e5,e6];exact np) aV ⟨by dsimp only;omega,fun k=>by simp[d4]⟩ ?_
    rintro⟨i,gv4,dg⟩ ⟨hi,hdec⟩
    dsimp only at hi hdec ⊢
    unfold ke
    simp only[List.cons_append,List.nil_append]
    by_cases hlt:i<m.globals.length
    ·obtain⟨b1,o1,rfl,hF,cs5,⟨u0,rfl,q0,q2⟩,hc5⟩:=r5.el hlt
     obtain⟨x2,y2,rfl,z2⟩:=q0.slice
     have e7:(X4 m (i+1)).globals=(X4 m i).globals++[(ix m.globals i).eD]:=by simp[X4,bE hlt]
     have l7:(X4 m i).globals.length≤3000:=by simp[X4];omega
     have d7:nS (d4 m i) (ix m.globals i).mE=d4 m (i+1):=by
      funext k;unfold nS d4;rw[bE hlt,List.any_append];simp
     refine bQ ?_
     refine JS ?_
     refine aa.alloc [Value.int .i64 0,Value.bool false,Value.slice none 0 0] rfl rfl rfl fun b13=>?_
     refine bQ ?_
     refine aZ.dB [0,1,2,3,4,5,6,7,8,9,10] 11 [.aT b13 _ Ie,.aT bx [.pointer (some ⟨sp,0,none⟩)] oI,.aT sp [tv',fv,v2,v3,gv4,ev,.int .i64 (X4 m i).bD,.map (some im),.map (some dm)] wY] [] L9 bc aV ?_
     refine pO ?_
     refine JP ?_
     intro b3 _
     refine JT ?_
     intro v4 _
     refine pO ?_
     refine bq.pure (φ:=v4.oneCell'=true) (fun w' hw'=>ju (hw'.own (v:=v4))) fun hone=>?_
     refine JR ?_
     rintro⟨⟩ _
     refine bQ ?_
     refine aa.sub (E':=[(1,.pointer (some ⟨b,0,none⟩)),(3,.pointer (some ⟨bx,0,none⟩)),(11,.func (.func 39) #[] #[.pointer (some ⟨bx,0,none⟩)]),(116,.func (.func 39) #[] #[.pointer (some ⟨bx,0,none⟩)]),(118,.slice x2 (ix m.globals i).mE.length y2),(99,.slice (some ⟨b1,o1,none⟩) m.globals.length c5),(100,.int .i64 m.globals.length),(101,.int .i64 i)]) bJ (M':=(ke w.heap.size bx sp im dm ⟨tv',fv,v2,v3,v4,ev⟩ m.types.length tc (X4 m (i+1)) ig dg++[.aT b ([Value.slice p0 m.types.length c0,Value.slice p1 m.imports.length c1,Value.slice p2 m.funcs.length c2,Value.slice p3 m.tables.length c3,Value.slice p4 m.da.length c4,Value.slice (some ⟨b1,o1,none⟩) m.globals.length c5,Value.slice p6 m.bh.length c6,Value.bool m.br,Value.int .i64 m.start,Value.slice p7 m.elems.length c7,Value.slice p8 m.bD.length c8,v9]:List Value) kU])) (R':=[lf w.heap.size tc (m.types.take m.types.length),Ext w]) (by unfold ke;simp only[List.cons_append,List.nil_append,e7];exact np) aV ?_
     refine aa.he (HE.yF (B:=w.heap.size) (R':=[Ext w]) rfl rfl rfl (List.Perm.refl _) aV (fun w' hw' _=>si F w.heap.size bx sp im dm _ m.types.length tc _ ig dg (d4 m i) (ix m.globals i).mE _ w w' hw' q0 hdec) mI) rfl ?_
     intro dg' hdec'
     rw[d7]at hdec'
     refine bQ ?_
     refine ah.next (i+1,v4,dg') bJ ?_ aV ⟨by dsimp only;omega,hdec'⟩ LT
     unfold ke;simp only[List.cons_append,List.nil_append];exact np
    ·obtain rfl:i=m.globals.length:=by omega
     refine bQ ?_
     have e8:(X5 m 0).elems=(X4 m m.globals.length).elems:=by simp only[X5,List.take_zero,List.map_nil,List.append_nil];rfl
     refine aZ.loop (σ:=Nat×Value×(Int→Option Value)) (fun s=>[(1,.pointer (some ⟨b,0,none⟩)),(3,.pointer (some ⟨bx,0,none⟩)),(11,.func (.func 39) #[] #[.pointer (some ⟨bx,0,none⟩)]),(122,.slice p7 m.elems.length c7),(123,.int .i64 m.elems.length),(124,.int .i64 s.1)]) (fun s=>ke w.heap.size bx sp im dm ⟨tv',fv,v2,v3,gv4,s.2.1⟩ m.types.length tc (X5 m s.1) ig s.2.2++[.aT b ([Value.slice p0 m.types.length c0,Value.slice p1 m.imports.length c1,Value.slice p2 m.funcs.length c2,Value.slice p3 m.tables.length c3,Value.slice p4 m.da.length c4,Value.slice p5 m.globals.length c5,Value.slice p6 m.bh.length c6,Value.bool m.br,Value.int .i64 m.start,Value.slice p7 m.elems.length c7,Value.slice p8 m.bD.length c8,v9]:List Value) kU]) (fun s=>[lf w.heap.size tc (m.types.take m.types.length),Ext w]) (fun s=>s.1≤m.elems.length∧CX s.2.2 (d5 m s.1 0)) (fun s=>m.elems.length - s.1) (0,ev,dg) bJ (by unfold ke;dsimp only;simp only[List.cons_append,List.nil_append,e8];exact np) aV ⟨by dsimp only;omega,fun k=>by rw[hdec k];simp[d5]⟩ ?_
     rintro⟨i,ev5,dg⟩ ⟨hi,hdec⟩
     dsimp only at hi hdec ⊢
     unfold ke
     simp only[List.cons_append,List.nil_append]
     by_cases hlt:i<m.elems.length
     ·obtain⟨b1,o1,rfl,hF,cs5,⟨u0,u1,rfl,q0,q1,q2⟩,hc5⟩:=r7.el hlt
      obtain⟨x2,y2,rfl,z2⟩:=q0.slice
      obtain⟨x4,y4,rfl,z4⟩:=q1.slice
      have e9:(X5 m (i+1)).elems=(X5 m i).elems++[(ix m.elems i).eD]:=by simp[X5,bE hlt]
      have l9:(X5 m i).elems.length≤3000:=by simp[X5];omega
      refine bQ ?_
      refine JS ?_
      refine aa.alloc [Value.int .i64 0,Value.int .i64 0,Value.slice none 0 0,Value.int .i64 0,Value.slice none 0 0] rfl rfl rfl fun b15=>?_
      refine bQ ?_
      refine aZ.dB [0,1,2,3,4,5,6,7,8,9,10] 11 [.aT b15 _ Ih,.aT bx [.pointer (some ⟨sp,0,none⟩)] oI,.aT sp [tv',fv,v2,v3,gv4,ev5,.int .i64 (X5 m i).bD,.map (some im),.map (some dm)] wY] [] L9 bc aV ?_
      refine pO ?_
      refine JP ?_
      intro b3 _
      refine JT ?_
      intro v5 _
      refine pO ?_
      refine bq.pure (φ:=v5.oneCell'=true) (fun w' hw'=>ju (hw'.own (v:=v5))) fun hone=>?_
      refine JR ?_
      rintro⟨⟩ _
      refine bQ ?_
      refine aZ.loop (σ:=Nat×(Int→Option Value)) (fun s=>[(1,.pointer (some ⟨b,0,none⟩)),(3,.pointer (some ⟨bx,0,none⟩)),(11,.func (.func 39) #[] #[.pointer (some ⟨bx,0,none⟩)]),(122,.slice (some ⟨b1,o1,none⟩) m.elems.length c7),(123,.int .i64 m.elems.length),(124,.int .i64 i),(140,.slice x4 (ix m.elems i).items.length y4),(141,.int .i64 (ix m.elems i).items.length),(142,.int .i64 s.1)]) (fun s=>ke w.heap.size bx sp im dm ⟨tv',fv,v2,v3,gv4,v5⟩ m.types.length tc (X5 m (i+1)) ig s.2++[.aT b ([Value.slice p0 m.types.length c0,Value.slice p1 m.imports.length c1,Value.slice p2 m.funcs.length c2,Value.slice p3 m.tables.length c3,Value.slice p4 m.da.length c4,Value.slice p5 m.globals.length c5,Value.slice p6 m.bh.length c6,Value.bool m.br,Value.int .i64 m.start,Value.slice (some ⟨b1,o1,none⟩) m.elems.length c7,Value.slice p8 m.bD.length c8,v9]:List Value) kU]) (fun s=>[lf w.heap.size tc (m.types.take m.types.length),Ext w]) (fun s=>s.1≤(ix m.elems i).items.length∧CX s.2 (d5 m i s.1)) (fun s=>(ix m.elems i).items.length - s.1) (0,dg) bJ (by unfold ke;dsimp only;simp only[List.cons_append,List.nil_append,e9];exact np) aV ⟨by dsimp only;omega,hdec⟩ ?_
      rintro⟨j,dg6⟩ ⟨hj,hdec6⟩
      dsimp only at hj hdec6 ⊢
      by_cases hjl:j<(ix m.elems i).items.length
      ·obtain⟨b7,o7,rfl,-,u7,c7_,hu7⟩:=q1.el hjl
       rw[Nat.mul_one]at c7_
       obtain⟨x8,y8,rfl,-⟩:=hu7.slice
       have d8:nS (d5 m i j) (ix (ix m.elems i).items j)=d5 m i (j+1):=by
        funext k;unfold nS d5;rw[bE hjl,List.any_append,Bool.or_assoc];simp
       refine bQ ?_
       refine aa.he (HE.yF (B:=w.heap.size) (R':=[Ext w]) rfl rfl rfl (List.Perm.refl _) aV (fun w' hw' _=>si F w.heap.size bx sp im dm _ m.types.length tc _ ig dg6 (d5 m i j) (ix (ix m.elems i).items j) _ w w' hw' hu7 hdec6) mI) rfl ?_
       intro dg' hdec'
       rw[d8]at hdec'
       refine bQ ?_
       exact ah.next (j+1,dg') bJ LB aV ⟨by dsimp only;omega,hdec'⟩ LT
      ·obtain rfl:j=(ix m.elems i).items.length:=by omega
       have d9:d5 m i (ix m.elems i).items.length=d5 m (i+1) 0:=by
        funext k;unfold d5;rw[List.take_length,bE hlt,List.any_append];simp[Bool.or_assoc]
       rw[d9]at hdec6
       refine bQ ?_
       exact ah.next (i+1,v5,dg6) bJ (by unfold ke;dsimp only;simp only[List.cons_append,List.nil_append];exact np) aV ⟨by dsimp only;omega,hdec6⟩ LT
     ·obtain rfl:i=m.elems.length:=by omega
      refine bQ ?_
      refine aZ.loop (σ:=Nat×(Int→Option Value)) (fun s=>[(1,.pointer (some ⟨b,0,none⟩)),(3,.pointer (some ⟨bx,0,none⟩)),(11,.func (.func 39) #[] #[.pointer (some ⟨bx,0,none⟩)]),(152,.slice p6 m.bh.length c6),(153,.int .i64 m.bh.length),(154,.int .i64 s.1)]) (fun s=>ke w.heap.size bx sp im dm ⟨tv',fv,v2,v3,gv4,ev5⟩ m.types.length tc (X5 m m.elems.length) ig s.2++[.aT b ([Value.slice p0 m.types.length c0,Value.slice p1 m.imports.length c1,Value.slice p2 m.funcs.length c2,Value.slice p3 m.tables.length c3,Value.slice p4 m.da.length c4,Value.slice p5 m.globals.length c5,Value.slice p6 m.bh.length c6,Value.bool m.br,Value.int .i64 m.start,Value.slice p7 m.elems.length c7,Value.slice p8 m.bD.length c8,v9]:List Value) kU]) (fun s=>[lf w.heap.size tc (m.types.take m.types.length),Ext w]) (fun s=>s.1≤m.bh.length∧CX s.2 (d6 m s.1)) (fun s=>m.bh.length - s.1) (0,dg) bJ (by unfold ke;dsimp only;simp only[List.cons_append,List.nil_append];exact np) aV ⟨by dsimp only;omega,fun k=>by rw[hdec k];simp[d5,d6]⟩ ?_
      rintro⟨i,dg⟩ ⟨hi,hdec⟩
      dsimp only at hi hdec ⊢
      unfold ke
      simp only[List.cons_append,List.nil_append]
      by_cases hlt:i<m.bh.length
      ·obtain⟨b1,o1,rfl,hF,he⟩:=r6.el hlt
       have hri:=he.vD
       obtain⟨cs9,hV9,hc9⟩:=he
       obtain⟨rfl,-⟩:=hV9
       have hnx:∀k,d6 m (i+1) k=(d6 m i k || (decide ((ix m.bh i).kind=0) && decide ((ix m.bh i).index=k))):=fun k=>by
        unfold d6;rw[bE hlt,List.any_append];simp[Bool.or_assoc]
       refine bQ ?_
       refine aa.y_ (Yl.nO rfl rfl rfl ak Ml Ml hc9) rfl ?_
       refine aa.alloc [Value.string ⟨#[]⟩,Value.int .i64 0,Value.int .i64 0] rfl rfl rfl fun b19=>?_
       refine bQ ?_
       by_cases hk0:(ix m.bh i).kind=0
       ·refine bQ ?_
        refine aZ.dB [0,1,2,3,4,5] 6 [.aT b19 _ Hd,.aT bx [.pointer (some ⟨sp,0,none⟩)] oI,.aT sp [tv',fv,v2,v3,gv4,ev5,.int .i64 (X5 m m.elems.length).bD,.map (some im),.map (some dm)] wY] [] L9 bc aV ?_
        refine pO ?_
        refine bq.iq (fQ.mapUpdate Tryz.underlying93 Tryz.underlying3 rfl rfl rfl hri aA) rfl ?_
        rintro⟨⟩ _
        refine bQ ?_
        refine ah.next (i+1,put dg (ix m.bh i).index (.bool true)) bJ (by dsimp only;exact np) aV ⟨by dsimp only;omega,fun k=>?_⟩ LT
        dsimp only
        rw[hdec.put _ k,hnx k];simp[hk0]
       ·refine bQ ?_
        refine ah.next (i+1,dg) bJ (by dsimp only;exact np) aV ⟨by dsimp only;omega,fun k=>?_⟩ LT
        dsimp only
        rw[hdec k,hnx k];simp[hk0]
      ·obtain rfl:i=m.bh.length:=by omega
       refine bQ ?_
       refine aa.box [Value.pointer (some ⟨sp,0,none⟩)] rfl rfl rfl fun bS=>?_
       refine bQ ?_
       refine ah.aB rfl rfl fun w' hw'=>?_
       have hbig:∀k,Mb _ k→k<w.heap.size→False:=hw'.origin (S:=fun _=>False) (w0:=w) ak
       have hx:Ext w w':=hw'.at
       have hty:lf w.heap.size tc (m.types.take m.types.length) w':=hw'.at
       rw[List.take_length]at hty
       have o1:=hw'.own (v:=fv)
       have o2:=hw'.own (v:=v2)
       have o3:=hw'.own (v:=v3)
       have o4:=hw'.own (v:=gv4)
       have o5:=hw'.own (v:=ev5)
       have o6:=hw'.own (v:=tv')
       have hge:∀q:a8,q∈_→∀k,q.F k→w.heap.size≤k:=fun q hq k hk=>by
        rcases Nat.lt_or_ge k w.heap.size with h|h
        ·exact(hbig k ⟨q,hq,hk⟩ h).elim
        ·exact h
       refine⟨⟨_,rfl,bS,sp,im,dm,⟨tv',fv,v2,v3,gv4,ev5⟩,tc,ig,dg,rfl,⟨hge (.aT bS [.pointer (some ⟨sp,0,none⟩)] vE) bG bS rfl,hge (.aT sp [tv',fv,v2,v3,gv4,ev5,.int .i64 (X5 m m.elems.length).bD,.map (some im),.map (some dm)] wY) bG sp rfl,hge (.iv im ig) bG im rfl,hge (.iv dm dg) bG dm rfl⟩,⟨(hw'.m (.aT bS [.pointer (some ⟨sp,0,none⟩)] vE) bG).1,(hw'.m (.aT sp [tv',fv,v2,v3,gv4,ev5,.int .i64 (X5 m m.elems.length).bD,.map (some im),.map (some dm)] wY) bG).1,o1,o2,o3,o4,o5,o6,(hw'.m (.iv im ig) bG).1,(hw'.m (.iv dm dg) bG).1,hcnt,hdec,hty⟩⟩,hx⟩
end Go.Proofs.YtgbgnipidakdhaaGreatDoor
namespace Go.Proofs.YtgbgnipidakdhaaGreatDoor
def pn (m:aj) (k:Int):List bN:=m.imports.filter fun x=>decide (x.kind=k)
def fX (m:aj):List Int:=(pn m 0).map (·.func)++m.funcs.map (·.eD)
def bA (m:aj):List ff:=(pn m 1).map (·.table)++m.tables
def dD (m:aj):List eR:=(pn m 2).map (·.mem)++m.da
def fA (m:aj):List gY:=(pn m 3).map (·.eG)++m.globals.map (·.eD)
def dA (m:aj):List Int:=m.elems.map (·.eD)
theorem Bb (l:List bN) (X:nY):l.foldl nY.my X={X with funcs:=X.funcs++(l.filter fun x=>decide (x.kind=0)).map (·.func),tables:=X.tables++(l.filter fun x=>decide (x.kind=1)).map (·.table),da:=X.da++(l.filter fun x=>decide (x.kind=2)).map (·.mem),globals:=X.globals++(l.filter fun x=>decide (x.kind=3)).map (·.eG)}:=by
 induction l generalizing X with
 |nil=>simp
 |cons a r ih=>
  rw[List.foldl_cons,ih]
  unfold nY.my
  by_cases h0:a.kind=0
  ·simp[h0]
  by_cases h1:a.kind=1
  ·simp[h1]
  by_cases h2:a.kind=2
  ·simp[h2]
  by_cases h3:a.kind=3
  ·simp[h3]
  simp[h0,h1,h2,h3]
theorem nT (m:aj):tR m=⟨fX m,bA m,dD m,fA m,dA m,m.bD.length⟩:=by
 unfold tR X5 X4 X3 X2 X1 zc
 rw[Bb]
 simp[X0,fX,bA,dD,fA,dA,pn]
def cx {α:Type} [Inhabited α] (l:List α) (i:Int):Option α:=if 0≤i∧i<l.length then some (ix l i.toNat)else none
def jX (l:List bN) (k:Int):Int→Option bN:=match l with
 |[]=>fun _=>none
 |a::r=>fun i=>if a.kind≠k then jX r k i else if i=0 then some a else jX r k (i - 1)
theorem Aj (k:Int):∀(l:List bN) (i:Int),i<0→jX l k i=none
 |[],_,_=>rfl
 |a::r,i,h=>by
  unfold jX
  split
  ·exact Aj k r i h
  ·rw[if_neg Mj];exact Aj k r (i - 1) Mj
theorem E8 (k:Int):∀(l:List bN) (i:Nat),jX l k i=(l.filter fun x=>decide (x.kind=k))[i]?
 |[],i=>by simp[jX]
 |a::r,i=>by
  unfold jX
  by_cases h:a.kind=k
  ·rw[if_neg (by simp[h]),List.filter_cons_of_pos LY]
   cases i with
   |zero=>simp
   |succ i=>rw[if_neg Mj,show((i+1:Nat):Int) - 1=(i:Int)by omega,E8 k r i];simp
  ·rw[if_pos h,List.filter_cons_of_neg LY];exact E8 k r i
theorem DR {α:Type} [Inhabited α] (f:bN→α) (l:List bN) (k:Int) (own:List α) (i:Int):
  cx ((l.filter fun x=>decide (x.kind=k)).map f++own) i=match jX l k i with
   |some x=>some (f x)
   |none=>if 0≤i then cx own (i - (l.filter fun x=>decide (x.kind=k)).length)else none:=by
 generalize hf:l.filter (fun x=>decide (x.kind=k))=fl
 by_cases h0:0≤i
 ·obtain⟨j,rfl⟩:=Int.eq_ofNat_of_zero_le h0
  rw[E8,hf]
  by_cases hj:j<fl.length
  ·rw[List.getElem?_eq_getElem hj]
   unfold cx
   rw[if_pos ⟨h0,by simp;omega⟩]
   congr 1
   rw[Int.toNat_natCast,cD Ma,List.getElem_append_left (by simpa using hj)]
   simp
  ·rw[List.getElem?_eq_none Mj,if_pos h0]
   unfold cx
   by_cases h1:j<fl.length+own.length
   ·rw[if_pos ⟨h0,by simp;omega⟩,if_pos ⟨by omega,by omega⟩]
    congr 1
    rw[Int.toNat_natCast,gD Ma]
    congr 1
    simp
   ·rw[if_neg Ma,if_neg Mj]
 ·rw[Aj k l i Mj,if_neg h0]
  unfold cx
  rw[if_neg Mj]
end Go.Proofs.YtgbgnipidakdhaaGreatDoor
namespace Go.Proofs.YtgbgnipidakdhaaGreatDoor
set_option maxRecDepth 100000
def dZ (op:Int):Int:=(dU op).2.2
def aW (n:Int):Bool:=decide (0≤n) && decide (n<4294967296)
def jo (t:Int):Bool:=decide (1≤t) && decide (t≤4)
def iK (k v i:Int):Bool:=if k=0 then decide (v=0) && decide (i=0)else if k=1 then jo v && decide (i=0)else decide (k=2) && (decide (v=0) && aW i)
def cq (x:cJ):Bool:=
 let k:=dZ x.op
 let ab:=decide (x.a=0) && decide (x.b=0)
 if(eO x.op).isSome=false∨(k≠1∧¬(x.kind=0∧x.val=0∧x.index=0))∨(k≠3∧0<x.labels.length)∨(k≠6∧0<x.types.length)then false else
 if k=0 then ab && decide (x.n=0)else
 if k=1 then ab && decide (x.n=0) && iK x.kind x.val x.index else
 if k=3 then aW x.a && decide (x.b=0) && decide (x.n=0) && x.labels.all aW else
 if k=6 then ab && decide (x.n=0) && decide (x.types.length=1) && jo (ix x.types 0)else
 if k=2∨k=4∨k=7∨k=8∨k=9∨k=12∨k=16 then aW x.a && decide (x.b=0) && decide (x.n=0)else
 if k=5∨k=10∨k=11∨k=14∨k=15 then aW x.a && aW x.b && decide (x.n=0)else
 if k=13 then decide (x.a=0) && aW x.b && decide (x.n=0)else
 if k=17 then decide (0≤x.a) && decide (x.a≤63) && aW x.b && decide (x.n<4294967296)else
 if k=18 then ab && decide (x.n<4294967296)else
 if k=19 then ab else(decide (x.a=3) || decide (x.a=4)) && decide (x.b=0) && decide (x.n=0)
theorem Dc:(kg.all fun r=>decide (0≤r.2.2) && decide (r.2.2≤20))=true:=by decide+kernel
theorem xv (op:Int):0≤dZ op∧dZ op≤20:=by
 unfold dZ dU
 cases h:eO op with
 |none=>exact⟨by decide,by decide⟩
 |some r=>
  have:=List.all_eq_true.1 Dc r (List.mem_of_find?_eq_some h)
  simpa using this
theorem qI {op:Int} (h:dZ op≠0):∃r∈kg,r.1=op∧r.2.2=dZ op:=by
 unfold dZ dU at*
 cases hf:eO op with
 |none=>rw[hf]at h;exact absurd rfl h
 |some r=>exact⟨r,List.mem_of_find?_eq_some hf,by have:=List.find?_some hf;simpa using this,rfl⟩
def mB (m:aj) (i:Int):Bool:=decide (0≤i) && decide (i<(fX m).length) && d6 m m.bh.length i
def fS (m:aj) (i:Int):Option aL:=(cx (fX m) i).bind (cx m.types)
def dy:aL:=⟨[],[]⟩
def cE (op:Int):aL×Int:=match ft op with
 |some f=>(f,0)
 |none=>(dy,1)
def kO (op:Int):Int:=if gQ op=2 then 1 else if gQ op=4 then 2 else if gQ op=8 then 3 else 0
def bX (m:aj) (locals:List Int) (x:cJ):aL×Int:=
 let k:=dZ x.op
 if k=1∨k=2∨k=3 then(dy,1)else
 if k=4 then match fS m x.a with
  |none=>(dy,11)
  |some f=>if x.op=16 then(f,0)else if mB m x.a=true then cE x.op else(dy,22)
 else if k=5 then match cx m.types x.a,cx (bA m) x.b with
  |some f,some t=>if t.elem≠3 then(dy,12)else(⟨f.params++[1],f.results⟩,0)
  |_,_=>(dy,11)
 else if k=6 then(⟨[ix x.types 0,ix x.types 0,1],[ix x.types 0]⟩,0)
 else if k=7 then
  if(locals.length:Int)≤x.a then(dy,11)else
   let t:=ix locals x.a.toNat
   if x.op=32 then(⟨[],[t]⟩,0)else if x.op=33 then(⟨[t],[]⟩,0)else(⟨[t],[t]⟩,0)
 else if k=8 then match cx (fA m) x.a with
  |none=>(dy,11)
  |some g=>if x.op=35 then(⟨[],[g.mH]⟩,0)else if g.qb=false then(dy,18)else(⟨[g.mH],[]⟩,0)
 else if k=9 then match cx (bA m) x.a with
  |none=>(dy,11)
  |some t=>if x.op=37 then(⟨[1],[t.elem]⟩,0)else if x.op=38 then(⟨[1,t.elem],[]⟩,0)else if x.op=64528 then(⟨[],[1]⟩,0)else if x.op=64527 then(⟨[t.elem,1],[1]⟩,0)else(⟨[1,t.elem,1],[]⟩,0)
 else if k=10 then match cx (bA m) x.a,cx (bA m) x.b with
  |some a,some b=>if a.elem≠b.elem then(dy,12)else cE x.op
  |_,_=>(dy,11)
 else if k=11 then match cx (dA m) x.a,cx (bA m) x.b with
  |some a,some b=>if a≠b.elem then(dy,12)else cE x.op
  |_,_=>(dy,11)
 else if k=12 then if(cx (dA m) x.a).isNone then(dy,11)else cE x.op
 else if k=13∨k=14∨k=15∨k=17 then
  if k=14∧(cx (dD m) x.a).isNone then(dy,11)else if k=15∧(m.bD.length:Int)≤x.a then(dy,11)else if(cx (dD m) x.b).isNone then(dy,11)else if k=17∧kO x.op<x.a then(dy,19)else cE x.op
 else if k=16 then if(m.bD.length:Int)≤x.a then(dy,11)else cE x.op
 else if k=20 then(⟨[],[x.a]⟩,0)
 else cE x.op
def ij (op:Int):Bool:=decide (op=2) || decide (op=3) || decide (op=4) || decide (op=5) || decide (op=11) || decide (op=0) || decide (op=12) || decide (op=13) || decide (op=14) || decide (op=15) || decide (op=26) || decide (op=27) || decide (op=209)
def jH (m:aj) (locals:List Int) (x:cJ):aL×Int:=if cq x=false then(dy,10)else bX m locals x
theorem Bn:(kg.all fun r=>!ij r.1 || ((decide (r.2.2=1) || decide (r.2.2=2) || decide (r.2.2=3) || decide (r.2.2=0)) && (ft r.1).isNone))=true:=by decide+kernel
theorem B1 (m:aj) (locals:List Int) (x:cJ) (h:ij x.op=true) (hk:(eO x.op).isSome=true):bX m locals x=(dy,1):=by
 obtain⟨r,hr⟩:=Option.isSome_iff_exists.1 hk
 have h1:=List.all_eq_true.1 Bn r (List.mem_of_find?_eq_some hr)
 have e:r.1=x.op:=by have:=List.find?_some hr;simpa using this
 have e2:dZ x.op=r.2.2:=by unfold dZ dU;rw[hr];rfl
 rw[e,h]at h1
 simp only[Bool.not_true,Bool.false_or,Bool.and_eq_true,Bool.or_eq_true,decide_eq_true_eq,←e2]at h1
 obtain⟨h2,h3⟩:=h1
 unfold bX
 dsimp only
 rcases h2 with((h2|h2)|h2)|h2
 ·rw[if_pos (.inl h2)]
 ·rw[if_pos (.inr (.inl h2))]
 ·rw[if_pos (.inr (.inr h2))]
 ·have h4:ft x.op=none:=by simpa using h3
  simp[h2,cE,h4]
end Go.Proofs.YtgbgnipidakdhaaGreatDoor
namespace Go.Proofs.YtgbgnipidakdhaaGreatDoor
open Go.RowKit
set_option maxRecDepth 100000
theorem bW (n:Int) (w:World):Calls G.P 125 #[.int .i64 n] w fun e w'=>e=.returned (.bool (aW n))∧Ext w w':=by
 refine ae (l:=[.int .i64 n]) Tryz.func125 rfl Tryz.ntmps125 rfl (Ok.start w) ?_
 repeat'(first|refine ar ?_|(refine a7 ?_ ?_<;>intro hc_))
 all_goals exact ah.aB rfl rfl fun w' hw'=>⟨by simp_all [aW]<;>omega,hw'.at⟩
theorem eK (n:Int) (w:World):Calls G.P 89 #[.int .i64 n] w fun e w'=>e=.returned (.bool (aW n))∧Ext w w':=by
 refine ae (l:=[.int .i64 n]) Tryz.func89 rfl Tryz.ntmps89 rfl (Ok.start w) ?_
 repeat'(first|refine ar ?_|(refine a7 ?_ ?_<;>intro hc_))
 all_goals exact ah.aB rfl rfl fun w' hw'=>⟨by simp_all [aW]<;>omega,hw'.at⟩
theorem sJ (n:Int) (w:World):Calls G.P 127 #[.int .i64 n] w fun e w'=>e=.returned (.bool (jo n))∧Ext w w':=by
 refine ae (l:=[.int .i64 n]) Tryz.func127 rfl Tryz.ntmps127 rfl (Ok.start w) ?_
 repeat'(first|refine ar ?_|(refine a7 ?_ ?_<;>intro hc_))
 all_goals exact ah.aB rfl rfl fun w' hw'=>⟨by simp_all [jo]<;>omega,hw'.at⟩
theorem vj (n:Int) (w:World):Calls G.P 91 #[.int .i64 n] w fun e w'=>e=.returned (.bool (jo n))∧Ext w w':=by
 refine ae (l:=[.int .i64 n]) Tryz.func91 rfl Tryz.ntmps91 rfl (Ok.start w) ?_
 repeat'(first|refine ar ?_|(refine a7 ?_ ?_<;>intro hc_))
 all_goals exact ah.aB rfl rfl fun w' hw'=>⟨by simp_all [jo]<;>omega,hw'.at⟩
theorem sL (b:Bool) (p q:Int) (w:World):Calls G.P 134 #[.bool b,.int .i64 p,.int .i64 q] w fun e w'=>e=.returned (.int .i64 (if b=false then 11 else if p≠q then 12 else 0))∧Ext w w':=by
 refine ae (l:=[.bool b,.int .i64 p,.int .i64 q]) Tryz.func134 rfl Tryz.ntmps134 rfl (Ok.start w) ?_
 repeat'(first|refine ar ?_|(refine a7 ?_ ?_<;>intro hc_))
 all_goals exact ah.aB rfl rfl fun w' hw'=>⟨by simp_all,hw'.at⟩
def CY (t:Int):Bool:=decide (t=1) || decide (t=2)
def pB (t:Int):Bool:=decide (t=3) || decide (t=4)
theorem Es (t:Int):(CY t || pB t)=jo t:=by
 unfold CY pB jo
 rw[Bool.eq_iff_iff]
 simp only[Bool.or_eq_true,Bool.and_eq_true,decide_eq_true_eq];omega
theorem AV (n:Int) (w:World):Calls G.P 152 #[.int .i64 n] w fun e w'=>e=.returned (.bool (CY n))∧Ext w w':=by
 refine ae (l:=[.int .i64 n]) Tryz.func152 rfl Tryz.ntmps152 rfl (Ok.start w) ?_
 repeat'(first|refine ar ?_|(refine a7 ?_ ?_<;>intro hc_))
 all_goals exact ah.aB rfl rfl fun w' hw'=>⟨by simp_all [CY]<;>omega,hw'.at⟩
theorem BD (n:Int) (w:World):Calls G.P 153 #[.int .i64 n] w fun e w'=>e=.returned (.bool (pB n))∧Ext w w':=by
 refine ae (l:=[.int .i64 n]) Tryz.func153 rfl Tryz.ntmps153 rfl (Ok.start w) ?_
 repeat'(first|refine ar ?_|(refine a7 ?_ ?_<;>intro hc_))
 all_goals exact ah.aB rfl rfl fun w' hw'=>⟨by simp_all [pB]<;>omega,hw'.at⟩
theorem oK (n:Int) (w:World):Calls G.P 114 #[.int .i64 n] w fun e w'=>e=.returned (.bool (pB n))∧Ext w w':=by
 refine ae (l:=[.int .i64 n]) Tryz.func114 rfl Tryz.ntmps114 rfl (Ok.start w) ?_
 repeat'(first|refine ar ?_|(refine a7 ?_ ?_<;>intro hc_))
 all_goals exact ah.aB rfl rfl fun w' hw'=>⟨by simp_all [pB]<;>omega,hw'.at⟩
attribute [local irreducible] CY pB
set_option maxHeartbeats 4000000 in
theorem ve (n:Int) (w:World):Calls G.P 105 #[.int .i64 n] w fun e w'=>e=.returned (.bool (jo n))∧Ext w w':=by
 refine ae (l:=[.int .i64 n]) Tryz.func105 rfl Tryz.ntmps105 rfl (Ok.start w) ?_
 repeat'(first|refine ar ?_|(refine aa.aq rfl rfl rfl (fun w' _=>AV n w') ?_)|(refine aa.bV (by first|rfl|exact A8 rfl eZ|exact AK rfl eZ) rfl rfl rfl (fun w' _=>BD n w') ?_)|(refine a7 ?_ ?_<;>intro hc_))
 all_goals exact ah.aB rfl rfl fun w' hw'=>⟨by rw[←Es];simp_all,hw'.at⟩
end Go.Proofs.YtgbgnipidakdhaaGreatDoor
