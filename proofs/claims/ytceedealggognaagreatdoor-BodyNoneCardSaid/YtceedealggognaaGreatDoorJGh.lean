/- Layer 23: the small functions that give signatures. -/
import Derived.Test.YtceedealggognaaGreatDoorJGc
import Derived.Test.YtceedealggognaaGreatDoorJGp
namespace Go.Proofs.YtceedealggognaaGreatDoor
open Go.RowKit
set_option maxRecDepth 100000
theorem kj {M:List aU} {R:List (World→Prop)} {w0 w:World} {b T n c:Nat} {cs:List Value} {D:Nat→Prop} (xs:List Int) (h:Ok M R w) (hR:Ext w0∈R) (hD:∀k,w0.heap.size≤k→D k) (hm:aU.aH b cs T∈M:=by repeat(first|with_reducible exact List.mem_cons_self|apply List.mem_cons_of_mem)) (hcs:cs=xs.map (Value.int .i64):=by rfl) (hn:n=xs.length:=by rfl) (hl:xs.length≤1000:=by simp):af D w (.slice (some ⟨b,0,none⟩) n c) xs:=by
 subst hcs hn
 have hb:eA w b (xs.map (Value.int .i64)) T:=(h.m _ hm).1
 refine⟨_,c,rfl,by omega,.inr ⟨b,0,rfl,hD b ?_,fun i hi=>?_⟩⟩
 ·rcases Nat.lt_or_ge b w0.heap.size with hlt|hge
  ·exact(h.origin (S:=fun _=>False) hR b ⟨_,hm,rfl⟩ hlt).elim
  ·exact hge
 ·rw[Nat.zero_add];exact hb.cell (by rw[List.getElem?_map,gq hi];rfl)
theorem eI {p:Prop} (h:p:=by first|exact af.eB _ _|exact kj _ hw' ao (hD:=fun _ h=>.inr h)):p:=h
theorem oR (e0:Int) (w:World):Calls G.P 106 #[.int .i64 e0] w fun e w'=>e=.returned (.tuple #[.agg #[.slice none 0 0,.slice none 0 0],.int .i64 e0])∧Ext w w':=by
 refine aj (l:=[_]) Tryz.func106 rfl Tryz.ntmps106 rfl (Ok.start w) ?_
 repeat'(first|refine ay ?_|(refine Fa fun b_=>?_)|fail)
 all_goals exact pm
theorem nJ (p0 p1:Option Addr) (n0 n1 c0 c1:Nat) (w:World):Calls G.P 101 #[.slice p0 n0 c0,.slice p1 n1 c1] w fun e w'=>e=.returned (.tuple #[.agg #[.slice p0 n0 c0,.slice p1 n1 c1],.int .i64 0])∧Ext w w':=by
 refine aj (l:=[_,_]) Tryz.func101 rfl Tryz.ntmps101 rfl (Ok.start w) ?_
 repeat'(first|refine ay ?_|(refine Fa fun b_=>?_)|fail)
 all_goals exact pm
theorem kt {g g':Prop} (h:g') (hw:dP g'→g:=by(intro hk_;(first|(refine aa.ak (f:=106) ?_;refine aa.az rfl rfl rfl (fun w' hw'=>oR _ w') ?_)|(refine aa.ak (f:=101) ?_;refine aa.az rfl rfl rfl (fun w' hw'=>nJ _ _ _ _ _ _ w') ?_));exact hk_.out)):g:=hw ⟨h⟩
def fM (locals:List Int) (x:bZ):aC×Int:=if(locals.length:Int)≤x.a then(gw,11)else if x.op=32 then(⟨[],[ix locals x.a.toNat]⟩,0)else if x.op=33 then(⟨[ix locals x.a.toNat],[]⟩,0)else(⟨[ix locals x.a.toNat],[ix locals x.a.toNat]⟩,0)
def ek (m:ae) (x:bZ):aC×Int:=match eE (hZ m) x.a with
 |none=>(gw,11)
 |some g=>if x.op=35 then(⟨[],[g.pf]⟩,0)else if g.vX=false then(gw,18)else(⟨[g.pf],[]⟩,0)
def ep (m:ae) (x:bZ):aC×Int:=match eE (dz m) x.a with
 |none=>(gw,11)
 |some t=>if x.op=37 then(⟨[1],[t.elem]⟩,0)else if x.op=38 then(⟨[1,t.elem],[]⟩,0)else if x.op=64528 then(⟨[],[1]⟩,0)else if x.op=64527 then(⟨[t.elem,1],[1]⟩,0)else(⟨[1,t.elem,1],[]⟩,0)
def fU (r:aC×Int) (F:Nat→Prop) (w:World):Ending→World→Prop:=eU (eO r.1) (fun y:Value×Value=>.tuple #[.agg #[y.1,y.2],.int .i64 r.2]) F w
set_option maxHeartbeats 4000000 in
theorem ug (F:Nat→Prop) (locals:List Int) (x:bZ) (lp pt pl:Option Addr) (lc ct cl:Nat) (w:World) (hl:af F w (.slice lp locals.length lc) locals) (ha:0≤x.a):Calls G.P 102 #[.slice lp locals.length lc,.agg #[Value.int .i64 x.op,Value.int .i64 x.a,Value.int .i64 x.b,Value.int .u64 x.n,Value.int .i64 x.kind,Value.int .i64 x.val,Value.int .i64 x.index,Value.slice pt x.types.length ct,Value.slice pl x.labels.length cl]] w (fU (fM locals x) (fun _=>False) w):=by
 obtain⟨op,a,b,n,kind,val,index,types,labels⟩:=x
 dsimp only at ha ⊢
 obtain⟨j,rfl⟩:=Int.eq_ofNat_of_zero_le ha
 by_cases hj:j<locals.length
 ·obtain⟨bk,o,rfl,hF,hc⟩:=hl.at hj
  have hcj:=hc j hj
  by_cases h1:op=32
  ·subst h1
   rw[show fM locals ⟨32,(j:Nat),b,n,kind,val,index,types,labels⟩=(⟨[],[ix locals j]⟩,0)from by unfold fM;dsimp only;rw[if_neg FY,if_pos rfl,Int.toNat_natCast]]
   refine E6 ?_
   repeat'(first|refine ay ?_|(refine E9 fun b_=>?_)|(refine fP fun b_ _=>?_)|refine kt ?_|fail)
   all_goals exact f8
  ·by_cases h2:op=33
   ·subst h2
    rw[show fM locals ⟨33,(j:Nat),b,n,kind,val,index,types,labels⟩=(⟨[ix locals j],[]⟩,0)from by unfold fM;dsimp only;rw[if_neg FY,if_neg h1,if_pos rfl,Int.toNat_natCast]]
    refine E6 ?_
    repeat'(first|refine ay ?_|(refine E9 fun b_=>?_)|(refine fP fun b_ _=>?_)|refine kt ?_|fail)
    all_goals exact f8
   ·rw[show fM locals ⟨op,(j:Nat),b,n,kind,val,index,types,labels⟩=(⟨[ix locals j],[ix locals j]⟩,0)from by unfold fM;dsimp only;rw[if_neg FY,if_neg h1,if_neg h2,Int.toNat_natCast]]
    refine E6 ?_
    repeat'(first|refine ay ?_|(refine E9 fun b_=>?_)|(refine fP fun b_ _=>?_)|refine kt ?_|fail)
    all_goals exact f8
 ·rw[show fM locals ⟨op,(j:Nat),b,n,kind,val,index,types,labels⟩=(gw,11)from if_pos FP]
  refine E6 ?_
  repeat'(first|refine ay ?_|(refine E9 fun b_=>?_)|(refine fP fun b_ _=>?_)|refine kt ?_|fail)
  all_goals exact f8
set_option maxHeartbeats 4000000 in
theorem sQ (B:Nat) (m:ae) (v:Value) (x:bZ) (pt pl:Option Addr) (ct cl:Nat) (w:World) (h:aV B m w v):Calls G.P 103 #[v,.agg #[Value.int .i64 x.op,Value.int .i64 x.a,Value.int .i64 x.b,Value.int .u64 x.n,Value.int .i64 x.kind,Value.int .i64 x.val,Value.int .i64 x.index,Value.slice pt x.types.length ct,Value.slice pl x.labels.length cl]] w (fU (ek m x) (fun _=>False) w):=by
 obtain⟨op,a,b,n,kind,val,index,types,labels⟩:=x
 dsimp only
 cases hg:eE (hZ m) a with
 |none=>
  rw[show ek m ⟨op,a,b,n,kind,val,index,types,labels⟩=(gw,11)from by unfold ek;dsimp only;rw[hg]]
  refine E7 ?_
  repeat'(first|refine ay ?_|(refine E9 fun b_=>?_)|(refine fP fun b_ _=>?_)|refine kt ?_|(refine aa.ak (f:=141) ?_;refine aa.az (v:=.tuple #[.agg #[.int .i64 0,.bool false],.bool false]) rfl rfl rfl (fun w' hw'=>by have:=gU B m v a w' (h.aB (show Ext w w' from hw'.at) (fun _ _ h=>h));rw[hg]at this;exact this) ?_)|fail)
  all_goals exact f8
 |some g=>
  obtain⟨gv,gm⟩:=g
  by_cases h1:op=35
  ·subst h1
   rw[show ek m ⟨35,a,b,n,kind,val,index,types,labels⟩=(⟨[],[gv]⟩,0)from by unfold ek;dsimp only;rw[hg];rfl]
   refine E7 ?_
   repeat'(first|refine ay ?_|(refine E9 fun b_=>?_)|(refine fP fun b_ _=>?_)|refine kt ?_|(refine aa.ak (f:=141) ?_;refine aa.az (v:=.tuple #[.agg #[.int .i64 gv,.bool gm],.bool true]) rfl rfl rfl (fun w' hw'=>by have:=gU B m v a w' (h.aB (show Ext w w' from hw'.at) (fun _ _ h=>h));rw[hg]at this;exact this) ?_)|fail)
   all_goals exact f8
  ·cases gm with
   |false=>
    rw[show ek m ⟨op,a,b,n,kind,val,index,types,labels⟩=(gw,18)from by unfold ek;dsimp only;rw[hg];dsimp only;rw[if_neg h1,if_pos rfl]]
    refine E7 ?_
    repeat'(first|refine ay ?_|(refine E9 fun b_=>?_)|(refine fP fun b_ _=>?_)|refine kt ?_|(refine aa.ak (f:=141) ?_;refine aa.az (v:=.tuple #[.agg #[.int .i64 gv,.bool false],.bool true]) rfl rfl rfl (fun w' hw'=>by have:=gU B m v a w' (h.aB (show Ext w w' from hw'.at) (fun _ _ h=>h));rw[hg]at this;exact this) ?_)|fail)
    all_goals exact f8
   |true=>
    rw[show ek m ⟨op,a,b,n,kind,val,index,types,labels⟩=(⟨[gv],[]⟩,0)from by unfold ek;dsimp only;rw[hg];dsimp only;rw[if_neg h1,if_neg FX]]
    refine E7 ?_
    repeat'(first|refine ay ?_|(refine E9 fun b_=>?_)|(refine fP fun b_ _=>?_)|refine kt ?_|(refine aa.ak (f:=141) ?_;refine aa.az (v:=.tuple #[.agg #[.int .i64 gv,.bool true],.bool true]) rfl rfl rfl (fun w' hw'=>by have:=gU B m v a w' (h.aB (show Ext w w' from hw'.at) (fun _ _ h=>h));rw[hg]at this;exact this) ?_)|fail)
    all_goals exact f8
end Go.Proofs.YtceedealggognaaGreatDoor
