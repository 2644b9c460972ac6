import Derived.Test.YtdkcljdfbemnbaaGreatDoorJWn
namespace Go.Proofs.YtdkcljdfbemnbaaGreatDoor
open Go.RowKit
set_option maxHeartbeats 64000000
open Value renaming int→Pm,slice→Pn
set_option maxRecDepth 100000
def fE (k:Int) (ba bb:Bool) (ta tb:Int) (be:Bool) (te:Int) (ma mb:Bool) (a nd al:Int):Int:=
 if k=10 then(if(ba && bb)=false then 11 else if ta≠tb then 12 else 0)else if k=11 then(if(be && bb)=false then 11 else if te≠tb then 12 else 0)else
 if k=12 then(if be=false then 11 else 0)else if k=16 then(if a<nd then 0 else 11)else if k=15 then(if mb=true∧a<nd then 0 else 11)else
 if k=14 then(if ma=false∨mb=false then 11 else 0)else if k=13 then(if mb=false then 11 else 0)else
 if k=17 then(if mb=true∧al<a then 19 else if mb=false then 11 else 0)else 0
def kH (m:af) (x:cv):Int:=fE (eR x.op) (cJ (bM m) x.a).isSome (cJ (bM m) x.b).isSome ((cJ (bM m) x.a).getD By).elem ((cJ (bM m) x.b).getD By).elem (cJ (dO m) x.a).isSome ((cJ (dO m) x.a).getD 0) (cJ (ec m) x.a).isSome (cJ (ec m) x.b).isSome x.a m.bg.length (mn x.op)
theorem nP {g g':Prop} (h:g') (hw:eA g'→g:=by(intro hk_;(first|refine Ow ?_);exact hk_.out)):g:=hw ⟨h⟩
theorem sf {g g':Prop} (h:g') (hw:eA g'→g:=by(intro hk_;(first|refine nP ?_|(refine aa.aj (f:=142) ?_;refine aa.av (v:=.tuple #[.agg #[.int .i64 (ML b).min,.int .i64 (ML b).max,.bool (ML b).has],.bool false]) rfl rfl rfl (fun w' hw'=>by have:=gM b w' hw'.at;rw[hz]at this;exact this) ?_));exact hk_.out)):g:=hw ⟨h⟩
theorem sg {g g':Prop} (h:g') (hw:eA g'→g:=by(intro hk_;(first|refine nP ?_|(refine aa.aj (f:=142) ?_;refine aa.av (v:=.tuple #[.agg #[.int .i64 (ML b).min,.int .i64 (ML b).max,.bool (ML b).has],.bool true]) rfl rfl rfl (fun w' hw'=>by have:=gM b w' hw'.at;rw[hz]at this;exact this) ?_));exact hk_.out)):g:=hw ⟨h⟩
theorem wQ (B:Nat) (m:af) (v:Value) (op a b n kind val index:Int) (pt pl:Option Addr) (nt nl ct cl:Nat) (k:Int) (al:Int) (w:World) (h:bK B m w v)
  (ho:∀w',Ext w w'→Calls G.P 95 #[.int .i64 op] w' fun e w2=>e=.returned (.int .i64 k)∧Ext w' w2)
  (ha:∀w',Ext w w'→Calls G.P 143 #[.int .i64 op] w' fun e w2=>e=.returned (.int .i64 al)∧Ext w' w2):
  Calls G.P 102 #[v,.agg #[Pm .i64 op,Pm .i64 a,Pm .i64 b,Pm .u64 n,Pm .i64 kind,Pm .i64 val,Pm .i64 index,Pn pt nt ct,Pn pl nl cl]] w fun e w'=>e=.returned (.int .i64 (fE k (cJ (bM m) a).isSome (cJ (bM m) b).isSome ((cJ (bM m) a).getD By).elem ((cJ (bM m) b).getD By).elem (cJ (dO m) a).isSome ((cJ (dO m) a).getD 0) (cJ (ec m) a).isSome (cJ (ec m) b).isSome a m.bg.length al))∧Ext w w':=by
 have:=ho;clear this
 obtain⟨T,hT⟩:∃T:Int→fJ,∀i,(cJ (bM m) i).getD By=T i:=⟨_,fun _=>rfl⟩
 obtain⟨S,hS⟩:∃T:Int→Bool,∀i,(cJ (bM m) i).isSome=T i:=⟨_,fun _=>rfl⟩
 obtain⟨ML,hML⟩:∃T:Int→fu,∀i,(cJ (ec m) i).getD IF=T i:=⟨_,fun _=>rfl⟩
 obtain⟨MS,hMS⟩:∃T:Int→Bool,∀i,(cJ (ec m) i).isSome=T i:=⟨_,fun _=>rfl⟩
 obtain⟨te,hte⟩:∃t,(cJ (dO m) a).getD 0=t:=⟨_,rfl⟩
 obtain⟨be,hbe⟩:∃t,(cJ (dO m) a).isSome=t:=⟨_,rfl⟩
 obtain⟨nd,hnd⟩:∃t:Int,(m.bg.length:Int)=t:=⟨_,rfl⟩
 have gT:∀i w',Ext w w'→Calls G.P 137 #[v,.int .i64 i] w' fun e w2=>e=.returned (.tuple #[.agg #[.int .i64 (T i).elem,.int .i64 (T i).m9.min,.int .i64 (T i).m9.max,.bool (T i).m9.has],.bool (S i)])∧Ext w' w2:=fun i w' hx=>by have:=gV B m v i w' (h.aN hx (fun _ _ h=>h));rw[hT,hS]at this;exact this
 have gM:∀i w',Ext w w'→Calls G.P 142 #[v,.int .i64 i] w' fun e w2=>e=.returned (.tuple #[.agg #[.int .i64 (ML i).min,.int .i64 (ML i).max,.bool (ML i).has],.bool (MS i)])∧Ext w' w2:=fun i w' hx=>by have:=El B m v i w' (h.aN hx (fun _ _ h=>h));rw[hML,hMS]at this;exact this
 have gE:∀w',Ext w w'→Calls G.P 140 #[v,.int .i64 a] w' fun e w2=>e=.returned (.tuple #[.int .i64 te,.bool be])∧Ext w' w2:=fun w' hx=>by have:=B7 B m v a w' (h.aN hx (fun _ _ h=>h));rw[hte,hbe]at this;exact this
 have gnd:∀w',Ext w w'→Calls G.P 141 #[v] w' fun e w2=>e=.returned (.int .i64 nd)∧Ext w' w2:=fun w' hx=>by have:=AM B m v w' (h.aN hx (fun _ _ h=>h));rw[hnd]at this;exact this
 simp only[hT,hS,hMS,hte,hbe,hnd]
 clear hT hS hML hMS hte hbe hnd
 by_cases hk:k=10
 ·obtain rfl:=hk
  skip
  refine M6 ?_
  repeat'(first|refine ar ?_|(refine NV fun b_=>?_)|refine nP ?_|(refine aa.aj (f:=137) ?_;refine aa.av rfl rfl rfl (fun w' hw'=>gT _ w' hw'.at) ?_)|(refine aa.aj (f:=139) ?_;refine aa.av rfl rfl rfl (fun w' hw'=>vi _ _ _ w') ?_)|(refine bC ?_ ?_<;>intro hc_))
  all_goals exact ww
 by_cases hk:k=11
 ·obtain rfl:=hk
  skip
  refine M6 ?_
  repeat'(first|refine ar ?_|(refine NV fun b_=>?_)|refine nP ?_|(refine aa.aj (f:=140) ?_;refine aa.av rfl rfl rfl (fun w' hw'=>gE w' hw'.at) ?_)|(refine aa.aj (f:=137) ?_;refine aa.av rfl rfl rfl (fun w' hw'=>gT _ w' hw'.at) ?_)|(refine aa.aj (f:=139) ?_;refine aa.av rfl rfl rfl (fun w' hw'=>vi _ _ _ w') ?_)|(refine bC ?_ ?_<;>intro hc_))
  all_goals exact ww
 by_cases hk:k=12
 ·obtain rfl:=hk
  skip
  refine M6 ?_
  repeat'(first|refine ar ?_|(refine NV fun b_=>?_)|refine nP ?_|(refine aa.aj (f:=140) ?_;refine aa.av rfl rfl rfl (fun w' hw'=>gE w' hw'.at) ?_)|(refine bC ?_ ?_<;>intro hc_))
  all_goals exact ww
 by_cases hk:k=16
 ·obtain rfl:=hk
  by_cases hlt:a<nd
  ·refine M6 ?_
   repeat'(first|refine ar ?_|(refine NV fun b_=>?_)|refine nP ?_|(refine bC ?_ ?_<;>intro hc_))
   refine Mq ?_
   refine cq ?_
   refine aq.oc (v:=.int .i64 nd) rfl rfl rfl (fun w' hw'=>gnd w' hw'.at) ?_
   refine cq ?_
   repeat'(first|refine ar ?_|(refine NV fun b_=>?_)|refine nP ?_|(refine bC ?_ ?_<;>intro hc_))
   all_goals exact ww
  ·refine M6 ?_
   repeat'(first|refine ar ?_|(refine NV fun b_=>?_)|refine nP ?_|(refine bC ?_ ?_<;>intro hc_))
   refine Mq ?_
   refine cq ?_
   refine aq.oc (v:=.int .i64 nd) rfl rfl rfl (fun w' hw'=>gnd w' hw'.at) ?_
   refine cq ?_
   repeat'(first|refine ar ?_|(refine NV fun b_=>?_)|refine nP ?_|(refine bC ?_ ?_<;>intro hc_))
   all_goals exact ww
 by_cases hk:k=15
 ·obtain rfl:=hk
  by_cases hlt:a<nd
  ·cases hz:MS b with
   |true=>
    refine M6 ?_
    repeat'(first|refine ar ?_|(refine NV fun b_=>?_)|refine sg ?_|(refine bC ?_ ?_<;>intro hc_))
    refine Mq ?_
    refine cq ?_
    refine aq.kR (v:=.int .i64 nd) rfl rfl rfl rfl (fun w' hw'=>gnd w' hw'.at) ?_
    refine cq ?_
    repeat'(first|refine ar ?_|(refine NV fun b_=>?_)|refine sg ?_|(refine bC ?_ ?_<;>intro hc_))
    all_goals exact ww
   |false=>
    refine M6 ?_
    repeat'(first|refine ar ?_|(refine NV fun b_=>?_)|refine sf ?_|(refine bC ?_ ?_<;>intro hc_))
    refine Mq ?_
    refine cq ?_
    repeat'(first|refine ar ?_|(refine NV fun b_=>?_)|refine sf ?_|(refine bC ?_ ?_<;>intro hc_))
    all_goals exact ww
  ·cases hz:MS b with
   |true=>
    refine M6 ?_
    repeat'(first|refine ar ?_|(refine NV fun b_=>?_)|refine sg ?_|(refine bC ?_ ?_<;>intro hc_))
    refine Mq ?_
    refine cq ?_
    refine aq.kR (v:=.int .i64 nd) rfl rfl rfl rfl (fun w' hw'=>gnd w' hw'.at) ?_
    refine cq ?_
    repeat'(first|refine ar ?_|(refine NV fun b_=>?_)|refine sg ?_|(refine bC ?_ ?_<;>intro hc_))
    all_goals exact ww
   |false=>
    refine M6 ?_
    repeat'(first|refine ar ?_|(refine NV fun b_=>?_)|refine sf ?_|(refine bC ?_ ?_<;>intro hc_))
    refine Mq ?_
    refine cq ?_
    repeat'(first|refine ar ?_|(refine NV fun b_=>?_)|refine sf ?_|(refine bC ?_ ?_<;>intro hc_))
    all_goals exact ww
 by_cases hk:k=14
 ·obtain rfl:=hk
  skip
  refine M6 ?_
  repeat'(first|refine ar ?_|(refine NV fun b_=>?_)|refine nP ?_|(refine aa.aj (f:=142) ?_;refine aa.av rfl rfl rfl (fun w' hw'=>gM _ w' hw'.at) ?_)|(refine bC ?_ ?_<;>intro hc_))
  all_goals exact ww
 by_cases hk:k=13
 ·obtain rfl:=hk
  skip
  refine M6 ?_
  repeat'(first|refine ar ?_|(refine NV fun b_=>?_)|refine nP ?_|(refine aa.aj (f:=142) ?_;refine aa.av rfl rfl rfl (fun w' hw'=>gM _ w' hw'.at) ?_)|(refine bC ?_ ?_<;>intro hc_))
  all_goals exact ww
 by_cases hk:k=17
 ·obtain rfl:=hk
  by_cases hlt:al<a
  ·cases hz:MS b with
   |true=>
    refine M6 ?_
    repeat'(first|refine ar ?_|(refine NV fun b_=>?_)|refine sg ?_|(refine bC ?_ ?_<;>intro hc_))
    refine Mq ?_
    refine cq ?_
    refine aq.kR (v:=.int .i64 al) rfl rfl rfl rfl (fun w' hw'=>ha w' hw'.at) ?_
    refine cq ?_
    repeat'(first|refine ar ?_|(refine NV fun b_=>?_)|refine sg ?_|(refine bC ?_ ?_<;>intro hc_))
    all_goals exact ww
   |false=>
    refine M6 ?_
    repeat'(first|refine ar ?_|(refine NV fun b_=>?_)|refine sf ?_|(refine bC ?_ ?_<;>intro hc_))
    refine Mq ?_
    refine cq ?_
    repeat'(first|refine ar ?_|(refine NV fun b_=>?_)|refine sf ?_|(refine bC ?_ ?_<;>intro hc_))
    all_goals exact ww
  ·cases hz:MS b with
   |true=>
    refine M6 ?_
    repeat'(first|refine ar ?_|(refine NV fun b_=>?_)|refine sg ?_|(refine bC ?_ ?_<;>intro hc_))
    refine Mq ?_
    refine cq ?_
    refine aq.kR (v:=.int .i64 al) rfl rfl rfl rfl (fun w' hw'=>ha w' hw'.at) ?_
    refine cq ?_
    repeat'(first|refine ar ?_|(refine NV fun b_=>?_)|refine sg ?_|(refine bC ?_ ?_<;>intro hc_))
    all_goals exact ww
   |false=>
    refine M6 ?_
    repeat'(first|refine ar ?_|(refine NV fun b_=>?_)|refine sf ?_|(refine bC ?_ ?_<;>intro hc_))
    refine Mq ?_
    refine cq ?_
    repeat'(first|refine ar ?_|(refine NV fun b_=>?_)|refine sf ?_|(refine bC ?_ ?_<;>intro hc_))
    all_goals exact ww
 skip
 refine M6 ?_
 repeat'(first|refine ar ?_|(refine NV fun b_=>?_)|refine nP ?_|(refine bC ?_ ?_<;>intro hc_))
 all_goals exact ww
end Go.Proofs.YtdkcljdfbemnbaaGreatDoor
