/- Layer 23: the things that an instruction names. Printed by gen_we.py. -/
import Derived.Test.YtceedealggognaaGreatDoorJWd
namespace Go.Proofs.YtceedealggognaaGreatDoor
open Go.RowKit
set_option maxRecDepth 100000
def dM (k:Int) (ba bb:Bool) (ta tb:Int) (be:Bool) (te:Int) (ma mb:Bool) (a nd al:Int):Int:=
 if k=10 then(if(ba && bb)=false then 11 else if ta≠tb then 12 else 0)else if k=11 then(if(be && bb)=false then 11 else if te≠tb then 12 else 0)else
 if k=12 then(if be=false then 11 else 0)else if k=16 then(if a<nd then 0 else 11)else if k=15 then(if mb=true∧a<nd then 0 else 11)else
 if k=14 then(if ma=false∨mb=false then 11 else 0)else if k=13 then(if mb=false then 11 else 0)else
 if k=17 then(if mb=true∧al<a then 19 else if mb=false then 11 else 0)else 0
def jk (m:ae) (x:bP):Int:=dM (iJ x.op) (eK (dF m) x.a).isSome (eK (dF m) x.b).isSome ((eK (dF m) x.a).getD BS).elem ((eK (dF m) x.b).getD BS).elem (eK (iq m) x.a).isSome ((eK (iq m) x.a).getD 0) (eK (kM m) x.a).isSome (eK (kM m) x.b).isSome x.a m.aS.length (ru x.op)
theorem ku {g g':Prop} (h:g') (hw:ek g'→g:=by(intro hk_;(first|refine GB ?_);exact hk_.out)):g:=hw ⟨h⟩
theorem tN {g g':Prop} (h:g') (hw:ek g'→g:=by(intro hk_;(first|refine ku ?_|(refine aa.ak (f:=145) ?_;refine aa.az (v:=.tuple #[.agg #[.int .i64 (ML b).min,.int .i64 (ML b).max,.bool (ML b).has],.bool false]) rfl rfl rfl (fun w' hw'=>by have:=gM b w' hw'.at;rw[hz]at this;exact this) ?_));exact hk_.out)):g:=hw ⟨h⟩
theorem nI {g g':Prop} (h:g') (hw:ek g'→g:=by(intro hk_;(first|refine ku ?_|(refine aa.ak (f:=145) ?_;refine aa.az (v:=.tuple #[.agg #[.int .i64 (ML b).min,.int .i64 (ML b).max,.bool (ML b).has],.bool true]) rfl rfl rfl (fun w' hw'=>by have:=gM b w' hw'.at;rw[hz]at this;exact this) ?_));exact hk_.out)):g:=hw ⟨h⟩
set_option maxHeartbeats 64000000 in
theorem qs (B:Nat) (m:ae) (v:Value) (op a b n kind val index:Int) (pt pl:Option Addr) (nt nl ct cl:Nat) (k:Int) (al:Int) (w:World) (h:aR B m w v)
  (ho:∀w',Ext w w'→Calls G.P 98 #[.int .i64 op] w' fun e w2=>e=.returned (.int .i64 k)∧Ext w' w2)
  (ha:∀w',Ext w w'→Calls G.P 146 #[.int .i64 op] w' fun e w2=>e=.returned (.int .i64 al)∧Ext w' w2):
  Calls G.P 105 #[v,.agg #[Value.int .i64 op,Value.int .i64 a,Value.int .i64 b,Value.int .u64 n,Value.int .i64 kind,Value.int .i64 val,Value.int .i64 index,Value.slice pt nt ct,Value.slice pl nl cl]] w fun e w'=>e=.returned (.int .i64 (dM k (eK (dF m) a).isSome (eK (dF m) b).isSome ((eK (dF m) a).getD BS).elem ((eK (dF m) b).getD BS).elem (eK (iq m) a).isSome ((eK (iq m) a).getD 0) (eK (kM m) a).isSome (eK (kM m) b).isSome a m.aS.length al))∧Ext w w':=by
 obtain⟨T,hT⟩:∃T:Int→eh,∀i,(eK (dF m) i).getD BS=T i:=⟨_,fun _=>rfl⟩
 obtain⟨S,hS⟩:∃T:Int→Bool,∀i,(eK (dF m) i).isSome=T i:=⟨_,fun _=>rfl⟩
 obtain⟨ML,hML⟩:∃T:Int→dz,∀i,(eK (kM m) i).getD DH=T i:=⟨_,fun _=>rfl⟩
 obtain⟨MS,hMS⟩:∃T:Int→Bool,∀i,(eK (kM m) i).isSome=T i:=⟨_,fun _=>rfl⟩
 obtain⟨te,hte⟩:∃t,(eK (iq m) a).getD 0=t:=⟨_,rfl⟩
 obtain⟨be,hbe⟩:∃t,(eK (iq m) a).isSome=t:=⟨_,rfl⟩
 obtain⟨nd,hnd⟩:∃t:Int,(m.aS.length:Int)=t:=⟨_,rfl⟩
 have gT:∀i w',Ext w w'→Calls G.P 140 #[v,.int .i64 i] w' fun e w2=>e=.returned (.tuple #[.agg #[.int .i64 (T i).elem,.int .i64 (T i).rX.min,.int .i64 (T i).rX.max,.bool (T i).rX.has],.bool (S i)])∧Ext w' w2:=fun i w' hx=>by have:=ey B m v i w' (h.aD hx (fun _ _ h=>h));rw[hT,hS]at this;exact this
 have gM:∀i w',Ext w w'→Calls G.P 145 #[v,.int .i64 i] w' fun e w2=>e=.returned (.tuple #[.agg #[.int .i64 (ML i).min,.int .i64 (ML i).max,.bool (ML i).has],.bool (MS i)])∧Ext w' w2:=fun i w' hx=>by have:=xE B m v i w' (h.aD hx (fun _ _ h=>h));rw[hML,hMS]at this;exact this
 have gE:∀w',Ext w w'→Calls G.P 143 #[v,.int .i64 a] w' fun e w2=>e=.returned (.tuple #[.int .i64 te,.bool be])∧Ext w' w2:=fun w' hx=>by have:=vp B m v a w' (h.aD hx (fun _ _ h=>h));rw[hte,hbe]at this;exact this
 have gnd:∀w',Ext w w'→Calls G.P 144 #[v] w' fun e w2=>e=.returned (.int .i64 nd)∧Ext w' w2:=fun w' hx=>by have:=tY B m v w' (h.aD hx (fun _ _ h=>h));rw[hnd]at this;exact this
 simp only[hT,hS,hMS,hte,hbe,hnd]
 clear hT hS hML hMS hte hbe hnd
 by_cases hk:k=10
 ·obtain rfl:=hk
  skip
  refine rt ?_
  repeat'(first|refine ax ?_|(refine Gl fun b_=>?_)|refine ku ?_|(refine aa.ak (f:=140) ?_;refine aa.az rfl rfl rfl (fun w' hw'=>gT _ w' hw'.at) ?_)|(refine aa.ak (f:=142) ?_;refine aa.az rfl rfl rfl (fun w' hw'=>pF _ _ _ w') ?_)|(refine aO ?_ ?_<;>intro hc_))
  all_goals exact am
 by_cases hk:k=11
 ·obtain rfl:=hk
  skip
  refine rt ?_
  repeat'(first|refine ax ?_|(refine Gl fun b_=>?_)|refine ku ?_|(refine aa.ak (f:=143) ?_;refine aa.az rfl rfl rfl (fun w' hw'=>gE w' hw'.at) ?_)|(refine aa.ak (f:=140) ?_;refine aa.az rfl rfl rfl (fun w' hw'=>gT _ w' hw'.at) ?_)|(refine aa.ak (f:=142) ?_;refine aa.az rfl rfl rfl (fun w' hw'=>pF _ _ _ w') ?_)|(refine aO ?_ ?_<;>intro hc_))
  all_goals exact am
 by_cases hk:k=12
 ·obtain rfl:=hk
  skip
  refine rt ?_
  repeat'(first|refine ax ?_|(refine Gl fun b_=>?_)|refine ku ?_|(refine aa.ak (f:=143) ?_;refine aa.az rfl rfl rfl (fun w' hw'=>gE w' hw'.at) ?_)|(refine aO ?_ ?_<;>intro hc_))
  all_goals exact am
 by_cases hk:k=16
 ·obtain rfl:=hk
  by_cases hlt:a<nd
  ·refine rt ?_
   repeat'(first|refine ax ?_|(refine Gl fun b_=>?_)|refine ku ?_|(refine aO ?_ ?_<;>intro hc_))
   refine rx ?_
   refine dy ?_
   refine ah.AS (v:=.int .i64 nd) rfl rfl rfl (fun w' hw'=>gnd w' hw'.at) ?_
   refine dy ?_
   repeat'(first|refine ax ?_|(refine Gl fun b_=>?_)|refine ku ?_|(refine aO ?_ ?_<;>intro hc_))
   all_goals exact am
  ·refine rt ?_
   repeat'(first|refine ax ?_|(refine Gl fun b_=>?_)|refine ku ?_|(refine aO ?_ ?_<;>intro hc_))
   refine rx ?_
   refine dy ?_
   refine ah.AS (v:=.int .i64 nd) rfl rfl rfl (fun w' hw'=>gnd w' hw'.at) ?_
   refine dy ?_
   repeat'(first|refine ax ?_|(refine Gl fun b_=>?_)|refine ku ?_|(refine aO ?_ ?_<;>intro hc_))
   all_goals exact am
 by_cases hk:k=15
 ·obtain rfl:=hk
  by_cases hlt:a<nd
  ·cases hz:MS b with
   |true=>
    refine rt ?_
    repeat'(first|refine ax ?_|(refine Gl fun b_=>?_)|refine nI ?_|(refine aO ?_ ?_<;>intro hc_))
    refine rx ?_
    refine dy ?_
    refine ah.ng (v:=.int .i64 nd) rfl rfl rfl rfl (fun w' hw'=>gnd w' hw'.at) ?_
    refine dy ?_
    repeat'(first|refine ax ?_|(refine Gl fun b_=>?_)|refine nI ?_|(refine aO ?_ ?_<;>intro hc_))
    all_goals exact am
   |false=>
    refine rt ?_
    repeat'(first|refine ax ?_|(refine Gl fun b_=>?_)|refine tN ?_|(refine aO ?_ ?_<;>intro hc_))
    refine rx ?_
    refine dy ?_
    repeat'(first|refine ax ?_|(refine Gl fun b_=>?_)|refine tN ?_|(refine aO ?_ ?_<;>intro hc_))
    all_goals exact am
  ·cases hz:MS b with
   |true=>
    refine rt ?_
    repeat'(first|refine ax ?_|(refine Gl fun b_=>?_)|refine nI ?_|(refine aO ?_ ?_<;>intro hc_))
    refine rx ?_
    refine dy ?_
    refine ah.ng (v:=.int .i64 nd) rfl rfl rfl rfl (fun w' hw'=>gnd w' hw'.at) ?_
    refine dy ?_
    repeat'(first|refine ax ?_|(refine Gl fun b_=>?_)|refine nI ?_|(refine aO ?_ ?_<;>intro hc_))
    all_goals exact am
   |false=>
    refine rt ?_
    repeat'(first|refine ax ?_|(refine Gl fun b_=>?_)|refine tN ?_|(refine aO ?_ ?_<;>intro hc_))
    refine rx ?_
    refine dy ?_
    repeat'(first|refine ax ?_|(refine Gl fun b_=>?_)|refine tN ?_|(refine aO ?_ ?_<;>intro hc_))
    all_goals exact am
 by_cases hk:k=14
 ·obtain rfl:=hk
  skip
  refine rt ?_
  repeat'(first|refine ax ?_|(refine Gl fun b_=>?_)|refine ku ?_|(refine aa.ak (f:=145) ?_;refine aa.az rfl rfl rfl (fun w' hw'=>gM _ w' hw'.at) ?_)|(refine aO ?_ ?_<;>intro hc_))
  all_goals exact am
 by_cases hk:k=13
 ·obtain rfl:=hk
  skip
  refine rt ?_
  repeat'(first|refine ax ?_|(refine Gl fun b_=>?_)|refine ku ?_|(refine aa.ak (f:=145) ?_;refine aa.az rfl rfl rfl (fun w' hw'=>gM _ w' hw'.at) ?_)|(refine aO ?_ ?_<;>intro hc_))
  all_goals exact am
 by_cases hk:k=17
 ·obtain rfl:=hk
  by_cases hlt:al<a
  ·cases hz:MS b with
   |true=>
    refine rt ?_
    repeat'(first|refine ax ?_|(refine Gl fun b_=>?_)|refine nI ?_|(refine aO ?_ ?_<;>intro hc_))
    refine rx ?_
    refine dy ?_
    refine ah.ng (v:=.int .i64 al) rfl rfl rfl rfl (fun w' hw'=>ha w' hw'.at) ?_
    refine dy ?_
    repeat'(first|refine ax ?_|(refine Gl fun b_=>?_)|refine nI ?_|(refine aO ?_ ?_<;>intro hc_))
    all_goals exact am
   |false=>
    refine rt ?_
    repeat'(first|refine ax ?_|(refine Gl fun b_=>?_)|refine tN ?_|(refine aO ?_ ?_<;>intro hc_))
    refine rx ?_
    refine dy ?_
    repeat'(first|refine ax ?_|(refine Gl fun b_=>?_)|refine tN ?_|(refine aO ?_ ?_<;>intro hc_))
    all_goals exact am
  ·cases hz:MS b with
   |true=>
    refine rt ?_
    repeat'(first|refine ax ?_|(refine Gl fun b_=>?_)|refine nI ?_|(refine aO ?_ ?_<;>intro hc_))
    refine rx ?_
    refine dy ?_
    refine ah.ng (v:=.int .i64 al) rfl rfl rfl rfl (fun w' hw'=>ha w' hw'.at) ?_
    refine dy ?_
    repeat'(first|refine ax ?_|(refine Gl fun b_=>?_)|refine nI ?_|(refine aO ?_ ?_<;>intro hc_))
    all_goals exact am
   |false=>
    refine rt ?_
    repeat'(first|refine ax ?_|(refine Gl fun b_=>?_)|refine tN ?_|(refine aO ?_ ?_<;>intro hc_))
    refine rx ?_
    refine dy ?_
    repeat'(first|refine ax ?_|(refine Gl fun b_=>?_)|refine tN ?_|(refine aO ?_ ?_<;>intro hc_))
    all_goals exact am
 skip
 refine rt ?_
 repeat'(first|refine ax ?_|(refine Gl fun b_=>?_)|refine ku ?_|(refine aO ?_ ?_<;>intro hc_))
 all_goals exact am
end Go.Proofs.YtceedealggognaaGreatDoor
