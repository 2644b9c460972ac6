/- RuleOn: what its row asks of one call. Conditions: none beyond the form's own. Printed by gen_v23.py. -/
import Derived.Test.YtgbgnipidakdhaaGreatDoorJZt
import Derived.Test.YtgbgnipidakdhaaGreatDoorJOn
namespace Go.Proofs.YtgbgnipidakdhaaGreatDoor
open Go.ChangeShapes Go.WideShapes Go.ChangeAt Go.RowKit
set_option maxRecDepth 100000
noncomputable def kA (os:Os):World:=
 let N:=(World.settled Tryz.prog os).heap.size
 let w0:=World.holding Tryz.prog os ⟨#[.cells (Lib.whiteT.map fun(z:Nat)=>Value.int .u16 (z:Int)).toArray 272,.cells #[.slice (some ⟨N,0,none⟩) 7 7,.slice none 0 0,.int .i64 2] 269],#[],[]⟩
 let put (h:Array Obj) (g:Nat) (cs:Array Value):Array Obj:=h.modify g fun
  |.cells _ t frozen=>.cells cs t frozen
  |o=>o
 let h1:=put w0.heap 0 (Lib.asciiSpaceTab.map fun z=>Value.int .u8 z).toArray
 let h2:=put h1 2 #[.pointer (some ⟨N+1,0,none⟩)]
 {w0 with heap:=h2}
theorem zK (os:Os) (args:Array Value):laidMet Tryz.prog Rows.ruleOnRow.laid ((kA os).forCall (fun _ _=>0) ⟨#[],args,[]⟩).memory:=
 laidMet_of_run' 8 L9 L9
theorem sD (os:Os) {H:Type} (enc:TypeId×Value→H):
  (OpenSpec.ofChange Rows.ruleOnSpec).preRow enc Tryz.prog Tryz.f5 Rows.ruleOnRow.domain false Rows.ruleOnRow.laid ((kA os).forCall (fun _ _=>0) ⟨#[],#[.agg #[.slice none 0 0,.slice none 0 0,.slice none 0 0,.slice none 0 0,.slice none 0 0,.slice none 0 0,.slice none 0 0,.bool false,.int .i64 0,.slice none 0 0,.slice none 0 0,.slice none 0 0],.slice none 0 0,.slice none 0 0,.bool false,.agg #[.int .i64 0,.int .i64 0,.int .i64 0,.int .u64 0,.int .i64 0,.int .i64 0,.int .i64 0,.slice none 0 0,.slice none 0 0]],[]⟩).memory #[.agg #[.slice none 0 0,.slice none 0 0,.slice none 0 0,.slice none 0 0,.slice none 0 0,.slice none 0 0,.slice none 0 0,.bool false,.int .i64 0,.slice none 0 0,.slice none 0 0,.slice none 0 0],.slice none 0 0,.slice none 0 0,.bool false,.agg #[.int .i64 0,.int .i64 0,.int .i64 0,.int .u64 0,.int .i64 0,.int .i64 0,.int .i64 0,.slice none 0 0,.slice none 0 0]]:=by
 have hw:(DataW.whole enc Tryz.prog ((kA os).forCall (fun _ _=>0) ⟨#[],#[.agg #[.slice none 0 0,.slice none 0 0,.slice none 0 0,.slice none 0 0,.slice none 0 0,.slice none 0 0,.slice none 0 0,.bool false,.int .i64 0,.slice none 0 0,.slice none 0 0,.slice none 0 0],.slice none 0 0,.slice none 0 0,.bool false,.agg #[.int .i64 0,.int .i64 0,.int .i64 0,.int .u64 0,.int .i64 0,.int .i64 0,.int .i64 0,.slice none 0 0,.slice none 0 0]],[]⟩).memory Tryz.f5.params.toList Rows.ruleOnSpec.vars false (#[.agg #[.slice none 0 0,.slice none 0 0,.slice none 0 0,.slice none 0 0,.slice none 0 0,.slice none 0 0,.slice none 0 0,.bool false,.int .i64 0,.slice none 0 0,.slice none 0 0,.slice none 0 0],.slice none 0 0,.slice none 0 0,.bool false,.agg #[.int .i64 0,.int .i64 0,.int .i64 0,.int .u64 0,.int .i64 0,.int .i64 0,.int .i64 0,.slice none 0 0,.slice none 0 0]]:Array Value).toList 8).map (fun x=>(x.1,x.2.1))=
   some ([.agg [.nil,.nil,.nil,.nil,.nil,.nil,.nil,.lit (.bool false),.lit (.int .i64 0),.nil,.nil,.nil],.nil,.nil,.lit (.bool false),.agg [.lit (.int .i64 0),.lit (.int .i64 0),.lit (.int .i64 0),.lit (.int .u64 0),.agg [.lit (.int .i64 0),.lit (.int .i64 0),.lit (.int .i64 0)],.nil,.nil]],[]):=by kernel_rfl
 obtain⟨⟨x1,x2,x3⟩,hx,hx1⟩:=Option.map_eq_some_iff.1 hw
 simp only[Prod.mk.injEq]at hx1
 obtain⟨rfl,rfl⟩:=hx1
 exact OpenSpec.preRow_of_cond 8 hx L9 (fun k hk=>by cases hk) L9 (zK os _)
theorem tX (os:Os) (started:os.Started) (H:Type) (enc:TypeId×Value→H) (F:Stop.Interp):
  ReturnsInHanded {} Tryz.checked os 5 .any ((OpenSpec.ofChange Rows.ruleOnSpec).preRow enc Tryz.prog Tryz.f5 Rows.ruleOnRow.domain false Rows.ruleOnRow.laid) (((OpenSpec.ofChange Rows.ruleOnSpec).at F).post enc Tryz.prog Tryz.f5 false true false false):=by
 refine returnsInHanded_of_row (C:=Tryz.checked) (s:=OpenSpec.ofChange Rows.ruleOnSpec) own started L9 Tryz.func5
  (witness_row_atRef (enc:=enc) (C:=Tryz.checked) false (kA os) #[.agg #[.slice none 0 0,.slice none 0 0,.slice none 0 0,.slice none 0 0,.slice none 0 0,.slice none 0 0,.slice none 0 0,.bool false,.int .i64 0,.slice none 0 0,.slice none 0 0,.slice none 0 0],.slice none 0 0,.slice none 0 0,.bool false,.agg #[.int .i64 0,.int .i64 0,.int .i64 0,.int .u64 0,.int .i64 0,.int .i64 0,.int .i64 0,.slice none 0 0,.slice none 0 0]] rfl L9 L9 L9 (sD os enc)) ?_
 intro W base args ds gs before hval0 hW _ _ hsz hL hsh _
 have h0:fu W:=DJ hL hsh
 have hW':DataW.Whole enc Tryz.prog Tryz.f5.params.toList Rows.ruleOnSpec.vars false W args.toList ds gs before:=hW
 obtain⟨p,q,hA0,hV,rfl,hfz,hnd⟩:=hW
 have hA:DataW.TrodAll enc Tryz.prog W 0 (fun _=>true) true Tryz.f5.params.toList args.toList ds p:=hA0
 obtain⟨rfl,rfl⟩:=trodVars_none hV
 have hz:∀n∈DataW.weightsEach Tryz.prog Tryz.f5.params.toList ds,n≤reachBytes:=fun n hn=>by
  have h1:=List.all_eq_true.1 hsz n (by rw[List.append_nil];exact pR _ _ _ n hn)
  simpa using h1
 have hval:∀(j:Nat) t v,Tryz.f5.params[j]?=some t→args[j]?=some v→Value.okWide Tryz.prog W .any base t v:=hval0
 rw[Tryz.params5]at hA hz hval
 obtain⟨v0,vs0,d0,ds0,p0,q0,hargs,rfl,rfl,h0',r0⟩:=trodAll_cons hA
 obtain⟨v1,vs1,d1,ds1,p1,q1,rfl,rfl,rfl,h1',r1⟩:=trodAll_cons r0
 obtain⟨v2,vs2,d2,ds2,p2,q2,rfl,rfl,rfl,h2',r2⟩:=trodAll_cons r1
 obtain⟨v3,vs3,d3,ds3,p3,q3,rfl,rfl,rfl,h3',r3⟩:=trodAll_cons r2
 obtain⟨v4,vs4,d4,ds4,p4,q4,rfl,rfl,rfl,h4',r4⟩:=trodAll_cons r3
 obtain⟨rfl,rfl,rfl⟩:=trodAll_nil r4
 obtain rfl:args=#[v0,v1,v2,v3,v4]:=by cases args;simp_all
 obtain⟨cs0,rfl,hl0,ht0⟩:=sa Tryz.underlying33 (hval 0 _ v0 rfl rfl) h0' (fun n hn=>hz n Lt)
 obtain⟨m0,hm0⟩:=ay.of ht0 (by rw[hl0];kernel_rfl)
 obtain⟨l1,hl1⟩:=xG Tryz.underlying34 Tryz.underlying37 L9 L9 (hval 1 _ v1 rfl rfl) h1' (fun n hn=>hz n Lt)
 obtain⟨lp1,lc1,rfl,-⟩:=hl1.slice
 obtain⟨l2,hl2⟩:=xG Tryz.underlying34 Tryz.underlying37 L9 L9 (hval 2 _ v2 rfl rfl) h2' (fun n hn=>hz n Lt)
 obtain⟨lp2,lc2,rfl,-⟩:=hl2.slice
 obtain⟨b3,rfl,rfl,rfl⟩:=open_bool Tryz.underlying4 (hval 3 _ v3 rfl rfl) h3'
 obtain⟨cs4,rfl,hl4,ht4⟩:=sa Tryz.underlying42 (hval 4 _ v4 rfl rfl) h4' (fun n hn=>hz n Lt)
 obtain⟨x4,pt4,pl4,ct4,cl4,rfl,hx4⟩:=EZ (by rw[hl4];kernel_rfl) ht4
 refine(vQ m0 cs0 l1 lp1 lc1 l2 lp2 lc2 b3 x4 pt4 pl4 ct4 cl4 W hm0 (FF ht0 hm0) hl1 hl2 hx4 h0).mono fun e W' ⟨he,hx⟩=>?_
 subst he
 exact⟨_,rfl,vJ (P:=Tryz.prog) laidOut rfl (tb:=4) L9 Tryz.underlying4 L9 hW' (fun _=>rfl) hx.below⟩
end Go.Proofs.YtgbgnipidakdhaaGreatDoor
