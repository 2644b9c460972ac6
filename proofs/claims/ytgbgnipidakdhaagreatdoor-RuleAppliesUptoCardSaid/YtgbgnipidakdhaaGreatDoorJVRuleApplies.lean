/- RuleApplies: what its row asks of one call. Condition: what is read is of bulk at most 1048576 (the form's own). Printed by gen_v23.py. -/
import Derived.Test.YtgbgnipidakdhaaGreatDoorJZt
import Derived.Test.YtgbgnipidakdhaaGreatDoorJOa
import Derived.Test.YtgbgnipidakdhaaGreatDoorJZk
import Derived.Test.YtgbgnipidakdhaaGreatDoorJVcRuleApplies
namespace Go.Proofs.YtgbgnipidakdhaaGreatDoor
open Go.ChangeShapes Go.WideShapes Go.ChangeAt Go.RowKit
set_option maxRecDepth 100000
noncomputable def kT (os:Os):World:=
 let N:=(World.settled Tryz.prog os).heap.size
 let w0:=World.holding Tryz.prog os ⟨#[.cells (Lib.whiteT.map fun(z:Nat)=>Value.int .u16 (z:Int)).toArray 272,.cells #[.slice (some ⟨N,0,none⟩) 7 7,.slice none 0 0,.int .i64 2] 269],#[],[]⟩
 let put (h:Array Obj) (g:Nat) (cs:Array Value):Array Obj:=h.modify g fun
  |.cells _ t frozen=>.cells cs t frozen
  |o=>o
 let h1:=put w0.heap 0 (Lib.asciiSpaceTab.map fun z=>Value.int .u8 z).toArray
 let h2:=put h1 2 #[.pointer (some ⟨N+1,0,none⟩)]
 {w0 with heap:=h2}
theorem zR (os:Os) (args:Array Value):laidMet Tryz.prog Rows.ruleAppliesUptoRow.laid ((kT os).forCall (fun _ _=>0) ⟨#[],args,[]⟩).memory:=
 laidMet_of_run' 8 L9 L9
theorem se (os:Os) {H:Type} (enc:TypeId×Value→H):
  (Rows.OpenSpec.upto Rows.ruleAppliesSpec).preRow enc Tryz.prog Tryz.f8 Rows.ruleAppliesUptoRow.domain false Rows.ruleAppliesUptoRow.laid ((kT os).forCall (fun _ _=>0) ⟨#[],#[.agg #[.slice none 0 0,.slice none 0 0,.slice none 0 0,.slice none 0 0,.slice none 0 0,.slice none 0 0,.slice none 0 0,.bool false,.int .i64 0,.slice none 0 0,.slice none 0 0,.slice none 0 0],.slice none 0 0,.slice none 0 0,.slice none 0 0],[]⟩).memory #[.agg #[.slice none 0 0,.slice none 0 0,.slice none 0 0,.slice none 0 0,.slice none 0 0,.slice none 0 0,.slice none 0 0,.bool false,.int .i64 0,.slice none 0 0,.slice none 0 0,.slice none 0 0],.slice none 0 0,.slice none 0 0,.slice none 0 0]:=by
 have hw:(DataW.whole enc Tryz.prog ((kT os).forCall (fun _ _=>0) ⟨#[],#[.agg #[.slice none 0 0,.slice none 0 0,.slice none 0 0,.slice none 0 0,.slice none 0 0,.slice none 0 0,.slice none 0 0,.bool false,.int .i64 0,.slice none 0 0,.slice none 0 0,.slice none 0 0],.slice none 0 0,.slice none 0 0,.slice none 0 0],[]⟩).memory Tryz.f8.params.toList Rows.ruleAppliesSpec.vars false (#[.agg #[.slice none 0 0,.slice none 0 0,.slice none 0 0,.slice none 0 0,.slice none 0 0,.slice none 0 0,.slice none 0 0,.bool false,.int .i64 0,.slice none 0 0,.slice none 0 0,.slice none 0 0],.slice none 0 0,.slice none 0 0,.slice none 0 0]:Array Value).toList 8).map (fun x=>(x.1,x.2.1))=
   some ([.agg [.nil,.nil,.nil,.nil,.nil,.nil,.nil,.lit (.bool false),.lit (.int .i64 0),.nil,.nil,.nil],.nil,.nil,.nil],[]):=by kernel_rfl
 obtain⟨⟨x1,x2,x3⟩,hx,hx1⟩:=Option.map_eq_some_iff.1 hw
 simp only[Prod.mk.injEq]at hx1
 obtain⟨rfl,rfl⟩:=hx1
 exact OpenSpec.preRow_of_cond 8 hx L9 (fun k hk=>by cases hk;kernel_rfl) L9 (zR os _)
theorem sy (os:Os) (started:os.Started) (H:Type) (enc:TypeId×Value→H) (F:Stop.Interp):
  ReturnsInHanded {} Tryz.checked os 8 .any ((Rows.OpenSpec.upto Rows.ruleAppliesSpec).preRow enc Tryz.prog Tryz.f8 Rows.ruleAppliesUptoRow.domain false Rows.ruleAppliesUptoRow.laid) (((Rows.OpenSpec.upto Rows.ruleAppliesSpec).at F).post enc Tryz.prog Tryz.f8 false true false false):=by
 refine returnsInHanded_of_row (C:=Tryz.checked) (s:=Rows.OpenSpec.upto Rows.ruleAppliesSpec) own started L9 Tryz.func8
  (witness_row_atRef (enc:=enc) (C:=Tryz.checked) false (kT os) #[.agg #[.slice none 0 0,.slice none 0 0,.slice none 0 0,.slice none 0 0,.slice none 0 0,.slice none 0 0,.slice none 0 0,.bool false,.int .i64 0,.slice none 0 0,.slice none 0 0,.slice none 0 0],.slice none 0 0,.slice none 0 0,.slice none 0 0] rfl L9 L9 L9 (se os enc)) ?_
 intro W base args ds gs before hval0 hW _ hcond hsz hL hsh _
 have h0:fu W:=DJ hL hsh
 have hW':DataW.Whole enc Tryz.prog Tryz.f8.params.toList Rows.ruleAppliesSpec.vars false W args.toList ds gs before:=hW
 obtain⟨p,q,hA0,hV,rfl,hfz,hnd⟩:=hW
 have hA:DataW.TrodAll enc Tryz.prog W 0 (fun _=>true) true Tryz.f8.params.toList args.toList ds p:=hA0
 obtain⟨rfl,rfl⟩:=trodVars_none hV
 have hz:∀n∈DataW.weightsEach Tryz.prog Tryz.f8.params.toList ds,n≤reachBytes:=fun n hn=>by
  have h1:=List.all_eq_true.1 hsz n (by rw[List.append_nil];exact pR _ _ _ n hn)
  simpa using h1
 have hval:∀(j:Nat) t v,Tryz.f8.params[j]?=some t→args[j]?=some v→Value.okWide Tryz.prog W .any base t v:=hval0
 rw[Tryz.params8]at hA hz hval
 obtain⟨v0,vs0,d0,ds0,p0,q0,hargs,rfl,rfl,h0',r0⟩:=trodAll_cons hA
 obtain⟨v1,vs1,d1,ds1,p1,q1,rfl,rfl,rfl,h1',r1⟩:=trodAll_cons r0
 obtain⟨v2,vs2,d2,ds2,p2,q2,rfl,rfl,rfl,h2',r2⟩:=trodAll_cons r1
 obtain⟨v3,vs3,d3,ds3,p3,q3,rfl,rfl,rfl,h3',r3⟩:=trodAll_cons r2
 obtain⟨rfl,rfl,rfl⟩:=trodAll_nil r3
 have hbk:Rows.uptoBulkAll [d0,d1,d2,d3]≤1048576:=by
  have h:=hcond _ rfl
  simp only[List.append_nil]at h
  exact of_decide_eq_true h
 obtain rfl:args=#[v0,v1,v2,v3]:=by cases args;simp_all
 obtain⟨cs0,rfl,hl0,ht0⟩:=sa Tryz.underlying33 (hval 0 _ v0 rfl rfl) h0' (fun n hn=>hz n Lt)
 obtain⟨m0,hm0⟩:=ay.of ht0 (by rw[hl0];kernel_rfl)
 obtain⟨l1,hl1⟩:=xG Tryz.underlying34 Tryz.underlying37 L9 L9 (hval 1 _ v1 rfl rfl) h1' (fun n hn=>hz n Lt)
 obtain⟨lp1,lc1,rfl,-⟩:=hl1.slice
 obtain⟨l2,hl2⟩:=xG Tryz.underlying34 Tryz.underlying37 L9 L9 (hval 2 _ v2 rfl rfl) h2' (fun n hn=>hz n Lt)
 obtain⟨lp2,lc2,rfl,-⟩:=hl2.slice
 obtain⟨l3,hl3⟩:=GW (hval 3 _ v3 rfl rfl) h3' (fun n hn=>hz n Lt)
 refine(sK m0 cs0 l1 lp1 lc1 l2 lp2 lc2 l3 v3 W hm0 (HS (Hs h0' (Nat.le_trans (uF Mk) hbk)) hm0) hl1 hl2 hl3 h0).mono fun e W' ⟨he,hx⟩=>?_
 subst he
 exact⟨_,rfl,vJ (P:=Tryz.prog) laidOut rfl (tb:=4) L9 Tryz.underlying4 L9 hW' (fun _=>rfl) hx.below⟩
theorem sX:Rows.RuleAppliesUptoSaid:=
 OpenClaim.holds_of_cond 8 Tryz.f8 rfl rfl rfl rfl rfl rfl rfl ⟨rfl,rfl,rfl,rfl,rfl⟩ rfl rfl rfl rfl rfl L9 Tryz.func8 su vp wE
  (fun os started H enc _ F=>by rw[OpenClaim.pre_eq_preRow];exact sy os started H enc F)
theorem ruleApplies_card:Rows.RuleAppliesUptoCardSaid:=
 Claim7.holds_tied_plain_at .later [] _ _ _ _ sX (fun _ h=>by cases h) L9 (fun _ h=>by cases h) ruleAppliesUpto_row_tie rfl ⟨rfl,rfl⟩ L9 rfl tk L9
#print axioms ruleApplies_card
end Go.Proofs.YtgbgnipidakdhaaGreatDoor
