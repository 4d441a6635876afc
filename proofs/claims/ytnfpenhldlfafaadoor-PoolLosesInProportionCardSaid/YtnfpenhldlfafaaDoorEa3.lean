/- 'rivermarklaw41.PoolLosesInProportion' returns true for all  -/
import Derived.Carry
import Derived.Test.YtnfpenhldlfafaaDoorLq41
import Derived.Test.YtnfpenhldlfafaaDoorO41
import Derived.Test.YtnfpenhldlfafaaDoorFr41
import Derived.Test.YtnfpenhldlfafaaDoorOp
set_option linter.unusedSimpArgs false
set_option linter.unusedVariables false
set_option maxRecDepth 100000
set_option maxHeartbeats 1600000
namespace Go.Proofs.YtnfpenhldlfafaaDoor.poolLosesInProportion
open Go.ChangeShapes Go.WideShapes Go.ChangeAt Go.RowKit
open Go.ChangeMaps (open_string shut_string)
theorem own:ownKnob Tryd.prog.godebug=none:=by kernel_rfl
theorem laidOut:laidOutB Tryd.prog=true:=by kernel_rfl
theorem contract (H:Type) (enc:TypeId×Value→H) (W:World) (base:Nat) (args:Array Value) (ds gs:List (DataW H)) (before:List MemPlace)
  (hval:∀ (j:Nat) t v,Tryd.f5.params[j]?=some t→args[j]?=some v→Value.okWide Tryd.prog W .any base t v)
  (hsz:(DataW.weightsEach Tryd.prog (Tryd.f5.params.toList++Rows.poolLosesInProportionSpec.plain.varTypes Tryd.prog) (ds++gs)).all (·≤reachBytes)=true)
  (hW:DataW.Whole enc Tryd.prog Tryd.f5.params.toList Rows.poolLosesInProportionSpec.vars false W args.toList ds gs before) (hL:laidMetH Tryd.prog Rows.poolLosesInProportionRow.laid W) :
  Calls Tryd.prog 5 args W fun e W'=>∃ v,e=.returned v∧Rows.poolLosesInProportionSpec.post enc Tryd.prog Tryd.f5 false true false false W args v W':=by
 clear hL;have hW':=hW;obtain ⟨p,q,hA0,hV,rfl,hfz,hnd⟩:=hW;have hA:DataW.TrodAll enc Tryd.prog W 0 (fun _=>true) true Tryd.f5.params.toList args.toList ds p:=hA0;rw [Tryd.params5] at hA hval hsz;obtain ⟨v0,vs0,d0,ds0,p0,q0,hargs,rfl,rfl,h0,r0⟩:=trodAll_cons hA;obtain ⟨v1,vs1,d1,ds1,p1,q1,rfl,rfl,rfl,h1,r1⟩:=trodAll_cons r0;obtain ⟨v2,vs2,d2,ds2,p2,q2,rfl,rfl,rfl,h2,r2⟩:=trodAll_cons r1;obtain ⟨rfl,rfl,rfl⟩:=trodAll_nil r2
 obtain rfl:args=#[v0,v1,v2]:=by cases args;simp_all
 obtain ⟨rfl,rfl⟩:=trodVars_none hV;have k0:=h0
 have lt0:∀ x∈p0,x.block<W.heap.size:=by obtain ⟨m,hm⟩:=k0;exact DataW.trod_lt m _ _ _ hm
 obtain ⟨c0,u0,l0,rfl,m0⟩:=kW (hval 0 26 v0 rfl rfl) h0;have k1:=h1
 have lt1:∀ x∈p1,x.block<W.heap.size:=by obtain ⟨m,hm⟩:=k1;exact DataW.trod_lt m _ _ _ hm
 obtain ⟨i1,o1,u1,l1,rfl,m1⟩:=yF (hval 1 46 v1 rfl rfl) h1;have k2:=h2
 have lt2:∀ x∈p2,x.block<W.heap.size:=by obtain ⟨m,hm⟩:=k2;exact DataW.trod_lt m _ _ _ hm
 obtain ⟨a2,rfl,rfl,rfl,b2⟩:=open_int Tryd.underlying5 (hval 2 5 v2 rfl rfl) h2;have w2:=bounds_u8 b2;obtain ⟨x2,rfl⟩:∃ x:Nat,a2=(x:Int):=⟨Int.toNat a2,by omega⟩;clear hsz;clear hA0 hval;refine (lppC c0 u0 u1 l0 l1 i1 o1 x2 W m0 m1 (by omega)).mono fun e W' ⟨he,bel⟩=>?_;subst he;exact ⟨_,rfl,_,_,_,[],_,[],hW',trodAll_mk1 (shut_bool Tryd.underlying4 _),(trodAll_cons_mk (Below.trod laidOut (by kernel_rfl) (of_decide_eq_true (by kernel_rfl)) k0 bel lt0) (trodAll_cons_mk (Below.trod laidOut (by kernel_rfl) (of_decide_eq_true (by kernel_rfl)) k1 bel lt1) (trodAll_cons_mk (Below.trod laidOut (by kernel_rfl) (of_decide_eq_true (by kernel_rfl)) k2 bel lt2) trodAll_mk0))),rfl,bel.frame _,fun h=>by cases h⟩
theorem laid_met (os:Os):laidMet Tryd.prog Rows.poolLosesInProportionRow.laid ((laidWorld os).forCall (fun _ _=>0) ⟨#[],#[.agg #[.bool false,.string ⟨#[]⟩,.string ⟨#[]⟩,.slice none 0 0],.agg #[.bool false,.string ⟨#[]⟩,.string ⟨#[]⟩,.slice none 0 0,.bool false,.string ⟨#[]⟩,.string ⟨#[]⟩],.int .u8 0],[]⟩).memory :=
 laidMet_of_run' 8 (by kernel_rfl) (by kernel_rfl)
theorem reads (os:Os) {H:Type} (enc:TypeId×Value→H):∃ places,DataW.whole enc Tryd.prog ((laidWorld os).forCall (fun _ _=>0) ⟨#[],#[.agg #[.bool false,.string ⟨#[]⟩,.string ⟨#[]⟩,.slice none 0 0],.agg #[.bool false,.string ⟨#[]⟩,.string ⟨#[]⟩,.slice none 0 0,.bool false,.string ⟨#[]⟩,.string ⟨#[]⟩],.int .u8 0],[]⟩).memory Tryd.f5.params.toList Rows.poolLosesInProportionSpec.vars false (#[.agg #[.bool false,.string ⟨#[]⟩,.string ⟨#[]⟩,.slice none 0 0],.agg #[.bool false,.string ⟨#[]⟩,.string ⟨#[]⟩,.slice none 0 0,.bool false,.string ⟨#[]⟩,.string ⟨#[]⟩],.int .u8 0]:Array Value).toList 8=some ([.agg [.agg [.lit (.bool false),.lit (.string []),.lit (.string [])],.nil],.agg [.agg [.lit (.bool false),.lit (.string []),.lit (.string [])],.nil,.agg [.lit (.bool false),.lit (.string []),.lit (.string [])]],.lit (.int .u8 0)],[],places) :=
 ⟨[],by kernel_rfl⟩
theorem lifted (os:Os) (started:os.Started) (H:Type) (enc:TypeId×Value→H) (F:Stop.Interp) :
  ReturnsInHanded {} Tryd.checked os 5 .any ((OpenSpec.ofChange Rows.poolLosesInProportionSpec).preRow enc Tryd.prog Tryd.f5 Rows.poolLosesInProportionRow.domain false Rows.poolLosesInProportionRow.laid) (((OpenSpec.ofChange Rows.poolLosesInProportionSpec).at F).post enc Tryd.prog Tryd.f5 false true false false):=by
 obtain ⟨places,hx⟩:=reads os enc
 refine returnsInHanded_of_row (C:=Tryd.checked) (s:=OpenSpec.ofChange Rows.poolLosesInProportionSpec) own started (by kernel_rfl) Tryd.func5
  (witness_row_at (enc:=enc) (C:=Tryd.checked) false (laidWorld os) #[.agg #[.bool false,.string ⟨#[]⟩,.string ⟨#[]⟩,.slice none 0 0],.agg #[.bool false,.string ⟨#[]⟩,.string ⟨#[]⟩,.slice none 0 0,.bool false,.string ⟨#[]⟩,.string ⟨#[]⟩],.int .u8 0] rfl (by kernel_rfl) (by kernel_rfl) (by kernel_rfl)
   (OpenSpec.preRow_of_cond 8 hx (by kernel_rfl) (fun k hk=>by cases hk) (by kernel_rfl) (laid_met os))) ?_
 intro W base args ds gs before hval hW _ _ hsz hL _ _;exact contract H enc W base args ds gs before hval hsz hW hL
theorem said:Rows.PoolLosesInProportionSaid :=
 OpenClaim.holds_of_cond 5 Tryd.f5 rfl rfl rfl rfl rfl rfl rfl ⟨rfl,rfl,rfl,rfl,rfl⟩ rfl rfl rfl rfl rfl (by kernel_rfl) Tryd.func5 (by kernel_rfl)
  (of_decide_eq_true (by kernel_rfl)) (by unfold Func.isWrapper;first|(rw [if_pos (by decide +kernel)];kernel_rfl)|(rw [if_neg (by decide +kernel)];exact ⟨rfl,rfl⟩))
  (fun os started H enc _ F=>by rw [OpenClaim.pre_eq_preRow];exact lifted os started H enc F)
theorem plain (f : FuncId) (fn : Func) (hf : Tryd.pinned.checked.prog.funcNamed "rivermark/rivermarklaw41.PoolLosesInProportion" = some f) (hfn : Tryd.pinned.checked.prog.funcs[f]? = some fn) :
  false=Tryd.pinned.checked.prog.looks []∧∀ (j:Nat) t,fn.params[j]?=some t→Tryd.pinned.checked.prog.wantsStandIn t=false:=by
 obtain rfl : f = 5 := Option.some.inj ((show Tryd.prog.funcNamed "rivermark/rivermarklaw41.PoolLosesInProportion" = some 5 by kernel_rfl).symm.trans hf) |>.symm;obtain rfl : fn = Tryd.f5 := (Option.some.inj (Tryd.func5.symm.trans hfn)).symm;refine ⟨by kernel_rfl, fun j t ht => ?_⟩;rw [Tryd.params5] at ht
 rcases j with _|_|_|j
 ·obtain rfl:26=t:=by simpa using ht
  exact (show Tryd.prog.wantsStandIn 26=false by kernel_rfl)
 ·obtain rfl:46=t:=by simpa using ht
  exact (show Tryd.prog.wantsStandIn 46=false by kernel_rfl)
 ·obtain rfl:5=t:=by simpa using ht
  exact (show Tryd.prog.wantsStandIn 5=false by kernel_rfl)
 ·simp at ht
theorem proved:Rows.PoolLosesInProportionCardSaid :=
 Claim7.holds_tied_plain_at .later [] _ _ _ _ said (fun _ h=>by cases h) (by kernel_rfl) (fun _ h=>by cases h) poolLosesInProportion_row_tie rfl ⟨rfl,rfl⟩ (by kernel_rfl) rfl plain (by kernel_rfl)
#print axioms proved
end Go.Proofs.YtnfpenhldlfafaaDoor.poolLosesInProportion
