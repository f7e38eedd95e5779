/-
  dipworkslaw08.ServeRight returns true, for every input. Conditions: those of the given row, and no others.
-/
import Derived.Test.YthnhlkflkidemaaGreatDoorR2
import Derived.Test.YthnhlkflkidemaaGreatDoorCards
import Derived.Test.YthnhlkflkidemaaGreatDoorTie
import Derived.WalkKit
import Derived.ProofKit
import Derived.OpenShut
import Derived.Deep.DeepHandedRow
set_option linter.unusedVariables false
set_option linter.unusedSimpArgs false
namespace Go.Proofs.YthnhlkflkidemaaGreatDoor.serveRightProof
open Go Go.Sy Go.ChangeShapes Go.WideShapes Go.ChangeAt Go.RowKit
set_option maxRecDepth 100000
theorem own:ownKnob Tryz.prog.godebug=none:=by kernel_rfl
theorem contract(H:Type)(enc:TypeId×Value→H)(W:World)(base:Nat)(args:Array Value)(ds gs:List (DataW H))(before:List MemPlace)
  (hval: ∀(j:Nat) t v,Tryz.f11.params[j]?=some t→args[j]?=some v→Value.okWide Tryz.prog W .any base t v)
  (hW:DataW.Whole enc Tryz.prog Tryz.f11.params.toList Rows.serveRightSpec.vars false W args.toList ds gs before) (hL:laidMetH Tryz.prog Rows.serveRightRow.laid W):
  Calls Tryz.prog 11 args W fun e W'=> ∃v,e= .returned v∧Rows.serveRightSpec.post enc Tryz.prog Tryz.f11 false true false false W args v W':=by
 have hW':=hW
 obtain⟨p,q,hA0,hV,rfl,hfz,hnd⟩:=hW
 have hA:DataW.TrodAll enc Tryz.prog W 0 (fun _=>true) true Tryz.f11.params.toList args.toList ds p:=hA0
 rw[Tryz.params11]at hA hval
 have hA2:=hA
 obtain⟨v0,vs0,d0,ds0,p0,q0,hargs,rfl,hp,h0,hr0⟩:=trodAll_cons hA
 obtain⟨v1,vs1,d1,ds1,p1,q1,rfl,rfl,rfl,h1,hr1⟩:=trodAll_cons hr0
 obtain⟨v2,vs2,d2,ds2,p2,q2,rfl,rfl,rfl,h2,hr2⟩:=trodAll_cons hr1
 obtain⟨rfl,rfl,rfl⟩:=trodAll_nil hr2
 obtain rfl:args= #[v0,v1,v2]:=by cases args;simp_all
 subst hp
 obtain⟨rfl,rfl⟩:=trodVars_none hV
 obtain⟨s,a0,a1,a2,a3,ht⟩:=serveOpen (cells0 hL) (hval 0 31 v0 rfl rfl) h0
 obtain⟨n1,f1,b1,c1,e1,ht1⟩:=numsOpenVH Tryz.underlying49 it5H (cells0 hL) (hval 1 49 v1 rfl rfl) h1
 obtain⟨x2,rfl,rfl,rfl,w2⟩:=open_int Tryz.underlying5 (hval 2 5 v2 rfl rfl) h2
 have r2:0≤x2∧x2≤255:=by simpa[Lit.wf,IntKind.min,IntKind.max,IntKind.signed,IntKind.bits]using w2
 clear hA0
 have hd:denL (fun j=>[a0,a1,a2,((1:Nat),(0:Nat)),(0,0),a3,e1][j]?) [SA s,.osl b1 6 1 n1 c1,.int .u8 x2]=some [v0,v1,.int .u8 x2]:=by
  have h3:=ht.den (fun j=>[a0,a1,a2,((1:Nat),(0:Nat)),(0,0),a3,e1][j]?) rfl rfl rfl rfl
  have h4:=ht1.den (fun j=>[a0,a1,a2,((1:Nat),(0:Nat)),(0,0),a3,e1][j]?) 6 rfl
  have dI: ∀k z,den (fun j=>[a0,a1,a2,((1:Nat),(0:Nat)),(0,0),a3,e1][j]?) (.int k z)=some (.int k z):=fun _ _=>rfl
  simp only[denL,h3,h4,dI,Option.bind_some,Option.map_some]
 refine((t11 s ht.ok b1 n1 c1 f1 (fun k=>by simpa[InR,IntKind.min,IntKind.max,IntKind.signed,IntKind.bits]using ht1.rng k) ht1.len x2 r2).world (satHSU ht hL ht1) hd (u:= .bool true) (fun _=>rfl)).mono fun e W' ⟨he,hs,hb,hk⟩=>?_
 subst he
 exact⟨_,rfl,_,_,_,[],_,[],hW',trodAll_cons_mk (shut_bool Tryz.underlying4 true) trodAll_mk0,trodAll_kept (by kernel_rfl) hs hb (by kernel_rfl) hA2 (fun x hx=>hW'.lt x (by simpa using hx)),rfl,hk _,fun h=>by cases h⟩
def wit:Array Value:= #[.agg #[.slice none 0 0,.slice none 0 0,.slice none 0 0,.int .i64 0,.int .i64 0,.int .i64 0,.slice none 0 0],.slice none 0 0,.int .u8 0]
def withCells(vs:List Value):Obj→Obj
 | .cells _ t frozen=> .cells vs.toArray t frozen
 |o=>o
noncomputable def laidWorld(os:Os):World:=
  {World.holding Tryz.prog os ⟨#[],wit,[]⟩with
    heap:=((World.holding Tryz.prog os ⟨#[],wit,[]⟩).heap.modify 1 (withCells (tDone.map fun z=>Value.int .i64 z))).modify 0 (withCells (tDb.map fun z=>Value.int .u8 z))}
theorem laid_met(os:Os):laidMet Tryz.prog Rows.serveRightRow.laid ((laidWorld os).forCall (fun _ _=>0) ⟨#[],wit,[]⟩).memory:=
 laidMet_of_run' 8 (by kernel_rfl) (by kernel_rfl)
theorem reads(os:Os){H:Type}(enc:TypeId×Value→H): ∃places,DataW.whole enc Tryz.prog ((laidWorld os).forCall (fun _ _=>0) ⟨#[],wit,[]⟩).memory Tryz.f11.params.toList Rows.serveRightSpec.vars false wit.toList 8=some ([.agg [.agg [.nil,.nil,.nil],.agg [.lit (.int .i64 0),.lit (.int .i64 0)],.lit (.int .i64 0),.nil],.nil,.lit (.int .u8 0)],[],places):=
 ⟨[],by kernel_rfl⟩
theorem lifted(os:Os)(started:os.Started)(H:Type)(enc:TypeId×Value→H)(F:Stop.Interp):
  ReturnsInHanded {} Tryz.checked os 11 .any ((OpenSpec.ofChange Rows.serveRightSpec).preRow enc Tryz.prog Tryz.f11 Rows.serveRightRow.domain false Rows.serveRightRow.laid) (((OpenSpec.ofChange Rows.serveRightSpec).at F).post enc Tryz.prog Tryz.f11 false true false false):=by
 obtain⟨places,hx⟩:=reads os enc;refine returnsInHanded_of_row (C:=Tryz.checked) (s:=OpenSpec.ofChange Rows.serveRightSpec) own started (by kernel_rfl) Tryz.func11
  (witness_row_at (enc:=enc) (C:=Tryz.checked) false (laidWorld os) wit rfl (by kernel_rfl) (by kernel_rfl) (by kernel_rfl)
   (OpenSpec.preRow_of_cond 8 hx (by kernel_rfl) (fun k hk=>by cases hk) (by kernel_rfl) (laid_met os))) ?_
 intro W base args ds gs before hval hW _ _ _ hL _ _;exact contract H enc W base args ds gs before hval hW hL
theorem fact1 : Tryz.prog.funcNamed "dipworks/dipworkslaw08.ServeRight" = some 11 := by kernel_rfl
theorem fact2:joinedFacts Tryz.prog 11 Tryz.f11 (OpenSpec.ofChange Rows.serveRightSpec).bare Rows.serveRightRow=true:=by kernel_rfl
theorem fact3:Tryz.f11.isInstance Tryz.prog Rows.serveRightRow.origin Rows.serveRightRow.targs:=of_decide_eq_true (by kernel_rfl)
theorem fact4:Tryz.f11.isWrapper Tryz.prog Rows.serveRightRow.wrapper Rows.serveRightRow.mainSum:=by unfold Func.isWrapper;first|(rw[if_pos (by decide+kernel)];kernel_rfl)|(rw[if_neg (by decide+kernel)];exact⟨rfl,rfl⟩)
theorem said:Rows.ServeRightSaid:=
 OpenClaim.holds_of_cond 11 Tryz.f11 rfl rfl rfl rfl rfl rfl rfl ⟨rfl,rfl,rfl,rfl,rfl⟩ rfl rfl rfl rfl rfl fact1 Tryz.func11 fact2 fact3 fact4
  (fun os started H enc _ F=>by rw[OpenClaim.pre_eq_preRow];exact lifted os started H enc F)
theorem plain (f : FuncId) (fn : Func) (hf : Tryz.pinned.checked.prog.funcNamed "dipworks/dipworkslaw08.ServeRight" = some f) (hfn : Tryz.pinned.checked.prog.funcs[f]? = some fn) :
  true=Tryz.pinned.checked.prog.looks []∧ ∀(j:Nat) t,fn.params[j]?=some t→Tryz.pinned.checked.prog.wantsStandIn t=false:=by
 obtain rfl : f = 11 := Option.some.inj ((show Tryz.prog.funcNamed "dipworks/dipworkslaw08.ServeRight" = some 11 by kernel_rfl).symm.trans hf) |>.symm;obtain rfl : fn = Tryz.f11 := (Option.some.inj (Tryz.func11.symm.trans hfn)).symm;refine ⟨by kernel_rfl, fun j t ht => ?_⟩;rw [Tryz.params11] at ht;have h2 : t = 31 ∨ t = 49 ∨ t = 5 := by
  have:=Array.mem_of_getElem? ht;simpa[or_assoc]using this
 rcases h2 with rfl|rfl|rfl
 ·exact(show Tryz.prog.wantsStandIn 31=false by kernel_rfl)
 ·exact(show Tryz.prog.wantsStandIn 49=false by kernel_rfl)
 ·exact(show Tryz.prog.wantsStandIn 5=false by kernel_rfl)
theorem card:Rows.ServeRightCardSaid:=
 Claim7.holds_tied_plain_at .later [] _ _ _ _ said (fun _ h=>by cases h) (by kernel_rfl) (fun _ h=>by cases h) serveRight_row_tie rfl ⟨rfl,rfl⟩ (by kernel_rfl) rfl plain (by kernel_rfl)
end Go.Proofs.YthnhlkflkidemaaGreatDoor.serveRightProof
#print axioms Go.Proofs.YthnhlkflkidemaaGreatDoor.serveRightProof.card
