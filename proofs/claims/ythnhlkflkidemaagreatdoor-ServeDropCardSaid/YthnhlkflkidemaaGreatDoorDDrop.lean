/-
  dipworkslaw08.ServeDrop returns true, and its arguments read as they did, for every serve and every number, where the two tables that the program lays hold what its text lays in them. Conditions: those of the given card, and no others.
-/
import Derived.Test.YthnhlkflkidemaaGreatDoorB1
import Derived.Test.YthnhlkflkidemaaGreatDoorB2
import Derived.Test.YthnhlkflkidemaaGreatDoorB3
import Derived.Test.YthnhlkflkidemaaGreatDoorB4
import Derived.Test.YthnhlkflkidemaaGreatDoorB5
import Derived.Test.YthnhlkflkidemaaGreatDoorB6
import Derived.Test.YthnhlkflkidemaaGreatDoorB7
import Derived.Test.YthnhlkflkidemaaGreatDoorB8
import Derived.Test.YthnhlkflkidemaaGreatDoorB9
import Derived.Test.YthnhlkflkidemaaGreatDoorB10
import Derived.Test.YthnhlkflkidemaaGreatDoorB11
import Derived.Test.YthnhlkflkidemaaGreatDoorB12
import Derived.Test.YthnhlkflkidemaaGreatDoorB13
import Derived.Test.YthnhlkflkidemaaGreatDoorB14
import Derived.Test.YthnhlkflkidemaaGreatDoorB15
import Derived.Test.YthnhlkflkidemaaGreatDoorB16
import Derived.Test.YthnhlkflkidemaaGreatDoorB17
import Derived.Test.YthnhlkflkidemaaGreatDoorB18
import Derived.Test.YthnhlkflkidemaaGreatDoorB19
import Derived.Test.YthnhlkflkidemaaGreatDoorB20
import Derived.Test.YthnhlkflkidemaaGreatDoorB21
import Derived.Test.YthnhlkflkidemaaGreatDoorB22
import Derived.Test.YthnhlkflkidemaaGreatDoorB23
import Derived.Test.YthnhlkflkidemaaGreatDoorB24
import Derived.Test.YthnhlkflkidemaaGreatDoorB25
import Derived.Test.YthnhlkflkidemaaGreatDoorB26
import Derived.Test.YthnhlkflkidemaaGreatDoorB27
import Derived.Test.YthnhlkflkidemaaGreatDoorB28
import Derived.Test.YthnhlkflkidemaaGreatDoorB29
import Derived.Test.YthnhlkflkidemaaGreatDoorB30
import Derived.Test.YthnhlkflkidemaaGreatDoorB31
import Derived.Test.YthnhlkflkidemaaGreatDoorB32
import Derived.Test.YthnhlkflkidemaaGreatDoorB33
import Derived.Test.YthnhlkflkidemaaGreatDoorB34
import Derived.Test.YthnhlkflkidemaaGreatDoorB35
import Derived.Test.YthnhlkflkidemaaGreatDoorB36
import Derived.Test.YthnhlkflkidemaaGreatDoorB37
import Derived.Test.YthnhlkflkidemaaGreatDoorB38
import Derived.Test.YthnhlkflkidemaaGreatDoorD1
import Derived.Test.YthnhlkflkidemaaGreatDoorCards
import Derived.Test.YthnhlkflkidemaaGreatDoorTie
import Derived.WalkKit
import Derived.ProofKit
import Derived.OpenShut
import Derived.Deep.DeepHandedRow
set_option linter.unusedVariables false
set_option linter.unusedSimpArgs false
namespace Go.Proofs.YthnhlkflkidemaaGreatDoor.serveDropProof
open Go Go.Sy Go.ChangeShapes Go.WideShapes Go.ChangeAt Go.RowKit
set_option maxRecDepth 100000
theorem own:ownKnob Tryz.prog.godebug=none:=by kernel_rfl
theorem contract(H:Type)(enc:TypeId×Value→H)(W:World)(base:Nat)(args:Array Value)(ds gs:List (DataW H))(before:List MemPlace)
  (hval: ∀(j:Nat) t v,Tryz.f7.params[j]?=some t→args[j]?=some v→Value.okWide Tryz.prog W .any base t v)
  (hW:DataW.Whole enc Tryz.prog Tryz.f7.params.toList Rows.serveDropSpec.vars false W args.toList ds gs before) (hL:laidMetH Tryz.prog Rows.serveDropRow.laid W):
  Calls Tryz.prog 7 args W fun e W'=> ∃v,e= .returned v∧Rows.serveDropSpec.post enc Tryz.prog Tryz.f7 false true false false W args v W':=by
 have hW':=hW
 obtain⟨p,q,hA0,hV,rfl,hfz,hnd⟩:=hW
 have hA:DataW.TrodAll enc Tryz.prog W 0 (fun _=>true) true Tryz.f7.params.toList args.toList ds p:=hA0
 rw[Tryz.params7]at hA hval
 have hA2:=hA
 obtain⟨v0,vs0,d0,ds0,p0,q0,hargs,rfl,hp,h0,hr0⟩:=trodAll_cons hA
 obtain⟨v1,vs1,d1,ds1,p1,q1,rfl,rfl,rfl,h1,hr1⟩:=trodAll_cons hr0
 obtain⟨rfl,rfl,rfl⟩:=trodAll_nil hr1
 obtain rfl:args= #[v0,v1]:=by cases args;simp_all
 subst hp
 obtain⟨rfl,rfl⟩:=trodVars_none hV
 obtain⟨s,a0,a1,a2,a3,ht⟩:=serveOpen (cells0 hL) (hval 0 31 v0 rfl rfl) h0
 obtain⟨x1,rfl,rfl,rfl,w1⟩:=open_int Tryz.underlying5 (hval 1 5 v1 rfl rfl) h1
 have r1:0≤x1∧x1≤255:=by simpa[Lit.wf,IntKind.min,IntKind.max,IntKind.signed,IntKind.bits]using w1
 clear hA0
 have hd:denL (fun j=>[a0,a1,a2,((1:Nat),(0:Nat)),(0,0),a3][j]?) [SA s,.int .u8 x1]=some [v0,.int .u8 x1]:=by
  have h3:=ht.den (fun j=>[a0,a1,a2,((1:Nat),(0:Nat)),(0,0),a3][j]?) rfl rfl rfl rfl
  simp only[denL,h3,den,Option.bind_some,Option.map_some]
 refine((t7 s ht.ok x1 r1).world (satHS ht hL) hd (u:= .bool true) (fun _=>rfl)).mono fun e W' ⟨he,hs,hb,hk⟩=>?_
 subst he
 exact⟨_,rfl,_,_,_,[],_,[],hW',trodAll_cons_mk (shut_bool Tryz.underlying4 true) trodAll_mk0,trodAll_kept (by kernel_rfl) hs hb (by kernel_rfl) hA2 (fun x hx=>hW'.lt x (by simpa using hx)),rfl,hk _,fun h=>by cases h⟩
def wit:Array Value:= #[.agg #[.slice none 0 0,.slice none 0 0,.slice none 0 0,.int .i64 0,.int .i64 0,.int .i64 0,.slice none 0 0],.int .u8 0]
def withCells(vs:List Value):Obj→Obj
 | .cells _ t frozen=> .cells vs.toArray t frozen
 |o=>o
noncomputable def laidWorld(os:Os):World:=
  {World.holding Tryz.prog os ⟨#[],wit,[]⟩with
    heap:=((World.holding Tryz.prog os ⟨#[],wit,[]⟩).heap.modify 1 (withCells (tDone.map fun z=>Value.int .i64 z))).modify 0 (withCells (tDb.map fun z=>Value.int .u8 z))}
theorem laid_met(os:Os):laidMet Tryz.prog Rows.serveDropRow.laid ((laidWorld os).forCall (fun _ _=>0) ⟨#[],wit,[]⟩).memory:=
 laidMet_of_run' 8 (by kernel_rfl) (by kernel_rfl)
theorem reads(os:Os){H:Type}(enc:TypeId×Value→H): ∃places,DataW.whole enc Tryz.prog ((laidWorld os).forCall (fun _ _=>0) ⟨#[],wit,[]⟩).memory Tryz.f7.params.toList Rows.serveDropSpec.vars false wit.toList 8=some ([.agg [.agg [.nil,.nil,.nil],.agg [.lit (.int .i64 0),.lit (.int .i64 0)],.lit (.int .i64 0),.nil],.lit (.int .u8 0)],[],places):=
 ⟨[],by kernel_rfl⟩
theorem lifted(os:Os)(started:os.Started)(H:Type)(enc:TypeId×Value→H)(F:Stop.Interp):
  ReturnsInHanded {} Tryz.checked os 7 .any ((OpenSpec.ofChange Rows.serveDropSpec).preRow enc Tryz.prog Tryz.f7 Rows.serveDropRow.domain false Rows.serveDropRow.laid) (((OpenSpec.ofChange Rows.serveDropSpec).at F).post enc Tryz.prog Tryz.f7 false true false false):=by
 obtain⟨places,hx⟩:=reads os enc;refine returnsInHanded_of_row (C:=Tryz.checked) (s:=OpenSpec.ofChange Rows.serveDropSpec) own started (by kernel_rfl) Tryz.func7
  (witness_row_at (enc:=enc) (C:=Tryz.checked) false (laidWorld os) wit rfl (by kernel_rfl) (by kernel_rfl) (by kernel_rfl)
   (OpenSpec.preRow_of_cond 8 hx (by kernel_rfl) (fun k hk=>by cases hk) (by kernel_rfl) (laid_met os))) ?_
 intro W base args ds gs before hval hW _ _ _ hL _ _;exact contract H enc W base args ds gs before hval hW hL
theorem fact1 : Tryz.prog.funcNamed "dipworks/dipworkslaw08.ServeDrop" = some 7 := by kernel_rfl
theorem fact2:joinedFacts Tryz.prog 7 Tryz.f7 (OpenSpec.ofChange Rows.serveDropSpec).bare Rows.serveDropRow=true:=by kernel_rfl
theorem fact3:Tryz.f7.isInstance Tryz.prog Rows.serveDropRow.origin Rows.serveDropRow.targs:=of_decide_eq_true (by kernel_rfl)
theorem fact4:Tryz.f7.isWrapper Tryz.prog Rows.serveDropRow.wrapper Rows.serveDropRow.mainSum:=by unfold Func.isWrapper;first|(rw[if_pos (by decide+kernel)];kernel_rfl)|(rw[if_neg (by decide+kernel)];exact⟨rfl,rfl⟩)
theorem said:Rows.ServeDropSaid:=
 OpenClaim.holds_of_cond 7 Tryz.f7 rfl rfl rfl rfl rfl rfl rfl ⟨rfl,rfl,rfl,rfl,rfl⟩ rfl rfl rfl rfl rfl fact1 Tryz.func7 fact2 fact3 fact4
  (fun os started H enc _ F=>by rw[OpenClaim.pre_eq_preRow];exact lifted os started H enc F)
theorem plain (f : FuncId) (fn : Func) (hf : Tryz.pinned.checked.prog.funcNamed "dipworks/dipworkslaw08.ServeDrop" = some f) (hfn : Tryz.pinned.checked.prog.funcs[f]? = some fn) :
  true=Tryz.pinned.checked.prog.looks []∧ ∀(j:Nat) t,fn.params[j]?=some t→Tryz.pinned.checked.prog.wantsStandIn t=false:=by
 obtain rfl : f = 7 := Option.some.inj ((show Tryz.prog.funcNamed "dipworks/dipworkslaw08.ServeDrop" = some 7 by kernel_rfl).symm.trans hf) |>.symm;obtain rfl : fn = Tryz.f7 := (Option.some.inj (Tryz.func7.symm.trans hfn)).symm;refine ⟨by kernel_rfl, fun j t ht => ?_⟩;rw [Tryz.params7] at ht;have h2 : t = 31 ∨ t = 5 := by
  have:=Array.mem_of_getElem? ht;simpa[or_assoc]using this
 rcases h2 with rfl|rfl
 ·exact(show Tryz.prog.wantsStandIn 31=false by kernel_rfl)
 ·exact(show Tryz.prog.wantsStandIn 5=false by kernel_rfl)
theorem card:Rows.ServeDropCardSaid:=
 Claim7.holds_tied_plain_at .later [] _ _ _ _ said (fun _ h=>by cases h) (by kernel_rfl) (fun _ h=>by cases h) serveDrop_row_tie rfl ⟨rfl,rfl⟩ (by kernel_rfl) rfl plain (by kernel_rfl)
end Go.Proofs.YthnhlkflkidemaaGreatDoor.serveDropProof
#print axioms Go.Proofs.YthnhlkflkidemaaGreatDoor.serveDropProof.card
