/- EvalCounts is true of the given program, whatever the input; no conditions beyond the row's. -/
import Derived.Test.YtngjlnhojicjeaaGreatDoorC6
import Derived.Test.YtngjlnhojicjeaaGreatDoorCards
import Derived.Stop.Joined
import Derived.SevenTiedAt
set_option linter.unusedVariables false
set_option linter.unusedSimpArgs false
namespace Go.Pl
open Go.RowKit
theorem Fr.below {F:Nat->Prop}{a w:World}(h:Fr F a w) (hf:∀ r,r<a.heap.size->¬ F r):Below a.heap.size a w:=⟨h.os,h.tape,h.output,h.size,fun r hr=>h.blk r hr (hf r hr)⟩
end Go.Pl
namespace Go.Proofs.YtngjlnhojicjeaaGreatDoor
open Go.RowKit Go.Pl Go.ChangeShapes Go.WideShapes
set_option maxRecDepth 100000 in
theorem evalCounts_lifted (os:Os) (started:os.Started) (H:Type) (enc:TypeId×Value->H) :
  ReturnsInHanded {} Tryz.checked os 5 .any (fun w args=>(Rows.evalCountsSpec.pre enc Tryz.prog Tryz.f5 [] false w args /\ laidMetH Tryz.prog aLR w) /\ sizedMet enc Tryz.prog Tryz.f5 (OpenSpec.ofChange Rows.evalCountsSpec) false w args)
   (Rows.evalCountsSpec.post enc Tryz.prog Tryz.f5 false true false false):=by
 refine returnsInHanded_of_change_and (C:=Tryz.checked) (X:=fun w _=>laidMetH Tryz.prog aLR w) (fun _ _ _ hh h=>h.of_heap hh) aYB started (by kernel_rfl) Tryz.func5
  (ChangeSpec.witness_shaped (enc:=enc) (C:=Tryz.checked) (os:=os) (X:=fun w _=>laidMetH Tryz.prog aLR w) false (World.doorLaid Tryz.prog 86 os) #[.agg #[.slice none 0 0],.agg #[.int .i64 0,.int .i64 0,.int .i64 0,.string ByteArray.empty,.string ByteArray.empty,.int .i64 0,.slice none 0 0,.string ByteArray.empty,.int .i64 0,.int .i64 0,.int .i64 0,.string ByteArray.empty,.string ByteArray.empty,.int .i64 0]] 12 rfl (World.shaped_of_RefB (by kernel_rfl) (by kernel_rfl)) (by kernel_rfl) (by kernel_rfl) (by kernel_rfl) (aQW os _)) ?_
 intro W base args ds gs before hval0 hW _ _ hL _;have hval:∀ (j:Nat) t v,Tryz.f5.params[j]?=some t->args[j]?=some v->Value.okWide Tryz.prog W .any base t v:=hval0;have hW':=hW;obtain ⟨p,q,hA0,hV,_,_,_⟩:=hW;have hA:DataW.TrodAll enc Tryz.prog W 0 (fun _=>true) true Tryz.f5.params.toList args.toList ds p:=hA0;rw [Tryz.params5] at hA hval;have hT:=aW2 hL;obtain ⟨v0,vs0,d0,ds0,p0,q0,hargs,rfl,rfl,h0,r0⟩:=trodAll_cons hA;obtain ⟨v1,vs1,d1,ds1,p1,q1,rfl,rfl,rfl,h1,r1⟩:=trodAll_cons r0;obtain ⟨rfl,rfl,rfl⟩:=trodAll_nil r1;obtain rfl:args=#[v0,v1]:=by cases args;simp_all
 obtain ⟨rfl,rfl⟩:=trodVars_none hV;obtain ⟨cs0,rfl,-⟩:=okWide_struct Tryz.underlying24 (hval 0 24 v0 rfl rfl);obtain ⟨fu0,hf0⟩:=h0;obtain ⟨os0,vm0,hc0,hO0⟩:=aQp hf0;obtain rfl:cs0=#[vm0]:=by cases cs0;exact congrArg Array.mk hc0
 obtain ⟨cs1,rfl,-⟩:=okWide_struct Tryz.underlying31 (hval 1 31 v1 rfl rfl);obtain ⟨fu1,hf1⟩:=h1;obtain ⟨qq1,mm1,hc1,hQ1⟩:=aQo hf1;obtain rfl:cs1=(qdL qq1).toArray:=by cases cs1;exact congrArg Array.mk hc1
 refine (aEV hO0 hQ1 (Gj_ _) hT).mono fun e W' ⟨he,hg⟩=>⟨_,he,?_⟩;exact aQ6 aYC (by intro t ht;rw [Tryz.params5] at ht;simp at ht;rcases ht with rfl | rfl<;>exact ⟨by kernel_rfl,of_decide_eq_true (by kernel_rfl)⟩) rfl Tryz.underlying4 rfl rfl hW' (hg.below (by simp))
theorem EvalCounts_holds:Rows.EvalCountsSaid :=
 OpenClaim.holds_of_wide 5 Tryz.f5 rfl rfl rfl rfl rfl rfl rfl ⟨rfl,rfl,rfl,rfl,rfl⟩ rfl rfl rfl rfl rfl aEW Tryz.func5 aE8
  (of_decide_eq_true (by kernel_rfl)) (by unfold Func.isWrapper;first | (rw [if_pos (by decide +kernel)];kernel_rfl) | (rw [if_neg (by decide +kernel)];exact ⟨rfl,rfl⟩))
  (fun os started H enc _=>evalCounts_lifted os started H enc)
theorem cd0:Rows.evalCountsRow.wfByText (OpenSpec.ofChange Rows.evalCountsSpec)=true:=by kernel_rfl
theorem cd1:Tryz.pinned.checked.prog.mainIs=some (true, "d8ad5489b179c895de578a13163f16d4762223b65346ad63b5febd1c30152733".toList):=by kernel_rfl
theorem cd2:Tryz.pinned.checked.prog.funcNamed Rows.evalCountsRow.func=some 5:=by kernel_rfl
theorem cd3:true=Tryz.pinned.checked.prog.looks []:=by kernel_rfl
theorem cd5:false=Rows.evalCountsRow.goesBy Tryz.pinned.checked.prog:=by kernel_rfl
theorem cw24:Tryz.pinned.checked.prog.wantsStandIn 24=false:=by kernel_rfl
theorem cw31:Tryz.pinned.checked.prog.wantsStandIn 31=false:=by kernel_rfl
set_option maxRecDepth 100000 in
theorem EvalCounts_card:Rows.EvalCountsCardSaid :=
 Claim7.holds_tied_plain_at .later [] [.data,.data,.data,.sentinel,.sentinel,.listed,.data] true (true, "d8ad5489b179c895de578a13163f16d4762223b65346ad63b5febd1c30152733") true
  EvalCounts_holds (fun _ h=>by cases h) cd0 (fun _ h=>by cases h) evalCounts_row_tie rfl ⟨rfl,rfl⟩ cd1 rfl
  (fun f fn hf hfn=>by
   obtain rfl:f=5:=Gh_ (cd2.symm.trans hf) |>.symm;obtain rfl:fn=Tryz.f5:=(Gh_ (Tryz.func5.symm.trans hfn)).symm
   exact ⟨cd3,fun j t ht=>by
    rw [Tryz.params5] at ht;have hm:=Array.mem_of_getElem? ht;simp at hm;rcases hm with rfl | rfl
    ·exact cw24
    ·exact cw31⟩)
  cd5
#print axioms EvalCounts_card
end Go.Proofs.YtngjlnhojicjeaaGreatDoor
