/- EvalKinds: a tag that a query does not mention makes no difference, and the five kinds make up all. The statement has no condition. -/
import Derived.Test.YtngjlnhojicjeaaGreatDoorD6
import Derived.Test.YtngjlnhojicjeaaGreatDoorCards
import Derived.Stop.Joined
import Derived.SevenTiedAt
set_option linter.unusedVariables false
set_option linter.unusedSimpArgs false
namespace Go.Proofs.YtngjlnhojicjeaaGreatDoor
open Go.RowKit Go.Pl Go.ChangeShapes Go.WideShapes
theorem u8_of {n:Int}(h:(Lit.int .u8 n).wf=true):0<=n /\ n<=255:=by
 simp [Lit.wf] at h;have h1:IntKind.u8.min=0:=by decide
 have h2:IntKind.u8.max=255:=by decide
 omega
set_option maxRecDepth 100000 in
theorem evalKinds_lifted (os:Os) (started:os.Started) (H:Type) (enc:TypeId×Value->H) :
  ReturnsInHanded {} Tryz.checked os 7 .any (fun w args=>(Rows.evalKindsSpec.pre enc Tryz.prog Tryz.f7 [] false w args /\ laidMetH Tryz.prog aMh w) /\ sizedMet enc Tryz.prog Tryz.f7 (OpenSpec.ofChange Rows.evalKindsSpec) false w args)
   (Rows.evalKindsSpec.post enc Tryz.prog Tryz.f7 false true false false):=by
 refine returnsInHanded_of_change_and (C:=Tryz.checked) (X:=fun w _=>laidMetH Tryz.prog aMh w) (fun _ _ _ hh h=>h.of_heap hh) aZ5 started (by kernel_rfl) Tryz.func7
  (ChangeSpec.witness_shaped (enc:=enc) (C:=Tryz.checked) (os:=os) (X:=fun w _=>laidMetH Tryz.prog aMh w) false (World.doorLaid Tryz.prog 86 os) #[.agg #[.slice none 0 0],.agg #[.int .i64 0,.int .i64 0,.int .i64 0,.string ByteArray.empty,.string ByteArray.empty,.int .i64 0,.slice none 0 0,.string ByteArray.empty,.int .i64 0,.int .i64 0,.int .i64 0,.string ByteArray.empty,.string ByteArray.empty,.int .i64 0],.int .u8 0,.string ByteArray.empty] 12 rfl (World.shaped_of_RefB (by kernel_rfl) (by kernel_rfl)) (by kernel_rfl) (by kernel_rfl) (by kernel_rfl) (aRx os _)) ?_
 intro W base args ds gs before hval0 hW _ _ hL _;have hval:∀ (j:Nat) t v,Tryz.f7.params[j]?=some t->args[j]?=some v->Value.okWide Tryz.prog W .any base t v:=hval0;have hW':=hW;obtain ⟨p,q,hA0,hV,_,_,_⟩:=hW;have hA:DataW.TrodAll enc Tryz.prog W 0 (fun _=>true) true Tryz.f7.params.toList args.toList ds p:=hA0;rw [Tryz.params7] at hA hval;have hT:=aXt hL;obtain ⟨v0,vs0,d0,ds0,p0,q0,hargs,rfl,rfl,h0,r0⟩:=trodAll_cons hA;obtain ⟨v1,vs1,d1,ds1,p1,q1,rfl,rfl,rfl,h1,r1⟩:=trodAll_cons r0;obtain ⟨v2,vs2,d2,ds2,p2,q2,rfl,rfl,rfl,h2,r2⟩:=trodAll_cons r1;obtain ⟨v3,vs3,d3,ds3,p3,q3,rfl,rfl,rfl,h3,r3⟩:=trodAll_cons r2;obtain ⟨rfl,rfl,rfl⟩:=trodAll_nil r3;obtain rfl:args=#[v0,v1,v2,v3]:=by cases args;simp_all
 obtain ⟨rfl,rfl⟩:=trodVars_none hV;obtain ⟨cs0,rfl,-⟩:=okWide_struct Tryz.underlying24 (hval 0 24 v0 rfl rfl);obtain ⟨fu0,hf0⟩:=h0;obtain ⟨os0,vm0,hc0,hO0⟩:=aQD hf0;obtain rfl:cs0=#[vm0]:=by cases cs0;exact congrArg Array.mk hc0
 obtain ⟨cs1,rfl,-⟩:=okWide_struct Tryz.underlying31 (hval 1 31 v1 rfl rfl);obtain ⟨fu1,hf1⟩:=h1;obtain ⟨qq1,mm1,hc1,hQ1⟩:=aQC hf1;obtain rfl:cs1=(qdL qq1).toArray:=by cases cs1;exact congrArg Array.mk hc1
 obtain ⟨a2,rfl,x2,y2,w2⟩:=open_int Tryz.underlying5 (hval 2 5 v2 rfl rfl) h2;have hu2:=u8_of w2;obtain ⟨n2,rfl⟩:=Int.eq_ofNat_of_zero_le hu2.1;obtain ⟨a3,rfl,x3,y3,w3⟩:=Go.ChangeMaps.open_string u9_ (hval 3 9 v3 rfl rfl) h3;obtain ⟨s3,rfl⟩:=aEI a3;have hb3:B63 s3:=by have:=w3;rw [aCU] at this;exact this
 refine (aGc hO0 hQ1 (Gj_ _) hT (which:=n2) (by omega) hb3).mono fun e W' ⟨he,hg⟩=>⟨_,he,?_⟩;exact aQV aZ6 (by intro t ht;rw [Tryz.params7] at ht;simp at ht;rcases ht with rfl | rfl | rfl | rfl<;>exact ⟨by kernel_rfl,of_decide_eq_true (by kernel_rfl)⟩) rfl Tryz.underlying4 rfl rfl hW' (hg.below (by simp))
theorem EvalKinds_holds:Rows.EvalKindsSaid :=
 OpenClaim.holds_of_wide 7 Tryz.f7 rfl rfl rfl rfl rfl rfl rfl ⟨rfl,rfl,rfl,rfl,rfl⟩ rfl rfl rfl rfl rfl aGd Tryz.func7 aFh
  (of_decide_eq_true (by kernel_rfl)) (by unfold Func.isWrapper;first | (rw [if_pos (by decide +kernel)];kernel_rfl) | (rw [if_neg (by decide +kernel)];exact ⟨rfl,rfl⟩))
  (fun os started H enc _=>evalKinds_lifted os started H enc)
theorem cd0:Rows.evalKindsRow.wfByText (OpenSpec.ofChange Rows.evalKindsSpec)=true:=by kernel_rfl
theorem cd1:Tryz.pinned.checked.prog.mainIs=some (true, "d8ad5489b179c895de578a13163f16d4762223b65346ad63b5febd1c30152733".toList):=by kernel_rfl
theorem cd2:Tryz.pinned.checked.prog.funcNamed Rows.evalKindsRow.func=some 7:=by kernel_rfl
theorem cd3:true=Tryz.pinned.checked.prog.looks []:=by kernel_rfl
theorem cd5:false=Rows.evalKindsRow.goesBy Tryz.pinned.checked.prog:=by kernel_rfl
theorem cw24:Tryz.pinned.checked.prog.wantsStandIn 24=false:=by kernel_rfl
theorem cw31:Tryz.pinned.checked.prog.wantsStandIn 31=false:=by kernel_rfl
theorem cw5:Tryz.pinned.checked.prog.wantsStandIn 5=false:=by kernel_rfl
theorem cw9:Tryz.pinned.checked.prog.wantsStandIn 9=false:=by kernel_rfl
set_option maxRecDepth 100000 in
theorem EvalKinds_card:Rows.EvalKindsCardSaid :=
 Claim7.holds_tied_plain_at .later [] [.data,.data,.data,.sentinel,.sentinel,.listed,.data] true (true, "d8ad5489b179c895de578a13163f16d4762223b65346ad63b5febd1c30152733") true
  EvalKinds_holds (fun _ h=>by cases h) cd0 (fun _ h=>by cases h) evalKinds_row_tie rfl ⟨rfl,rfl⟩ cd1 rfl
  (fun f fn hf hfn=>by
   obtain rfl:f=7:=Gh_ (cd2.symm.trans hf) |>.symm;obtain rfl:fn=Tryz.f7:=(Gh_ (Tryz.func7.symm.trans hfn)).symm
   exact ⟨cd3,fun j t ht=>by
    rw [Tryz.params7] at ht;have hm:=Array.mem_of_getElem? ht;simp at hm;rcases hm with rfl | rfl | rfl | rfl
    ·exact cw24
    ·exact cw31
    ·exact cw5
    ·exact cw9⟩)
  cd5
#print axioms EvalKinds_card
end Go.Proofs.YtngjlnhojicjeaaGreatDoor
