/- TopTrips is true of the given program, whatever the input; no conditions beyond the row's. -/
import Derived.Test.YtnhljdeohelgjaaGreatDoorB5
import Derived.Test.YtnhljdeohelgjaaGreatDoorCards
import Derived.Stop.Joined
import Derived.SevenTiedAt
set_option linter.unusedVariables false
set_option linter.unusedSimpArgs false
namespace Go.Proofs.YtnhljdeohelgjaaGreatDoor
open Go.RowKit Go.Pl Go.ChangeShapes Go.WideShapes
set_option maxRecDepth 100000 in
theorem topTrips_lifted (os:Os) (started:os.Started) (H:Type) (enc:TypeId×Value→H) :
  ReturnsInHanded {} Tryz.checked os 3 .any (fun w args=>(Rows.topTripsSpec.pre enc Tryz.prog Tryz.f3 [] false w args∧laidMetH Tryz.prog aK4 w)∧sizedMet enc Tryz.prog Tryz.f3 (OpenSpec.ofChange Rows.topTripsSpec) false w args)
   (Rows.topTripsSpec.post enc Tryz.prog Tryz.f3 false true false false):=by
 refine returnsInHanded_of_change_and (C:=Tryz.checked) (X:=fun w _=>laidMetH Tryz.prog aK4 w) (fun _ _ _ hh h=>h.of_heap hh) aUo started (by kernel_rfl) Tryz.func3
  (ChangeSpec.witness_shaped (enc:=enc) (C:=Tryz.checked) (os:=os) (X:=fun w _=>laidMetH Tryz.prog aK4 w) false (World.doorLaid Tryz.prog 86 os) #[.agg #[.slice none 0 0],.string ByteArray.empty,.string ByteArray.empty,.string ByteArray.empty,.int .i64 0] 12 rfl (World.shaped_of_RefB (by kernel_rfl) (by kernel_rfl)) (by kernel_rfl) (by kernel_rfl) (by kernel_rfl) (aOP os _)) ?_
 intro W base args ds gs before hval0 hW _ _ hL _;have hval:∀ (j:Nat) t v,Tryz.f3.params[j]?=some t→args[j]?=some v→Value.okWide Tryz.prog W .any base t v:=hval0;have hW':=hW;obtain ⟨p,q,hA0,hV,_,_,_⟩:=hW;have hA:DataW.TrodAll enc Tryz.prog W 0 (fun _=>true) true Tryz.f3.params.toList args.toList ds p:=hA0;rw [Tryz.params3] at hA hval;have hT:=aSM hL;obtain ⟨v0,vs0,d0,ds0,p0,q0,hargs,rfl,rfl,h0,r0⟩:=trodAll_cons hA;obtain ⟨v1,vs1,d1,ds1,p1,q1,rfl,rfl,rfl,h1,r1⟩:=trodAll_cons r0;obtain ⟨v2,vs2,d2,ds2,p2,q2,rfl,rfl,rfl,h2,r2⟩:=trodAll_cons r1;obtain ⟨v3,vs3,d3,ds3,p3,q3,rfl,rfl,rfl,h3,r3⟩:=trodAll_cons r2;obtain ⟨v4,vs4,d4,ds4,p4,q4,rfl,rfl,rfl,h4,r4⟩:=trodAll_cons r3;obtain ⟨rfl,rfl,rfl⟩:=trodAll_nil r4;obtain rfl:args=#[v0,v1,v2,v3,v4]:=by cases args;simp_all
 obtain ⟨rfl,rfl⟩:=trodVars_none hV;obtain ⟨cs0,rfl,-⟩:=okWide_struct Tryz.underlying24 (hval 0 24 v0 rfl rfl);obtain ⟨fu0,hf0⟩:=h0;obtain ⟨os0,vm0,hc0,hO0⟩:=aO0 hf0;obtain rfl:cs0=#[vm0]:=by cases cs0;exact congrArg Array.mk hc0
 obtain ⟨a1,rfl,x1,y1,w1⟩:=Go.ChangeMaps.open_string u9_ (hval 1 9 v1 rfl rfl) h1;obtain ⟨s1,rfl⟩:=aDs a1;have hb1:B63 s1:=by have:=w1;rw [aBk] at this;exact this
 obtain ⟨a2,rfl,x2,y2,w2⟩:=Go.ChangeMaps.open_string u9_ (hval 2 9 v2 rfl rfl) h2;obtain ⟨s2,rfl⟩:=aDs a2;have hb2:B63 s2:=by have:=w2;rw [aBk] at this;exact this
 obtain ⟨a3,rfl,x3,y3,w3⟩:=Go.ChangeMaps.open_string u9_ (hval 3 9 v3 rfl rfl) h3;obtain ⟨s3,rfl⟩:=aDs a3;have hb3:B63 s3:=by have:=w3;rw [aBk] at this;exact this
 obtain ⟨a4,rfl,x4,y4,w4⟩:=open_int u3_ (hval 4 3 v4 rfl rfl) h4;refine (aFF hO0 hb1 hb2 hT s3 a4).mono fun e W' ⟨he,hg⟩=>⟨_,he,?_⟩;exact aOG aUp (by intro t ht;rw [Tryz.params3] at ht;simp at ht;rcases ht with rfl | rfl | rfl<;>exact ⟨by kernel_rfl,of_decide_eq_true (by kernel_rfl)⟩) rfl Tryz.underlying4 rfl rfl hW' (hg.below (by simp))
theorem TopTrips_holds:Rows.TopTripsSaid :=
 OpenClaim.holds_of_wide 3 Tryz.f3 rfl rfl rfl rfl rfl rfl rfl ⟨rfl,rfl,rfl,rfl,rfl⟩ rfl rfl rfl rfl rfl aFG Tryz.func3 aFa
  (of_decide_eq_true (by kernel_rfl)) (by unfold Func.isWrapper;first | (rw [if_pos (by decide +kernel)];kernel_rfl) | (rw [if_neg (by decide +kernel)];exact ⟨rfl,rfl⟩))
  (fun os started H enc _=>topTrips_lifted os started H enc)
set_option maxRecDepth 100000 in
theorem TopTrips_card:Rows.TopTripsCardSaid :=
 Claim7.holds_tied_plain_at .later [] [.data,.data,.data,.sentinel,.sentinel,.listed,.data] true (true, "f0a094d543648620d5f43b36ccebcf73848e7a97acee856cb45ba224bc82345a") true
  TopTrips_holds (fun _ h=>by cases h) (by kernel_rfl) (fun _ h=>by cases h) topTrips_row_tie rfl ⟨rfl,rfl⟩ (by kernel_rfl) rfl
  (fun f fn hf hfn=>by
   obtain rfl:f=3:=Option.some.inj ((show Tryz.prog.funcNamed "planisphere/planispheretop.TopTrips" = some 3 by kernel_rfl).symm.trans hf) |>.symm;obtain rfl:fn=Tryz.f3:=(Option.some.inj (Tryz.func3.symm.trans hfn)).symm
   exact ⟨by kernel_rfl,fun j t ht=>by
    rw [Tryz.params3] at ht;have hm:=Array.mem_of_getElem? ht;simp at hm;rcases hm with rfl | rfl | rfl<;>(show Tryz.prog.wantsStandIn _=false;kernel_rfl)⟩)
  (by kernel_rfl)
#print axioms TopTrips_card
end Go.Proofs.YtnhljdeohelgjaaGreatDoor
