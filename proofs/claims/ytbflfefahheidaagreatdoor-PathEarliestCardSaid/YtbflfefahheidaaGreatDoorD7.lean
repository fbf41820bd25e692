/- No walk over links comes earlier than a trip (P37.3). -/
import Derived.Test.YtbflfefahheidaaGreatDoorD6
import Derived.Test.YtbflfefahheidaaGreatDoorCards
import Derived.Stop.Joined
import Derived.SevenTiedAt
set_option linter.unusedVariables false
set_option linter.unusedSimpArgs false
namespace Go.Proofs.YtbflfefahheidaaGreatDoor
open Go.RowKit Go.Pl Go.ChangeShapes Go.WideShapes
theorem open_u8 {H:Type}{enc:TypeId×Value→H}{W:World}{sp:Nat→Bool}{held:Bool}{n:Nat}{cs:List Value}{x:DataW H×List MemPlace}(h:DataW.trod enc Tryz.prog W 0 sp held n 5 cs=some x):∃ b:UInt8,cs=byL b∧True:=by
 obtain ⟨m,rfl,_,hw⟩:=DataW.trod_int u5_ h
 simp [Lit.wf] at hw
 have h1:IntKind.u8.min=0:=by decide
 have h2:IntKind.u8.max=255:=by decide
 refine ⟨UInt8.ofNat m.toNat,?_,trivial⟩
 have:((UInt8.ofNat m.toNat).toNat:Int)=m:=by rw [UInt8.toNat_ofNat'];omega
 unfold byL;rw [this]
set_option maxRecDepth 100000 in
theorem pathEarliest_lifted (os:Os) (started:os.Started) (H:Type) (enc:TypeId×Value→H) :
  ReturnsInHanded {} Tryz.checked os 5 .any (fun w args=>(Rows.pathEarliestSpec.pre enc Tryz.prog Tryz.f5 [] false w args∧laidMetH Tryz.prog aNc w)∧sizedMet enc Tryz.prog Tryz.f5 (OpenSpec.ofChange Rows.pathEarliestSpec) false w args)
   (Rows.pathEarliestSpec.post enc Tryz.prog Tryz.f5 false true false false):=by
 refine returnsInHanded_of_change_and (C:=Tryz.checked) (X:=fun w _=>laidMetH Tryz.prog aNc w) (fun _ _ _ hh h=>h.of_heap hh) aXA started (by kernel_rfl) Tryz.func5
  (ChangeSpec.witness_shaped (enc:=enc) (C:=Tryz.checked) (os:=os) (X:=fun w _=>laidMetH Tryz.prog aNc w) false (World.doorLaid Tryz.prog 86 os) #[.agg #[.slice none 0 0],.string ByteArray.empty,.string ByteArray.empty,.int .i64 0,.slice none 0 0] 12 rfl (World.shaped_of_RefB (by kernel_rfl) (by kernel_rfl)) (by kernel_rfl) (by kernel_rfl) (by kernel_rfl) (aRF os _)) ?_
 intro W base args ds gs before hval0 hW _ _ hL _
 have hval:∀ (j:Nat) t v,Tryz.f5.params[j]?=some t→args[j]?=some v→Value.okWide Tryz.prog W .any base t v:=hval0
 have hW':=hW
 obtain ⟨p,q,hA0,hV,_,_,_⟩:=hW
 have hA:DataW.TrodAll enc Tryz.prog W 0 (fun _=>true) true Tryz.f5.params.toList args.toList ds p:=hA0
 rw [Tryz.params5] at hA hval
 have hT:=aWi hL
 obtain ⟨v0,vs0,d0,ds0,p0,q0,hargs,rfl,rfl,h0,r0⟩:=trodAll_cons hA
 obtain ⟨v1,vs1,d1,ds1,p1,q1,rfl,rfl,rfl,h1,r1⟩:=trodAll_cons r0
 obtain ⟨v2,vs2,d2,ds2,p2,q2,rfl,rfl,rfl,h2,r2⟩:=trodAll_cons r1
 obtain ⟨v3,vs3,d3,ds3,p3,q3,rfl,rfl,rfl,h3,r3⟩:=trodAll_cons r2
 obtain ⟨v4,vs4,d4,ds4,p4,q4,rfl,rfl,rfl,h4,r4⟩:=trodAll_cons r3
 obtain ⟨rfl,rfl,rfl⟩:=trodAll_nil r4
 obtain rfl:args=#[v0,v1,v2,v3,v4]:=by cases args;simp_all
 obtain ⟨rfl,rfl⟩:=trodVars_none hV
 obtain ⟨cs0,rfl,-⟩:=okWide_struct Tryz.underlying24 (hval 0 24 v0 rfl rfl)
 obtain ⟨fu0,hf0⟩:=h0
 obtain ⟨os0,vm0,hc0,hO0⟩:=aRj hf0
 obtain rfl:cs0=#[vm0]:=by cases cs0;exact congrArg Array.mk hc0
 obtain ⟨a1,rfl,x1,y1,w1⟩:=Go.ChangeMaps.open_string u9_ (hval 1 9 v1 rfl rfl) h1
 obtain ⟨s1,rfl⟩:=aFy a1
 have hb1:B63 s1:=by have:=w1;rw [aBr] at this;exact this
 obtain ⟨a2,rfl,x2,y2,w2⟩:=Go.ChangeMaps.open_string u9_ (hval 2 9 v2 rfl rfl) h2
 obtain ⟨s2,rfl⟩:=aFy a2
 have hb2:B63 s2:=by have:=w2;rw [aBr] at this;exact this
 obtain ⟨a3,rfl,x3,y3,w3⟩:=open_int u3_ (hval 3 3 v3 rfl rfl) h3
 obtain ⟨a4,l4,c4,rfl⟩:=okWide_slice u45_ (hval 4 45 v4 rfl rfl)
 obtain ⟨fu4,hf4⟩:=h4
 obtain ⟨s4,pa4,cap4,e4,hS4,-⟩:=aFP 0 byL 1 u45_ (by kernel_rfl) (fun _=>rfl) (by decide) (fun _=>True) (fun _ _ _ h=>open_u8 h) hf4
 have e4:[Value.slice a4 l4 c4]=[vL pa4 s4.length cap4]:=e4
 cases e4
 refine (aGP hO0 hb1 hb2 hT a3 hS4).mono fun e W' ⟨he,hg⟩=>⟨_,he,?_⟩
 exact aR0 aXB (by intro t ht;rw [Tryz.params5] at ht;simp at ht;rcases ht with rfl | rfl | rfl | rfl<;>exact ⟨by kernel_rfl,of_decide_eq_true (by kernel_rfl)⟩) rfl Tryz.underlying4 rfl rfl hW' (hg.below (by simp))
theorem PathEarliest_holds:Rows.PathEarliestSaid :=
 OpenClaim.holds_of_wide 5 Tryz.f5 rfl rfl rfl rfl rfl rfl rfl ⟨rfl,rfl,rfl,rfl,rfl⟩ rfl rfl rfl rfl rfl (by kernel_rfl) Tryz.func5 (by kernel_rfl)
  (of_decide_eq_true (by kernel_rfl)) (by unfold Func.isWrapper;first | (rw [if_pos (by decide +kernel)];kernel_rfl) | (rw [if_neg (by decide +kernel)];exact ⟨rfl,rfl⟩))
  (fun os started H enc _=>pathEarliest_lifted os started H enc)
set_option maxRecDepth 100000 in
theorem PathEarliest_card:Rows.PathEarliestCardSaid :=
 Claim7.holds_tied_plain_at .later [] [.data,.data,.data,.sentinel,.sentinel,.listed,.data] true (true, "afa07effc40d7ae955d99d1858bd1b689d762936f66a9444e2ef661d05c260ea") true
  PathEarliest_holds (fun _ h=>by cases h) (by kernel_rfl) (fun _ h=>by cases h) pathEarliest_row_tie rfl ⟨rfl,rfl⟩ (by kernel_rfl) rfl
  (fun f fn hf hfn=>by
   obtain rfl:f=5:=Option.some.inj ((show Tryz.prog.funcNamed "planisphere/planispherelaw37.PathEarliest" = some 5 by kernel_rfl).symm.trans hf) |>.symm
   obtain rfl:fn=Tryz.f5:=(Option.some.inj (Tryz.func5.symm.trans hfn)).symm
   exact ⟨by kernel_rfl,fun j t ht=>by
    rw [Tryz.params5] at ht
    have hm:=Array.mem_of_getElem? ht
    simp at hm
    rcases hm with rfl | rfl | rfl | rfl<;>(show Tryz.prog.wantsStandIn _=false;kernel_rfl)⟩)
  (by kernel_rfl)
#print axioms PathEarliest_card
end Go.Proofs.YtbflfefahheidaaGreatDoor
