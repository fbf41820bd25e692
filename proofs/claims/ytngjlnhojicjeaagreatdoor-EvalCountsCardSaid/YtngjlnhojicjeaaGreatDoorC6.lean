/- Part 6 of the proof. -/
import Derived.Test.YtngjlnhojicjeaaGreatDoorC5
import Derived.LaidMore
import Derived.Deep.Slices
import Derived.OpenShut
import Derived.Test.YtngjlnhojicjeaaGreatDoorTie
import Derived.Lib.LaidU8
import Derived.MakeChecks
import Derived.ProofKit
import Derived.Test.YtngjlnhojicjeaaGreatDoorRows
import Derived.Stop.Joined
set_option linter.unusedVariables false
set_option linter.unusedSimpArgs false
namespace Go.Proofs.YtngjlnhojicjeaaGreatDoor
open Go.RowKit Go.Pl
theorem aWF {w:World}{v:Value}{b:Nat}(hmO:aC0 w v (aCZ b)) (hTe:Te w):Calls Tryz.prog 12 #[.agg #[v],vA (qdL qA)] w fun e w'=>∃ u z e',e = .returned (.tuple #[u,vI z]) /\ rwK ([([110,49],0),([110,50],0),([110,51],0)]:List (Bys×Int)) u z e' /\ Mm nF_ w w' [e'] :=
 (aLD (q:=qA) hmO (aWe w 0 rfl (by decide)) (Gg_ _) hTe (by unfold aCZ;simp) rfl).mono fun e w' ⟨u,h1,h2⟩=>by
  rw [(aXP b).1] at h1 h2;rw [(aXP b).2] at h2;exact ⟨u,0,_,h1,⟨rfl,rfl⟩,h2⟩
theorem aWE {w:World}{v:Value}{b:Nat}(hmO:aC0 w v (aCZ b)) (hTe:Te w):Calls Tryz.prog 12 #[.agg #[v],vA (qdL qB)] w fun e w'=>∃ u z e',e = .returned (.tuple #[u,vI z]) /\ rwK ([([110,49],0),([110,50],0)]:List (Bys×Int)) u z e' /\ Mm nF_ w w' [e'] :=
 (aLA (q:=qB) hmO (aWe w 0 rfl (by decide)) (Gg_ _) hTe (by unfold aCZ;simp) rfl).mono fun e w' ⟨u,h1,h2⟩=>by
  rw [aXc b] at h1 h2;rw [aZe b] at h2;exact ⟨u,0,_,h1,⟨rfl,rfl⟩,h2⟩
theorem aWD {w:World}{v:Value}{b:Nat}(hmO:aC0 w v (aCZ b)) (hTe:Te w):Calls Tryz.prog 12 #[.agg #[v],vA (qdL qC)] w fun e w'=>∃ u z e',e = .returned (.tuple #[u,vI z]) /\ rwK ([([110,51],1),([110,50],9)]:List (Bys×Int)) u z e' /\ Mm nF_ w w' [e'] :=
 (aL9 (q:=qC) hmO (aWe w 0 rfl (by decide)) (Gg_ _) hTe (by unfold aCZ;simp) rfl).mono fun e w' ⟨u,h1,h2⟩=>by
  rw [aXb b] at h1 h2;rw [aZd b] at h2;exact ⟨u,0,_,h1,⟨rfl,rfl⟩,h2⟩
theorem aWC {w:World}{v:Value}{b:Nat}(hmO:aC0 w v (aCZ b)) (hTe:Te w):Calls Tryz.prog 12 #[.agg #[v],vA (qdL qD)] w fun e w'=>∃ u z e',e = .returned (.tuple #[u,vI z]) /\ (z=13 /\ e'=rw_ rwL 2 42 u []) /\ Mm nF_ w w' [e'] :=
 (aLB (q:=qD) hmO (aWe w 0 rfl (by decide)) (Gg_ _) hTe (by unfold aCZ;simp) rfl (by rw [aXO b];decide)).mono fun e w' ⟨u,h1,h2⟩=>by
  rw [aXO b] at h1;exact ⟨u,13,_,h1,⟨rfl,rfl⟩,h2⟩
theorem aEx {w:World}{p1 p2:Option Addr}{c1 c2:Nat}{A B:List (Bys×Int)}(h1:SrcP rwL 2 w p1 c1 A) (h2:SrcP rwL 2 w p2 c2 B) (hq:(A==B)=true):Calls Tryz.prog 14 #[vL p1 A.length c1,vL p2 B.length c2] w fun e w'=>e = .returned (vB true) /\ Fr nF_ w w' :=
 (aHV h1 h2).mono fun e w' ⟨a,b⟩=>⟨by rw [a,hq],b⟩
theorem aJ5 {w:World}(hTe:Te w):Calls Tryz.prog 8 #[] w fun e w'=>e = .returned (vB true) /\ Fr nF_ w w':=by
 refine beg Tryz.func8 rfl rfl [] rfl rfl fun Y hY=>?_;have hM:=Mm.nil nF_ w;refine aLd 1 0 11 [] (K:=fun u w8=>∃ v b,u = .agg #[v] /\ aC0 w8 v (aCZ b)) f0 hM ((aGj _).mono fun e w9 ⟨v,b,h1,h2,h3⟩=>⟨⟨_,h1,v,b,rfl,h2⟩,h3⟩) fun u w9 ⟨v,b,hu,hmO⟩ hM9 f9=>?_;subst hu;have hY:∀ e w',(e = .returned (vB true) /\ Fr nF_ w9 w')->Y e w':=fun e w' h=>hY e w' ⟨h.1,f9.trans h.2⟩;have hTe:=hTe.fr f9;clear hM9 f9;obtain ⟨w,rfl⟩:∃ z:World,z=w9:=⟨_,rfl⟩;have hM:=Mm.nil nF_ w;obtain ⟨p0,cp0,hp0,-⟩:=hmO.1.op;subst hp0;refine aBY 1 1 1 [] [] 24 (.agg #[vL p0 (aCZ b).length cp0]) f0 hM fun aa w1 hM=>seg 2 0 [] f0 ?_;have hM:=hM.nl;refine drx [1,3] (fun Z=>[some (.agg #[vI 1,vS [],vS [],vI 0,vL none 0 0]),some (.tuple #[(tp0 (Z 1)),vI (tp1 (Z 1))])]) _ (fun Z l=>[bk aa #[vL p0 (aCZ b).length cp0] 24,(bif l.getD 1 false then pfE ((rwK ([([110,49],0),([110,50],0),([110,51],0)]:List (Bys×Int))) (tp0 (Z 1)) (tp1 (Z 1))) (Z.e 1) else aEK)]) (fun Z=>[(2,(tp0 (Z 1))),(3,vI (tp1 (Z 1)))]) hM (fun Z=>rfl) (fun Z l w5 hM=>(fc (lam 24 0 0 1 hM rfl) f0)) ⟨aAH 0 1 14 (f:=11) (fun Z=>#[]) (.agg #[vI 1,vS [],vS [],vI 0,vL none 0 0]) (fun Z fr wm hM=>(aDC _)),aH8 1 3 1 16 (f:=12) (fun Z=>#[.agg #[vL p0 (aCZ b).length cp0],.agg #[vI 1,vI 1,vI 1,vS [],vS [],vI 0,vL none 0 0,vS [],vI 0,vI 0,vI 0,vS [],vS [],vI 0]]) (rwK ([([110,49],0),([110,50],0),([110,51],0)]:List (Bys×Int))) (fun Z fr wm hM=>(aWF (hmO.fr hM.fr) (hTe.fr hM.fr))),trivial⟩ fun ab w1 hM=>?_;replace hM:Mm nF_ w w1 [bk aa #[vL p0 (aCZ b).length cp0] 24,pfE ((rwK ([([110,49],0),([110,50],0),([110,51],0)]:List (Bys×Int))) (tp0 (ab 1)) (tp1 (ab 1))) (ab.e 1)]:=hM;obtain ⟨⟨hz9,hge⟩,hM⟩:=hM.unpf (j:=1) rfl;rw [hge] at hM;obtain ⟨vA,hvA⟩:∃ z,z=tp0 (ab 1):=⟨_,rfl⟩;rw [←hvA] at hM;rw [hz9,←hvA];clear hvA hz9 hge;replace hM:Mm nF_ w _ [bk aa #[vL p0 (aCZ b).length cp0] 24,_]:=hM;obtain ⟨qA,cA,e9,-⟩:=(hM.src (j:=1) rfl rwT.len).op;subst e9;refine seg 3 0 [] f0 ?_;have hM:=hM.nl;refine drx [1,3] (fun Z=>[some (.agg #[vI 1,vS [],vS [],vI 0,vL none 0 0]),some (.tuple #[(tp0 (Z 1)),vI (tp1 (Z 1))])]) _ (fun Z l=>[bk aa #[vL p0 (aCZ b).length cp0] 24,rw_ rwL 2 42 (vL qA ([([110,49],0),([110,50],0),([110,51],0)]:List (Bys×Int)).length cA) ([([110,49],0),([110,50],0),([110,51],0)]:List (Bys×Int)),(bif l.getD 1 false then pfE ((rwK ([([110,49],0),([110,50],0)]:List (Bys×Int))) (tp0 (Z 1)) (tp1 (Z 1))) (Z.e 1) else aEK)]) (fun Z=>[(4,(tp0 (Z 1))),(5,vI (tp1 (Z 1)))]) hM (fun Z=>rfl) (fun Z l w5 hM=>(fc (lam 24 0 0 1 hM rfl) f0)) ⟨aAH 0 1 21 (f:=11) (fun Z=>#[]) (.agg #[vI 1,vS [],vS [],vI 0,vL none 0 0]) (fun Z fr wm hM=>(aDC _)),aH8 1 3 2 23 (f:=12) (fun Z=>#[.agg #[vL p0 (aCZ b).length cp0],.agg #[vI 3,vI 1,vI 1,vS [],vS [],vI 0,vL none 0 0,vS [119,49],vI 5,vI 0,vI 0,vS [],vS [],vI 0]]) (rwK ([([110,49],0),([110,50],0)]:List (Bys×Int))) (fun Z fr wm hM=>(aWE (hmO.fr hM.fr) (hTe.fr hM.fr))),trivial⟩ fun ac w1 hM=>?_;replace hM:Mm nF_ w w1 [bk aa #[vL p0 (aCZ b).length cp0] 24,_,pfE ((rwK ([([110,49],0),([110,50],0)]:List (Bys×Int))) (tp0 (ac 1)) (tp1 (ac 1))) (ac.e 1)]:=hM;obtain ⟨⟨hz9,hge⟩,hM⟩:=hM.unpf (j:=2) rfl;rw [hge] at hM;obtain ⟨vB,hvB⟩:∃ z,z=tp0 (ac 1):=⟨_,rfl⟩;rw [←hvB] at hM;rw [hz9,←hvB];clear hvB hz9 hge;replace hM:Mm nF_ w _ [bk aa #[vL p0 (aCZ b).length cp0] 24,_,_]:=hM;obtain ⟨qB,cB,e9,-⟩:=(hM.src (j:=2) rfl rwT.len).op;subst e9;refine seg 4 0 [] f0 ?_;have hM:=hM.nl;refine drx [1,4] (fun Z=>[some (.agg #[vI 1,vS [],vS [],vI 0,vL none 0 0]),some (.tuple #[(tp0 (Z 1)),vI (tp1 (Z 1))])]) _ (fun Z l=>[bk aa #[vL p0 (aCZ b).length cp0] 24,rw_ rwL 2 42 (vL qA ([([110,49],0),([110,50],0),([110,51],0)]:List (Bys×Int)).length cA) ([([110,49],0),([110,50],0),([110,51],0)]:List (Bys×Int)),rw_ rwL 2 42 (vL qB ([([110,49],0),([110,50],0)]:List (Bys×Int)).length cB) ([([110,49],0),([110,50],0)]:List (Bys×Int)),(bif l.getD 1 false then pfE ((rwK ([([110,51],1),([110,50],9)]:List (Bys×Int))) (tp0 (Z 1)) (tp1 (Z 1))) (Z.e 1) else aEK)]) (fun Z=>[(6,(tp0 (Z 1))),(7,vI (tp1 (Z 1)))]) hM (fun Z=>rfl) (fun Z l w5 hM=>(fc (lam 24 0 0 1 hM rfl) f0)) ⟨aAH 0 1 28 (f:=11) (fun Z=>#[]) (.agg #[vI 1,vS [],vS [],vI 0,vL none 0 0]) (fun Z fr wm hM=>(aDC _)),aH8 1 4 3 31 (f:=12) (fun Z=>#[.agg #[vL p0 (aCZ b).length cp0],.agg #[vI 4,vI 0,vI 1,vS [],vS [],vI 0,vL none 0 0,vS [],vI 2,vI 9,vI 8,vS [],vS [],vI 0]]) (rwK ([([110,51],1),([110,50],9)]:List (Bys×Int))) (fun Z fr wm hM=>(aWD (hmO.fr hM.fr) (hTe.fr hM.fr))),trivial⟩ fun ad w1 hM=>?_;replace hM:Mm nF_ w w1 [bk aa #[vL p0 (aCZ b).length cp0] 24,_,_,pfE ((rwK ([([110,51],1),([110,50],9)]:List (Bys×Int))) (tp0 (ad 1)) (tp1 (ad 1))) (ad.e 1)]:=hM;obtain ⟨⟨hz9,hge⟩,hM⟩:=hM.unpf (j:=3) rfl;rw [hge] at hM;obtain ⟨vC,hvC⟩:∃ z,z=tp0 (ad 1):=⟨_,rfl⟩;rw [←hvC] at hM;rw [hz9,←hvC];clear hvC hz9 hge;replace hM:Mm nF_ w _ [bk aa #[vL p0 (aCZ b).length cp0] 24,_,_,_]:=hM;obtain ⟨qC,cC,e9,-⟩:=(hM.src (j:=3) rfl rwT.len).op;subst e9;refine seg 5 0 [] f0 ?_;have hM:=hM.nl;refine drx [1,3] (fun Z=>[some (.agg #[vI 1,vS [],vS [],vI 0,vL none 0 0]),some (.tuple #[(tp0 (Z 1)),vI (tp1 (Z 1))])]) _ (fun Z l=>[bk aa #[vL p0 (aCZ b).length cp0] 24,rw_ rwL 2 42 (vL qA ([([110,49],0),([110,50],0),([110,51],0)]:List (Bys×Int)).length cA) ([([110,49],0),([110,50],0),([110,51],0)]:List (Bys×Int)),rw_ rwL 2 42 (vL qB ([([110,49],0),([110,50],0)]:List (Bys×Int)).length cB) ([([110,49],0),([110,50],0)]:List (Bys×Int)),rw_ rwL 2 42 (vL qC ([([110,51],1),([110,50],9)]:List (Bys×Int)).length cC) ([([110,51],1),([110,50],9)]:List (Bys×Int)),(bif l.getD 1 false then pfE ((fun u z e=>z=13 /\ e=rw_ rwL 2 42 u []) (tp0 (Z 1)) (tp1 (Z 1))) (Z.e 1) else aEK)]) (fun Z=>[(9,vI (tp1 (Z 1)))]) hM (fun Z=>rfl) (fun Z l w5 hM=>(fc (lam 24 0 0 1 hM rfl) f0)) ⟨aAH 0 1 36 (f:=11) (fun Z=>#[]) (.agg #[vI 1,vS [],vS [],vI 0,vL none 0 0]) (fun Z fr wm hM=>(aDC _)),aH8 1 3 4 38 (f:=12) (fun Z=>#[.agg #[vL p0 (aCZ b).length cp0],.agg #[vI 2,vI 0,vI 1,vS [],vS [],vI 0,vL none 0 0,vS [119,49],vI 0,vI 0,vI 0,vS [],vS [],vI 0]]) (fun u z e=>z=13 /\ e=rw_ rwL 2 42 u []) (fun Z fr wm hM=>(aWC (hmO.fr hM.fr) (hTe.fr hM.fr))),trivial⟩ fun ae w1 hM=>?_;replace hM:Mm nF_ w w1 [bk aa #[vL p0 (aCZ b).length cp0] 24,_,_,_,pfE ((fun u z e=>z=13 /\ e=rw_ rwL 2 42 u []) (tp0 (ae 1)) (tp1 (ae 1))) (ae.e 1)]:=hM;obtain ⟨⟨hz9,hge⟩,hM⟩:=hM.unpf (j:=4) rfl;rw [hge] at hM;obtain ⟨vD,hvD⟩:∃ z,z=tp0 (ae 1):=⟨_,rfl⟩;rw [←hvD] at hM;rw [hz9];clear hvD hz9 hge;replace hM:Mm nF_ w _ [bk aa #[vL p0 (aCZ b).length cp0] 24,_,_,_,_]:=hM;obtain ⟨qD,cD,e9,-⟩:=(hM.src (j:=4) rfl rwT.len).op;subst e9;refine aAu 6 7 48 [(43,vB true),(44,vL qA ([([110,49],0),([110,50],0),([110,51],0)]:List (Bys×Int)).length cA),(45,.agg #[vS [110,49],vI 0]),(46,.agg #[vS [110,50],vI 0]),(47,.agg #[vS [110,51],vI 0])] (cs:=#[vS [110,49],vI 0,vS [110,50],vI 0,vS [110,51],vI 0]) (T:=42) (v:=fun b=>vL (some ⟨b,0,none⟩) 3 3) f0 hM fun af w1 hM=>aAx 6 8 49 [] f0 hM (aEx (A:=([([110,49],0),([110,50],0),([110,51],0)]:List (Bys×Int))) (B:=([([110,49],0),([110,50],0),([110,51],0)]:List (Bys×Int))) (((hM.src (j:=1) rfl rwT.len).p).2) (aBH (f:=rwL) (c:=2) (hM.get 5 rfl) ([([110,49],0),([110,50],0),([110,51],0)]:List (Bys×Int)) 3 (fun _=>rfl) rfl rfl) (by kernel_rfl)) fun w1 hM=>aAu 6 18 59 [(55,vB true),(56,vL qB ([([110,49],0),([110,50],0)]:List (Bys×Int)).length cB),(57,.agg #[vS [110,49],vI 0]),(58,.agg #[vS [110,50],vI 0])] (cs:=#[vS [110,49],vI 0,vS [110,50],vI 0]) (T:=42) (v:=fun b=>vL (some ⟨b,0,none⟩) 2 2) f0 hM fun ag w1 hM=>aAx 6 19 60 [] f0 hM (aEx (A:=([([110,49],0),([110,50],0)]:List (Bys×Int))) (B:=([([110,49],0),([110,50],0)]:List (Bys×Int))) (((hM.src (j:=2) rfl rwT.len).p).2) (aBH (f:=rwL) (c:=2) (hM.get 6 rfl) ([([110,49],0),([110,50],0)]:List (Bys×Int)) 2 (fun _=>rfl) rfl rfl) (by kernel_rfl)) fun w1 hM=>aAu 7 9 71 [(67,vB true),(68,vL qC ([([110,51],1),([110,50],9)]:List (Bys×Int)).length cC),(69,.agg #[vS [110,51],vI 1]),(70,.agg #[vS [110,50],vI 9])] (cs:=#[vS [110,51],vI 1,vS [110,50],vI 9]) (T:=42) (v:=fun b=>vL (some ⟨b,0,none⟩) 2 2) f0 hM fun ah w1 hM=>aAx 7 10 72 [] f0 hM (aEx (A:=([([110,51],1),([110,50],9)]:List (Bys×Int))) (B:=([([110,51],1),([110,50],9)]:List (Bys×Int))) (((hM.src (j:=3) rfl rwT.len).p).2) (aBH (f:=rwL) (c:=2) (hM.get 7 rfl) ([([110,51],1),([110,50],9)]:List (Bys×Int)) 2 (fun _=>rfl) rfl rfl) (by kernel_rfl)) fun w1 hM=>rt1 0 (vB true) rfl f0 (hY _ _ ⟨rfl,hM.fr⟩)
def aDo (o:Ob) (i:Int):Int:=bif (o.kind==4)||((o.kind==5) && !(i==1)) then 2 else 1
section
variable {l:List ObR}{S:Ob->Bool}{o:Ob}{i:Nat}{y:Bys}
end
theorem aD3 {α:Type}(k:α->Bys) (v:α->Value):∀ (T:List α) (m:Value->Option Value) (id:Bys),(∀ s∈T,k s≠id)->(T.foldl (fun m s=>upd m (vS (k s)) (v s)) m) (vS id)=m (vS id)
 | [],_,_,_=>rfl
 | s::S,m,id,h=>by
  rw [List.foldl_cons,aD3 k v S _ id fun t ht=>h t (.tail _ ht)];exact aDV m fun e=>h s (.head _) (aM7 e).symm
theorem aE5 {α:Type}(k:α->Bys) (v:α->Value) {s:α}:∀ (T:List α) (m:Value->Option Value),(T.map k).Nodup->s∈T->(T.foldl (fun m s=>upd m (vS (k s)) (v s)) m) (vS (k s))=some (v s)
 | t::S,m,hp,hs=>by
  rw [List.map_cons] at hp;obtain ⟨h1,h2⟩:=List.nodup_cons.1 hp;rw [List.foldl_cons];rcases List.mem_cons.1 hs with rfl | hs
  ·rw [aD3 k v S _ _ fun t ht e=>h1 (List.mem_map.2 ⟨t,ht,e⟩)];exact aGL _ _ _
  ·exact aE5 k v S _ h2 hs
noncomputable def objF (T:List ObR):Value->Option Value:=T.foldl (fun m b=>upd m (vS b.o.id) (vA (obL b))) fun _=>none
theorem aNB (T:List ObR) (b:ObR):objF (T++[b])=upd (objF T) (vS b.o.id) (vA (obL b)):=by unfold objF;rw [List.foldl_append];rfl
def obF (os:List ObR) (id:Bys):Option ObR:=os.find? fun b=>b.o.id==id
theorem aLI {os:List ObR}(hp:(aAa os).Pairwise fun x y=>blt x.id y.id=true):(os.map (·.o.id)).Nodup:=by
 unfold aAa at hp;unfold List.Nodup;rw [List.pairwise_map] at hp ⊢;exact hp.imp fun {a b} h e=>by rw [e,aAz] at h;cases h
theorem aUV {os:List ObR}(hp:(os.map (·.o.id)).Nodup) {a b:ObR}(ha:a∈os) (hb:b∈os) (e:a.o.id=b.o.id):a=b:=by
 induction os with
 | nil=>cases ha
 | cons c T ih =>
  rw [List.map_cons] at hp;obtain ⟨h1,h2⟩:=List.nodup_cons.1 hp;rcases List.mem_cons.1 ha with ea | ha9<;>rcases List.mem_cons.1 hb with eb | hb9
  ·rw [ea,eb]
  ·exact absurd (List.mem_map.2 ⟨b,hb9,by rw [←e,ea]⟩) h1
  ·exact absurd (List.mem_map.2 ⟨a,ha9,by rw [e,eb]⟩) h1
  ·exact ih h2 ha9 hb9
theorem aEy {os:List ObR}{id:Bys}{b:ObR}(h:obF os id=some b):b∈os /\ b.o.id=id:=by
 unfold obF at h;exact ⟨List.mem_of_find?_eq_some h,by have:=List.find?_some h;simpa using this⟩
theorem aND {os:List ObR}(hp:(os.map (·.o.id)).Nodup) {b:ObR}(hb:b∈os):obF os b.o.id=some b:=by
 unfold obF
 cases h:os.find? fun c=>c.o.id==b.o.id with
 | none=>exact absurd (List.find?_eq_none.1 h b hb) (by simp)
 | some c=>have:=aEy (os:=os) h;rw [aUV hp this.1 hb this.2]
theorem aQu {os:List ObR}{id:Bys}(h:obF os id=none):∀ b∈os,b.o.id≠id:=fun b hb e=>absurd (List.find?_eq_none.1 h b hb) (by simp [e])
theorem aNC {os:List ObR}(hp:(os.map (·.o.id)).Nodup) (id:Bys):objF os (vS id)=(obF os id).map fun b=>vA (obL b):=by
 cases h:obF os id with
 | none=>exact aD3 (fun b:ObR=>b.o.id) _ os _ id (aQu h)
 | some b =>
  obtain ⟨h1,rfl⟩:=aEy h;exact aE5 (fun b:ObR=>b.o.id) (fun b=>vA (obL b)) os _ hp h1
structure RgR where
 id:Bys
 L:List Pt
 p:Option Addr
 c:Nat
def rgE (r:RgR):Ent:=rw_ ptL 2 29 (vL r.p r.L.length r.c) r.L
noncomputable def rgF (R:List RgR):Value->Option Value:=R.foldl (fun m r=>upd m (vS r.id) (vL r.p r.L.length r.c)) fun _=>none
theorem aQd (R:List RgR) (r:RgR):rgF (R++[r])=upd (rgF R) (vS r.id) (vL r.p r.L.length r.c):=by unfold rgF;rw [List.foldl_append];rfl
def ndA (os:List ObR) (r:Bys):Option Pt:=match obF os r with
 | some x=>bif x.o.kind==1 then some (x.o.x,x.o.y) else none
 | none=>none
def rgL (os:List ObR) (b:ObR):List Pt:=b.o.refs.map fun r=>(ndA os r).getD (0,0)
def aBe (os:List ObR) (b:ObR):Option (List Pt):=bif (b.o.kind==3)&&(b.o.refs.all fun r=>(ndA os r).isSome)&&aDR (rgL os b) then some (rgL os b) else none
def aPq (os T:List ObR) (R:List RgR):Prop:=R.map (fun r=>(r.id,r.L))=T.filterMap fun b=>(aBe os b).map fun L=>(b.o.id,L)
theorem aHb {os:List ObR}{R:List RgR}{i:Nat}{y:ObR}(h:aPq os (os.take i) R) (hy:os[i]?=some y) (hr:aBe os y=none):aPq os (os.take (i+1)) R:=by
 unfold aPq at h ⊢;rw [gt_ hy,List.filterMap_append,←h];simp [hr]
theorem aQc {os:List ObR}{R:List RgR}{i:Nat}{y:ObR}(h:aPq os (os.take i) R) (hy:os[i]?=some y) {r:RgR}(hr:aBe os y=some r.L) (hi:r.id=y.o.id):aPq os (os.take (i+1)) (R++[r]):=by
 unfold aPq at h ⊢;rw [gt_ hy,List.filterMap_append,←h];simp [hr,hi]
theorem aS6 {os:List ObR}{y:ObR}(h:(y.o.kind==3)=false):aBe os y=none:=by unfold aBe;rw [h];rfl
theorem aNp {os:List ObR}{y:ObR}{k:Nat}{r:Bys}(hr:y.o.refs[k]?=some r) (h:ndA os r=none):aBe os y=none:=by
 unfold aBe
 have:(y.o.refs.all fun r=>(ndA os r).isSome)=false:=by
  rw [List.all_eq_false];exact ⟨r,Ge_ hr,by rw [h];simp⟩
 rw [this,Bool.and_false];rfl
theorem aQb {os:List ObR}{y:ObR}(h:aDR (rgL os y)=false):aBe os y=none:=by unfold aBe;rw [h,Bool.and_false];rfl
theorem aQa {os:List ObR}{y:ObR}(h3:(y.o.kind==3)=true) (hn:∀ r∈y.o.refs,(ndA os r).isSome=true) (h:aDR (rgL os y)=true):aBe os y=some (rgL os y):=by
 unfold aBe;rw [h3,h,List.all_eq_true.2 hn];rfl
theorem aUY {os:List ObR}(hp:(aAa os).Pairwise fun x y=>blt x.id y.id=true) (r:Bys):aCB (aAa os) r=ndA os r:=by
 unfold aCB ndA
 by_cases hf:aAv (aAa os) r<0
 ·cases h:obF os r with
  | none=>cases (aAa os)[(aAv (aAa os) r).toNat]?<;>simp [hf]
  | some b =>
   obtain ⟨h1,rfl⟩:=aEy h;exact absurd hf (aCI hp (List.mem_map.2 ⟨b,h1,rfl⟩)).1
 ·obtain ⟨k,o,h1,h2,h3⟩:=aBC hf;obtain ⟨z,hz⟩:=geb (l:=os) (i:=k) (by rw [←aAQ];exact gl h2);have hzo:z.o=o:=by have:=aAF hz;rw [h2] at this;exact (Gh_ this).symm
  have e:=aND (aLI hp) (gm hz);rw [show z.o.id=r by rw [hzo,h3]] at e;rw [h1,Int.toNat_natCast,h2,e,decide_eq_false (by omega),←hzo];show (bif false || !(z.o.kind==1) then none else some (z.o.x,z.o.y))=(bif z.o.kind==1 then some (z.o.x,z.o.y) else none);cases (z.o.kind==1)<;>rfl
def ndG (os:List ObR) (f:ObR->List (Pt×Bool)) (o:Ob):List Bys->Nat->List (Pt×Bool)
 | [],_=>[]
 | r::rs,i=>match obF os r with
  | some x=>bif x.o.kind==aDo o (i:Int) then f x++ndG os f o rs (i+1) else [((0,0),false)]
  | none=>[((0,0),false)]
def ndN (os:List ObR):Nat->ObR->List (Pt×Bool)
 | 0,_=>[]
 | d+1,b=>bif b.o.kind==1 then [((b.o.x,b.o.y),true)] else ndG os (ndN os d) b.o b.o.refs 0
def ndP (os:List ObR) (b:ObR):List (Pt×Bool):=ndN os 3 b
def npB (z:Pt×Bool):Array Value:=#[.agg #[vI z.1.1,vI z.1.2],vB z.2]
def npV (L:List (Pt×Bool)):List (Array Value):=L.map npB
def aKr (r:List Pt) (z:Pt×Bool):Bool:=z.2 && !decide (aES r z.1<0)
def inP (os:List ObR) (id area:Bys):Bool:=match obF os id,(obF os area).bind (aBe os) with
 | some o,some r=>(ndP os o).all (aKr r)
 | _,_=>false
theorem aQJ {os:List ObR}{id:Bys}{b:ObR}(hb:obF os b.o.id=some b) (h:aBe os b=none):inP os id b.o.id=false:=by
 unfold inP;rw [hb,Option.bind_some,h];cases obF os id<;>rfl
theorem aRz {os:List ObR}(hp:(os.map (·.o.id)).Nodup) {R:List RgR}(hR:aPq os os R) (id:Bys):(match (obF os id).bind (aBe os) with
  | some L=>∃ r∈R,r.L=L /\ rgF R (vS id)=some (vL r.p r.L.length r.c)
  | none=>rgF R (vS id)=none):=by
 have hids:(R.map (·.id)).Sublist (os.map (·.o.id)):=by
  have e:R.map (·.id)=(os.filterMap fun b=>(aBe os b).map fun L=>(b.o.id,L)).map (·.1):=by rw [←hR,List.map_map];rfl
  rw [e]
  have key:∀ T:List ObR,((T.filterMap fun b=>(aBe os b).map fun L=>(b.o.id,L)).map (·.1)).Sublist (T.map (·.o.id)):=by
   intro T
   induction T with
   | nil=>exact .slnil
   | cons c T ih =>
    rw [List.filterMap_cons,List.map_cons]
    cases aBe os c with
    | none=>exact ih.cons _
    | some L=>exact ih.cons_cons _
  exact key os
 have hnd:=hids.nodup hp
 have hmem:∀ {i:Bys}{L:List Pt},(∃ r∈R,r.id=i /\ r.L=L)↔∃ b∈os,aBe os b=some L /\ b.o.id=i:=fun {i L}=>by
  have h1:(∃ r∈R,r.id=i /\ r.L=L)↔(i,L)∈R.map fun r=>(r.id,r.L):=by
   rw [List.mem_map];constructor
   ·rintro ⟨r,h,rfl,rfl⟩;exact ⟨r,h,rfl⟩
   ·rintro ⟨r,h,e⟩;injection e with e1 e2;exact ⟨r,h,e1,e2⟩
  rw [h1,hR,List.mem_filterMap];constructor
  ·rintro ⟨b,hb,e⟩;obtain ⟨L',h2,e⟩:=Option.map_eq_some_iff.1 e
   injection e with e1 e2;subst e1;subst e2
   exact ⟨b,hb,h2,rfl⟩
  ·rintro ⟨b,hb,h2,rfl⟩;exact ⟨b,hb,by rw [h2];rfl⟩
 cases ho:(obF os id).bind (aBe os) with
 | some L =>
  obtain ⟨b,hb,hL⟩:=Option.bind_eq_some_iff.1 ho;obtain ⟨h1,h2⟩:=aEy hb;obtain ⟨r,hr,e1,e2⟩:=hmem.2 ⟨b,h1,hL,h2⟩;subst e1;exact ⟨r,hr,e2,aE5 (fun r:RgR=>r.id) (fun r=>vL r.p r.L.length r.c) R _ hnd hr⟩
 | none =>
  refine aD3 (fun r:RgR=>r.id) _ R _ id fun r hr e=>?_;obtain ⟨b,hb,h1,h2⟩:=hmem.1 ⟨r,hr,e,rfl⟩;have:=aND hp hb;rw [h2] at this;rw [this,Option.bind_some,h1] at ho;cases ho
def aDS (h:Nat) (q:QdR) (os:List ObR) (area:Bys):List (Bys×Int):=(aHB h q os).filter fun x => !((x.1==area) || !(inP os x.1 area))
def aPs (h:Nat) (q:QdR) (os:List ObR):List (Bys×Int):=os.filterMap fun b=>bif (aAP b.o.tags q.key).2&&(b.o.kind==3)&&(aBe os b).isSome then some (b.o.id,((aDS h q os b.o.id).length:Int)) else none
def obC (b:ObR):Array Value:=(oY_ b)
def aKa (M:List Ent) (W:World):Prop:=Mm (BlM M) W W M
theorem aKa.fr {M:List Ent}{W W':World}{G:Nat->Prop}(h:aKa M W) (f:Fr G W W') (ha:∀ k,BlM M k->¬ G k):aKa M W':=⟨Fr.refl _ _,fun e he=>e.fr (h.at_ e he) f fun k hk hg=>ha k ⟨e,he,hk⟩ hg,fun e he k hk _=>⟨e,he,hk⟩,h.nd⟩
theorem aKa.lt {M:List Ent}{W:World}(h:aKa M W) {k:Nat}(hk:BlM M k):k<W.heap.size:=by
  obtain ⟨e,he,hb⟩:=hk;exact e.lt (h.at_ e he) hb
theorem aKa.app {A B:List Ent}{W:World}(ha:aKa A W) (hb:aKa B W) (hd:∀ k,BlM A k->¬ BlM B k):aKa (A++B) W:=⟨Fr.refl _ _,fun e he=>(List.mem_append.1 he).elim (ha.at_ e) (hb.at_ e),fun e he k hk _=>⟨e,he,hk⟩,List.pairwise_append.2 ⟨ha.nd,hb.nd,fun x hx y hy k h1 h2=>hd k ⟨x,hx,h1⟩ ⟨y,hy,h2⟩⟩⟩
theorem aKa.sub {M M':List Ent}{W:World}(h:aKa M W) (hs:M'.Sublist M):aKa M' W:=Mm.re (Mm.sub h hs) fun e he k hk=>⟨e,he,hk⟩
theorem BlM.app {A B:List Ent}{k:Nat}(h:BlM (A++B) k):BlM A k∨BlM B k:=by
  obtain ⟨e,he,hb⟩:=h;exact (List.mem_append.1 he).imp (⟨e,·,hb⟩) (⟨e,·,hb⟩)
theorem aXB {F:Nat->Prop}{N:Nat}{w0 w:World}{M M1:List Ent}(h:∀ k,BlM M k->F k∨N<=k) (hN:N<=w0.heap.size) (hM:Mm (BlM M) w0 w M1):∀ k,BlM M1 k->F k∨N<=k:=fun k ⟨e,he,hb⟩=>by
  rcases Nat.lt_or_ge k w0.heap.size with h1 | h1
  · exact h k (hM.own e he k hb h1)
  · exact .inr (Gn_ hN h1)
theorem aKk {F:Nat->Prop}{w0 w:World}{M:List Ent}(hM:Mm F w0 w M):∀ k,BlM M k->F k∨w0.heap.size<=k:=fun k ⟨e,he,hb⟩=>by
  rcases Nat.lt_or_ge k w0.heap.size with h1 | h1
  · exact .inl (hM.own e he k hb h1)
  · exact .inr h1
noncomputable def mpRd (os:List ObR) (pb mo no:Nat) (rv bv:Value):List Ent:=[bk pb #[rv,.map (some mo),bv] 225,mp Tryz.prog 9 mo no (objF os)]
def aLc (pb cb cpp:Nat) (b:ObR):List Ent:=[bk cb (obC b) 48,bk cpp #[vP pb 0] 219]
structure NdK (os:List ObR) (pb mo no:Nat) (rv bv:Value) (cb cpp:Nat) (b:ObR) (G:Nat->Prop) (W:World):Prop where
  rd:aKa (aLc pb cb cpp b++mpRd os pb mo no rv bv) W
  ap:∀ k,BlM (aLc pb cb cpp b++mpRd os pb mo no rv bv) k->¬ G k
  ob:∃ w0,(∀ z∈os,ObIn w0 z) /\ Fr nF_ w0 W /\ ∀ k,G k->w0.heap.size<=k
theorem NdK.inn {os:List ObR}{pb mo no:Nat}{rv bv:Value}{cb cpp cb' cpp':Nat}{b z:ObR}{G:Nat->Prop}{W w w1:World}{M:List Ent}(h:NdK os pb mo no rv bv cb cpp b G W) (hM:Mm G W w M) (c:Mm nF_ w w1 (aLc pb cb' cpp' z)):∀ (G':Nat->Prop) W',(∀ k,G' k->BlM M k∨w1.heap.size<=k)->Fr nF_ w1 W'->NdK os pb mo no rv bv cb' cpp' z G' W':=fun G' W' hG f=>by
  have hr:aKa (mpRd os pb mo no rv bv) w:=(h.rd.sub (List.sublist_append_right _ _)).fr hM.fr fun k hk=>h.ap k (by obtain ⟨e,he,hb⟩:=hk;exact ⟨e,List.mem_append_right _ he,hb⟩);have hr1:aKa (mpRd os pb mo no rv bv) w1:=hr.fr c.fr fun _ _ h=>h;have hc1:aKa (aLc pb cb' cpp' z) w1:=c.re fun e he k hk=>⟨e,he,hk⟩;have hge:∀ k,BlM (aLc pb cb' cpp' z) k->w.heap.size<=k:=fun k ⟨e,he,hb⟩=>c.ge he hb
  have hd:∀ k,BlM (aLc pb cb' cpp' z) k->¬ BlM (mpRd os pb mo no rv bv) k:=fun k h1 h2=>by
    have:=hge k h1;have:=hr.lt h2;omega
  refine ⟨(hc1.app hr1 hd).fr f fun _ _ h=>h,fun k hk hg=>?_,?_⟩
  · have hlt:=(hc1.app hr1 hd).lt hk
    rcases hG k hg with h1 | h1
    · rcases BlM.app hk with h2 | h2
      · have:=hge k h2
        obtain ⟨e,he,hb⟩:=h1;have:=e.lt (hM.at_ e he) hb;omega
      · rcases aKk hM k h1 with h3 | h3
        · exact h.ap k (by obtain ⟨e,he,hb⟩:=h2;exact ⟨e,List.mem_append_right _ he,hb⟩) h3
        · have:=(h.rd.sub (List.sublist_append_right _ _)).lt h2;omega
    · omega
  · obtain ⟨w0,h1,h2,h3⟩:=h.ob
    have hf:Fr nF_ w0 w:=h2.trans' hM.fr fun r hr hg=>absurd hr (by have:=h3 r hg;omega);refine ⟨w0,h1,(hf.trans c.fr).trans f,fun k hk=>?_⟩;rcases hG k hk with h4 | h4
    · rcases aKk hM k h4 with h5 | h5
      · exact h3 k h5
      · exact Gn_ h2.size h5
    · exact Gn_ (hf.trans c.fr).size h4
theorem NdK.src {os:List ObR}{pb mo no:Nat}{rv bv:Value}{cb cpp:Nat}{b:ObR}{G:Nat->Prop}{W:World}(h:NdK os pb mo no rv bv cb cpp b G W) (hb:b∈os):∃ B,SrcB stL 1 W B b.pr b.cr b.o.refs /\ ∀ k,G k->B<=k:=by
  obtain ⟨w0,h1,h2,h3⟩:=h.ob;exact ⟨_,(h1 b hb).refs.b h2,h3⟩
theorem NdK.bnd {os:List ObR}{pb mo no:Nat}{rv bv:Value}{cb cpp:Nat}{b:ObR}{G:Nat->Prop}{W:World}(h:NdK os pb mo no rv bv cb cpp b G W) {z:ObR}(hz:z∈os):ObB z.o:=by
  obtain ⟨w0,h1,-⟩:=h.ob;exact (h1 z hz).bnd
theorem aNI {V A C:List (Pt×Bool)}(h:V=A++C) {j:Nat}{z:Pt×Bool}(hz:C[j]?=some z):(npV V)[A.length+j]?=some (npB z):=by
  unfold npV;rw [Gq_,h,List.getElem?_append_right (Nat.le_add_right _ _),Nat.add_sub_cancel_left,hz];rfl
theorem aE0 (V:List (Pt×Bool)):(npV V).length=V.length:=Go_ _
theorem aSL {V A C D:List (Pt×Bool)}(h:V=A++(C++D)) {j:Nat}{z:Pt×Bool}(hz:C[j]?=some z):(npV V)[A.length+j]?=some (npB z):=aNI h (by rw [List.getElem?_append_left (gl hz)];exact hz)
section
variable {os:List ObR}{f:ObR->List (Pt×Bool)}{o:Ob}{V A:List (Pt×Bool)}{i:Nat}{y:Bys}
theorem aSU {z:ObR}(h:V=A++ndG os f o (o.refs.drop i) i) (hy:o.refs[i]?=some y) (ho:obF os y=some z) (hk:(z.o.kind==aDo o (i:Int))=true):V=A++(f z++ndG os f o (o.refs.drop (i+1)) (i+1)):=by
  rw [h,List.drop_eq_getElem_cons (gl hy),(List.getElem?_eq_some_iff.1 hy).2];show A++(match obF os y with | some x=>bif x.o.kind==aDo o (i:Int) then f x++ndG os f o (o.refs.drop (i+1)) (i+1) else [((0,0),false)] | none=>[((0,0),false)])=_;rw [ho];simp only [hk,cond_true]
theorem aUX {z:ObR}(h:V=A++ndG os f o (o.refs.drop i) i) (hy:o.refs[i]?=some y) (ho:obF os y=some z) (hk:(z.o.kind==aDo o (i:Int))=false):V=A++[((0,0),false)]:=by
  rw [h,List.drop_eq_getElem_cons (gl hy),(List.getElem?_eq_some_iff.1 hy).2];show A++(match obF os y with | some x=>bif x.o.kind==aDo o (i:Int) then f x++ndG os f o (o.refs.drop (i+1)) (i+1) else [((0,0),false)] | none=>[((0,0),false)])=_;rw [ho];simp only [hk,cond_false]
theorem aQz (h:V=A++ndG os f o (o.refs.drop i) i) (hy:o.refs[i]?=some y) (ho:obF os y=none):V=A++[((0,0),false)]:=by
  rw [h,List.drop_eq_getElem_cons (gl hy),(List.getElem?_eq_some_iff.1 hy).2];show A++(match obF os y with | some x=>bif x.o.kind==aDo o (i:Int) then f x++ndG os f o (o.refs.drop (i+1)) (i+1) else [((0,0),false)] | none=>[((0,0),false)])=_;rw [ho]
theorem aSV (h:V=A++ndG os f o (o.refs.drop i) i) (hi:o.refs.length<=i):V=A:=by
  rw [h,List.drop_eq_nil_of_le hi];exact List.append_nil A
end
theorem look_none {os:List ObR}(hp:(os.map (·.o.id)).Nodup) {id:Bys}(h:obF os id=none) (z:Value):(Value.tuple #[((objF os) (vS id)).getD z,.bool ((objF os) (vS id)).isSome]) = .tuple #[z,.bool false]:=by rw [aNC hp,h];rfl
theorem aFH {os:List ObR}(hp:(os.map (·.o.id)).Nodup) {id:Bys}{b:ObR}(h:obF os id=some b) (z:Value):(Value.tuple #[((objF os) (vS id)).getD z,.bool ((objF os) (vS id)).isSome]) = .tuple #[vA (obL b),.bool true]:=by rw [aNC hp,h];rfl
theorem aGn (w:World):(zeroValue 48).run Tryz.prog w = .ok (.agg #[vS [],vI 0,vI 0,vI 0,vL none 0 0,vL none 0 0]) w:=by kernel_rfl
theorem aJ2 {w:World}(b:ObR) (i:Int):Calls Tryz.prog 191 #[vA (obL b),vI i] w fun e w'=>e = .returned (vI (aDo b.o i)) /\ Fr nF_ w w':=by
  refine beg Tryz.func191 rfl rfl [(0,.agg (oY_ b)),(1,vI i)] rfl rfl fun Z hZ=>?_;have hM:=Mm.nil nF_ w;refine aAu 0 0 2 [] (cs:=(oY_ b)) (T:=48) (v:=fun b=>vP b 0) f0 hM fun ad w1 hM=>seg 1 4 [(8,vB (b.o.kind==4))] (fc (ldm 3 0 1 hM rfl rfl) f0) ?_;cases aa:(b.o.kind==4)
  rotate_left
  ·exact rt1 4 (vI 2) rfl f0 (hZ _ _ ⟨by unfold aDo;simp only [aa]<;>rfl,hM.fr⟩)
  refine seg 1 8 [(12,vB (b.o.kind==5))] (fc (ldm 3 0 1 hM rfl rfl) f0) ?_;cases ab:(b.o.kind==5)
  ·exact rt1 4 (vI 1) rfl f0 (hZ _ _ ⟨by unfold aDo;simp only [aa,ab]<;>rfl,hM.fr⟩)
  refine seg 1 12 [(16,vB (!(i==1)))] f0 ?_;cases ac:(i==1)
  ·exact rt1 4 (vI 2) rfl f0 (hZ _ _ ⟨by unfold aDo;simp only [aa,ab,ac]<;>rfl,hM.fr⟩)
  exact rt1 4 (vI 1) rfl f0 (hZ _ _ ⟨by unfold aDo;simp only [aa,ab,ac]<;>rfl,hM.fr⟩)
theorem aIi (pb:Nat) (b:ObR) (w:World):Calls Tryz.prog 146 #[vP pb 0,vA (obL b)] w fun e w'=>∃ cb cpp,e = .returned (.func (.func 190) #[] #[vP cb 0,vP cpp 0]) /\ Mm nF_ w w' (aLc pb cb cpp b):=by
  refine beg Tryz.func146 rfl rfl [(0,vP pb 0),(1,.agg (oY_ b))] rfl rfl fun Z hZ=>?_;have hM:=Mm.nil nF_ w;refine aAu 0 0 2 [] (cs:=#[vP pb 0]) (T:=219) (v:=fun b=>vP b 0) f0 hM fun aa w1 hM=>aAu 0 1 3 [] (cs:=(oY_ b)) (T:=48) (v:=fun b=>vP b 0) f0 hM fun ab w1 hM=>rt1 4 (.func (.func 190) #[] #[vP ab 0,vP aa 0]) rfl f0 (hZ _ _ ⟨ab,aa,rfl,hM.pick [1,0]⟩)
theorem aHm {os:List ObR}(hp:(os.map (·.o.id)).Nodup) {f:ObR->List (Pt×Bool)}{pb mo no:Nat}{rv bv:Value}{cb cpp:Nat}{b:ObR}(hb:b∈os) (hrec:(b.o.kind==1)=false->∀ (i:Nat) (z:ObR),z∈os->z.o.kind=aDo b.o (i:Int)->∀ cb1 cp1,aPm Tryz.prog 190 #[vP cb1 0,vP cp1 0] (npV (f z)) (NdK os pb mo no rv bv cb1 cp1 z)):aPm Tryz.prog 190 #[vP cb 0,vP cpp 0] (npV (bif b.o.kind==1 then [((b.o.x,b.o.y),true)] else ndG os f b.o b.o.refs 0)) (NdK os pb mo no rv bv cb cpp b):=by
  obtain ⟨V,hV0⟩:∃ V,V=(bif b.o.kind==1 then [((b.o.x,b.o.y),true)] else ndG os f b.o b.o.refs 0):=⟨_,rfl⟩;rw [←hV0];intro l J T w e0 hJ he hKp hround;obtain ⟨B,hs,hG⟩:=hKp.src hb;have bb:=hs.bnd;have hrd:∀ w1,Fr e0.B w w1->aKa (aLc pb cb cpp b++mpRd os pb mo no rv bv) w1:=fun w1 f=>hKp.rd.fr f hKp.ap;refine aWi Tryz.func190 rfl rfl [(0,.func (.yield l) #[] #[]),(1,vP cb 0),(2,vP cpp 0)] rfl rfl fun Z hZ=>?_;have hM:=Mm.one he;refine aAu 0 0 3 [] (cs:=#[.func (.yield l) #[] #[]]) (T:=282) (v:=fun b=>vP b 0) f0 hM fun aa w1 hM=>seg 1 3 [(12,vB (b.o.kind==1))] (fc (ldm 3 0 1 (hrd _ hM.fr) rfl rfl) f0) ?_;cases ab:(b.o.kind==1)
  rotate_left
  ·have hV1:V=[((b.o.x,b.o.y),true)]:=by rw [hV0,ab];rfl
   refine aPv 2 3 16 [(13,.func (.yield l) #[] #[]),(15,.agg #[vI b.o.x,vI b.o.y])] #[29,4] (by decide) (fc (ldm 282 1 0 hM rfl rfl) (fc (lam 29 0 2 2 (hrd _ hM.fr) rfl) f0)) hM (j:=0) rfl (hround 0 _ _ _ hJ (hM.get 0 rfl) hM.fr (fun b9 hb9=>aKk hM b9 ⟨_,.head _,hb9⟩) (by rw [hV1];rfl)) (fun ec w1 hJ hM=>?_) (fun et w1 hT hM=>?_)
   · skip
     exact aJm (Ds:=[]) rfl f0 hM.mark0 (fun w9 hM=>hZ _ _ ⟨⟨_,rfl⟩,.inl ⟨_,by rw [aE0,hV1];exact hJ,hM.get 0 rfl,fun b9 hb9=>aKk hM b9 ⟨_,.head _,hb9⟩,hM.fr⟩⟩)
   · skip
     exact aJm (Ds:=[]) rfl f0 hM.mark0 (fun w9 hM=>hZ _ _ ⟨⟨_,rfl⟩,.inr ⟨_,hT,hM.get 0 rfl,fun b9 hb9=>aKk hM b9 ⟨_,.head _,hb9⟩,hM.fr⟩⟩)
  replace hV0:V=[]++ndG os f b.o (b.o.refs.drop 0) 0:=by rw [hV0,ab];rfl
  have hk1:=ab;have hM:=hM.mark0;refine seg 4 0 [(18,vL b.pr b.o.refs.length b.cr),(19,vI (b.o.refs.length:Int)),(20,vI 0)] (fc (ldm 45 0 4 (hrd _ hM.fr) rfl rfl) f0) ?_
  have af:∀ (ad:Nat) (i:Nat) (ek:Ent) (pre:List (Pt×Bool)) (Ds:List Nat) (w2:World),i<=b.o.refs.length->V=pre++ndG os f b.o (b.o.refs.drop i) i->J pre.length ek->Mm e0.B w w2 [ek,bk aa #[.func (.yield l) #[] #[]] 282,aHn Ds]->ad=b.o.refs.length-i->AtO Tryz.prog (aAw Tryz.f190) (aHH Tryz.prog Tryz.f190 Z) (Ds.map mkD) 58 (some (4,0)) [(20,vI (i:Int)),(19,vI (b.o.refs.length:Int)),(18,vL b.pr b.o.refs.length b.cr),(3,vP aa 0),(1,vP cb 0),(2,vP cpp 0)] w2:=by
   refine aCx fun ad ag i ek pre Ds w2 hi hV hJ hM an=>seg 4 1 [(21,vB (decide ((i:Int)<(b.o.refs.length:Int))))] f0 ?_;cases ae:(decide ((i:Int)<(b.o.refs.length:Int)))
   ·have ah:=df ae;exact aJm rfl f0 (show Mm _ _ _ ([ek,bk aa #[.func (.yield l) #[] #[]] 282]++[aHn Ds]) from hM.pick [0,1,2]) (fun w9 hM=>hZ _ _ ⟨⟨_,rfl⟩,.inl ⟨_,by rw [aE0,aSV hV (by omega)];exact hJ,hM.get 0 rfl,fun b9 hb9=>aKk hM b9 ⟨_,.head _,hb9⟩,hM.fr⟩⟩)
   have ah:=dt ae;obtain ⟨y,hy,ai,aj,ak,al,n304⟩:=hs.eb hG (i:=i) (by omega);refine seg 6 0 [(22,vI (i:Int)),(23,vP ai (aj+i*1)),(24,vS y),(4,vI (i:Int)),(5,vS y)] (fc (ix 45 b.cr ak (gl hy)) (fc (ld0 9 hM (al 0 _ rfl) n304) f0)) ?_
   cases ho:obF os y with
   | none =>
     have hV1:=aQz hV hy ho;refine aBY 6 9 6 [(32,.agg #[vS [],vI 0,vI 0,vI 0,vL none 0 0,vL none 0 0]),(33,vB false)] [] 48 (.agg #[vS [],vI 0,vI 0,vI 0,vL none 0 0,vL none 0 0]) (fc (ldm 219 1 0 (hrd _ hM.fr) rfl rfl) (fc (ldm 223 2 1 (hrd _ hM.fr) rfl rfl) (fc (rz2 (lko 223 3 (vS y) _ (hrd _ hM.fr) rfl aEe u223_ (aEu ((hKp.bnd hb).refs y (gm hy))) (aGn _)) (look_none hp ho _)) f0))) hM fun ao w1 hM=>seg 7 0 [(7,vB false)] f0 (drc [(43,vB true)] hM (fun w5 hM=>f0) fun w5 hM=>aPv 8 2 46 [(44,.func (.yield l) #[] #[]),(45,.agg #[vI 0,vI 0])] #[29,4] (by decide) (fc (ldm 282 1 0 hM rfl rfl) f0) hM (j:=0) rfl (hround pre.length _ _ _ hJ (hM.get 0 rfl) hM.fr (fun b9 hb9=>aKk hM b9 ⟨_,.head _,hb9⟩) (aNI hV1 (j:=0) rfl)) (fun ec w1 hJ hM=>?_) (fun et w1 hT hM=>?_))
     · skip
       exact aJm rfl f0 (show Mm _ _ _ ([ec,bk aa #[.func (.yield l) #[] #[]] 282]++[aHn Ds]) from hM.pick [0,1,2]) (fun w9 hM=>hZ _ _ ⟨⟨_,rfl⟩,.inl ⟨_,by rw [aE0,hV1,Gi_];exact hJ,hM.get 0 rfl,fun b9 hb9=>aKk hM b9 ⟨_,.head _,hb9⟩,hM.fr⟩⟩)
     · skip
       exact aJm rfl f0 (show Mm _ _ _ ([et,bk aa #[.func (.yield l) #[] #[]] 282]++[aHn Ds]) from hM.pick [0,1,2]) (fun w9 hM=>hZ _ _ ⟨⟨_,rfl⟩,.inr ⟨_,hT,hM.get 0 rfl,fun b9 hb9=>aKk hM b9 ⟨_,.head _,hb9⟩,hM.fr⟩⟩)
   | some z =>
     obtain ⟨hz,hzi⟩:=aEy ho;refine aBY 6 9 6 [(32,.agg (oY_ z)),(33,vB true)] [] 48 (.agg (oY_ z)) (fc (ldm 219 1 0 (hrd _ hM.fr) rfl rfl) (fc (ldm 223 2 1 (hrd _ hM.fr) rfl rfl) (fc (rz2 (lko 223 3 (vS y) _ (hrd _ hM.fr) rfl aEe u223_ (aEu ((hKp.bnd hb).refs y (gm hy))) (aGn _)) (aFH hp ho _)) f0))) hM fun aq w1 hM=>seg 7 0 [(7,vB true)] f0 (drc [(43,vB (!(z.o.kind==(aDo b.o (i:Int)))))] hM (fun w5 hM=>(fc (ldm 3 3 1 hM rfl rfl) (fc (lam 48 0 0 6 (hrd _ hM.fr) rfl) (fc (tcl (aJ2 b (i:Int))) f0)))) fun w5 hM=>?_);cases ac:(z.o.kind==(aDo b.o (i:Int)))
     ·have hV1:=aUX hV hy ho ac;refine aPv 8 2 46 [(44,.func (.yield l) #[] #[]),(45,.agg #[vI 0,vI 0])] #[29,4] (by decide) (fc (ldm 282 1 0 hM rfl rfl) f0) hM (j:=0) rfl (hround pre.length _ _ _ hJ (hM.get 0 rfl) hM.fr (fun b9 hb9=>aKk hM b9 ⟨_,.head _,hb9⟩) (aNI hV1 (j:=0) rfl)) (fun ec w1 hJ hM=>?_) (fun et w1 hT hM=>?_)
      · skip
        exact aJm rfl f0 (show Mm _ _ _ ([ec,bk aa #[.func (.yield l) #[] #[]] 282]++[aHn Ds]) from hM.pick [0,1,2]) (fun w9 hM=>hZ _ _ ⟨⟨_,rfl⟩,.inl ⟨_,by rw [aE0,hV1,Gi_];exact hJ,hM.get 0 rfl,fun b9 hb9=>aKk hM b9 ⟨_,.head _,hb9⟩,hM.fr⟩⟩)
      · skip
        exact aJm rfl f0 (show Mm _ _ _ ([et,bk aa #[.func (.yield l) #[] #[]] 282]++[aHn Ds]) from hM.pick [0,1,2]) (fun w9 hM=>hZ _ _ ⟨⟨_,rfl⟩,.inr ⟨_,hT,hM.get 0 rfl,fun b9 hb9=>aKk hM b9 ⟨_,.head _,hb9⟩,hM.fr⟩⟩)
     have hV2:=aSU hV hy ho ac;refine cal 9 2 49 [(47,vP pb 0),(48,.agg (oY_ z))] (K:=fun u w8=>∃ cb1 cp1,u = .func (.func 190) #[] #[vP cb1 0,vP cp1 0] /\ Mm nF_ _ w8 (aLc pb cb1 cp1 z)) (fc (ldm 219 1 0 (hrd _ hM.fr) rfl rfl) (fc (lam 48 3 0 6 hM rfl) f0)) ((aIi pb z _).mono fun e w9 ⟨a1,a2,h1,h2⟩=>⟨_,h1,a1,a2,rfl,h2⟩) fun u w1 ⟨cb1,cp1,hu,hc1⟩=>?_;subst hu;have hin:=NdK.inn hKp hM hc1;have hM:=hM.q hc1.fr;refine seg 1010 0 [] f0 ?_;have hM:=hM.pick [0,1,2];refine aPY 10 (g := .tmp 49) (ps:=#[50,51]) (vs:=npV (f z)) (fun j Mk=>∃ ej,Mk=[ej,bk aa #[.func (.yield l) #[] #[]] 282,aHn Ds] /\ J (pre.length+j) ej /\ ∀ k,BlM Mk k->e0.B k∨w.heap.size<=k) (fun Mk=>∃ ej,Mk=[ej,bk aa #[.func (.yield l) #[] #[]] 282,aHn Ds] /\ T ej) hM ⟨_,rfl,hJ,aKk hM⟩ (enters_of Tryz.func190 (by kernel_rfl) rfl) (hrec hk1 i z hz (et ac) cb1 cp1) (fun G W hG f=>hin G W (fun k hk=>(hG k hk).imp (fun ⟨e9,h9,hb9⟩=>⟨e9,Gr_ [_] h9,hb9⟩) id) f) (fun v hv=>by obtain ⟨z9,-,rfl⟩:=List.mem_map.1 hv;rfl) ?_ ?_ ?_
     · skip
       intro j v Mk W l1 hv hI hfW hM;obtain ⟨ej,rfl,hJ,hsb⟩:=hI;obtain ⟨z1,hz1,rfl⟩:=aUv (g:=npB) hv;refine aBY 10 0 8 [] [] 29 (.agg #[vI z1.1.1,vI z1.1.2]) f0 hM fun am w1 hM=>?_;have hsb1:=aXB hsb hfW.size hM;refine aIJ [(9,vB z1.2),(8,vP am 0),(3,vP aa 0)] f0 fun a E=>⟨_,_,E,hM,fun W2 l2 R2 hf2 hM hE=>?_⟩;have hw2:=hf2.size;refine aPv 12 3 55 [(52,.func (.yield l) #[] #[]),(53,.agg #[vI z1.1.1,vI z1.1.2]),(54,vB z1.2)] #[29,4] (by decide) (fc (ldm 282 1 0 hM rfl rfl) (fc (lam 29 3 0 2 hM rfl) f0)) hM (j:=0) rfl (hround (pre.length+j) _ _ _ hJ (hM.get 0 rfl) (hf2.trans' hM.fr fun r hr hb=>(hsb1 r hb).resolve_right (by omega)) (fun b9 hb9=>hsb1 b9 ⟨_,.head _,hb9⟩) (aSL hV2 hz1)) (fun ec w1 hJ hM=>?_) (fun et w1 hT hM=>?_)
       · skip
         exact aIJ [] f0 fun a E=>hE.nrm a _ _ ⟨_,rfl,hJ,aXB hsb1 hw2 (hM.pick [0,1,2])⟩ (hM.pick [0,1,2])
       · skip
         exact aS7 [] f0 fun a E=>hE.ret a _ _ ⟨_,rfl,hT⟩ (hM.pick [0,1,2])
     · skip
       intro Mk w1 hI hM;obtain ⟨ek1,rfl,hJ,hsb⟩:=hI;rw [aE0,←Gi_] at hJ;have hM:=Mm.mark1 (M:=[ek1,bk aa #[.func (.yield l) #[] #[]] 282]) hM;show AtO _ _ _ ((_::Ds).map mkD) _ _ _ _;refine seg 4 0 [(20,vI ((i:Int)+1))] (fc (aAI (i:Int) 1 u3_) f0) (aAh _ (ag _ (by have:=gl hy;omega) (i+1) ek1 (pre++f z) (_::Ds) _ (gl hy) (by rw [Gl_];exact hV2) hJ hM rfl))
     · skip
       intro a Mk w1 hT hM E;obtain ⟨et,rfl,hT⟩:=hT;exact (aRF (Ds:=_::Ds) E.df (Mm.mark1 (M:=[et,bk aa #[.func (.yield l) #[] #[]] 282]) hM) fun w9 hM=>⟨.tuple #[],by simp [results,show Tryz.f190.results=#[] from rfl],hZ _ _ ⟨⟨_,rfl⟩,.inr ⟨et,hT,hM.get 0 rfl,fun b9 hb9=>aKk hM b9 ⟨_,.head _,hb9⟩,hM.fr⟩⟩⟩).1
  exact aAh _ (af _ 0 e0 [] [] _ (Gg_ _) hV0 hJ hM rfl)
theorem aKK (o:Ob) (i:Int):(aDo o i=2 /\ (o.kind=4∨o.kind=5))∨aDo o i=1:=by
  unfold aDo
  cases h:(o.kind==4)||((o.kind==5) && !(i==1)) with
  | false=>exact .inr rfl
  | true =>
    simp only [Bool.or_eq_true,Ga_,beq_iff_eq] at h;exact .inl ⟨rfl,h.imp id (·.1)⟩
theorem aLO {os:List ObR}(hp:(os.map (·.o.id)).Nodup) {pb mo no:Nat}{rv bv:Value}{cb cpp:Nat}{b:ObR}(hb:b∈os):aPm Tryz.prog 190 #[vP cb 0,vP cpp 0] (npV (ndP os b)) (NdK os pb mo no rv bv cb cpp b) :=
  aHm hp (f:=ndN os 2) hb fun _ i z hz hk cb1 cp1=>aHm hp (f:=ndN os 1) hz fun hz1 i2 z2 hz2 hk2 cb2 cp2=>by
    have e2:z2.o.kind=1:=by
      rcases aKK z.o (i2:Int) with h | h
      · rcases aKK b.o (i:Int) with h3 | h3<;>omega
      · omega
    exact aHm hp (f:=ndN os 0) hz2 fun h=>absurd e2 (ef h)
theorem aTF {F0:Nat->Prop}{w0 w:World}{A Ms:List Ent}{e:Ent}(h:Mm F0 w0 w (A++(aBL Ms::[e]))):Mm F0 w0 w (A++[aBL (Ms++[e])]):=aCW h.ung
section
variable {os:List ObR}{y:ObR}{k:Nat}{r:Bys}{PL:List Pt}
theorem aSR (h:obF os r=none):ndA os r=none:=by unfold ndA;rw [h]
theorem aSQ {z:ObR}(h:obF os r=some z) (hk:(z.o.kind==1)=true):ndA os r=some (z.o.x,z.o.y):=by unfold ndA;rw [h];simp only [hk,cond_true]
theorem aSS {z:ObR}(h:obF os r=some z) (hk:(z.o.kind==1)=false):ndA os r=none:=by unfold ndA;rw [h];simp only [hk,cond_false]
theorem aSC {p:Pt}(h:PL=(y.o.refs.take k).map fun r=>(ndA os r).getD (0,0)) (hr:y.o.refs[k]?=some r) (hp:ndA os r=some p):PL++[p]=(y.o.refs.take (k+1)).map fun r=>(ndA os r).getD (0,0):=by rw [h,gt_ hr,List.map_append];simp [hp]
theorem aTU {p:Pt}(h:∀ r∈y.o.refs.take k,(ndA os r).isSome=true) (hr:y.o.refs[k]?=some r) (hp:ndA os r=some p):∀ r∈y.o.refs.take (k+1),(ndA os r).isSome=true:=fun s hs=>by
  rw [gt_ hr] at hs;rcases List.mem_append.1 hs with h1 | h1
  · exact h s h1
  · rw [List.mem_singleton.1 h1,hp];rfl
end
abbrev aTZ (Z:Ending->World->Prop):=AtO Tryz.prog (aAw Tryz.f145) (aAL (bodyPost Tryz.prog Tryz.f145 Z)) [] 97
theorem aN9 {w:World}{v:Value}{os:List ObR}(hm:aC0 w v os) (hvm:aAl (aAa os)=true) (hlen:os.length<=100000):Calls Tryz.prog 145 #[.agg #[v]] w fun e w'=>∃ pb mr mo nr no R bv,e = .returned (vP pb 0) /\ aPq os os R /\ Mm nF_ w w' [bk pb #[.map (some mr),.map (some mo),bv] 225,mp Tryz.prog 9 mr nr (rgF R),mp Tryz.prog 9 mo no (objF os),aBL (R.map rgE)]:=by
  have hm0:=hm;obtain ⟨hs0,hob⟩:=hm0;have hnd:=aLI (aAM hvm);obtain ⟨p0,cp0,hp0,sp0⟩:=hs0.op;subst hp0;refine beg Tryz.func145 rfl rfl [(0,.agg #[vL p0 os.length cp0])] rfl rfl fun Y hY=>?_;have hM:=Mm.nil nF_ w;refine aAu 0 0 1 [] (cs:=#[vL p0 os.length cp0]) (T:=24) (v:=fun b=>vP b 0) f0 hM fun ad w1 hM=>aAx 1 1 14 [(13,.agg #[vL p0 os.length cp0])] (fc (lam 24 0 0 1 hM rfl) f0) hM ((aC6 (hm.fr hM.fr)).mono fun e w9 h=>⟨by rw [h.1,hvm],h.2⟩) fun w1 hM=>aNJ 3 0 16 [] 9 f0 hM fun aa w1 hM=>aNJ 3 1 17 [] 9 f0 hM fun ab w1 hM=>aAu 3 3 19 [(18,.agg #[.map (some aa),.map (some ab),vL none 0 0])] (cs:=#[.map (some aa),.map (some ab),vL none 0 0]) (T:=225) (v:=fun b=>vP b 0) f0 hM fun ac w1 hM=>seg 5 0 [(3,vP ac 0),(21,vL p0 os.length cp0),(22,vI (os.length:Int)),(23,vI 0)] (fc (ldm 22 0 0 hM rfl rfl) f0) ?_
  have av:∀ (aj:Nat) (k:Nat) (w2:World),k<=os.length->Mm nF_ w w2 [bk ad #[vL p0 os.length cp0] 24,mp Tryz.prog 9 aa 0 (fun _=>none),mp Tryz.prog 9 ab k (objF (os.take k)),bk ac #[.map (some aa),.map (some ab),vL none 0 0] 225]->aj=os.length-k->aTZ Y (some (5,0)) [(23,vI (k:Int)),(22,vI (os.length:Int)),(21,vL p0 os.length cp0),(3,vP ac 0),(1,vP ad 0)] w2:=by
   refine aCx fun aj aw k w2 hk hM bf=>seg 5 1 [(24,vB (decide ((k:Int)<(os.length:Int))))] f0 ?_;cases ak:(decide ((k:Int)<(os.length:Int)))
   rotate_left
   ·have ax:=dt ak;obtain ⟨y0,hy0,bg,bh,ay,az⟩:=sp0.el (i:=k) (by omega);refine aBY 6 2 5 [(26,.agg (oY_ y0))] [] 48 (.agg (oY_ y0)) (fc (ix 22 cp0 ay (gl hy0)) (fc (la0 48 hM az) f0)) hM fun al w1 hM=>seg 7 0 [] f0 (drx [7] (fun Z=>[none]) _ (fun Z l=>[bk ad #[vL p0 os.length cp0] 24,mp Tryz.prog 9 aa 0 (fun _=>none),(bif l.getD 0 false then mp Tryz.prog 9 ab (k+1) (upd (objF (os.take k)) (vS y0.o.id) (.agg (oY_ y0))) else mp Tryz.prog 9 ab k (objF (os.take k))),bk ac #[.map (some aa),.map (some ab),vL none 0 0] 225,bk al (oY_ y0) 48]) (fun Z=>[]) hM (fun Z=>rfl) (fun Z l w5 hM=>(fc (ldm 223 3 1 hM rfl rfl) (fc (ldm 9 4 0 hM rfl rfl) (fc (lam 48 4 0 6 hM rfl) f0)))) ⟨aOS 0 7 223 2 (fun Z=>ab) k (objF (os.take k)) (fun Z=>vS y0.o.id) (fun Z => .agg (oY_ y0)) aEe u223_ (fun Z=>(aEu (hob _ (gm hy0)).bnd.id)),trivial⟩ fun bi w1 hM=>?_);replace hM:Mm nF_ w w1 [bk ad #[vL p0 os.length cp0] 24,_,_,bk ac #[.map (some aa),.map (some ab),vL none 0 0] 225,bk al (oY_ y0) 48]:=hM;refine seg 5 0 [(23,vI ((k:Int)+1))] (fc (aAI (k:Int) 1 u3_) f0) ?_;have hM:=hM.pick [0,1,2,3];replace hM:Mm nF_ w w1 [bk ad #[vL p0 os.length cp0] 24,mp Tryz.prog 9 aa 0 (fun _=>none),mp Tryz.prog 9 ab (k+1) (objF (os.take (k+1))),bk ac #[.map (some aa),.map (some ab),vL none 0 0] 225]:=by rw [gt_ hy0,aNB];exact hM
    exact aAh _ (aw _ (by have:=gl hy0;omega) (k+1) _ (gl hy0) hM rfl)
   have ax:=df ak;rw [Gc_ (show os.length<=k by omega)] at hM;have hM:=hM.row (f:=stL) (c:=1) (E:=9);have hM:=hM.pick [0,2,3,1,4];have hM:=aCW (Ms:=[]) (by rw [List.append_nil];exact hM);replace hM:Mm nF_ w _ [bk ad #[vL p0 os.length cp0] 24,_,bk ac #[.map (some aa),.map (some ab),vL none 0 0] 225,_,_,_]:=hM;refine seg 10 0 [(36,vL p0 os.length cp0),(37,vI (os.length:Int)),(38,vI 0)] (fc (ldm 22 0 0 hM rfl rfl) f0) ?_
   have a0:∀ (am:Nat) (i:Nat) (nr:Nat) (R:List RgR) (vb:Value) (BL:List Bys) (w2:World),i<=os.length->aPq os (os.take i) R->BL.length<=i->Mm nF_ w w2 [bk ad #[vL p0 os.length cp0] 24,mp Tryz.prog 9 ab k (objF os),bk ac #[.map (some aa),.map (some ab),vb] 225,mp Tryz.prog 9 aa nr (rgF R),rw_ stL 1 9 vb BL,aBL (R.map rgE)]->am=os.length-i->aTZ Y (some (10,0)) [(38,vI (i:Int)),(37,vI (os.length:Int)),(36,vL p0 os.length cp0),(3,vP ac 0)] w2:=by
    refine aCx fun am af i nr R vb BL w2 hi hR hBn hM bj=>seg 10 1 [(39,vB (decide ((i:Int)<(os.length:Int))))] f0 ?_;cases an:(decide ((i:Int)<(os.length:Int)))
    ·have a1:=df an;exact rt1 2 (vP ac 0) rfl f0 (hY _ _ ⟨ac,aa,ab,nr,k,R,vb,rfl,by rw [Gc_ (by omega)] at hR;exact hR,hM.pick [2,3,1,5]⟩)
    have a1:=dt an;obtain ⟨y,hy,bl,bm,a2,a3⟩:=sp0.el (i:=i) (by omega);refine aBY 11 2 7 [(41,.agg (oY_ y))] [] 48 (.agg (oY_ y)) (fc (ix 22 cp0 a2 (gl hy)) (fc (la0 48 hM a3) f0)) hM fun ae w1 hM=>seg 12 3 [(44,vB (!(y.o.kind==3)))] (fc (ldm 3 6 1 hM rfl rfl) f0) ?_;cases ah:(y.o.kind==3)
    ·have a4:=ef ah;refine seg 10 0 [(38,vI ((i:Int)+1))] (fc (aAI (i:Int) 1 u3_) f0) ?_;have hM:=hM.pick [0,1,2,3,4,5];exact aAh _ (af _ (by have:=gl hy;omega) (i+1) nr R vb BL _ (gl hy) (aHb hR hy (aS6 ah)) (by omega) hM rfl)
    have a4:=et ah;have hM:=hM.row (f:=ptL) (c:=2) (E:=29);have hrl:=aHd (aCk hvm _ (List.mem_map.2 ⟨y,gm hy,rfl⟩));refine seg 15 0 [(8,vL none 0 0),(46,vL y.pr y.o.refs.length y.cr),(47,vI (y.o.refs.length:Int)),(48,vI 0)] (fc (ldm 45 6 4 hM rfl rfl) f0) ?_
    have a5:∀ (ao:Nat) (j:Nat) (vl:Value) (PL:List Pt) (w2:World),j<=y.o.refs.length->(PL=(y.o.refs.take j).map fun r=>(ndA os r).getD (0,0))->(∀ r∈y.o.refs.take j,(ndA os r).isSome=true)->PL.length<=j->Mm nF_ w w2 [bk ad #[vL p0 os.length cp0] 24,mp Tryz.prog 9 ab k (objF os),bk ac #[.map (some aa),.map (some ab),vb] 225,mp Tryz.prog 9 aa nr (rgF R),rw_ stL 1 9 vb BL,aBL (R.map rgE),bk ae (oY_ y) 48,rw_ ptL 2 29 vl PL]->ao=y.o.refs.length-j->aTZ Y (some (15,0)) [(48,vI (j:Int)),(47,vI (y.o.refs.length:Int)),(46,vL y.pr y.o.refs.length y.cr),(8,vl),(7,vP ae 0),(38,vI (i:Int)),(37,vI (os.length:Int)),(36,vL p0 os.length cp0),(3,vP ac 0)] w2:=by
     refine aCx fun ao a6 j vl PL w2 hj hPL hall hPn hM bo=>seg 15 1 [(49,vB (decide ((j:Int)<(y.o.refs.length:Int))))] f0 ?_;cases ap:(decide ((j:Int)<(y.o.refs.length:Int)))
     ·have a7:=df ap;rw [Gc_ (show y.o.refs.length<=j by omega)] at hPL hall;obtain rfl:PL=rgL os y:=hPL;obtain ⟨ql,cl9,el9,-⟩:=(hM.src (j:=7) rfl ptT.len).op;subst el9;refine aAx 21 1 75 [(74,vL ql (rgL os y).length cl9)] f0 hM (aBS ((hM.src (j:=7) rfl ptT.len).p).2) fun w1 hM=>seg 21 3 [(76,vB (!(aDR (rgL os y))))] f0 ?_;cases aq:(aDR (rgL os y))
      ·refine seg 22 0 [] f0 ?_;have hM:=hM.nl;refine drx [4,7,8,11] (fun Z=>[some (vb),some (vL (some ⟨(bn (Z 1)),0,none⟩) 1 1),some (vL (slp (Z 2)) (BL++[y.o.id]).length (slc (Z 2))),none]) _ (fun Z l=>[bk ad #[vL p0 os.length cp0] 24,mp Tryz.prog 9 ab k (objF os),bk ac #[.map (some aa),.map (some ab),(bif l.getD 3 false then vL (slp (Z 2)) (BL++[y.o.id]).length (slc (Z 2)) else vb)] 225,mp Tryz.prog 9 aa nr (rgF R),(bif l.getD 2 false then rw_ stL 1 9 (vL (slp (Z 2)) (BL++[y.o.id]).length (slc (Z 2))) (BL++[y.o.id]) else rw_ stL 1 9 vb BL),aBL (R.map rgE),bk ae (oY_ y) 48,rw_ ptL 2 29 (vL ql (rgL os y).length cl9) (rgL os y),(bif l.getD 1 false then bk (bn (Z 1)) #[vS y.o.id] 9 else aEK)]) (fun Z=>[]) hM (fun Z=>rfl) (fun Z l w5 hM=>(fc (ldm 9 6 0 hM rfl rfl) f0)) ⟨aTK 0 4 45 2 2 81 (fun Z=>ac) (fun Z l=>#[.map (some aa),.map (some ab),(bif l.getD 3 false then vL (slp (Z 2)) (BL++[y.o.id]).length (slc (Z 2)) else vb)]) 225 (fun Z=>vb),aDx 1 7 8 84 (fun Z=>#[vS y.o.id]) 9 (fun b=>vL (some ⟨b,0,none⟩) 1 1),aH9 2 8 4 85 45 9 0 (fun Z=>vb) BL [y.o.id] (fun Z=>(bn (Z 1))) 1 stT (by simp only [Gi_,Gf_,Gm_];omega) (fun Z fr wm hM=>aCq (f:=stL) (x:=y.o.id) (hM.get 8 (e:=bk ((bn (Z 1))) (stL y.o.id).toArray 9) (by kernel_rfl)) (Nat.lt_succ_self _)),aCz 3 11 45 2 2 (fun Z=>ac) (fun Z l=>#[.map (some aa),.map (some ab),(bif l.getD 3 false then vL (slp (Z 2)) (BL++[y.o.id]).length (slc (Z 2)) else vb)]) 225 (fun Z=>vL (slp (Z 2)) (BL++[y.o.id]).length (slc (Z 2))),trivial⟩ fun ag w1 hM=>?_;replace hM:Mm nF_ w w1 [bk ad #[vL p0 os.length cp0] 24,_,bk ac #[.map (some aa),.map (some ab),vL (slp (ag 2)) (BL++[y.o.id]).length (slc (ag 2))] 225,_,_,_,bk ae (oY_ y) 48,_,bk (bn (ag 1)) #[vS y.o.id] 9]:=hM;refine seg 10 0 [(38,vI ((i:Int)+1))] (fc (aAI (i:Int) 1 u3_) f0) ?_;have hM:=hM.pick [0,1,2,3,4,5];exact aAh _ (af _ (by have:=gl hy;omega) (i+1) nr R (vL (slp (ag 2)) (BL++[y.o.id]).length (slc (ag 2))) (BL++[y.o.id]) _ (gl hy) (aHb hR hy (aQb aq)) (by simp only [Gi_,Gf_,Gm_];omega) hM rfl)
      refine seg 23 0 [] f0 (drx [7] (fun Z=>[none]) _ (fun Z l=>[bk ad #[vL p0 os.length cp0] 24,mp Tryz.prog 9 ab k (objF os),bk ac #[.map (some aa),.map (some ab),vb] 225,(bif l.getD 0 false then mp Tryz.prog 9 aa (nr+1) (upd (rgF R) (vS y.o.id) (vL ql (rgL os y).length cl9)) else mp Tryz.prog 9 aa nr (rgF R)),rw_ stL 1 9 vb BL,aBL (R.map rgE),bk ae (oY_ y) 48,rw_ ptL 2 29 (vL ql (rgL os y).length cl9) (rgL os y)]) (fun Z=>[]) hM (fun Z=>rfl) (fun Z l w5 hM=>(fc (ldm 222 2 0 hM rfl rfl) (fc (ldm 9 6 0 hM rfl rfl) f0))) ⟨aOS 0 7 222 3 (fun Z=>aa) nr (rgF R) (fun Z=>vS y.o.id) (fun Z=>vL ql (rgL os y).length cl9) aEe u222_ (fun Z=>(aEu (hob _ (gm hy)).bnd.id)),trivial⟩ fun bp w1 hM=>?_);replace hM:Mm nF_ w w1 [bk ad #[vL p0 os.length cp0] 24,_,bk ac #[.map (some aa),.map (some ab),vb] 225,_,_,_,bk ae (oY_ y) 48,_]:=hM;refine seg 10 0 [(38,vI ((i:Int)+1))] (fc (aAI (i:Int) 1 u3_) f0) ?_;have hM:=hM.pick [0,1,2,3,4,5,7];obtain ⟨r9,hr9⟩:∃ z:RgR,z=⟨y.o.id,rgL os y,ql,cl9⟩:=⟨_,rfl⟩;replace hM:Mm nF_ w w1 [bk ad #[vL p0 os.length cp0] 24,mp Tryz.prog 9 ab k (objF os),bk ac #[.map (some aa),.map (some ab),vb] 225,mp Tryz.prog 9 aa (nr+1) (rgF (R++[r9])),rw_ stL 1 9 vb BL,aBL ((R++[r9]).map rgE)]:=by rw [aQd,List.map_append];subst hr9;exact aTF (A:=[bk ad #[vL p0 os.length cp0] 24,mp Tryz.prog 9 ab k (objF os),bk ac #[.map (some aa),.map (some ab),vb] 225,mp Tryz.prog 9 aa _ _,rw_ stL 1 9 vb BL]) hM
      exact aAh _ (af _ (by have:=gl hy;omega) (i+1) (nr+1) (R++[r9]) vb BL _ (gl hy) (aQc hR hy (r:=r9) (by rw [hr9];exact aQa ah hall aq) (by rw [hr9])) (by omega) hM rfl)
     have a7:=dt ap;have a8:=(hob _ (gm hy)).refs;obtain ⟨r,hr,a9,ba,bb,bc⟩:=a8.el (i:=j) (by omega);refine seg 17 0 [(50,vP a9 (ba+j*1)),(51,vS r),(10,vS r)] (fc (ix 45 y.cr bb (gl hr)) (fc (ld0 9 hM (bc 0 _ rfl)) f0)) ?_
     cases ho:obF os r with
     | none =>
       have hna:=aSR ho;refine aBY 17 9 11 [(59,.agg #[vS [],vI 0,vI 0,vI 0,vL none 0 0,vL none 0 0]),(60,vB false)] [] 48 (.agg #[vS [],vI 0,vI 0,vI 0,vL none 0 0,vL none 0 0]) (fc (ldm 223 2 1 hM rfl rfl) (fc (rz2 (lko 223 1 (vS r) _ hM rfl aEe u223_ (aEu ((hob _ (gm hy)).bnd.refs r (gm hr))) (aGn _)) (look_none hnd ho _)) f0)) hM fun bq w1 hM=>seg 10 0 [(38,vI ((i:Int)+1))] (fc (aAI (i:Int) 1 u3_) f0) ?_;have hM:=hM.pick [0,1,2,3,4,5];exact aAh _ (af _ (by have:=gl hy;omega) (i+1) nr R vb BL _ (gl hy) (aHb hR hy (aNp hr hna)) (by omega) hM rfl)
     | some z =>
       refine aBY 17 9 11 [(59,.agg (oY_ z)),(60,vB true)] [] 48 (.agg (oY_ z)) (fc (ldm 223 2 1 hM rfl rfl) (fc (rz2 (lko 223 1 (vS r) _ hM rfl aEe u223_ (aEu ((hob _ (gm hy)).bnd.refs r (gm hr))) (aGn _)) (aFH hnd ho _)) f0)) hM fun br w1 hM=>seg 18 7 [(67,vB (!(z.o.kind==1)))] (fc (ldm 3 8 1 hM rfl rfl) f0) ?_;cases ai:(z.o.kind==1)
       ·have bd:=ef ai;have hna:=aSS ho ai;refine seg 10 0 [(38,vI ((i:Int)+1))] (fc (aAI (i:Int) 1 u3_) f0) ?_;have hM:=hM.pick [0,1,2,3,4,5];exact aAh _ (af _ (by have:=gl hy;omega) (i+1) nr R vb BL _ (gl hy) (aHb hR hy (aNp hr hna)) (by omega) hM rfl)
       have bd:=et ai;have hna:=aSQ ho ai;refine aAu 19 3 71 [(68,vl),(70,.agg #[vI z.o.x,vI z.o.y])] (cs:=#[vI z.o.x,vI z.o.y]) (T:=29) (v:=fun b=>vL (some ⟨b,0,none⟩) 1 1) (fc (lam 29 8 2 2 hM rfl) f0) hM fun bs w1 hM=>aVO 19 4 72 [] (cap:=1) (by decide) ptT f0 hM (j:=7) rfl (aCq (f:=ptL) (x:=((z.o.x,z.o.y):Pt)) (hM.get 9 rfl) (Nat.lt_succ_self _)) (fun h=>by cases h) (by simp only [Gi_,Gf_,Gm_];omega) fun bt w1 hM=>?_;obtain ⟨ar,au,be,-⟩:=(hM.src (j:=7) rfl ptT.len).op;subst be;refine seg 15 0 [(8,vL ar (PL++[((z.o.x,z.o.y):Pt)]).length au),(48,vI ((j:Int)+1))] (fc (aAI (j:Int) 1 u3_) f0) ?_;have hM:=hM.pick [0,1,2,3,4,5,6,7];exact aAh _ (a6 _ (by have:=gl hr;omega) (j+1) (vL ar (PL++[((z.o.x,z.o.y):Pt)]).length au) (PL++[((z.o.x,z.o.y):Pt)]) _ (gl hr) (aSC hPL hr hna) (aTU hall hr hna) (by simp only [Gi_,Gf_,Gm_];omega) hM rfl)
    exact aAh _ (a5 _ 0 (vL none 0 0) [] _ (Gg_ _) rfl (fun r hr=>by cases hr) (Gj_ _) hM rfl)
   exact aAh _ (a0 _ 0 0 [] (vL none 0 0) [] _ (Gg_ _) rfl (Gg_ _) hM rfl)
  exact aAh _ (av _ 0 _ (Gg_ _) hM rfl)
theorem aWM (b:Nat) {w:World}:Ft.ok Tryz.prog w (.g2 (fun x y => .binOp .eql 219 x y 219) (vP b 0) (.pointer none) (vB false)):=fun o ρ x y ho hx hy=>by simp [execOp,ho,hx,hy,go_sem,Tryz.underlying219]
theorem aKc (w:World):(zeroValue 100).run Tryz.prog w = .ok (vL none 0 0) w:=by kernel_rfl
theorem aTG {F0:Nat->Prop}{w0 w:World}{A:List Ent}{R:List RgR}{r:RgR}(h:Mm F0 w0 w (A++[aBL (R.map rgE)])) (hr:r∈R):Mm F0 w0 w (A++[rgE r]):=(Mm.ung (C:=[]) h).sub ((List.Sublist.refl A).append (List.singleton_sublist.2 (Gr_ _ (List.mem_map.2 ⟨r,hr,rfl⟩))))
theorem NdK.of {os:List ObR}{pb mo no:Nat}{rv bv:Value}{cb cpp:Nat}{z:ObR}{w0 w w1:World}{M:List Ent}(hA:Mm nF_ w0 w (M++mpRd os pb mo no rv bv)) (c:Mm nF_ w w1 (aLc pb cb cpp z)) (hob:∀ z∈os,ObIn w0 z):∀ (G:Nat->Prop) W,(∀ k,G k->BlM M k∨w1.heap.size<=k)->Fr nF_ w1 W->NdK os pb mo no rv bv cb cpp z G W:=fun G W hG f=>by
  have hr:aKa (mpRd os pb mo no rv bv) w:=(hA.sub (List.sublist_append_right _ _)).re fun e he k hk=>⟨e,he,hk⟩;have hr1:=hr.fr c.fr fun _ _ h=>h;have hc1:aKa (aLc pb cb cpp z) w1:=c.re fun e he k hk=>⟨e,he,hk⟩;have hge:∀ k,BlM (aLc pb cb cpp z) k->w.heap.size<=k:=fun k ⟨e,he,hb⟩=>c.ge he hb
  have hd:∀ k,BlM (aLc pb cb cpp z) k->¬ BlM (mpRd os pb mo no rv bv) k:=fun k h1 h2=>by
    have:=hge k h1;have:=hr.lt h2;omega
  refine ⟨(hc1.app hr1 hd).fr f fun _ _ h=>h,fun k hk hg=>?_,w0,hob,(hA.fr.trans c.fr).trans f,fun k hk=>?_⟩
  · have hlt:=(hc1.app hr1 hd).lt hk
    rcases hG k hg with h1 | h1
    · rcases BlM.app hk with h2 | h2
      · have:=hge k h2
        obtain ⟨e,he,hb⟩:=h1;have:=e.lt (hA.at_ e (Gr_ _ he)) hb;omega
      · obtain ⟨e,he,hb⟩:=h2
        exact hA.apart he hb h1
    · omega
  · rcases hG k hk with ⟨e,he,hb⟩ | h1
    · exact hA.ge (Gr_ _ he) hb
    · exact Gn_ (hA.fr.trans c.fr).size h1
theorem aTp {os:List ObR}{id ar:Bys}(h:obF os id=none):inP os id ar=false:=by unfold inP;rw [h]
theorem aOg {os:List ObR}{id ar:Bys}(h:(obF os ar).bind (aBe os)=none):inP os id ar=false:=by
  unfold inP;rw [h];cases obF os id<;>rfl
theorem aKO {os:List ObR}{id ar:Bys}{z:ObR}{L:List Pt}(h:obF os id=some z) (h2:(obF os ar).bind (aBe os)=some L):inP os id ar=(ndP os z).all (aKr L):=by unfold inP;rw [h,h2]
theorem aPa {T:List (Pt×Bool)}{L:List Pt}{k:Nat}{y:Pt×Bool}(hy:T[k]?=some y) (h:aKr L y=false):T.all (aKr L)=false:=by
  rw [List.all_eq_false];exact ⟨y,gm hy,by rw [h];simp⟩
theorem aRl {T:List (Pt×Bool)}{L:List Pt}(h:∀ k y,k<T.length->T[k]?=some y->aKr L y=true):T.all (aKr L)=true:=by
  rw [List.all_eq_true];intro y hy;obtain ⟨k,hk,e⟩:=List.mem_iff_getElem.1 hy;exact h k y hk (by rw [Gb_ hk,e])
theorem aIs {w:World}{v:Value}{os:List ObR}(hmO:aC0 w v os) (hvm:aAl (aAa os)=true) (hlen:os.length<=100000) {id ar:Bys}(hb1:B63 id) (hb2:B63 ar):Calls Tryz.prog 105 #[.agg #[v],vS id,vS ar] w fun e w'=>e = .returned (vB (inP os id ar)) /\ Fr nF_ w w':=by
  have hm0:=hmO;obtain ⟨hs0,hob⟩:=hm0;have hnd:=aLI (aAM hvm);obtain ⟨p0,cp0,hp0,sp0⟩:=hs0.op;subst hp0;refine aWi Tryz.func105 rfl rfl [(0,.agg #[vL p0 os.length cp0]),(1,vS id),(2,vS ar)] rfl rfl fun Z hZ=>?_;have hM:=Mm.nil nF_ w;refine aAu 0 0 3 [] (cs:=#[vL p0 os.length cp0]) (T:=24) (v:=fun b=>vP b 0) f0 hM fun ag w1 hM=>aAu 0 1 6 [] (cs:=#[vB false]) (T:=4) (v:=fun b=>vP b 0) f0 hM fun aa w1 hM=>aOI 1 1 15 [(14,.agg #[vL p0 os.length cp0])] (K:=fun u Mn=>∃ pb mr mo nr no R bv,u=vP pb 0 /\ aPq os os R /\ Mn=[bk pb #[.map (some mr),.map (some mo),bv] 225,mp Tryz.prog 9 mr nr (rgF R),mp Tryz.prog 9 mo no (objF os),aBL (R.map rgE)]) [0,1] [] (fc (lam 24 0 0 1 hM rfl) f0) hM rfl rfl (by decide) (fun hm=>((aN9 (hmO.fr hM.fr) hvm hlen).mono fun e w9 ⟨pb,mr,mo,nr,no,R,bv,h1,h2,h3⟩=>⟨_,_,h1,⟨pb,mr,mo,nr,no,R,bv,rfl,h2,rfl⟩,aIH h3 fun _ h=>h.elim⟩)) fun u Mn w1 hK hM=>?_;obtain ⟨pb,mr,mo,nr,no,R,bv,rfl,hR,rfl⟩:=hK;refine seg 4 0 [(7,vP pb 0),(16,vP pb 0),(17,vB false)] (fc (aWM pb) f0) ?_
  cases ho:obF os id with
  | none =>
    have hno:=aTp (os:=os) (id:=id) (ar:=ar) ho;refine aBY 4 9 8 [(25,.agg #[vS [],vI 0,vI 0,vI 0,vL none 0 0,vL none 0 0]),(26,vB false)] [] 48 (.agg #[vS [],vI 0,vI 0,vI 0,vL none 0 0,vL none 0 0]) (fc (ldm 223 2 1 hM rfl rfl) (fc (rz2 (lko 223 4 (vS id) _ hM rfl aEe u223_ (aEu hb1) (aGn _)) (look_none hnd ho _)) f0)) hM fun ah w1 hM=>seg 5 0 [(9,vB false)] f0 ?_;have hrg:=aRz hnd hR ar
    cases hr:(obF os ar).bind (aBe os) with
    | none =>
      have hno:=aOg (os:=os) (id:=id) (ar:=ar) hr;rw [hr] at hrg;replace hrg:rgF R (vS ar)=none:=hrg;refine aBY 5 9 10 [(34,vL none 0 0),(35,vB false)] [] 100 (vL none 0 0) (fc (ldm 222 2 0 hM rfl rfl) (fc (rz2 (lko 222 3 (vS ar) _ hM rfl aEe u222_ (aEu hb2) (aKc _)) (by rw [hrg]<;>rfl)) f0)) hM fun ai w1 hM=>stm 7 0 [] 4 1 0 (vB false) f0 hM rfl fun w1 hM=>aPW 1 rfl f0 hM rfl (hZ _ _ ⟨by rw [hno],hM.fr⟩)
    | some L0 =>
      rw [hr] at hrg;obtain ⟨r9,hr9,rfl,hrg⟩:=hrg;refine aBY 5 9 10 [(34,vL r9.p r9.L.length r9.c),(35,vB true)] [] 100 (vL r9.p r9.L.length r9.c) (fc (ldm 222 2 0 hM rfl rfl) (fc (rz2 (lko 222 3 (vS ar) _ hM rfl aEe u222_ (aEu hb2) (aKc _)) (by rw [hrg]<;>rfl)) f0)) hM fun aj w1 hM=>stm 7 0 [] 4 1 0 (vB false) f0 hM rfl fun w1 hM=>aPW 1 rfl f0 hM rfl (hZ _ _ ⟨by rw [hno],hM.fr⟩)
  | some z =>
    obtain ⟨hz,hzi⟩:=aEy ho;refine aBY 4 9 8 [(25,.agg (oY_ z)),(26,vB true)] [] 48 (.agg (oY_ z)) (fc (ldm 223 2 1 hM rfl rfl) (fc (rz2 (lko 223 4 (vS id) _ hM rfl aEe u223_ (aEu hb1) (aGn _)) (aFH hnd ho _)) f0)) hM fun ad w1 hM=>seg 5 0 [(9,vB true)] f0 ?_;have hrg:=aRz hnd hR ar
    cases hr:(obF os ar).bind (aBe os) with
    | none =>
      have hno:=aOg (os:=os) (id:=id) (ar:=ar) hr;rw [hr] at hrg;replace hrg:rgF R (vS ar)=none:=hrg;refine aBY 5 9 10 [(34,vL none 0 0),(35,vB false)] [] 100 (vL none 0 0) (fc (ldm 222 2 0 hM rfl rfl) (fc (rz2 (lko 222 3 (vS ar) _ hM rfl aEe u222_ (aEu hb2) (aKc _)) (by rw [hrg]<;>rfl)) f0)) hM fun ak w1 hM=>stm 7 0 [] 4 1 0 (vB false) f0 hM rfl fun w1 hM=>aPW 1 rfl f0 hM rfl (hZ _ _ ⟨by rw [hno],hM.fr⟩)
    | some L0 =>
      rw [hr] at hrg;obtain ⟨r9,hr9,rfl,hrg⟩:=hrg;refine aBY 5 9 10 [(34,vL r9.p r9.L.length r9.c),(35,vB true)] [] 100 (vL r9.p r9.L.length r9.c) (fc (ldm 222 2 0 hM rfl rfl) (fc (rz2 (lko 222 3 (vS ar) _ hM rfl aEe u222_ (aEu hb2) (aKc _)) (by rw [hrg]<;>rfl)) f0)) hM fun ab w1 hM=>?_;have hM:=aTG (A:=[bk pb #[.map (some mr),.map (some mo),bv] 225,mp Tryz.prog 9 mo no (objF os),bk ad (oY_ z) 48,bk aa #[vB false] 4,bk ab #[vL r9.p r9.L.length r9.c] 100]) (hM.pick [2,4,6,1,7,5]) hr9;have hM:=hM.pick [3,4,5,2,0,1];replace hM:Mm nF_ w _ [bk aa #[vB false] 4,bk ab #[vL r9.p r9.L.length r9.c] 100,_,bk ad (oY_ z) 48,bk pb #[.map (some mr),.map (some mo),bv] 225,_]:=hM;refine cal 8 2 44 [(42,vP pb 0),(43,.agg (oY_ z))] (K:=fun u w8=>∃ cb1 cp1,u = .func (.func 190) #[] #[vP cb1 0,vP cp1 0] /\ Mm nF_ _ w8 (aLc pb cb1 cp1 z)) (fc (lam 48 3 0 6 hM rfl) f0) ((aIi pb z _).mono fun e w9 ⟨a1,a2,h1,h2⟩=>⟨_,h1,a1,a2,rfl,h2⟩) fun u w1 ⟨cb1,cp1,hu,hc1⟩=>?_;subst hu;have hin:=NdK.of (M:=[bk aa #[vB false] 4,bk ab #[vL r9.p r9.L.length r9.c] 100,rw_ ptL 2 29 (vL r9.p r9.L.length r9.c) r9.L]) (hM.pick [0,1,2,4,5]) hc1 hob;have hM:=(hM.q hc1.fr).pick [0,1,2];refine seg 1009 0 [] f0 (aPY 9 (g := .tmp 44) (ps:=#[45,46]) (vs:=npV (ndP os z)) (fun j Mk=>Mk=[bk aa #[vB false] 4,bk ab #[vL r9.p r9.L.length r9.c] 100,rw_ ptL 2 29 (vL r9.p r9.L.length r9.c) r9.L] /\ ∀ k y,k<j->(ndP os z)[k]?=some y->aKr r9.L y=true) (fun Mk=>Mk=[bk aa #[vB false] 4,bk ab #[vL r9.p r9.L.length r9.c] 100,rw_ ptL 2 29 (vL r9.p r9.L.length r9.c) r9.L] /\ (ndP os z).all (aKr r9.L)=false) hM ⟨rfl,fun k y h=>absurd h (Nat.not_lt_zero k)⟩ (enters_of Tryz.func190 (by kernel_rfl) rfl) (aLO hnd hz) hin (fun v hv=>by obtain ⟨z9,-,rfl⟩:=List.mem_map.1 hv;rfl) ?_ ?_ ?_)
      · skip
        intro j v Mk W l1 hv hI hfW hM;obtain ⟨rfl,hall⟩:=hI;obtain ⟨z1,hz1,rfl⟩:=aUv (g:=npB) hv;refine aBY 9 0 12 [] [] 29 (.agg #[vI z1.1.1,vI z1.1.2]) f0 hM fun af w1 hM=>aIJ [(13,vB z1.2),(12,vP af 0),(10,vP ab 0),(6,vP aa 0)] f0 fun a E=>⟨_,_,E,hM,fun W2 l2 R2 hf2 hM hE=>?_⟩;refine seg 11 3 [(49,vB (!z1.2))] f0 ?_
        cases ac:z1.2 with
        | false =>
         refine stm 12 0 [] 4 0 0 (vB false) f0 hM rfl fun w1 hM=>?_;have hok:aKr r9.L z1=false:=by unfold aKr;simp only [ac]<;>rfl
         exact aS7 [] f0 fun a E=>hE.ret a _ _ ⟨rfl,aPa hz1 hok⟩ (hM.pick [0,1,2])
        | true =>
         refine aAx 11 5 52 [(50,vL r9.p r9.L.length r9.c),(51,.agg #[vI z1.1.1,vI z1.1.2])] (fc (ldm 100 1 0 hM rfl rfl) (fc (lam 29 3 0 2 hM rfl) f0)) hM (aGu ((hM.src (j:=2) rfl ptT.len).p).2 z1.1) fun w1 hM=>seg 11 8 [(54,vB (decide ((aES r9.L z1.1)<0)))] f0 ?_;cases ae:(decide ((aES r9.L z1.1)<0))
         ·have hok:aKr r9.L z1=true:=by unfold aKr;simp only [ac,ae]<;>rfl
          exact aIJ [] f0 fun a E=>hE.nrm a _ _ ⟨rfl,fun k y hk hy=>by rcases Nat.lt_succ_iff_lt_or_eq.1 hk with h | h;exact hall k y h hy;rw [h,hz1] at hy;cases hy;exact hok⟩ (hM.pick [0,1,2])
         refine stm 12 0 [] 4 0 0 (vB false) f0 hM rfl fun w1 hM=>?_;have hok:aKr r9.L z1=false:=by unfold aKr;simp only [ac,ae]<;>rfl
         exact aS7 [] f0 fun a E=>hE.ret a _ _ ⟨rfl,aPa hz1 hok⟩ (hM.pick [0,1,2])
      · skip
        intro Mk w1 hI hM;obtain ⟨rfl,hall⟩:=hI;rw [aE0] at hall;refine stm 13 0 [] 4 0 0 (vB true) f0 hM rfl fun w1 hM=>aPV 0 rfl f0 (show Mm _ _ _ ([bk aa #[vB true] 4,bk ab #[vL r9.p r9.L.length r9.c] 100,rw_ ptL 2 29 (vL r9.p r9.L.length r9.c) r9.L]++[dfE _]) from hM) rfl (fun w9 hM=>hZ _ _ ⟨by rw [aKO ho hr,aRl fun k y hk hy=>hall k y hk hy],hM.fr⟩)
      · skip
        intro a Mk w1 hT hM E;obtain ⟨rfl,hT⟩:=hT;exact (aKI (u:=true) E.df hM fun w9 hM=>⟨_,aNq rfl (E.at_ 6 (vP aa 0) rfl) 0 rfl (by kernel_rfl) hM,hZ _ _ ⟨by rw [aKO ho hr,hT],hM.fr⟩⟩).1
section
variable {P:Program}{B:Code}{R:Pst}{ds:List Deferred}{n:Nat}{p:Option (Nat×Nat)}{L N:Frm}{w w0:World}{r' i':Nat}{F:List Ft}{F0:Nat->Prop}{M:List Ent}
theorem aYu (T E:TypeId) (g s:Nat) {n c k:Nat}{z:Int}(hz:z=(k:Int)) (hk:k<n) (hc:n<=c) (hs:∀ w,(Go.sizeOf E).run P w = .ok s w) (hT:P.underlying T=some (.slice E):=by kernel_rfl):Ft.ok P w (.g2 (fun x a => .slice T x (some a) none none) (vL (some ⟨g,0,none⟩) n c) (vI z) (vL (some ⟨g,k*s,none⟩) (n-k) (c-k))):=fun o ρ x y ho hx hy=>by
  subst hz;have h1:¬ c<k:=by omega
  have h2:¬ n<k:=by omega
  have h3:¬ c=0:=by omega
  have h4:¬ c=k:=by omega
  have h5:¬ c-k=0:=by omega
  have h6:k<=n:=by omega
  have h7:k<=c:=by omega
  simp [execOp,ho,hx,hy,go_sem,hT,hs,h1,h2,h3,h4,h5,h6,h7,Result.andThen,Addr.add];exact fun h=>h.symm
theorem aQj {α:Type}{f:α->List Value}{c:Nat}(hlen:∀ x,(f x).length=c) {E:TypeId}{B g n cap:Nat}{A:List α}(h:ow f c E w B (vL (some ⟨g,0,none⟩) n cap) A) {k:Nat}(hk:k<=A.length) {us:List Value}(hus:us.length=(A.length-k)*c) (ho:us.all (·.oneCell')=true) :
    ∃ w',(storeCells ⟨g,k*c,none⟩ us 0).run P w = .ok () w' /\ ow f c E w' B (vL (some ⟨g,0,none⟩) k cap) (A.take k) /\ Fr (fun r=>r=g) w w':=by
  rcases h.2 with ⟨h1,_⟩ | ⟨g',cap',cur,h1,hB,h3,h4,h5,h6,h7⟩
  · cases h1
  · cases h1
    have hcs:A.length*c<=cur.size:=by rw [h6];exact Nat.mul_le_mul_right c h4
    have hkc:k*c+(A.length-k)*c=A.length*c:=by rw [←Nat.add_mul];congr 1;omega
    obtain ⟨w',r1,r2,r3⟩:=aAO (P:=P) us (k:=k*c) (i:=0) h3 (by omega) ho;have hl:(A.take k).length=k:=by rw [Gp_];omega
    refine ⟨w',r1,⟨aAK hlen _,.inr ⟨_,_,_,by rw [hl],hB,r2,by omega,h5,by rw [aIc];exact h6,?_⟩⟩,r3⟩;rw [hl];have hpg:=aHe us cur (k*c+0);rw [←aEg hlen,←h7,List.take_take,Nat.min_eq_left (by omega)];apply List.ext_getElem?;intro q
    by_cases hq:q<k*c
    · rw [List.getElem?_take_of_lt hq,List.getElem?_take_of_lt hq,Array.getElem?_toList,Array.getElem?_toList,hpg q (by omega),if_neg (by omega)]
    · rw [List.getElem?_take_eq_none (by omega),List.getElem?_take_eq_none (by omega)]
theorem aT3 {T E:TypeId}{ρ:Operand->Value}{o:Oper}{x:Operand}{g k m c:Nat}{z:Array Value}{w':World}(ho:o.op = .call ⟨.builtin .clear,#[x],#[T]⟩) (hx:ρ x=vL (some ⟨g,k,none⟩) (m+1) c) (hT:P.underlying T=some (.slice E)) (hz:∀ w,(zeroValue E).run P w = .ok (.agg z) w) (g1:(storeCells ⟨g,k,none⟩ (Builtin.zeroCells z (m+1)).toList 0).run P w = .ok () w'):(execOp ρ o).run P w = .ok (.value (.tuple #[])) w':=by
  simp [execOp,ho,hx,resolve,invoke,go_sem,Builtin.clear_,run_underlying hT,hz,g1]
theorem clr (r' i':Nat) (N:Frm) (T:TypeId) (j:Nat) {α:Type}{f:α->List Value}{c:Nat}{E:TypeId}{g n2 cap k:Nat}{A:List α}(hlen:∀ x,(f x).length=c) (z:Array Value) (hF:aBp P w F) (hM:Mm F0 w0 w M) (hj:M[j]?=some (rw_ f c E (vL (some ⟨g,0,none⟩) n2 cap) A)) (hk:k<A.length) (hT:P.underlying T=some (.slice E)) (hz:∀ w,(zeroValue E).run P w = .ok (.agg z) w) (hzc:∀ m,(Builtin.zeroCells z m).toList.length=m*c) (hzo:∀ m,(Builtin.zeroCells z m).toList.all (·.oneCell')=true)
    (kk:∀ w',Mm F0 w0 w' (M.set j (rw_ f c E (vL (some ⟨g,0,none⟩) k cap) (A.take k)))->AtO P B R ds n (some (r',i'+1)) (N++L) w')
    (h:(lhs (go P w n B p L r' i' F) N L,aWP (go P w n B p L r' i' F) n L (fun x => .call ⟨.builtin .clear,#[x],#[T]⟩))=(rhs (go P w n B p L r' i' F) N B r' i',aWO (go P w n B p L r' i' F) n L (fun x => .call ⟨.builtin .clear,#[x],#[T]⟩) none (vL (some ⟨g,k*c,none⟩) (n2-k) (cap-k))):=by kernel_rfl):AtO P B R ds n p L w:=by
  have hn2:n2=A.length:=by
    have h9:=hM.get j hj;rcases h9.2 with ⟨h1,_⟩ | ⟨g',cap',cur,h1,_⟩
    · cases h1
    · cases h1;rfl
  subst hn2;obtain ⟨m,hm⟩:∃ m,A.length-k=m+1:=⟨A.length-k-1,by omega⟩;obtain ⟨w',g1,g2,g3⟩:=aQj (P:=P) hlen (hM.get j hj) (Nat.le_of_lt hk) (hzc (A.length-k)) (hzo _);have hM':=hM.put (w':=w') (e':=rw_ f c E (vL (some ⟨g,0,none⟩) k cap) (A.take k)) j hj g3 (fun b _ e=>by subst e;rfl) g2 fun b e => .inl e;refine aUO hF h fun O k1 o l a x hf hd1 En hdd hw ho hx=>?_
  have hr:(execOp a.eval o).run P w = .ok (.value (.tuple #[])) w':=by
    rw [hm] at g1 hx;exact aT3 ho hx hT hz g1
  refine aEH hw hr ?_;rw [hdd];obtain ⟨O1,dr,k2,hf1,hk⟩:=kk w' hM';rw [hf] at hf1;cases hf1;have hdr:O.toList.drop (i'+1)=l:=by rw [←List.tail_drop,hd1];rfl
  rw [←hdr];exact hk _ En
end
def aJL (os:List ObR) (ar:Bys) (x:Bys×Int):Bool:=(x.1==ar) || !(inP os x.1 ar)
theorem rg1 {w:World}{b:Nat}{cs:Array Value}{T:TypeId}{v:Value}(h:w.heap[b]?=some (.cells cs T (0,0))) (hv:cs[0]?=some v):w.rangeAt b 0 [v]:=fun j u hu=>by
  cases j with
  | zero=>cases hu;exact bx h 0 hv
  | succ j=>cases hu
theorem aI1 {w:World}{v:Value}{os:List ObR}(hm:aC0 w v os) (hvm:aAl (aAa os)=true) (hlen:os.length<=100000) {ca cf fb:Nat}{ar:Bys}(hb2:B63 ar) {v1:Array Value}(hca:w.heap[ca]?=some (.cells #[vS ar] 9 (0,0))) (hcf:w.heap[cf]?=some (.cells #[vP fb 0] 68 (0,0))) (hfb:w.heap[fb]?=some (.cells v1 93 (0,0))) (hv1:v1[0]?=some v) {x:Bys×Int}(hb1:B63 x.1):Calls Tryz.prog 104 #[.agg #[vS x.1,vI x.2],vP ca 0,vP cf 0] w fun e w'=>e = .returned (vB (aJL os ar x)) /\ Fr nF_ w w':=by
  refine beg Tryz.func104 rfl rfl [(0,.agg #[vS x.1,vI x.2]),(1,vP ca 0),(2,vP cf 0)] rfl rfl fun Z hZ=>?_;have hM:=Mm.nil nF_ w;refine aAu 0 0 3 [] (cs:=#[vS x.1,vI x.2]) (T:=42) (v:=fun b=>vP b 0) f0 hM fun ab w1 hM=>seg 1 0 [] f0 ?_;cases aa:(x.1==ar)
  ·refine drc [(4,vB (!(inP os x.1 ar)))] hM (fun w5 hM=>(fc (ldm 9 0 0 hM rfl rfl) (fc (ld0 9 hM (bx hca 0 rfl)) (fc (rz (seq 9 x.1 ar) aa) (fc (ld0 68 hM (bx hcf 0 rfl)) (fc (la0 24 hM (l:=[v]) (rg1 hfb hv1)) (fc (ldm 9 0 0 hM rfl rfl) (fc (ld0 9 hM (bx hca 0 rfl)) (fc (tcl (aIs (hm.fr hM.fr) hvm hlen hb1 hb2)) f0))))))))) fun w5 hM=>rt1 4 (vB (!(inP os x.1 ar))) rfl f0 (hZ _ _ ⟨by unfold aJL;simp only [aa]<;>rfl,hM.fr⟩)
  refine drc [(4,vB true)] hM (fun w5 hM=>(fc (ldm 9 0 0 hM rfl rfl) (fc (ld0 9 hM (bx hca 0 rfl)) (fc (rz (seq 9 x.1 ar) aa) f0)))) fun w5 hM=>rt1 4 (vB true) rfl f0 (hZ _ _ ⟨by unfold aJL;simp only [aa]<;>rfl,hM.fr⟩)
def aOi (P:Bys×Int->Bool) (L:List (Bys×Int)):Int:=match L.findIdx? P with
  | some i=>(i:Int)
  | none => -1
theorem aTr {P:Bys×Int->Bool}{L:List (Bys×Int)}(h:∀ k x,k<L.length->L[k]?=some x->P x=false):aOi P L = -1:=by
  unfold aOi
  rw [List.findIdx?_eq_none_iff.2 fun x hx=>by
    obtain ⟨k,hk,e⟩:=List.mem_iff_getElem.1 hx;exact h k x hk (by rw [Gb_ hk,e])]
theorem aQK {P:Bys×Int->Bool}{L:List (Bys×Int)}{i:Nat}{y:Bys×Int}(hy:L[i]?=some y) (hp:P y=true) (h:∀ k x,k<i->L[k]?=some x->P x=false):aOi P L=(i:Int):=by
  have e:L.findIdx? P=some i:=by
    obtain ⟨hi,rfl⟩:=List.getElem?_eq_some_iff.1 hy;exact List.findIdx?_eq_some_iff_getElem.2 ⟨hi,hp,fun j hj=>by rw [h j _ hj (Gb_ (by omega))];simp⟩
  unfold aOi;rw [e]
theorem aOh (P:Bys×Int->Bool) (L:List (Bys×Int)):(aOi P L = -1 /\ L.filter (fun x => !P x)=L)∨∃ i:Nat,aOi P L=(i:Int) /\ i<L.length /\ L.take i=(L.take (i+1)).filter fun x => !P x:=by
  unfold aOi
  cases h:L.findIdx? P with
  | none =>
    refine .inl ⟨rfl,?_⟩;rw [List.filter_eq_self];intro x hx;rw [List.findIdx?_eq_none_iff.1 h x hx];rfl
  | some i =>
    obtain ⟨hi,h1,h2⟩:=List.findIdx?_eq_some_iff_getElem.1 h;refine .inr ⟨i,rfl,hi,?_⟩;rw [List.take_succ_eq_append_getElem hi,List.filter_append,show [L[i]].filter (fun x => !P x)=[] by simp [h1],List.append_nil]
    symm
    rw [List.filter_eq_self];intro x hx;obtain ⟨k,hk,e⟩:=List.mem_iff_getElem.1 hx;rw [Gp_] at hk;rw [List.getElem_take] at e;have:=h2 k (by omega);rw [e] at this;simpa using this
abbrev aX0 (Z:Ending->World->Prop):=AtO Tryz.prog (aAw Tryz.f127) (aAL (bodyPost Tryz.prog Tryz.f127 Z)) [] 19
theorem aMc {w:World}{v:Value}{os:List ObR}(hm:aC0 w v os) (hvm:aAl (aAa os)=true) (hlen:os.length<=100000) {ca cf fb:Nat}{ar:Bys}(hb2:B63 ar) {v1:Array Value}(hca:w.heap[ca]?=some (.cells #[vS ar] 9 (0,0))) (hcf:w.heap[cf]?=some (.cells #[vP fb 0] 68 (0,0))) (hfb:w.heap[fb]?=some (.cells v1 93 (0,0))) (hv1:v1[0]?=some v) {L:List (Bys×Int)}(hid:∀ x∈L,B63 x.1) {p:Option Addr}{cap:Nat}(hs:SrcP rwL 2 w p cap L):Calls Tryz.prog 127 #[vL p L.length cap,.func (.func 104) #[] #[vP ca 0,vP cf 0]] w fun e w'=>e = .returned (vI (aOi (aJL os ar) L)) /\ Fr nF_ w w':=by
  have bb:=hs.bnd;refine beg Tryz.func127 rfl rfl [(0,vL p L.length cap),(1,.func (.func 104) #[] #[vP ca 0,vP cf 0])] rfl rfl fun Z hZ=>?_;have hM:=Mm.nil nF_ w;refine seg 2 0 [(7,vI (L.length:Int)),(8,vI 0)] f0 ?_
  have ad:∀ (aa:Nat) (i:Nat) (w2:World),i<=L.length->(∀ k x,k<i->L[k]?=some x->aJL os ar x=false)->Mm nF_ w w2 []->aa=L.length-i->aX0 Z (some (2,0)) [(8,vI (i:Int)),(7,vI (L.length:Int)),(0,vL p L.length cap),(1,.func (.func 104) #[] #[vP ca 0,vP cf 0])] w2:=by
   refine aCx fun aa ae i w2 hi hall hM ai=>seg 2 1 [(9,vB (decide ((i:Int)<(L.length:Int))))] f0 ?_;cases ab:(decide ((i:Int)<(L.length:Int)))
   ·have af:=df ab;exact rt1 4 (vI (-1)) rfl f0 (hZ _ _ ⟨by rw [aTr fun k x hk=>hall k x (by omega)],hM.fr⟩)
   have af:=dt ab;obtain ⟨y,hy,aj,ak,ag,ah⟩:=hs.el (i:=i) (by omega);refine aAx 4 5 16 [(5,vI (i:Int)),(11,.func (.func 104) #[] #[vP ca 0,vP cf 0]),(15,.agg #[vS y.1,vI y.2])] (fc (ix 36 cap ag (gl hy)) (fc (la0 42 hM ah) f0)) hM (aI1 (hm.fr hM.fr) hvm hlen hb2 ((hM.fr).obj hca id) ((hM.fr).obj hcf id) ((hM.fr).obj hfb id) hv1 (x:=y) (hid y (gm hy))) fun w1 hM=>?_;cases ac:(aJL os ar y)
   ·refine seg 2 0 [(8,vI ((i:Int)+1))] (fc (aAI (i:Int) 1 u3_) f0) (aAh _ (ae _ (by have:=gl hy;omega) (i+1) _ (gl hy) (fun k x hk hx=>by rcases Nat.lt_succ_iff_lt_or_eq.1 hk with h | h;exact hall k x h hx;rw [h,hy] at hx;cases hx;exact ac) hM rfl))
   exact rt1 4 (vI (i:Int)) rfl f0 (hZ _ _ ⟨by rw [aQK hy ac hall],hM.fr⟩)
  exact aAh _ (ad _ 0 _ (Gg_ _) (fun _ _ h=>absurd h (Nat.not_lt_zero _)) hM rfl)
theorem aUp (w:World):(zeroValue 42).run Tryz.prog w = .ok (.agg #[vS [],vI 0]) w:=by kernel_rfl
theorem zc2 (m:Nat):(Builtin.zeroCells #[vS [],vI 0] m).toList.length=m*2:=by
  unfold Builtin.zeroCells;simp
theorem zo2 (m:Nat):(Builtin.zeroCells #[vS [],vI 0] m).toList.all (·.oneCell')=true:=by
  unfold Builtin.zeroCells;rw [List.all_eq_true];intro x hx;simp at hx;obtain ⟨i,hi,rfl⟩:=hx;have:i%2=0∨i%2=1:=by omega
  rcases this with h | h<;>simp [h]<;>rfl
section
variable {P:Bys×Int->Bool}{A L:List (Bys×Int)}{i j:Nat}{y:Bys×Int}
theorem aV7 (h:A.take i=(L.take j).filter fun x => !P x) (hy:L[j]?=some y) (hp:P y=true):A.take i=(L.take (j+1)).filter fun x => !P x:=by
  rw [gt_ hy,List.filter_append,←h];simp [hp]
theorem aXd (h:A.take i=(L.take j).filter fun x => !P x) (hy:L[j]?=some y) (hp:P y=false) (hi:i<A.length):(A.set i y).take (i+1)=(L.take (j+1)).filter fun x => !P x:=by
  rw [gt_ hy,List.filter_append,←h,List.take_succ_eq_append_getElem (by rw [List.length_set];exact hi),List.getElem_set_self,List.take_set_of_le (Gj_ i)];simp [hp]
theorem aTy (h:A.drop j=L.drop j) (hy:L[j]?=some y):A[j]?=some y:=by
  have e:(A.drop j)[0]?=(L.drop j)[0]?:=by rw [h]
  rw [List.getElem?_drop,List.getElem?_drop] at e;exact e.trans hy
theorem aO2 (h:A.drop j=L.drop j):A.drop (j+1)=L.drop (j+1):=by
  have:=congrArg List.tail h;rw [List.tail_drop,List.tail_drop] at this;exact this
theorem aV8 (h:A.drop j=L.drop j) (hi:i<j):(A.set i y).drop (j+1)=L.drop (j+1):=by
  rw [List.drop_set_of_lt (by omega)];exact aO2 h
end
abbrev aZn (Z:Ending->World->Prop):=AtO Tryz.prog (aAw Tryz.f70) (aAL (bodyPost Tryz.prog Tryz.f70 Z)) [] 42
theorem aMi {w:World}{G:Nat->Prop}{wB:World}{v u0:Value}{os:List ObR}(hm:aC0 wB v os) (hvm:aAl (aAa os)=true) (hlen:os.length<=100000) {ca cf fb:Nat}{ar:Bys}(hb2:B63 ar) {v1:Array Value}(hca:wB.heap[ca]?=some (.cells #[vS ar] 9 (0,0))) (hcf:wB.heap[cf]?=some (.cells #[vP fb 0] 68 (0,0))) (hfb:wB.heap[fb]?=some (.cells v1 93 (0,0))) (hv1:v1[0]?=some v) (hfB:Fr nF_ wB w) (hG:∀ k,G k->wB.heap.size<=k) {L:List (Bys×Int)}(hid:∀ x∈L,B63 x.1) (hl:L.length<=1000000) (hM:Mm G w w [rw_ rwL 2 42 u0 L]):Calls Tryz.prog 70 #[u0,.func (.func 104) #[] #[vP ca 0,vP cf 0]] w fun e w'=>∃ u,e = .returned u /\ Mm G w w' [rw_ rwL 2 42 u (L.filter fun x => !aJL os ar x)]:=by
  obtain ⟨p,c,hv0,-⟩:=(hM.src (j:=0) rfl rwT.len).op;subst hv0;have hfr:∀ w1,Fr G w w1->Fr nF_ wB w1:=fun w1 f=>hfB.trans' f fun r hr hg=>absurd hr (by have:=hG r hg;omega);refine beg Tryz.func70 rfl rfl [(0,vL p L.length c),(1,.func (.func 104) #[] #[vP ca 0,vP cf 0])] rfl rfl fun Z hZ=>?_
  skip
  refine aAx 1 2 10 [(8,vL p L.length c),(9,.func (.func 104) #[] #[vP ca 0,vP cf 0])] f0 hM (aMc (hm.fr (hfr _ hM.fr)) hvm hlen hb2 (((hfr _ hM.fr)).obj hca id) (((hfr _ hM.fr)).obj hcf id) (((hfr _ hM.fr)).obj hfb id) hv1 hid ((hM.src (j:=0) rfl rwT.len).p).2) fun w1 hM=>seg 2 2 [(5,vI (aOi (aJL os ar) L)),(12,vB ((aOi (aJL os ar) L)==(-1)))] f0 ?_;cases aa:((aOi (aJL os ar) L)==(-1))
  rotate_left
  ·have ai:=et aa;exact rt1 4 (vL p L.length c) rfl f0 (hZ _ _ ⟨_,rfl,by rcases aOh (aJL os ar) L with ⟨-,hz⟩ | ⟨i0,hi0,-⟩;rw [hz];exact hM;exact absurd (et aa) (by omega)⟩)
  have ai:=ef aa;rcases aOh (aJL os ar) L with ⟨hi0,-⟩ | ⟨i0,hi0,hil,htk⟩
  · exact absurd hi0 (ef aa)
  obtain ⟨g,hg,-,hLc,-⟩:=aNw (hM.get 0 rfl) (show 0<L.length by omega);subst hg;rw [hi0];refine seg 5 0 [(6,vI ((i0:Int)+1))] (fc (aAI (i0:Int) 1 u3_) f0) ?_
  have aj:∀ (ab:Nat) (j:Nat) (i:Nat) (A:List (Bys×Int)) (w2:World),j<=L.length->i<j->A.length=L.length->(A.take i=(L.take j).filter fun x => !aJL os ar x)->A.drop j=L.drop j->Mm G w w2 [rw_ rwL 2 42 (vL (some ⟨g,0,none⟩) L.length c) A]->ab=L.length-j->aZn Z (some (5,0)) [(6,vI (j:Int)),(5,vI (i:Int)),(0,vL (some ⟨g,0,none⟩) L.length c),(1,.func (.func 104) #[] #[vP ca 0,vP cf 0])] w2:=by
   refine aCx fun ab ac j i A w2 hjl hij hAl hA hdr hM am=>seg 5 4 [(19,vB (decide ((j:Int)<(L.length:Int))))] f0 ?_;cases ad:(decide ((j:Int)<(L.length:Int)))
   ·have ak:=df ad;have hcm:c<=9223372036854775807:=((hM.src (j:=0) rfl rwT.len).p).2.ca;refine clr 11 3 [(38,vL (some ⟨g,i*2,none⟩) (L.length-i) (c-i))] 36 0 rwT.len _ (fc (aYu 36 42 g 2 rfl (show i<L.length by omega) hLc (fun w=>by kernel_rfl)) f0) hM rfl (show i<A.length by omega) Tryz.underlying36 aUp zc2 zo2 fun w1 hM=>rt1 4 (vL (some ⟨g,0,none⟩) i c) rfl (fc (aXE 36 42 g (n:=L.length) (c:=c) (k:=i) rfl (show i<=c by omega) (show 0<c by omega) hcm ⟨2,fun w=>by kernel_rfl⟩) f0) (hZ _ _ ⟨_,rfl,by rw [hA,Gc_ (show L.length<=j by omega)] at hM;exact hM⟩)
   have ak:=dt ad;obtain ⟨y,hy⟩:=geb (l:=L) (i:=j) (by omega);have hyA:=aTy hdr hy;obtain ⟨an,ae,-⟩:=hM.el rwT (j:=0) rfl hyA;refine aBY 7 4 7 [(25,.agg #[vS y.1,vI y.2])] [] 42 (.agg #[vS y.1,vI y.2]) (fc (ix 36 c ae (show j<L.length by omega)) (fc (lar 42 0 0 2 rwT hM rfl ae hyA) f0)) hM fun ao w1 hM=>aAx 8 2 28 [(26,.func (.func 104) #[] #[vP ca 0,vP cf 0]),(27,.agg #[vS y.1,vI y.2])] (fc (lam 42 1 0 2 hM rfl) f0) hM (aI1 (hm.fr (hfr _ hM.fr)) hvm hlen hb2 (((hfr _ hM.fr)).obj hca id) (((hfr _ hM.fr)).obj hcf id) (((hfr _ hM.fr)).obj hfb id) hv1 (x:=y) (hid y (gm hy))) fun w1 hM=>seg 8 4 [(29,vB (!(aJL os ar y)))] f0 ?_;cases af:(aJL os ar y)
   ·obtain ⟨ap,ag⟩:=geb (l:=A) (i:=i) (by omega);obtain ⟨al,ah,-⟩:=hM.el rwT (j:=0) rfl ag;refine aYt 9 4 [(32,.agg #[vS y.1,vI y.2]),(33,vP al (0+i*2))] 42 0 0 y (.agg #[vS y.1,vI y.2]) rwT (fc (lam 42 1 0 2 hM rfl) (fc (ix 36 c ah (show i<L.length by omega)) f0)) hM rfl ah ag rfl fun w1 hM=>seg 5 0 [(5,vI ((i:Int)+1)),(6,vI ((j:Int)+1))] (fc (aAI (i:Int) 1 u3_) (fc (aAI (j:Int) 1 u3_) f0)) ?_;have hM:=hM.pick [0];exact aAh _ (ac _ (by omega) (j+1) (i+1) (A.set i y) _ (by omega) (by omega) (by rw [List.length_set];exact hAl) (aXd hA hy af (by omega)) (aV8 hdr hij) hM rfl)
   refine seg 5 0 [(6,vI ((j:Int)+1))] (fc (aAI (j:Int) 1 u3_) f0) ?_;have hM:=hM.pick [0];exact aAh _ (ac _ (by omega) (j+1) i A _ (by omega) (by omega) hAl (aV7 hA hy af) (aO2 hdr) hM rfl)
  exact aAh _ (aj _ (i0+1) i0 L _ (by omega) (by omega) rfl htk rfl hM rfl)
theorem aJN {α β:Type}{F:α->Option β}{os:List α}{i:Nat}{y:α}{r:β}(hy:os[i]?=some y) (h:F y=some r):(os.filterMap F)[((os.take i).filterMap F).length]?=some r /\ ((os.take (i+1)).filterMap F).length=((os.take i).filterMap F).length+1:=by
  constructor
  · have e:os.filterMap F=(os.take i).filterMap F++(r::(os.drop (i+1)).filterMap F):=by
      conv=>lhs;rw [←List.take_append_drop i os,List.filterMap_append]
      congr 1;rw [List.drop_eq_getElem?_toList_append,hy];simp [h]
    rw [e,List.getElem?_append_right (Gj_ _),Nat.sub_self];rfl
  · rw [gt_ hy,List.filterMap_append,Gi_];simp [h]
theorem aFT {F:ObR->Option (Bys×Int)}(hF:∀ b r,F b=some r->r.1=b.o.id) {os:List ObR}(hp:(os.map (·.o.id)).Nodup) {i:Nat}{y:ObR}(hy:os[i]?=some y) (h:F y=none):(∀ r,(os.filterMap F)[((os.take i).filterMap F).length]?=some r->¬ r.1=y.o.id) /\ ((os.take (i+1)).filterMap F).length=((os.take i).filterMap F).length:=by
  constructor
  · intro r hr e
    have e2:os.filterMap F=(os.take i).filterMap F++(os.drop (i+1)).filterMap F:=by
      conv=>lhs;rw [←List.take_append_drop i os,List.filterMap_append]
      congr 1;rw [List.drop_eq_getElem?_toList_append,hy];simp [h]
    rw [e2,List.getElem?_append_right (Gj_ _),Nat.sub_self] at hr;obtain ⟨b,hb,hbr⟩:=List.mem_filterMap.1 (Ge_ hr);have h1:=hF b r hbr;have h2:os.map (·.o.id)=(os.take (i+1)).map (·.o.id)++(os.drop (i+1)).map (·.o.id):=by rw [←List.map_append,List.take_append_drop]
    rw [h2] at hp;refine (List.nodup_append.1 hp).2.2 y.o.id (List.mem_map.2 ⟨y,?_,rfl⟩) b.o.id (List.mem_map.2 ⟨b,hb,rfl⟩) (by rw [←h1,e]);rw [gt_ hy];simp
  · rw [gt_ hy,List.filterMap_append,Gi_];simp [h]
def aDa (h:Nat) (q:QdR) (os:List ObR) (b:ObR):Option (Bys×Int):=bif (aAP b.o.tags q.key).2&&(b.o.kind==3)&&(aBe os b).isSome then some (b.o.id,((aDS h q os b.o.id).length:Int)) else none
theorem aDu {h:Nat}{q:QdR}{os:List ObR}(b:ObR) (r:Bys×Int) (e:aDa h q os b=some r):r.1=b.o.id:=by
  unfold aDa at e;cases hc:(aAP b.o.tags q.key).2&&(b.o.kind==3)&&(aBe os b).isSome<;>rw [hc] at e
  · cases e
  · cases e;rfl
theorem aO6 (h:Nat) (q:QdR) (os:List ObR):aPs h q os=os.filterMap (aDa h q os):=rfl
theorem aLa (h:Nat) (q:QdR) (os:List ObR):(aPs h q os).length<=os.length:=List.length_filterMap_le _ _
theorem aQG (h:Nat) (q:QdR) (os:List ObR) (a:Bys):(aDS h q os a).length<=os.length:=Gn_ (List.length_filter_le _ _) (aFo h q os)
theorem aOe {h:Nat}{q:QdR}{os:List ObR}{b:ObR}(hb:obF os b.o.id=some b) (hr:aBe os b=none):aDS h q os b.o.id=[]:=by
  unfold aDS;rw [List.filter_eq_nil_iff];intro x _;rw [aQJ hb hr];simp
theorem aK5 {os:List ObR}(hv:aAl (aAa os)=true) {b:ObR}(hb:b∈os) (h3:(b.o.kind==3)=true):(aBe os b).isSome=(((aAf (aAa os) b.o.id).1==0)&&aDR (aAf (aAa os) b.o.id).2):=by
  obtain ⟨q1,q2⟩:=aCI (aAM hv) (List.mem_map.2 ⟨b,hb,rfl⟩);obtain ⟨k,o,hk,ho,he⟩:=aBC q1;obtain ⟨z,hz⟩:=geb (l:=os) (i:=k) (by rw [←aAQ];exact gl ho);have hzo:z.o=o:=by have:=aAF hz;rw [ho] at this;exact (Gh_ this).symm
  have hzb:z=b:=aUV (aLI (aAM hv)) (gm hz) hb (by rw [hzo,he]);subst hzb;have hnd:∀ r,aCB (aAa os) r=ndA os r:=aUY (aAM hv);rw [aG0 hv hk hz];unfold aAG aBe;have h1:(z.o.kind==1)=false:=by rw [et h3];rfl
  have e1:(z.o.refs.all fun r=>(aCB (aAa os) r).isSome)=(z.o.refs.all fun r=>(ndA os r).isSome):=by simp only [hnd]
  have e2:(z.o.refs.map fun r=>(aCB (aAa os) r).getD (0,0))=rgL os z:=by unfold rgL;simp only [hnd]
  rw [h1,h3,e1,e2,Bool.or_true];cases z.o.refs.all fun r=>(ndA os r).isSome
  · rfl
  · show (bif true&&true&&aDR (rgL os z) then some (rgL os z) else none).isSome=(((0:Int)==0)&&aDR (rgL os z))
    cases aDR (rgL os z)<;>rfl
def inQ (q:QdR) (id:Bys):QdR:={ q with ask:=2,id:=id,n:=0,x:=0,y:=0,key:=[],prof:=[],min:=0 }
theorem aVD {h:Nat}{os:List ObR}{q:QdR}(hc:aAp h os q=0) {b:ObR}(hb:b∈os) (h3:(b.o.kind==3)=true):aAp h os (inQ q b.o.id)=0:=by
  obtain ⟨hvq,hvm,-,-⟩:=aEO hc
  have hn:aBg b.o.id=true:=by
    have h9:=aCk hvm _ (List.mem_map.2 ⟨b,hb,rfl⟩);unfold aAW at h9;simp only [Ga_] at h9;exact h9.1.1.1.1.1.2
  have hv2:aAS h (inQ q b.o.id)=true:=by
    unfold aAS at hvq ⊢;simp only [Ga_] at hvq ⊢;refine ⟨hvq.1,?_⟩;show (aBg b.o.id&&aCY (inQ q b.o.id) true false false false false false)=true;rw [hn];rfl
  have hf:=(aCI (aAM hvm) (List.mem_map.2 ⟨b,hb,rfl⟩)).1;unfold aAp;rw [hv2,hvm];show (bif decide (aAv (aAa os) b.o.id<0) then (11:Int) else bif aDp os b.o.id==3 then 0 else 13)=0;rw [decide_eq_false hf,aNY hvm hb,h3];rfl
section
variable {P:Program}{w w0:World}{rd:Option Nat}{B:Code}{r n:Nat}{L:Frm}{ef:List Nat}{V:Lts->List (Option Value)}{F:Lts->List Ft}{ds:List Deferred}{F0:Nat->Prop}{Mf:Lts->List Bool->List Ent}
theorem aTN (p i d:Nat) {f:FuncId}(args:Lts->Array Value) (n0:Nat)
    (hc:∀ Z fr wm,Mm F0 w0 wm (Mf Z (flg B r ef i fr))->Calls P f (args Z) wm fun x w'=>∃ q c0,x = .returned (vL q n0 c0) /\ Fr nF_ wm w')
    (hm:∀ Z fr q c0,Mf Z (flg B r ef i fr)=Mf (aBN Z p (vL q n0 c0)) ((flg B r ef i fr).set p true):=by intro Z fr q c0;kernel_rfl)
    (hV:∀ Z q c0,((V (aBN Z p (vL q n0 c0)))[p]?).getD none=some (vL q n0 c0):=by intro Z q c0;rfl)
    (hs:∀ Z wm,enL P wm (aA5 B r) i (frX P w n B r L ef V F i Z)=some (f,args Z,some d,wm):=by intro Z wm;kernel_rfl):Arm rd P w n B r L ef V F ds F0 w0 Mf p i:=by
  intro Z fr a wm Q o ho En hw hM;obtain ⟨h1,h2⟩:=aIz ho En (hs Z wm);refine aC5 (R:=fun u w'=>∃ q c0,u=vL q n0 c0 /\ Fr nF_ wm w') h1 ((hc Z fr wm hM).mono fun x w' ⟨q,c0,g1,g2⟩=>⟨_,g1,q,c0,rfl,g2⟩) fun u w' ⟨q,c0,hu,g1⟩=>?_;subst hu;have hM':=hM.q g1;rw [hm Z fr q c0] at hM';exact ⟨vL q n0 c0,Z.e p,by rw [aAy,hV,h2];rfl,by rw [aAy];exact hM'⟩
end
theorem aWW {w w':World}{T:TypeId}{u:Value}{L:List (Bys×Int)}(h:Mm nF_ w w' [rw_ rwL 2 T u L]):∃ q c0,u=vL q L.length c0 /\ Fr nF_ w w':=by
  obtain ⟨q,c0,e,-⟩:=(h.src (j:=0) rfl rwT.len).op;exact ⟨q,c0,e,h.fr⟩
theorem aTR {h:Nat}{q:QdR}{os:List ObR}(hb:∀ b∈os,B63 b.o.id):∀ x∈aHB h q os,B63 x.1:=fun x hx=>by
  obtain ⟨b,h1,rfl⟩:=List.mem_map.1 hx;exact hb b (List.mem_filter.1 h1).1
theorem aW9 {w:World}:Ft.ok Tryz.prog w (.g2 (fun x y => .binOp .neq 95 x y 95) (.pointer none) (.pointer none) (vB false)):=fun o ρ x y ho hx hy=>by simp [execOp,ho,hx,hy,go_sem,u95_]
theorem aW8 (b:Nat) {w:World}:Ft.ok Tryz.prog w (.g2 (fun x y => .binOp .neq 95 x y 95) (vP b 0) (.pointer none) (vB true)):=fun o ρ x y ho hx hy=>by simp [execOp,ho,hx,hy,go_sem,u95_]
section
variable {h:Nat}{q:QdR}{os:List ObR}{i:Nat}{y:ObR}
theorem aMn (h1:(aAP y.o.tags q.key).2=false∨(y.o.kind==3)=false∨(aBe os y).isSome=false):aDa h q os y=none:=by
  unfold aDa;rcases h1 with e | e | e<;>rw [e]<;>simp
theorem aVE (h1:(aAP y.o.tags q.key).2=true) (h2:(y.o.kind==3)=true) (h3:(aBe os y).isSome=true):aDa h q os y=some (y.o.id,((aDS h q os y.o.id).length:Int)):=by unfold aDa;rw [h1,h2,h3];rfl
theorem aVA {r:Bys×Int}(hy:os[i]?=some y) (e:aDa h q os y=some r):(os.take i).filterMap (aDa h q os)++[r]=(os.take (i+1)).filterMap (aDa h q os):=by rw [gt_ hy,List.filterMap_append];simp [e]
theorem aMj (hy:os[i]?=some y) (e:aDa h q os y=none):(os.take i).filterMap (aDa h q os)=(os.take (i+1)).filterMap (aDa h q os):=by rw [gt_ hy,List.filterMap_append];simp [e]
theorem aNo (hvm:aAl (aAa os)=true) {S:List ShR}(hSh:aEt (aAa os) os S) {s:ShR}(hs:s∈S) (e:s.o.o.id=y.o.id) (hy:y∈os) (h3:(y.o.kind==3)=true):(aBe os y).isSome=aDR (s.P (aAa os)):=by
  have h1:=aMN hSh hs;rw [aK5 hvm hy h3,←e,h1];rfl
theorem aLE (hvm:aAl (aAa os)=true) {S:List ShR}(hSh:aEt (aAa os) os S) (hno:∀ s∈S,s.o.o.id≠y.o.id) (hy:y∈os):(y.o.kind==3)=false∨(aBe os y).isSome=false:=by
  cases h3:(y.o.kind==3) with
  | false=>exact .inl rfl
  | true =>
    refine .inr ?_;rw [aK5 hvm hy h3]
    cases h1:((aAf (aAa os) y.o.id).1==0) with
    | false=>rfl
    | true =>
      have hm:y∈S.map (·.o):=by rw [hSh];exact List.mem_filter.2 ⟨hy,h1⟩
      obtain ⟨s,hs,rfl⟩:=List.mem_map.1 hm;exact absurd rfl (hno s hs)
end
theorem aG5 {w:World}{fb bs xi:Nat}{p0:Option Addr}{cp0:Nat}{os:List ObR}(hm:aC0 w (vL p0 os.length cp0) os) (hvm:aAl (aAa os)=true) {B h:Nat}{q:QdR}(hq:QdIn w B h q) (hBw:B<=w.heap.size) (hTe:Te w) (hfb:w.heap[fb]?=some (.cells (fY_ (vL p0 os.length cp0) q (.map (some bs)) (vP xi 0)) 93 (0,0))) (hlen:os.length<=100000) {ar:Bys}(hb2:B63 ar):Calls Tryz.prog 57 #[vP fb 0,vS ar] w fun e w'=>∃ u,e = .returned u /\ Mm nF_ w w' [rw_ rwL 2 42 u (aDS h q os ar)]:=by
  have hm0:=hm;obtain ⟨hs0,hob⟩:=hm0;refine beg Tryz.func57 rfl rfl [(0,vP fb 0),(1,vS ar)] rfl rfl fun Z hZ=>?_;have hM:=Mm.nil nF_ w;refine aAu 0 0 2 [] (cs:=#[vP fb 0]) (T:=68) (v:=fun b=>vP b 0) f0 hM fun aa w1 hM=>aAu 0 1 3 [] (cs:=#[vS ar]) (T:=9) (v:=fun b=>vP b 0) f0 hM fun ab w1 hM=>?_;have hMB:=hM;refine cal 1 1 9 [(8,vP fb 0)] (K:=fun u w8=>∃ v8,u = .tuple #[v8,vI 0] /\ Mm nF_ _ w8 [rw_ rwL 2 42 v8 (aHB h q os)]) (fc (ldm 68 0 0 hM rfl rfl) f0) ((aIG (hm.fr hM.fr) hvm (hq.fr hM.fr hBw) (Gn_ hBw hM.fr.size) (hTe.fr hM.fr) (hM.fr.obj hfb id) (by omega)).mono fun e w9 ⟨u9,h1,h2⟩=>⟨_,h1,u9,rfl,h2⟩) fun u w1 ⟨v8,hu,hrw⟩=>?_;subst hu;have hM:=hMB.add hrw.fr _ (hrw.get 0 rfl) (fun k hk=>hrw.ge (.head _) hk);refine aOI 2 2 14 [(12,v8),(13,.func (.func 104) #[] #[vP ab 0,vP aa 0])] (K:=fun u Mn=>Mn=[rw_ rwL 2 42 u (aDS h q os ar)]) [0,1] [2] f0 hM rfl rfl (by decide) (fun hmm=>((aMi (hm.fr hMB.fr) hvm hlen hb2 (hMB.get 1 rfl) (hMB.get 0 rfl) (hMB.fr.obj hfb id) rfl hrw.fr (fun k ⟨e,he,hb⟩=>hrw.ge he hb) (aTR fun b hb=>(hob b hb).bnd.id) (by have:=aFo h q os;omega) hmm).mono fun e w9 ⟨u,h1,h2⟩=>⟨_,_,h1,rfl,h2⟩)) fun u Mn w1 hK hM=>?_;obtain rfl:=hK;exact rt1 4 u rfl f0 (hZ _ _ ⟨_,rfl,hM.pick [2]⟩)
theorem aHG {w:World}{fb bs xi:Nat}{p0:Option Addr}{cp0:Nat}{os:List ObR}(hm:aC0 w (vL p0 os.length cp0) os) (hvm:aAl (aAa os)=true) {B h:Nat}{q:QdR}(hq:QdIn w B h q) (hBw:B<=w.heap.size) (hTe:Te w) (hfb:w.heap[fb]?=some (.cells (fY_ (vL p0 os.length cp0) q (.map (some bs)) (vP xi 0)) 93 (0,0))) (hlen:os.length<=100000):Calls Tryz.prog 29 #[vP fb 0] w fun e w'=>∃ u,e = .returned (.tuple #[u,vI 0]) /\ Mm nF_ w w' [rw_ rwL 2 42 u (aDS h q os q.id)]:=by
  refine beg Tryz.func29 rfl rfl [(0,vP fb 0)] rfl rfl fun Z hZ=>?_;have hM:=Mm.nil nF_ w;refine aOI 1 6 10 [(4,vP fb 0),(9,vS q.id)] (K:=fun u Mn=>Mn=[rw_ rwL 2 42 u (aDS h q os q.id)]) [] [] (fc (ld0 9 hM (bx hfb 8 rfl)) f0) hM rfl rfl (by decide) (fun hmm=>((aG5 (hm.fr hM.fr) hvm (hq.fr hM.fr hBw) (Gn_ hBw hM.fr.size) (hTe.fr hM.fr) (hM.fr.obj hfb id) hlen hq.id).mono fun e w9 ⟨u,h1,h2⟩=>⟨_,_,h1,rfl,aIH h2 fun _ h=>h.elim⟩)) fun u Mn w1 hK hM=>?_;obtain rfl:=hK;exact rt2 2 3 u (vI 0) rfl rfl f0 (hZ _ _ ⟨_,rfl,hM⟩)
abbrev aZm (Z:Ending->World->Prop):=AtO Tryz.prog (aAw Tryz.f33) (aAL (bodyPost Tryz.prog Tryz.f33 Z)) [] 68
theorem aJM {wB w:World}{G:Nat->Prop}(hfB:Fr nF_ wB w) (hG:∀ k,G k->wB.heap.size<=k) {fb bs xi mb ns:Nat}{S0:Nat->Prop}{S:List ShR}{p0:Option Addr}{cp0:Nat}{os:List ObR}(hm:aC0 wB (vL p0 os.length cp0) os) (hvm:aAl (aAa os)=true) {B h:Nat}{q:QdR}(hq:QdIn wB B h q) (hBw:B<=wB.heap.size) (hTe:Te wB) (hSh:aEt (aAa os) os S) (hol:os.length<=100000) (hns:ns=S.length) (hM:Mm G w w [bk fb (fY_ (vL p0 os.length cp0) q (.map (some bs)) (vP xi 0)) 93,mp Tryz.prog 9 bs ns (shF S),ixO xi mb ns (bxS (aAa os) S) S0,aBL (S.map (shE (aAa os)))]):Calls Tryz.prog 33 #[vP fb 0] w fun e w'=>∃ u,e = .returned (.tuple #[u,vI 0]) /\ Mm G w w' [rw_ rwL 2 42 u (aPs h q os)]:=by
  have hm0:=hm;obtain ⟨hs0,hob⟩:=hm0;have hpw:=aUG hvm hSh;have sp0:=hs0.p.2.b hfB;refine beg Tryz.func33 rfl rfl [(0,vP fb 0)] rfl rfl fun Y hY=>?_
  skip
  have hM:=hM.row (f:=rwL) (c:=2) (E:=42);refine seg 3 0 [(4,vL none 0 0),(14,vL p0 os.length cp0),(15,vI (os.length:Int)),(16,vI 0)] (fc (ldm 22 0 0 hM rfl rfl) f0) ?_
  have aj:∀ (ae:Nat) (i:Nat) (vo:Value) (w2:World),i<=os.length->Mm G w w2 [bk fb (fY_ (vL p0 os.length cp0) q (.map (some bs)) (vP xi 0)) 93,mp Tryz.prog 9 bs ns (shF S),ixO xi mb ns (bxS (aAa os) S) S0,aBL (S.map (shE (aAa os))),rw_ rwL 2 42 vo ((os.take i).filterMap (aDa h q os))]->ae=os.length-i->aZm Y (some (3,0)) [(16,vI (i:Int)),(15,vI (os.length:Int)),(14,vL p0 os.length cp0),(4,vo),(0,vP fb 0)] w2:=by
   refine aCx fun ae aa i vo w2 hi hM aq=>seg 3 1 [(17,vB (decide ((i:Int)<(os.length:Int))))] f0 ?_;cases af:(decide ((i:Int)<(os.length:Int)))
   ·have ak:=df af;exact rt2 2 3 vo (vI 0) rfl rfl f0 (hY _ _ ⟨_,rfl,by rw [Gc_ (by omega)] at hM;exact hM.pick [4]⟩)
   have ak:=dt af;obtain ⟨y,hy,ar,au,al,am,n310⟩:=sp0.eb hG (i:=i) (by omega);refine aBY 4 2 6 [(19,.agg (oY_ y))] [] 48 (.agg (oY_ y)) (fc (ix 22 cp0 al (gl hy)) (fc (la0 48 hM am n310) f0)) hM fun ag w1 hM=>seg 5 0 [] f0 ?_
   by_cases hsh:∃ s∈S,s.o.o.id=y.o.id
   · skip
     obtain ⟨s,hss,hys⟩:=hsh;have hls:=aEZ hpw hss hys;have hM:=hM.q ((Fr.refl _ _).drew);refine drq [(7,vP s.b 0)] rfl (fc (ldm 90 0 15 hM rfl rfl) (fc (ldm 9 5 0 hM rfl rfl) (fc (rz2 (lk 90 1 (vS y.o.id) (.pointer none) hM rfl aEe u90_ (aEu (hob _ (gm hy)).bnd.id) (aGm _)) hls) f0))) (seg 6 0 [] f0 (drc [(9,vB (aAP y.o.tags q.key).2)] hM (fun w5 hM=>(fc (ldm 46 5 5 hM rfl rfl) (fc (ldm 9 0 12 hM rfl rfl) (fc (tcl (aDq (((hob _ (gm hy)).tags.fr (hfB.trans' hM.fr fun r hr hg=>absurd hr (Nat.not_lt.2 (hG r hg)))).src) q.key)) f0)))) fun w5 hM=>seg 7 2 [(39,vB (aAP y.o.tags q.key).2)] f0 ?_))
     cases ah:(aAP y.o.tags q.key).2 with
     | false =>
      refine seg 3 0 [(16,vI ((i:Int)+1))] (fc (aAI (i:Int) 1 u3_) f0) ?_;have hM:=hM.pick [0,1,2,3,4];replace hM:Mm G w _ [bk fb (fY_ (vL p0 os.length cp0) q (.map (some bs)) (vP xi 0)) 93,_,_,_,_]:=hM;obtain ⟨u1,hu1⟩:∃ z,z=vo:=⟨_,rfl⟩;rw [←hu1] at hM;rw [aMj hy (aMn (h:=h) (.inl ah)),hu1] at hM;exact aAh _ (aa _ (by have:=gl hy;omega) (i+1) vo _ (gl hy) hM rfl)
     | true =>
      refine seg 7 7 [(44,vB (y.o.kind==3))] (fc (ldm 3 5 1 hM rfl rfl) f0) ?_;cases ab:(y.o.kind==3)
      ·have an:=ef ab;refine seg 3 0 [(16,vI ((i:Int)+1))] (fc (aAI (i:Int) 1 u3_) f0) ?_;have hM:=hM.pick [0,1,2,3,4];replace hM:Mm G w _ [bk fb (fY_ (vL p0 os.length cp0) q (.map (some bs)) (vP xi 0)) 93,_,_,_,_]:=hM;obtain ⟨u1,hu1⟩:∃ z,z=vo:=⟨_,rfl⟩;rw [←hu1] at hM;rw [aMj hy (aMn (h:=h) (.inr (.inl ab))),hu1] at hM;exact aAh _ (aa _ (by have:=gl hy;omega) (i+1) vo _ (gl hy) hM rfl)
      have an:=et ab;refine aAx 7 15 53 [(48,vB true),(52,vL s.pp (s.P (aAa os)).length s.pc)] (fc (aW8 s.b) (fc (ld0 100 (Mm.nil nF_ _) (bx (aPC hM (j:=3) rfl hss).blk 7 rfl)) f0)) hM (aBS (aPC hM (j:=3) rfl hss).pt) fun w1 hM=>seg 7 17 [(54,vB (aDR (s.P (aAa os))))] f0 ?_;cases ai:(aDR (s.P (aAa os)))
      ·refine seg 3 0 [(16,vI ((i:Int)+1))] (fc (aAI (i:Int) 1 u3_) f0) ?_;have hM:=hM.pick [0,1,2,3,4];replace hM:Mm G w _ [bk fb (fY_ (vL p0 os.length cp0) q (.map (some bs)) (vP xi 0)) 93,_,_,_,_]:=hM;obtain ⟨u1,hu1⟩:∃ z,z=vo:=⟨_,rfl⟩;rw [←hu1] at hM;rw [aMj hy (aMn (h:=h) (.inr (.inr (by rw [aNo hvm hSh hss hys (gm hy) ab,ai])))),hu1] at hM;exact aAh _ (aa _ (by have:=gl hy;omega) (i+1) vo _ (gl hy) hM rfl)
      refine seg 8 0 [] f0 ?_;have hM:=hM.nl;refine drx [6,9,10] (fun Z=>[some (vL (slp (Z 0)) (aDS h q os y.o.id).length (slc (Z 0))),some (vL (some ⟨(bn (Z 1)),0,none⟩) 1 1),some (vL (slp (Z 2)) (((os.take i).filterMap (aDa h q os))++[(y.o.id,((aDS h q os y.o.id).length:Int))]).length (slc (Z 2)))]) _ (fun Z l=>[bk fb (fY_ (vL p0 os.length cp0) q (.map (some bs)) (vP xi 0)) 93,mp Tryz.prog 9 bs ns (shF S),ixO xi mb ns (bxS (aAa os) S) S0,aBL (S.map (shE (aAa os))),(bif l.getD 2 false then rw_ rwL 2 42 (vL (slp (Z 2)) (((os.take i).filterMap (aDa h q os))++[(y.o.id,((aDS h q os y.o.id).length:Int))]).length (slc (Z 2))) (((os.take i).filterMap (aDa h q os))++[(y.o.id,((aDS h q os y.o.id).length:Int))]) else rw_ rwL 2 42 vo ((os.take i).filterMap (aDa h q os))),bk ag (oY_ y) 48,(bif l.getD 1 false then bk (bn (Z 1)) #[vS y.o.id,vI ((aDS h q os y.o.id).length:Int)] 42 else aEK)]) (fun Z=>[(4,vL (slp (Z 2)) (((os.take i).filterMap (aDa h q os))++[(y.o.id,((aDS h q os y.o.id).length:Int))]).length (slc (Z 2)))]) hM (fun Z=>rfl) (fun Z l w5 hM=>(fc (ldm 9 5 0 hM rfl rfl) (fc (ldm 9 5 0 hM rfl rfl) f0))) ⟨aTN 0 6 61 (f:=57) (fun Z=>#[vP fb 0,vS y.o.id]) ((aDS h q os y.o.id).length) (fun Z fr wm hM=>((aG5 (hm.fr (hfB.trans' hM.fr fun r hr hg=>absurd hr (Nat.not_lt.2 (hG r hg)))) hvm (hq.fr (hfB.trans' hM.fr fun r hr hg=>absurd hr (Nat.not_lt.2 (hG r hg))) hBw) (Gn_ hBw (hfB.trans' hM.fr fun r hr hg=>absurd hr (Nat.not_lt.2 (hG r hg))).size) (hTe.fr (hfB.trans' hM.fr fun r hr hg=>absurd hr (Nat.not_lt.2 (hG r hg)))) (hM.get 0 (e:=bk fb (fY_ (vL p0 os.length cp0) q (.map (some bs)) (vP xi 0)) 93) (by kernel_rfl)) hol (hob _ (gm hy)).bnd.id).mono fun e w9 ⟨u,h1,h2⟩=>by obtain ⟨q9,c9,rfl,h3⟩:=aWW h2;exact ⟨q9,c9,h1,h3⟩)),aDx 1 9 6 64 (fun Z=>#[vS y.o.id,vI ((aDS h q os y.o.id).length:Int)]) 42 (fun b=>vL (some ⟨b,0,none⟩) 1 1),aH9 2 10 4 65 36 42 0 (fun Z=>vo) ((os.take i).filterMap (aDa h q os)) [(y.o.id,((aDS h q os y.o.id).length:Int))] (fun Z=>(bn (Z 1))) 1 rwT (by have h7:=List.length_filterMap_le (aDa h q os) (os.take i);have h8:=List.length_take_le i os;simp only [Gf_,Gm_];omega) (fun Z fr wm hM=>aCq (f:=rwL) (x:=(y.o.id,((aDS h q os y.o.id).length:Int))) (hM.get 6 (e:=bk ((bn (Z 1))) (rwL (y.o.id,((aDS h q os y.o.id).length:Int))).toArray 42) (by kernel_rfl)) (Nat.lt_succ_self _)),trivial⟩ fun ac w1 hM=>?_;replace hM:Mm G w w1 [bk fb (fY_ (vL p0 os.length cp0) q (.map (some bs)) (vP xi 0)) 93,_,_,_,_,bk ag (oY_ y) 48,bk (bn (ac 1)) #[vS y.o.id,vI ((aDS h q os y.o.id).length:Int)] 42]:=hM;refine seg 3 0 [(16,vI ((i:Int)+1))] (fc (aAI (i:Int) 1 u3_) f0) ?_;have hM:=hM.pick [0,1,2,3,4];replace hM:Mm G w _ [bk fb (fY_ (vL p0 os.length cp0) q (.map (some bs)) (vP xi 0)) 93,_,_,_,_]:=hM;obtain ⟨u1,hu1⟩:∃ z,z=(vL (slp (ac 2)) (((os.take i).filterMap (aDa h q os))++[(y.o.id,((aDS h q os y.o.id).length:Int))]).length (slc (ac 2))):=⟨_,rfl⟩;rw [←hu1] at hM;rw [aVA hy (aVE (h:=h) ah ab (by rw [aNo hvm hSh hss hys (gm hy) ab,ai])),hu1] at hM;exact aAh _ (aa _ (by have:=gl hy;omega) (i+1) (vL (slp (ac 2)) (((os.take i).filterMap (aDa h q os))++[(y.o.id,((aDS h q os y.o.id).length:Int))]).length (slc (ac 2))) _ (gl hy) hM rfl)
   · skip
     have hnsh:∀ s∈S,s.o.o.id≠y.o.id:=fun s hs e=>hsh ⟨s,hs,e⟩;have hls:=aKt hnsh;have hM:=hM.q ((Fr.refl _ _).drew);refine drq [(7,.pointer none)] rfl (fc (ldm 90 0 15 hM rfl rfl) (fc (ldm 9 5 0 hM rfl rfl) (fc (rz2 (lk 90 1 (vS y.o.id) (.pointer none) hM rfl aEe u90_ (aEu (hob _ (gm hy)).bnd.id) (aGm _)) hls) f0))) (seg 6 0 [] f0 (drc [(9,vB (aAP y.o.tags q.key).2)] hM (fun w5 hM=>(fc (ldm 46 5 5 hM rfl rfl) (fc (ldm 9 0 12 hM rfl rfl) (fc (tcl (aDq (((hob _ (gm hy)).tags.fr (hfB.trans' hM.fr fun r hr hg=>absurd hr (Nat.not_lt.2 (hG r hg)))).src) q.key)) f0)))) fun w5 hM=>seg 7 2 [(39,vB (aAP y.o.tags q.key).2)] f0 ?_))
     cases ao:(aAP y.o.tags q.key).2 with
     | false =>
      refine seg 3 0 [(16,vI ((i:Int)+1))] (fc (aAI (i:Int) 1 u3_) f0) ?_;have hM:=hM.pick [0,1,2,3,4];replace hM:Mm G w _ [bk fb (fY_ (vL p0 os.length cp0) q (.map (some bs)) (vP xi 0)) 93,_,_,_,_]:=hM;obtain ⟨u1,hu1⟩:∃ z,z=vo:=⟨_,rfl⟩;rw [←hu1] at hM;rw [aMj hy (aMn (h:=h) (.inl ao)),hu1] at hM;exact aAh _ (aa _ (by have:=gl hy;omega) (i+1) vo _ (gl hy) hM rfl)
     | true =>
      refine seg 7 7 [(44,vB (y.o.kind==3))] (fc (ldm 3 5 1 hM rfl rfl) f0) ?_;cases ad:(y.o.kind==3)
      ·have ap:=ef ad;refine seg 3 0 [(16,vI ((i:Int)+1))] (fc (aAI (i:Int) 1 u3_) f0) ?_;have hM:=hM.pick [0,1,2,3,4];replace hM:Mm G w _ [bk fb (fY_ (vL p0 os.length cp0) q (.map (some bs)) (vP xi 0)) 93,_,_,_,_]:=hM;obtain ⟨u1,hu1⟩:∃ z,z=vo:=⟨_,rfl⟩;rw [←hu1] at hM;rw [aMj hy (aMn (h:=h) (.inr (.inl ad))),hu1] at hM;exact aAh _ (aa _ (by have:=gl hy;omega) (i+1) vo _ (gl hy) hM rfl)
      have ap:=et ad;refine seg 3 0 [(16,vI ((i:Int)+1))] (fc (aW9 (w:=_)) (fc (aAI (i:Int) 1 u3_) f0)) ?_;have hM:=hM.pick [0,1,2,3,4];replace hM:Mm G w _ [bk fb (fY_ (vL p0 os.length cp0) q (.map (some bs)) (vP xi 0)) 93,_,_,_,_]:=hM;obtain ⟨u1,hu1⟩:∃ z,z=vo:=⟨_,rfl⟩;rw [←hu1] at hM;rw [aMj hy (aMn (h:=h) (.inr (aLE hvm hSh hnsh (gm hy)))),hu1] at hM;exact aAh _ (aa _ (by have:=gl hy;omega) (i+1) vo _ (gl hy) hM rfl)
  exact aAh _ (aj _ 0 (vL none 0 0) _ (Gg_ _) hM rfl)
def aTl (h:Nat) (q:QdR) (os:List ObR):List (Bys×Int):=aDS h q os q.id
theorem aQF (h:Nat) (q:QdR) (os:List ObR):(aTl h q os).length<=os.length:=aQG h q os q.id
section
variable {w wm:World}{M:List Ent}{j b:Nat}{e:Ent}{p0:Option Addr}{cp0:Nat}{os:List ObR}(hm:aC0 w (vL p0 os.length cp0) os) (hvm:aAl (aAa os)=true) {B h:Nat}{q:QdR}(hq:QdIn w B h q) (hBw:B<=w.heap.size) (hTe:Te w) (hol:os.length<=10000) (hM:Mm nF_ w wm M) (hj:M[j]?=some (pfE (frK (vL p0 os.length cp0) os q b) e)) (hF:Mm (BlM [pfE (frK (vL p0 os.length cp0) os q b) e]) wm wm [pfE (frK (vL p0 os.length cp0) os q b) e])
include hm hvm hq hBw hTe hol hM hj hF
theorem aM4:Calls Tryz.prog 29 #[vP b 0] wm fun x w'=>∃ u z e',x = .returned (.tuple #[u,vI z]) /\ rwK (aTl h q os) u z e' /\ Mm (BlM [pfE (frK (vL p0 os.length cp0) os q b) e]) wm w' [e']:=by
 obtain ⟨bs,xi,mb,S,hS,hG,h1⟩:=aFL hvm hM hj hF;exact (aHG (hm.fr hM.fr) hvm (hq.fr hM.fr hBw) (Gn_ hBw hM.fr.size) (hTe.fr hM.fr) (h1.get 0 rfl) (by omega)).mono fun x w' ⟨u,g1,g2⟩=>⟨u,0,_,g1,⟨rfl,rfl⟩,aIH g2 fun _ h=>h.elim⟩
theorem aO5:Calls Tryz.prog 33 #[vP b 0] wm fun x w'=>∃ u z e',x = .returned (.tuple #[u,vI z]) /\ rwK (aPs h q os) u z e' /\ Mm (BlM [pfE (frK (vL p0 os.length cp0) os q b) e]) wm w' [e']:=by
 obtain ⟨bs,xi,mb,S,hS,hG,h1⟩:=aFL hvm hM hj hF;exact (aJM hM.fr hG hm hvm hq hBw hTe hS (by omega) rfl h1).mono fun x w' ⟨u,g1,g2⟩=>⟨u,0,_,g1,⟨rfl,rfl⟩,g2⟩
end
theorem aL8 {w:World}{v:Value}{os:List ObR}(hmO:aC0 w v os) {B h:Nat}{q:QdR}(hq:QdIn w B h q) (hBw:B<=w.heap.size) (hTe:Te w) (hol:os.length<=10000) (hask:q.ask=2):Calls Tryz.prog 12 #[.agg #[v],.agg (qY_ q)] w fun e w'=>∃ u,e = .returned (.tuple #[u,vI (aAp h os q)]) /\ Mm nF_ w w' [rw_ rwL 2 42 u (bif (aAp h os q)==0 then (aTl h q os) else [])] :=
 aCp hmO hq hBw hTe hol (.inr (.inl ⟨rfl,hask⟩)) (aQF h q os) fun hc _ _ hm _ _ _ _ _ hM hj hF=>by
  obtain ⟨hvq,hvm,hn1,hn2⟩:=aEO hc;exact aM4 hm hvm hq hBw hTe hol hM hj hF
theorem aLC {w:World}{v:Value}{os:List ObR}(hmO:aC0 w v os) {B h:Nat}{q:QdR}(hq:QdIn w B h q) (hBw:B<=w.heap.size) (hTe:Te w) (hol:os.length<=10000) (hask:q.ask=6):Calls Tryz.prog 12 #[.agg #[v],.agg (qY_ q)] w fun e w'=>∃ u,e = .returned (.tuple #[u,vI (aAp h os q)]) /\ Mm nF_ w w' [rw_ rwL 2 42 u (bif (aAp h os q)==0 then (aPs h q os) else [])] :=
 aCp hmO hq hBw hTe hol (.inr (.inr (.inr (.inr ⟨rfl,hask⟩)))) (aLa h q os) fun hc _ _ hm _ _ _ _ _ hM hj hF=>by
  obtain ⟨hvq,hvm,hn1,hn2⟩:=aEO hc;exact aO5 hm hvm hq hBw hTe hol hM hj hF
theorem aMf {os:List ObR}{n:Nat}(h:aEi (aAa os) (n:Int)=true):os.length<=n:=by
  unfold aEi at h;simp only [Ga_,decide_eq_true_eq,aAQ] at h;omega
theorem aWY {w:World}{B h:Nat}{q:QdR}(hq:QdIn w B h q) {id:Bys}(hi:B63 id):QdIn w B h (inQ q id):=⟨hq.wh,hi,Gg_ _,Gg_ _⟩
section
variable {h:Nat}{q:QdR}{os:List ObR}{i k:Nat}{b:ObR}{r:Bys×Int}
theorem aT1 (hnd:(os.map (·.o.id)).Nodup) (hk:k=((os.take i).filterMap (aDa h q os)).length) (hb:os[i]?=some b) (hr:(aPs h q os)[k]?=some r) (e:r.1=b.o.id):aDa h q os b=some r:=by
  subst hk
  cases hc:aDa h q os b with
  | none=>exact absurd e ((aFT aDu hnd hb hc).1 r hr)
  | some r0=>have:=(aJN hb hc).1;rw [←aO6,hr] at this;rw [Gh_ this]
theorem aKZ (hk:k=((os.take i).filterMap (aDa h q os)).length) (hb:os[i]?=some b) (hr:∀ r,(aPs h q os)[k]?=some r->¬ r.1=b.o.id):aDa h q os b=none:=by
  subst hk
  cases hc:aDa h q os b with
  | none=>rfl
  | some r0=>exact absurd (aDu b r0 hc) (hr r0 (aJN hb hc).1)
theorem aT7 (e:aDa h q os b=some r):(aAP b.o.tags q.key).2=true /\ (b.o.kind==3)=true /\ r.2=((aDS h q os b.o.id).length:Int):=by
  unfold aDa at e;cases h1:(aAP b.o.tags q.key).2<;>cases h2:(b.o.kind==3)<;>cases h3:(aBe os b).isSome<;>rw [h1,h2,h3] at e<;>cases e;exact ⟨rfl,rfl,rfl⟩
theorem aKM (hvm:aAl (aAa os)=true) (hb:os[i]?=some b) (e:aDa h q os b=none) (h1:(aAP b.o.tags q.key).2=true) (h2:(b.o.kind==3)=true):aDS h q os b.o.id=[]:=by
  refine aOe (aND (aLI (aAM hvm)) (gm hb)) ?_;unfold aDa at e;rw [h1,h2] at e
  cases h3:aBe os b with
  | none=>rfl
  | some L=>rw [h3] at e;cases e
theorem aV9 {α β:Type}{F:α->Option β}{os:List α}(hi:os.length<=i):((os.take i).filterMap F).length=(os.filterMap F).length:=by rw [Gc_ hi]
end
abbrev BF5 (Z:Ending->World->Prop):=AtO Tryz.prog (aAw Tryz.f5) (aAL (bodyPost Tryz.prog Tryz.f5 Z)) [] 138
theorem aEV {w:World}{v:Value}{os:List ObR}(hmO:aC0 w v os) {B h:Nat}{q:QdR}(hq:QdIn w B h q) (hBw:B<=w.heap.size) (hTe:Te w):Calls Tryz.prog 5 #[.agg #[v],.agg (qY_ q)] w fun e w'=>e = .returned (vB true) /\ Fr nF_ w w':=by
  obtain ⟨p0,cp0,hp0,-⟩:=hmO.1.op;subst hp0;have hm0:=hmO;obtain ⟨hs0,hob⟩:=hm0;have sp0:=hs0.p.2;have bp0:=sp0.bnd;refine beg Tryz.func5 rfl rfl [(0,.agg #[vL p0 os.length cp0]),(1,.agg (qY_ q))] rfl rfl fun Z hZ=>?_;have hM:=Mm.nil nF_ w;refine aAu 0 0 2 [] (cs:=#[vL p0 os.length cp0]) (T:=24) (v:=fun b=>vP b 0) f0 hM fun ad w1 hM=>aAu 0 1 3 [] (cs:=(qY_ q)) (T:=31) (v:=fun b=>vP b 0) f0 hM fun ae w1 hM=>aAx 1 0 16 [] f0 hM (aJ5 (hTe.fr hM.fr)) fun w1 hM=>aLd 2 2 19 [(5,vB true),(17,.agg #[vL p0 os.length cp0]),(18,.agg (qY_ q))] (K:=fun u w8=>∃ b,u=vB b /\ (b=true->aEi (aAa os) 30=true)) (fc (lam 24 0 0 1 hM rfl) (fc (lam 31 1 0 14 hM rfl) f0)) hM ((aJB (hmO.fr hM.fr) (hq.fr hM.fr hBw) (Gn_ hBw hM.fr.size)).mono fun e w9 ⟨⟨b,h1,h3⟩,h2⟩=>⟨⟨_,h1,b,rfl,h3⟩,h2⟩) fun u w1 ⟨b9,hu,hb9⟩ hM f1=>?_;subst hu;refine seg 2 5 [(21,vB (!b9))] f0 ?_
  cases an:b9 with
  | false =>
   exact rt1 4 (vB true) rfl f0 (hZ _ _ ⟨rfl,hM.fr⟩)
  | true =>
   have hol9:=aMf (n:=30) (hb9 an);have hol:os.length<=10000:=by omega
   refine seg 2 9 [(25,vB (!(q.ask==6)))] (fc (ldm 3 1 0 hM rfl rfl) f0) ?_;cases ao:(q.ask==6)
   ·exact rt1 4 (vB true) rfl f0 (hZ _ _ ⟨rfl,hM.fr⟩)
   have hask:q.ask=6:=et ao;refine aOI 4 2 30 [(28,.agg #[vL p0 os.length cp0]),(29,.agg (qY_ q))] (K:=fun u Mn=>∃ v9,u = .tuple #[v9,vI (aAp h os q)] /\ Mn=[rw_ rwL 2 42 v9 (bif (aAp h os q)==0 then aPs h q os else [])]) [0,1] [] (fc (lam 24 0 0 1 hM rfl) (fc (lam 31 1 0 14 hM rfl) f0)) hM rfl rfl (by decide) (fun hm=>((aLC (q:=q) (hmO.fr hM.fr) (hq.fr hM.fr hBw) (Gn_ hBw hM.fr.size) (hTe.fr hM.fr) hol hask).mono fun e w9 ⟨u,h1,h2⟩=>⟨_,_,h1,⟨u,rfl,rfl⟩,aIH h2 fun _ h=>h.elim⟩)) fun u Mn w1 hK hM=>?_;obtain ⟨v9,rfl,rfl⟩:=hK;obtain ⟨A1,hA1⟩:∃ z,z=(bif (aAp h os q)==0 then aPs h q os else []):=⟨_,rfl⟩;rw [←hA1] at hM;replace hM:Mm nF_ w _ [bk ad #[vL p0 os.length cp0] 24,bk ae (qY_ q) 31,_]:=hM;obtain ⟨qa1,ca1,e9,-⟩:=(hM.src (j:=2) rfl rwT.len).op;subst e9;refine seg 5 2 [(6,vL qa1 A1.length ca1),(34,vB (!((aAp h os q)==0)))] f0 ?_;cases ah:((aAp h os q)==0)
   ·exact rt1 4 (vB ((A1.length:Int)==0)) rfl f0 (hZ _ _ ⟨by rw [hA1,ah];rfl,hM.fr⟩)
   have hc1:(aAp h os q)=0:=et ah;obtain ⟨hvq,hvm,hn1,hn2⟩:=aEO hc1;have hnd:=aLI (aAM hvm);have hA1e:A1=aPs h q os:=by rw [hA1,ah];rfl
   have hlA:A1.length<=30:=by rw [hA1e];exact Gn_ (aLa h q os) hol9
   refine seg 9 0 [(8,vI 0),(9,vI 0)] f0 ?_
   have ap:∀ (ak:Nat) (i:Nat) (k:Nat) (w2:World),i<=os.length->k=((os.take i).filterMap (aDa h q os)).length->k<=i->Mm nF_ w w2 [bk ad #[vL p0 os.length cp0] 24,bk ae (qY_ q) 31,rw_ rwL 2 42 (vL qa1 A1.length ca1) A1]->ak=os.length-i->BF5 Z (some (9,0)) [(9,vI (i:Int)),(8,vI (k:Int)),(6,vL qa1 A1.length ca1),(5,vB true),(3,vP ae 0),(2,vP ad 0)] w2:=by
    refine aCx fun ak aa i k w2 hi hk hki hM a3=>seg 9 5 [(45,vB (decide ((i:Int)<(os.length:Int))))] (fc (ldm 22 0 0 hM rfl rfl) f0) ?_;cases al:(decide ((i:Int)<(os.length:Int)))
    ·have aq:=df al;have hkA:k=A1.length:=by rw [hk,hA1e,aO6];exact aV9 (by omega)
     exact rt1 4 (vB ((k:Int)==(A1.length:Int))) rfl f0 (hZ _ _ ⟨by rw [hkA,beq_self_eq_true],hM.fr⟩)
    have aq:=dt al;obtain ⟨b,hb,a4,a5,ar,au⟩:=sp0.el (i:=i) (by omega);refine aBY 11 5 10 [(52,.agg (oY_ b))] [] 48 (.agg (oY_ b)) (fc (ldm 22 0 0 hM rfl rfl) (fc (ix 22 cp0 ar (gl hb)) (fc (la0 48 hM au) f0))) hM fun av w1 hM=>aOI 12 8 62 [(54,.agg #[vL p0 os.length cp0]),(61,.agg #[vI 2,vI q.kind,vI q.wh.op,vS q.wh.key,vS q.wh.val,vI q.wh.n,vL q.wh.p q.wh.kids.length q.wh.cap,vS b.o.id,vI 0,vI 0,vI 0,vS [],vS [],vI 0])] (K:=fun u Mn=>∃ v9,u = .tuple #[v9,vI (aAp h os (inQ q b.o.id))] /\ Mn=[rw_ rwL 2 42 v9 (bif (aAp h os (inQ q b.o.id))==0 then aTl h (inQ q b.o.id) os else [])]) [0,1,2,3] [] (fc (lam 24 0 0 1 hM rfl) (fc (ldm 3 1 1 hM rfl rfl) (fc (lam 27 1 2 5 hM rfl) (fc (ldm 9 3 0 hM rfl rfl) f0)))) hM rfl rfl (by decide) (fun hm=>((aL8 (q:=(inQ q b.o.id)) (hmO.fr hM.fr) ((aWY hq (hob _ (gm hb)).bnd.id).fr hM.fr hBw) (Gn_ hBw hM.fr.size) (hTe.fr hM.fr) hol rfl).mono fun e w9 ⟨u,h1,h2⟩=>⟨_,_,h1,⟨u,rfl,rfl⟩,aIH h2 fun _ h=>h.elim⟩)) fun u Mn w1 hK hM=>?_;obtain ⟨v9,rfl,rfl⟩:=hK;obtain ⟨A2,hA2⟩:∃ z,z=(bif (aAp h os (inQ q b.o.id))==0 then aTl h (inQ q b.o.id) os else []):=⟨_,rfl⟩;rw [←hA2] at hM;replace hM:Mm nF_ w _ [bk ad #[vL p0 os.length cp0] 24,bk ae (qY_ q) 31,_,bk av (oY_ b) 48,_]:=hM;obtain ⟨qa2,ca2,e9,-⟩:=(hM.src (j:=4) rfl rwT.len).op;subst e9;refine aAx 13 4 70 [(11,vL qa2 A2.length ca2),(12,vI (aAp h os (inQ q b.o.id))),(67,vL b.pt b.o.tags.length b.ct),(69,vS q.key)] (fc (ldm 46 3 5 hM rfl rfl) (fc (ldm 9 1 11 hM rfl rfl) f0)) hM (aDq ((hob _ (gm hb)).tags.src.fr hM.fr) q.key) fun w1 hM=>seg 14 0 [(14,vB (aAP b.o.tags q.key).2)] f0 ?_;cases af:(decide ((k:Int)<(A1.length:Int)))
    ·have aw:=df af;have hcn:aDa h q os b=none:=aKZ hk hb fun r hr=>by have:=gl hr;rw [←hA1e] at this;omega
     have hM:=hM.q ((Fr.refl _ _).drew);refine drq [(15,vB false)] rfl (fc (tv 76 af) f0) (seg 15 33 [(111,vB false),(119,vB (b.o.kind==3))] (fc (ldm 3 3 1 hM rfl rfl) f0) ?_);cases ai:(b.o.kind==3)
     ·have ax:=ef ai;refine seg 9 0 [(9,vI ((i:Int)+1))] (fc (aAI (i:Int) 1 u3_) f0) (aAh _ (aa _ (by have:=gl hb;omega) (i+1) k _ (gl hb) (by rw [(aFT aDu hnd hb hcn).2,←hk]) (by omega) (hM.pick [0,1,2]) rfl))
     have ax:=et ai;refine seg 15 36 [(122,vB (aAP b.o.tags q.key).2)] f0 ?_
     cases ay:(aAP b.o.tags q.key).2 with
     | false =>
      refine seg 9 0 [(9,vI ((i:Int)+1))] (fc (aAI (i:Int) 1 u3_) f0) (aAh _ (aa _ (by have:=gl hb;omega) (i+1) k _ (gl hb) (by rw [(aFT aDu hnd hb hcn).2,←hk]) (by omega) (hM.pick [0,1,2]) rfl))
     | true =>
      refine seg 15 41 [(127,vB (decide (0<(A2.length:Int))))] f0 ?_;cases az:(decide (0<(A2.length:Int)))
      ·refine seg 9 0 [(9,vI ((i:Int)+1))] (fc (aAI (i:Int) 1 u3_) f0) (aAh _ (aa _ (by have:=gl hb;omega) (i+1) k _ (gl hb) (by rw [(aFT aDu hnd hb hcn).2,←hk]) (by omega) (hM.pick [0,1,2]) rfl))
      have h6:aTl h (inQ q b.o.id) os=[]:=show aDS h q os b.o.id=[] from aKM hvm hb hcn ay ai
      have h7:A2=[]:=by rw [hA2,h6];cases ((aAp h os (inQ q b.o.id))==0)<;>rfl
      exact absurd (dt az) (by rw [h7];decide)
    have aw:=dt af;have hM:=hM.q ((Fr.refl _ _).drew);obtain ⟨ac,ab⟩:=geb (l:=A1) (i:=k) (by omega);obtain ⟨a6,ag,-⟩:=hM.el rwT (j:=2) rfl ab;refine drq [(15,vB (ac.1==b.o.id))] rfl (fc (tv 76 af) (fc (ix 36 ca1 ag (gl ab)) (fc (ldr 9 2 0 rwT hM rfl ag ab rfl) (fc (ldm 9 3 0 hM rfl rfl) (fc (seq 9 ac.1 b.o.id) f0))))) (seg 15 2 [(88,vB (ac.1==b.o.id))] f0 ?_);cases am:(ac.1==b.o.id)
    rotate_left
    ·have hcs:=aT1 hnd hk hb (hA1e▸ab) (et am);obtain ⟨hky,hk3,hr2⟩:=aT7 hcs;have hc2:(aAp h os (inQ q b.o.id))=0:=aVD hc1 (gm hb) hk3;have hc2b:((aAp h os (inQ q b.o.id))==0)=true:=by rw [hc2];rfl
     have hA2e:A2.length=(aDS h q os b.o.id).length:=by rw [hA2,hc2b];rfl
     have hrl:(ac.2==(A2.length:Int))=true:=by rw [hr2,hA2e];exact beq_self_eq_true _
     rw [hky];refine seg 9 0 [(8,vI ((k:Int)+1)),(9,vI ((i:Int)+1))] (fc (ldm 3 3 1 hM rfl rfl) (fc (tv 91 (b:=(!(b.o.kind==3))) (c:=false) (by rw [hk3]<;>rfl)) (fc (tv 98 (b:=(!((aAp h os (inQ q b.o.id))==0))) (c:=false) (by rw [hc2b]<;>rfl)) (fc (ix 36 ca1 ag (gl ab)) (fc (ldr 3 2 1 rwT hM rfl ag ab rfl) (fc (tv 108 (b:=(!(ac.2==(A2.length:Int)))) (c:=false) (by rw [hrl]<;>rfl)) (fc (aAI (k:Int) 1 u3_) (fc (aAI (i:Int) 1 u3_) f0)))))))) (aAh _ (aa _ (by have:=gl hb;omega) (i+1) (k+1) _ (gl hb) (by rw [(aJN hb hcs).2,←hk]) (by omega) (hM.pick [0,1,2]) rfl))
    have hcn:aDa h q os b=none:=aKZ hk hb fun r hr=>by rw [←hA1e,ab] at hr;cases hr;exact ef am
    refine seg 15 33 [(111,vB false),(119,vB (b.o.kind==3))] (fc (ldm 3 3 1 hM rfl rfl) f0) ?_;cases aj:(b.o.kind==3)
    ·have a0:=ef aj;refine seg 9 0 [(9,vI ((i:Int)+1))] (fc (aAI (i:Int) 1 u3_) f0) (aAh _ (aa _ (by have:=gl hb;omega) (i+1) k _ (gl hb) (by rw [(aFT aDu hnd hb hcn).2,←hk]) (by omega) (hM.pick [0,1,2]) rfl))
    have a0:=et aj;refine seg 15 36 [(122,vB (aAP b.o.tags q.key).2)] f0 ?_
    cases a1:(aAP b.o.tags q.key).2 with
    | false =>
     refine seg 9 0 [(9,vI ((i:Int)+1))] (fc (aAI (i:Int) 1 u3_) f0) (aAh _ (aa _ (by have:=gl hb;omega) (i+1) k _ (gl hb) (by rw [(aFT aDu hnd hb hcn).2,←hk]) (by omega) (hM.pick [0,1,2]) rfl))
    | true =>
     refine seg 15 41 [(127,vB (decide (0<(A2.length:Int))))] f0 ?_;cases a2:(decide (0<(A2.length:Int)))
     ·refine seg 9 0 [(9,vI ((i:Int)+1))] (fc (aAI (i:Int) 1 u3_) f0) (aAh _ (aa _ (by have:=gl hb;omega) (i+1) k _ (gl hb) (by rw [(aFT aDu hnd hb hcn).2,←hk]) (by omega) (hM.pick [0,1,2]) rfl))
     have h6:aTl h (inQ q b.o.id) os=[]:=show aDS h q os b.o.id=[] from aKM hvm hb hcn a1 aj
     have h7:A2=[]:=by rw [hA2,h6];cases ((aAp h os (inQ q b.o.id))==0)<;>rfl
     exact absurd (dt a2) (by rw [h7];decide)
   exact aAh _ (ap _ 0 0 _ (Gg_ _) rfl (Gj_ _) hM rfl)
open Go.ChangeShapes Go.WideShapes
section
variable {H:Type}{enc:TypeId×Value->H}{W:World}{sp:Nat->Bool}{held:Bool}{n:Nat}{cs:List Value}{x:DataW H×List MemPlace}
theorem aHh {α:Type}(dflt:α) (f:α->List Value) (c:Nat) {T E:TypeId}(hT:Tryz.prog.underlying T=some (.slice E)) (hc:Tryz.prog.cellsOf E=c) (hlen:∀ a,(f a).length=c) (hc0:0<c) (Q:α->Prop) (hel:∀ m cs x,DataW.trod enc Tryz.prog W 0 sp held m E cs=some x->∃ a,cs=f a /\ Q a)
  (h:DataW.trod enc Tryz.prog W 0 sp held n T cs=some x):∃ (l:List α) (p:Option Addr) (cap:Nat),cs=[.slice p l.length cap] /\ SrcP f c W p cap l /\ ∀ a∈l,Q a:=by
 rcases Deep.open_slice hT h with ⟨rfl,_⟩ | ⟨a,len,cap,m,n,D,Pl,rfl,_,hl,hm,hmm,_,hx⟩
 ·exact ⟨[],none,0,rfl,⟨Gj_ _,Gg_ _,.inl rfl,fun _=>rfl⟩,fun _ h=>(by cases h)⟩
 ·rw [hc] at hx;have hlm:len<=m:=by rw [hmm];split<;>omega
  have hall:∀ i,i<len->∃ s:α,(∀ j,j<c->W.cell? ((a.add (i*c)).add j)=(f s)[j]?) /\ Q s:=fun i hi=>by
   obtain ⟨cs',h1,h2⟩:=hx i (by omega);obtain ⟨_,_,h3⟩:=World.cells?_some h1;obtain ⟨s,rfl,hq⟩:=hel _ _ _ h2;exact ⟨s,fun j hj=>by rw [h3 j hj],hq⟩
  haveI:Inhabited α:=⟨dflt⟩
  obtain ⟨g,hg⟩:=Deep.choose_lt hall;refine ⟨(List.range len).map g,some a,cap,by simp,⟨by simpa using hl,hm,?_,fun h=>by cases h⟩,fun s hs=>?_⟩
  ·rcases Nat.eq_zero_or_pos len with h0 | h0
   ·left;rw [h0];rfl
   ·right
    have hspot:a=⟨a.block,a.off,none⟩ /\ a.block<W.heap.size:=by
     have:=(hg 0 h0).1 0 hc0;rw [Nat.zero_mul] at this;have e0:(a.add 0).add 0=a:=by simp [Addr.add]
     rw [e0] at this;obtain ⟨v0,hv0⟩:∃ v,(f (g 0))[0]?=some v:=⟨_,Gb_ (by rw [hlen];exact hc0)⟩;rw [hv0] at this;refine ⟨?_,World.block_lt_of_cell? W a this⟩
     cases a with
     | mk b o s =>
      cases s with
      | none=>rfl
      | some k =>
       unfold World.cell? at this
       split at this<;>simp at this
    refine ⟨a.block,a.off,by rw [←hspot.1],hspot.2,fun i s hs j v hv=>?_⟩;rw [Gq_] at hs
    have hi:i<len:=by
     cases h:(List.range len)[i]? with
     | none=>rw [h] at hs;cases hs
     | some x=>have:=(List.getElem?_eq_some_iff.1 h).1;simpa using this
    rw [List.getElem?_range hi] at hs;simp at hs;subst hs
    have hj:j<c:=by
     have:=(List.getElem?_eq_some_iff.1 hv).1;rw [hlen] at this;exact this
    have:=(hg i hi).1 j hj
    have e:((⟨a.block,a.off,none⟩:Addr).add (i*c)).add j=⟨a.block,a.off+i*c+j,none⟩:=by
     unfold Addr.add
     by_cases h1:i*c=0<;>by_cases h2:j=0<;>simp [h1,h2,Nat.add_assoc]
    rw [hv,hspot.1,e] at this;exact this
  ·obtain ⟨i,hi,rfl⟩:=List.mem_map.1 hs;exact (hg i (List.mem_range.1 hi)).2
set_option maxRecDepth 100000 in
theorem aCh (h:DataW.trod enc Tryz.prog W 0 sp held n 9 cs=some x):∃ s:Bys,cs=stL s /\ B63 s:=by
 obtain ⟨s,rfl,_,hs⟩:=DataW.trod_string u9_ h;obtain ⟨l,rfl⟩:=aG6 s;rw [aD1] at hs;exact ⟨l,rfl,by unfold maxLen at hs;unfold B63;omega⟩
set_option maxRecDepth 100000 in
theorem aCi (h:DataW.trod enc Tryz.prog W 0 sp held n 3 cs=some x):∃ m:Int,cs=[vI m]:=by
 obtain ⟨m,rfl,_⟩:=DataW.trod_int u3_ h;exact ⟨m,rfl⟩
set_option maxRecDepth 100000 in
theorem aQn (h:DataW.trod enc Tryz.prog W 0 sp held n 72 cs=some x):∃ t:Tag,cs=tgL t /\ (B63 t.1 /\ B63 t.2):=by
 obtain ⟨xs,m,_,_,hl,hlen,hf⟩:=DataW.trod_struct Tryz.underlying72 h;rw [show Tryz.prog.cellsOf 72=2 by kernel_rfl] at hl
 match cs,hl with
 | [c0,c1],_ =>
 obtain ⟨y0,e0⟩:∃ y,xs[0]?=some y:=⟨_,Gb_ (by rw [hlen];simp)⟩;obtain ⟨y1,e1⟩:∃ y,xs[1]?=some y:=⟨_,Gb_ (by rw [hlen];simp)⟩;have h0:DataW.trod enc Tryz.prog W 0 sp held m 9 (List.take (Tryz.prog.cellsOf 9) (List.drop 0 [c0,c1]))=some y0:=(hf 0 _ rfl).trans e0;have h1:DataW.trod enc Tryz.prog W 0 sp held m 9 (List.take (Tryz.prog.cellsOf 9) (List.drop 1 [c0,c1]))=some y1:=(hf 1 _ rfl).trans e1;rw [show Tryz.prog.cellsOf 9=1 by kernel_rfl] at h0 h1;obtain ⟨s0,g0,b0⟩:=aCh h0;obtain ⟨s1,g1,b1⟩:=aCh h1;have g0:[c0]=[vS s0]:=g0;have g1:[c1]=[vS s1]:=g1;cases g0;cases g1;exact ⟨(s0,s1),rfl,b0,b1⟩
set_option maxRecDepth 100000 in
theorem aN5 (h:DataW.trod enc Tryz.prog W 0 sp held n 29 cs=some x):∃ a b:Int,cs=[vI a,vI b]:=by
 obtain ⟨xs,m,_,_,hl,hlen,hf⟩:=DataW.trod_struct u29_ h;rw [show Tryz.prog.cellsOf 29=2 by kernel_rfl] at hl
 match cs,hl with
 | [c0,c1],_ =>
 obtain ⟨y0,e0⟩:∃ y,xs[0]?=some y:=⟨_,Gb_ (by rw [hlen];simp)⟩;obtain ⟨y1,e1⟩:∃ y,xs[1]?=some y:=⟨_,Gb_ (by rw [hlen];simp)⟩;have h0:DataW.trod enc Tryz.prog W 0 sp held m 3 (List.take (Tryz.prog.cellsOf 3) (List.drop 0 [c0,c1]))=some y0:=(hf 0 _ rfl).trans e0;have h1:DataW.trod enc Tryz.prog W 0 sp held m 3 (List.take (Tryz.prog.cellsOf 3) (List.drop 1 [c0,c1]))=some y1:=(hf 1 _ rfl).trans e1;rw [show Tryz.prog.cellsOf 3=1 by kernel_rfl] at h0 h1;obtain ⟨s0,g0⟩:=aCi h0;obtain ⟨s1,g1⟩:=aCi h1;have g0:[c0]=[vI s0]:=g0;have g1:[c1]=[vI s1]:=g1;cases g0;cases g1;exact ⟨s0,s1,rfl⟩
set_option maxRecDepth 100000 in
theorem aSH (h:DataW.trod enc Tryz.prog W 0 sp held n 48 cs=some x):∃ b:ObR,cs=obL b /\ ObIn W b:=by
 obtain ⟨xs,m,_,_,hl,hlen,hf⟩:=DataW.trod_struct Tryz.underlying48 h;rw [show Tryz.prog.cellsOf 48=6 by kernel_rfl] at hl
 match cs,hl with
 | [c0,c1,c2,c3,c4,c5],_ =>
 obtain ⟨y0,e0⟩:∃ y,xs[0]?=some y:=⟨_,Gb_ (by rw [hlen];simp)⟩;obtain ⟨y1,e1⟩:∃ y,xs[1]?=some y:=⟨_,Gb_ (by rw [hlen];simp)⟩;obtain ⟨y2,e2⟩:∃ y,xs[2]?=some y:=⟨_,Gb_ (by rw [hlen];simp)⟩;obtain ⟨y3,e3⟩:∃ y,xs[3]?=some y:=⟨_,Gb_ (by rw [hlen];simp)⟩;obtain ⟨y4,e4⟩:∃ y,xs[4]?=some y:=⟨_,Gb_ (by rw [hlen];simp)⟩;have h0:DataW.trod enc Tryz.prog W 0 sp held m 9 (List.take (Tryz.prog.cellsOf 9) (List.drop 0 [c0,c1,c2,c3,c4,c5]))=some y0:=(hf 0 _ rfl).trans e0;have h1:DataW.trod enc Tryz.prog W 0 sp held m 3 (List.take (Tryz.prog.cellsOf 3) (List.drop 1 [c0,c1,c2,c3,c4,c5]))=some y1:=(hf 1 _ rfl).trans e1;have h2:DataW.trod enc Tryz.prog W 0 sp held m 29 (List.take (Tryz.prog.cellsOf 29) (List.drop 2 [c0,c1,c2,c3,c4,c5]))=some y2:=(hf 2 _ rfl).trans e2;have h3:DataW.trod enc Tryz.prog W 0 sp held m 45 (List.take (Tryz.prog.cellsOf 45) (List.drop 4 [c0,c1,c2,c3,c4,c5]))=some y3:=(hf 3 _ rfl).trans e3;have h4:DataW.trod enc Tryz.prog W 0 sp held m 46 (List.take (Tryz.prog.cellsOf 46) (List.drop 5 [c0,c1,c2,c3,c4,c5]))=some y4:=(hf 4 _ rfl).trans e4;rw [show Tryz.prog.cellsOf 9=1 by kernel_rfl] at h0;rw [show Tryz.prog.cellsOf 3=1 by kernel_rfl] at h1;rw [show Tryz.prog.cellsOf 29=2 by kernel_rfl] at h2;rw [show Tryz.prog.cellsOf 45=1 by kernel_rfl] at h3;rw [show Tryz.prog.cellsOf 46=1 by kernel_rfl] at h4;obtain ⟨s0,g0,b0⟩:=aCh h0;obtain ⟨s1,g1⟩:=aCi h1;obtain ⟨s2,s3,g2⟩:=aN5 h2;obtain ⟨rs,pr,cr,g3,k3,b3⟩:=aHh [] stL 1 u45_ (by kernel_rfl) (fun _=>rfl) (by decide) B63 (fun _ _ _ h=>aCh h) h3;obtain ⟨ts,pt,ct,g4,k4,b4⟩:=aHh ([],[]) tgL 2 Tryz.underlying46 (by kernel_rfl) (fun _=>rfl) (by decide) (fun t=>B63 t.1 /\ B63 t.2) (fun _ _ _ h=>aQn h) h4;have g0:[c0]=[vS s0]:=g0;have g1:[c1]=[vI s1]:=g1;have g2:[c2,c3]=[vI s2,vI s3]:=g2;have g3:[c4]=[vL pr rs.length cr]:=g3;have g4:[c5]=[vL pt ts.length ct]:=g4;cases g0;cases g1;cases g2;cases g3;cases g4;exact ⟨⟨⟨s0,s1,s2,s3,rs,ts⟩,pr,cr,pt,ct⟩,rfl,k3,k4,b0,b3,b4⟩
set_option maxRecDepth 100000 in
theorem aQp (h:DataW.trod enc Tryz.prog W 0 sp held n 24 cs=some x):∃ (os:List ObR) (v:Value),cs=[v] /\ aC0 W v os:=by
 obtain ⟨xs,m,_,_,hl,hlen,hf⟩:=DataW.trod_struct Tryz.underlying24 h;rw [show Tryz.prog.cellsOf 24=1 by kernel_rfl] at hl
 match cs,hl with
 | [c0],_ =>
 obtain ⟨y0,e0⟩:∃ y,xs[0]?=some y:=⟨_,Gb_ (by rw [hlen];simp)⟩;have h0:DataW.trod enc Tryz.prog W 0 sp held m 22 (List.take (Tryz.prog.cellsOf 22) (List.drop 0 [c0]))=some y0:=(hf 0 _ rfl).trans e0;rw [show Tryz.prog.cellsOf 22=1 by kernel_rfl] at h0;obtain ⟨os,p,cap,g0,k0,b0⟩:=aHh ⟨⟨[],0,0,0,[],[]⟩,none,0,none,0⟩ obL 6 Tryz.underlying22 (by kernel_rfl) (fun _=>rfl) (by decide) (ObIn W) (fun _ _ _ h=>aSH h) h0;have g0:[c0]=[vL p os.length cap]:=g0;cases g0;exact ⟨os,_,rfl,k0.src,b0⟩
end
end Go.Proofs.YtngjlnhojicjeaaGreatDoor
namespace Go.Pl
open Go.RowKit Go.ChangeShapes Go.WideShapes
theorem aDW {H:Type}{enc:TypeId×Value->H}{P:Program}(hl:laidOutB P=true) {W W':World}(hb:Below W.heap.size W W') :
  ∀ (ts:List TypeId) (vs:List Value) (ds:List (DataW H)) (ps:List MemPlace),(∀ t∈ts,P.readableRec t=true /\ t<P.types.size)->DataW.TrodAll enc P W 0 (fun _=>true) true ts vs ds ps->(∀ x∈ps,x.block<W.heap.size) ->
   DataW.TrodAll enc P W' 0 (fun b=>decide (b<W.heap.size)) true ts vs ds ps
 | [],[],[],ps,_,h,_=>h
 | t::ts,v::vs,d::ds,ps,hr,h,hlt=>by
  obtain ⟨p,q,h1,h2,rfl⟩:=h
  exact ⟨p,q,Below.trod hl (hr t (by simp)).1 (hr t (by simp)).2 h1 hb (fun x hx=>hlt x (by simp [hx])),
   aDW hl hb ts vs ds q (fun t ht=>hr t (by simp [ht])) h2 (fun x hx=>hlt x (by simp [hx])),rfl⟩
 | [],[],_::_,_,_,h,_=>h.elim
 | [],_::_,_,_,_,h,_=>by cases h
 | _::_,[],_,_,_,h,_=>by cases h
 | _::_,_::_,[],_,_,h,_=>h.elim
theorem aQ6 {H:Type}{enc:TypeId×Value->H}{P:Program}(hl:laidOutB P=true) {fn:Func}{s:ChangeSpec}{apart fresh handsOn:Bool}{W W':World}{args:Array Value}{ds gs:List (DataW H)}{before:List MemPlace}
  (hread:∀ t∈fn.params.toList,P.readableRec t=true /\ t<P.types.size) {tb:TypeId}(hres:fn.resultTypes=#[tb]) (htb:P.underlying tb=some .bool) (hvars:s.vars=[])
  (hs:s.fn H (ds++gs)={ results:=[.lit (.bool true)],args:=ds }) (hW:DataW.Whole enc P fn.params.toList s.vars apart W args.toList ds gs before) (hb:Below W.heap.size W W') :
  s.post enc P fn apart fresh handsOn false W args (.bool true) W':=by
 have hlt:=hW.lt;have hW0:=hW;obtain ⟨p,q,hA,hV,hpq,_,_⟩:=hW;refine ⟨ds,gs,before,[],p,[],hW0,?_,?_,?_,hb.frame _,fun h=>by cases h⟩
 ·rw [hs,hres];exact trodAll_mk1 (shut_bool htb _)
 ·rw [hs];exact aDW hl hb _ _ _ _ hread hA (fun x hx=>hlt x (by rw [hpq];simp [hx]))
 ·rw [hs,hvars];rfl
end Go.Pl
namespace Go.Proofs.YtngjlnhojicjeaaGreatDoor
open Go.RowKit Go.Pl Go.ChangeShapes Go.WideShapes
theorem aYC:laidOutB Tryz.prog=true:=by kernel_rfl
theorem aYB:ownKnob Tryz.prog.godebug=none:=by kernel_rfl
set_option maxRecDepth 100000 in
theorem aOt {W:World}{name:String}{g t:Nat}{s:String}{d:DataW Unit}{ms:Array _}(hg:Tryz.prog.globalNamed name=some g) (hty:(Tryz.prog.globals[g]?).map (·.type)=some t) (ht:Tryz.prog.underlying t=some (.interface ms)) (h:Lib.VarReads Tryz.prog W name (.iface s d)):aXz W g:=by
 obtain ⟨g',t',cs,fuel,p,hg',ht',hvar,hd⟩:=h;obtain rfl:=Gh_ (hg.symm.trans hg');obtain rfl:=Gh_ (hty.symm.trans ht')
 cases fuel with
 | zero=>cases hd
 | succ fuel =>
  unfold DataW.trod at hd;rw [ht] at hd;unfold World.var? at hvar;rw [hg] at hvar;simp only [Option.bind_some] at hvar
  split at hvar
  ·rename_i cs' T' fz hb;obtain rfl:=Gh_ hvar
   have key:∃ ev,cs'.toList=[ev] /\ (ev = .nilIface∨∃ te pe,ev = .iface te pe):=by
    split at hd<;>first | (cases hd;done) | skip
    all_goals (rename_i h1 h2;first | (cases h1;done) | (cases h2;done) | (exact ⟨_,h2,.inl rfl⟩) | (exact ⟨_,h2,.inr ⟨_,_,rfl⟩⟩))
   obtain ⟨ev,h1,h2⟩:=key;refine ⟨ev,?_,h2⟩;have hz:cs'[0]?=some ev:=by rw [←Array.getElem?_toList,h1];rfl
   unfold World.cell?;simp [hb,hz]
  ·cases hvar
def aLR:List (String×DataW Unit):=[("math/bits.deBruijn32tab",Rows.laid_math_bits_deBruijn32tab),("math/bits.deBruijn64tab",Rows.laid_math_bits_deBruijn64tab),("internal/strconv.uint64pow10",Rows.laid_internal_strconv_uint64pow10),("strconv.ErrRange",Rows.laid_strconv_ErrRange),("strconv.ErrSyntax",Rows.laid_strconv_ErrSyntax),("unicode.White_Space",Rows.laid_unicode_White_Space),("strings.asciiSpace",Rows.laid_strings_asciiSpace)]
set_option maxRecDepth 100000 in
theorem aQW (os:Os) (args:Array Value):laidMetH Tryz.prog aLR ((World.doorLaid Tryz.prog 86 os).forCall (fun _ _=>0) ⟨#[],args,[]⟩).memory :=
 laidMetH_of_parts3 (fuel:=8) (laidMet_of_run' 8 (by kernel_rfl) (by kernel_rfl)) (by kernel_rfl) (by kernel_rfl)
theorem aRs {W:World}{name:String}{k:IntKind}{zs:List Int}{g:Nat}{t e:TypeId}{n:Nat}(hg:Tryz.prog.globalNamed name=some g) (hty:(Tryz.prog.globals[g]?).map (·.type)=some t) (ht:Tryz.prog.underlying t=some (.array n e)) (he:Tryz.prog.underlying e=some (.int k)) (hce:Tryz.prog.cellsOf e=1) (hct:Tryz.prog.cellsOf t=n) (h:Lib.VarReads Tryz.prog W name (Lib.tabData k zs)):Lib.TabIs Tryz.prog W name k zs:=by
 obtain ⟨g',t',cs,fuel,p,hg',ht',hvar,hd⟩:=h;obtain rfl:=Gh_ (hg.symm.trans hg');obtain rfl:=Gh_ (hty.symm.trans ht');unfold Lib.TabIs;rw [hvar,←Lib.cells_of_tab ht he hce hct hd]
set_option maxRecDepth 100000 in
theorem aW3 {W:World}(h:laidMetH Tryz.prog aLR W):Tb W:=by
 rw [MakeChecks.laidMetH_plain _ _ _ (by kernel_rfl)] at h
 exact ⟨aRs (g:=6) (t:=412) (e:=164) (n:=20) (by kernel_rfl) (by kernel_rfl) (by kernel_rfl) (by kernel_rfl) (by kernel_rfl) (by kernel_rfl) (Lib.laidMet.reads h (d:=Rows.laid_internal_strconv_uint64pow10) (.tail _ (.tail _ (.head _)))),
  aRs (g:=5) (t:=137) (e:=5) (n:=256) (by kernel_rfl) (by kernel_rfl) (by kernel_rfl) (by kernel_rfl) (by kernel_rfl) (by kernel_rfl) (Lib.laidMet.reads h (d:=Rows.laid_strings_asciiSpace) (.tail _ (.tail _ (.tail _ (.tail _ (.tail _ (.tail _ (.head _))))))))⟩
set_option maxRecDepth 100000 in
theorem aW2 {W:World}(h:laidMetH Tryz.prog aLR W):Te W:=by
 have hT:=aW3 h;rw [MakeChecks.laidMetH_plain _ _ _ (by kernel_rfl)] at h
 exact ⟨hT,aOt (g:=3) (t:=133) (by kernel_rfl) (by kernel_rfl) Tryz.underlying133 (Lib.laidMet.reads h (n := "strconv.ErrSyntax") (d:=Rows.laid_strconv_ErrSyntax) (.tail _ (.tail _ (.tail _ (.tail _ (.head _)))))),
  aOt (g:=4) (t:=133) (by kernel_rfl) (by kernel_rfl) Tryz.underlying133 (Lib.laidMet.reads h (n := "strconv.ErrRange") (d:=Rows.laid_strconv_ErrRange) (.tail _ (.tail _ (.tail _ (.head _)))))⟩
section
variable {H:Type}{enc:TypeId×Value->H}{W:World}{sp:Nat->Bool}{held:Bool}
theorem aN4 {n:Nat}{cs:List Value}{x:DataW H×List MemPlace}{α:Type}(dflt:α) (f:α->List Value) (c:Nat) {T E:TypeId}(hT:Tryz.prog.underlying T=some (.slice E)) (hc:Tryz.prog.cellsOf E=c) (hlen:∀ a,(f a).length=c) (hc0:0<c) (Q:Nat->α->Prop) (hel:∀ m,m<n->∀ cs x,DataW.trod enc Tryz.prog W 0 sp held m E cs=some x->∃ a,cs=f a /\ Q m a)
  (h:DataW.trod enc Tryz.prog W 0 sp held n T cs=some x):∃ (l:List α) (p:Option Addr) (cap m:Nat),m<=n /\ cs=[.slice p l.length cap] /\ SrcP f c W p cap l /\ ∀ a∈l,m<n /\ Q m a:=by
 rcases DataW.trod_slice hT h with ⟨rfl,_⟩ | ⟨a,len,cap,elems,rest,m,hfu,rfl,_,_,hl,hm,hle9,hel9,_,_⟩
 ·exact ⟨[],none,0,0,Gg_ _,rfl,⟨Gj_ _,Gg_ _,.inl rfl,fun _=>rfl⟩,fun _ h=>(by cases h)⟩
 ·rw [hc] at hel9
  have hall:∀ i,i<len->∃ s:α,(∀ j,j<c->W.cell? ((a.add (i*c)).add j)=(f s)[j]?) /\ Q m s:=fun i hi=>by
   have key:=hel9 i hi;rw [Gb_ (by omega)] at key;obtain ⟨cs',h1,h2⟩:=Option.bind_eq_some_iff.1 key;obtain ⟨_,_,h3⟩:=World.cells?_some h1;obtain ⟨s,rfl,hq⟩:=hel m (by omega) _ _ h2;exact ⟨s,fun j hj=>by rw [h3 j hj],hq⟩
  haveI:Inhabited α:=⟨dflt⟩
  obtain ⟨g,hg⟩:=Deep.choose_lt hall;refine ⟨(List.range len).map g,some a,cap,m,by omega,by simp,⟨by simpa using hl,hm,?_,fun h=>by cases h⟩,fun s hs=>?_⟩
  ·rcases Nat.eq_zero_or_pos len with h0 | h0
   ·left;rw [h0];rfl
   ·right
    have hspot:a=⟨a.block,a.off,none⟩ /\ a.block<W.heap.size:=by
     have:=(hg 0 h0).1 0 hc0;rw [Nat.zero_mul] at this;have e0:(a.add 0).add 0=a:=by simp [Addr.add]
     rw [e0] at this;obtain ⟨v0,hv0⟩:∃ v,(f (g 0))[0]?=some v:=⟨_,Gb_ (by rw [hlen];exact hc0)⟩;rw [hv0] at this;refine ⟨?_,World.block_lt_of_cell? W a this⟩
     cases a with
     | mk b o s =>
      cases s with
      | none=>rfl
      | some k =>
       unfold World.cell? at this
       split at this<;>simp at this
    refine ⟨a.block,a.off,by rw [←hspot.1],hspot.2,fun i s hs j v hv=>?_⟩;rw [Gq_] at hs
    have hi:i<len:=by
     cases h:(List.range len)[i]? with
     | none=>rw [h] at hs;cases hs
     | some x=>have:=(List.getElem?_eq_some_iff.1 h).1;simpa using this
    rw [List.getElem?_range hi] at hs;simp at hs;subst hs
    have hj:j<c:=by
     have:=(List.getElem?_eq_some_iff.1 hv).1;rw [hlen] at this;exact this
    have:=(hg i hi).1 j hj
    have e:((⟨a.block,a.off,none⟩:Addr).add (i*c)).add j=⟨a.block,a.off+i*c+j,none⟩:=by
     unfold Addr.add
     by_cases h1:i*c=0<;>by_cases h2:j=0<;>simp [h1,h2,Nat.add_assoc]
    rw [hv,hspot.1,e] at this;exact this
  ·obtain ⟨i,hi,rfl⟩:=List.mem_map.1 hs;exact ⟨by omega,(hg i (List.mem_range.1 hi)).2⟩
theorem CdB.up {w:World}{B:Nat}:∀ {h k:Nat}{c:CdR},h<=k->CdB w B h c->CdB w B k c
 | 0,_,_,_,hc=>hc.elim
 | h+1,0,_,hk,_=>absurd hk (by omega)
 | h+1,k+1,_,hk,⟨a,b,s,ks⟩=>⟨a,b,s,fun x hx=>(ks x hx).up (by omega)⟩
set_option maxRecDepth 100000 in
theorem aN6:∀ {n:Nat}{cs:List Value}{x:DataW H×List MemPlace},DataW.trod enc Tryz.prog W 0 sp held n 27 cs=some x->∃ c:CdR,cs=cdL c /\ CdB W W.heap.size n c:=by
 intro n
 induction n using Nat.strongRecOn with
 | _ n ih =>
 intro cs x h;obtain ⟨xs,m,hnm,_,hl,hlen,hf⟩:=DataW.trod_struct Tryz.underlying27 h;rw [show Tryz.prog.cellsOf 27=5 by kernel_rfl] at hl
 match cs,hl with
 | [c0,c1,c2,c3,c4],_ =>
 obtain ⟨y0,e0⟩:∃ y,xs[0]?=some y:=⟨_,Gb_ (by rw [hlen];simp)⟩;obtain ⟨y1,e1⟩:∃ y,xs[1]?=some y:=⟨_,Gb_ (by rw [hlen];simp)⟩;obtain ⟨y2,e2⟩:∃ y,xs[2]?=some y:=⟨_,Gb_ (by rw [hlen];simp)⟩;obtain ⟨y3,e3⟩:∃ y,xs[3]?=some y:=⟨_,Gb_ (by rw [hlen];simp)⟩;obtain ⟨y4,e4⟩:∃ y,xs[4]?=some y:=⟨_,Gb_ (by rw [hlen];simp)⟩;have h0:DataW.trod enc Tryz.prog W 0 sp held m 3 (List.take (Tryz.prog.cellsOf 3) (List.drop 0 [c0,c1,c2,c3,c4]))=some y0:=(hf 0 _ rfl).trans e0;have h1:DataW.trod enc Tryz.prog W 0 sp held m 9 (List.take (Tryz.prog.cellsOf 9) (List.drop 1 [c0,c1,c2,c3,c4]))=some y1:=(hf 1 _ rfl).trans e1;have h2:DataW.trod enc Tryz.prog W 0 sp held m 9 (List.take (Tryz.prog.cellsOf 9) (List.drop 2 [c0,c1,c2,c3,c4]))=some y2:=(hf 2 _ rfl).trans e2;have h3:DataW.trod enc Tryz.prog W 0 sp held m 3 (List.take (Tryz.prog.cellsOf 3) (List.drop 3 [c0,c1,c2,c3,c4]))=some y3:=(hf 3 _ rfl).trans e3;have h4:DataW.trod enc Tryz.prog W 0 sp held m 25 (List.take (Tryz.prog.cellsOf 25) (List.drop 4 [c0,c1,c2,c3,c4]))=some y4:=(hf 4 _ rfl).trans e4;rw [show Tryz.prog.cellsOf 3=1 by kernel_rfl] at h0 h3;rw [show Tryz.prog.cellsOf 9=1 by kernel_rfl] at h1 h2;rw [show Tryz.prog.cellsOf 25=1 by kernel_rfl] at h4;obtain ⟨s0,g0⟩:=aCi h0;obtain ⟨s1,g1,b1⟩:=aCh h1;obtain ⟨s2,g2,b2⟩:=aCh h2;obtain ⟨s3,g3⟩:=aCi h3;obtain ⟨ks,p,cap,k,hk,g4,k4,b4⟩:=aN4 (.mk 0 [] [] 0 none 0 []) cdL 5 Tryz.underlying25 (by kernel_rfl) (fun _=>rfl) (by decide) (fun m c=>CdB W W.heap.size m c) (fun j hj _ _ h=>ih j (by omega) h) h4;have g0:[c0]=[vI s0]:=g0;have g1:[c1]=[vS s1]:=g1;have g2:[c2]=[vS s2]:=g2;have g3:[c3]=[vI s3]:=g3;have g4:[c4]=[vL p ks.length cap]:=g4;cases g0;cases g1;cases g2;cases g3;cases g4;refine ⟨.mk s0 s1 s2 s3 p cap ks,rfl,?_⟩;rw [hnm];exact ⟨b1,b2,k4.b (Fr.refl _ _),fun a ha=>(b4 a ha).2.up (by omega)⟩
set_option maxRecDepth 100000 in
theorem aQo {n:Nat}{cs:List Value}{x:DataW H×List MemPlace}(h:DataW.trod enc Tryz.prog W 0 sp held n 31 cs=some x):∃ (q:QdR) (m:Nat),cs=qdL q /\ QdIn W W.heap.size m q:=by
 obtain ⟨xs,m,hnm,_,hl,hlen,hf⟩:=DataW.trod_struct Tryz.underlying31 h;rw [show Tryz.prog.cellsOf 31=14 by kernel_rfl] at hl
 match cs,hl with
 | [c0,c1,c2,c3,c4,c5,c6,c7,c8,c9,c10,c11,c12,c13],_ =>
 obtain ⟨y0,e0⟩:∃ y,xs[0]?=some y:=⟨_,Gb_ (by rw [hlen];simp)⟩;obtain ⟨y1,e1⟩:∃ y,xs[1]?=some y:=⟨_,Gb_ (by rw [hlen];simp)⟩;obtain ⟨y2,e2⟩:∃ y,xs[2]?=some y:=⟨_,Gb_ (by rw [hlen];simp)⟩;obtain ⟨y3,e3⟩:∃ y,xs[3]?=some y:=⟨_,Gb_ (by rw [hlen];simp)⟩;obtain ⟨y4,e4⟩:∃ y,xs[4]?=some y:=⟨_,Gb_ (by rw [hlen];simp)⟩;obtain ⟨y5,e5⟩:∃ y,xs[5]?=some y:=⟨_,Gb_ (by rw [hlen];simp)⟩;obtain ⟨y6,e6⟩:∃ y,xs[6]?=some y:=⟨_,Gb_ (by rw [hlen];simp)⟩;obtain ⟨y7,e7⟩:∃ y,xs[7]?=some y:=⟨_,Gb_ (by rw [hlen];simp)⟩;obtain ⟨y8,e8⟩:∃ y,xs[8]?=some y:=⟨_,Gb_ (by rw [hlen];simp)⟩;have h0:DataW.trod enc Tryz.prog W 0 sp held m 3 (List.take (Tryz.prog.cellsOf 3) (List.drop 0 [c0,c1,c2,c3,c4,c5,c6,c7,c8,c9,c10,c11,c12,c13]))=some y0:=(hf 0 _ rfl).trans e0;have h1:DataW.trod enc Tryz.prog W 0 sp held m 3 (List.take (Tryz.prog.cellsOf 3) (List.drop 1 [c0,c1,c2,c3,c4,c5,c6,c7,c8,c9,c10,c11,c12,c13]))=some y1:=(hf 1 _ rfl).trans e1;have h2:DataW.trod enc Tryz.prog W 0 sp held m 27 (List.take (Tryz.prog.cellsOf 27) (List.drop 2 [c0,c1,c2,c3,c4,c5,c6,c7,c8,c9,c10,c11,c12,c13]))=some y2:=(hf 2 _ rfl).trans e2;have h3:DataW.trod enc Tryz.prog W 0 sp held m 9 (List.take (Tryz.prog.cellsOf 9) (List.drop 7 [c0,c1,c2,c3,c4,c5,c6,c7,c8,c9,c10,c11,c12,c13]))=some y3:=(hf 3 _ rfl).trans e3;have h4:DataW.trod enc Tryz.prog W 0 sp held m 3 (List.take (Tryz.prog.cellsOf 3) (List.drop 8 [c0,c1,c2,c3,c4,c5,c6,c7,c8,c9,c10,c11,c12,c13]))=some y4:=(hf 4 _ rfl).trans e4;have h5:DataW.trod enc Tryz.prog W 0 sp held m 29 (List.take (Tryz.prog.cellsOf 29) (List.drop 9 [c0,c1,c2,c3,c4,c5,c6,c7,c8,c9,c10,c11,c12,c13]))=some y5:=(hf 5 _ rfl).trans e5;have h6:DataW.trod enc Tryz.prog W 0 sp held m 9 (List.take (Tryz.prog.cellsOf 9) (List.drop 11 [c0,c1,c2,c3,c4,c5,c6,c7,c8,c9,c10,c11,c12,c13]))=some y6:=(hf 6 _ rfl).trans e6;have h7:DataW.trod enc Tryz.prog W 0 sp held m 9 (List.take (Tryz.prog.cellsOf 9) (List.drop 12 [c0,c1,c2,c3,c4,c5,c6,c7,c8,c9,c10,c11,c12,c13]))=some y7:=(hf 7 _ rfl).trans e7;have h8:DataW.trod enc Tryz.prog W 0 sp held m 3 (List.take (Tryz.prog.cellsOf 3) (List.drop 13 [c0,c1,c2,c3,c4,c5,c6,c7,c8,c9,c10,c11,c12,c13]))=some y8:=(hf 8 _ rfl).trans e8;rw [show Tryz.prog.cellsOf 3=1 by kernel_rfl] at h0 h1 h4 h8;rw [show Tryz.prog.cellsOf 9=1 by kernel_rfl] at h3 h6 h7;rw [show Tryz.prog.cellsOf 27=5 by kernel_rfl] at h2;rw [show Tryz.prog.cellsOf 29=2 by kernel_rfl] at h5;obtain ⟨s0,g0⟩:=aCi h0;obtain ⟨s1,g1⟩:=aCi h1;obtain ⟨c,g2,b2⟩:=aN6 h2;obtain ⟨s3,g3,b3⟩:=aCh h3;obtain ⟨s4,g4⟩:=aCi h4;obtain ⟨s5,t5,g5⟩:=aN5 h5;obtain ⟨s6,g6,b6⟩:=aCh h6;obtain ⟨s7,g7,b7⟩:=aCh h7;obtain ⟨s8,g8⟩:=aCi h8;have g0:[c0]=[vI s0]:=g0;have g1:[c1]=[vI s1]:=g1;have g2:[c2,c3,c4,c5,c6]=[vI c.op,vS c.key,vS c.val,vI c.n,vL c.p c.kids.length c.cap]:=g2;have g3:[c7]=[vS s3]:=g3;have g4:[c8]=[vI s4]:=g4;have g5:[c9,c10]=[vI s5,vI t5]:=g5;have g6:[c11]=[vS s6]:=g6;have g7:[c12]=[vS s7]:=g7;have g8:[c13]=[vI s8]:=g8;cases g0;cases g1;cases g2;cases g3;cases g4;cases g5;cases g6;cases g7;cases g8;exact ⟨⟨s0,s1,c,s3,s4,s5,t5,s6,s7,s8⟩,m,rfl,b2,b3,b6,b7⟩
end
open Go
theorem aB5 {a b:Bool}(h:a=true) (k:b=true):(a&&b)=true:=by rw [h,k];rfl
theorem jk0:(Rows.evalCountsRow.wf (OpenSpec.ofChange Rows.evalCountsSpec))=true:=by kernel_rfl
theorem jk1:(laidOutB (Tryz.pinned.checked.prog))=true:=by kernel_rfl
theorem jk2:(mapsRowed (Tryz.pinned.checked.prog))=true:=by kernel_rfl
theorem jk3:(Tryz.f5.params.all ((Tryz.pinned.checked.prog).readableRec ·))=true:=by kernel_rfl
theorem jk4:(namedTie (Tryz.pinned.checked.prog) Rows.evalCountsRow.named Rows.evalCountsSpec.vars)=true:=by kernel_rfl
theorem jk5:((Rows.evalCountsRow.stops==[]))=true:=by kernel_rfl
theorem jk6:(((Tryz.pinned.checked.prog).stops==[]))=true:=by kernel_rfl
theorem jk7:((Rows.evalCountsRow.knobs==[]))=true:=by kernel_rfl
theorem jk8:(((Tryz.pinned.checked.prog).stopKnobs==[]))=true:=by kernel_rfl
theorem jk9:((Rows.evalCountsRow.inPlace==(Tryz.pinned.checked.prog).inPlace 5))=true:=by kernel_rfl
theorem aYY:((Rows.evalCountsRow.unfollowed==(Tryz.pinned.checked.prog).unfollowed 5))=true:=by kernel_rfl
theorem aYX:((Rows.evalCountsRow.recurses==(Tryz.pinned.checked.prog).recurses 5))=true:=by kernel_rfl
theorem aYW:((Rows.evalCountsRow.named==(Tryz.pinned.checked.prog).varsNamed 5))=true:=by kernel_rfl
theorem aYV:((Rows.evalCountsRow.maps==(Tryz.f5.params.toList++Rows.evalCountsSpec.plain.varTypes (Tryz.pinned.checked.prog)).any ((Tryz.pinned.checked.prog).mapsRec ·)))=true:=by kernel_rfl
theorem aYU:((Rows.evalCountsRow.ifaces==(Tryz.f5.params.toList++Rows.evalCountsSpec.plain.varTypes (Tryz.pinned.checked.prog)).any ((Tryz.pinned.checked.prog).ifacesRec ·)))=true:=by kernel_rfl
theorem aYT:((Rows.evalCountsRow.mapsOut==(Tryz.pinned.checked.prog).mapsAmong Tryz.f5.resultTypes.toList))=true:=by kernel_rfl
theorem aYS:((Rows.evalCountsRow.loops==(Tryz.f5.params.toList++Rows.evalCountsSpec.plain.varTypes (Tryz.pinned.checked.prog)).any ((Tryz.pinned.checked.prog).loopsFrom ·)))=true:=by kernel_rfl
theorem aYR:((Rows.evalCountsRow.wideKeys==(Tryz.f5.params.toList++Rows.evalCountsSpec.plain.varTypes (Tryz.pinned.checked.prog)++Tryz.f5.resultTypes.toList).any ((Tryz.pinned.checked.prog).wideKeysFrom ·)))=true:=by kernel_rfl
theorem aYQ:(Rows.evalCountsSpec.vars.all ((Tryz.pinned.checked.prog).varReadable ·))=true:=by kernel_rfl
theorem aYP:(Tryz.f5.resultTypes.all (fun t=>(Tryz.pinned.checked.prog).readableRec t&&decide (t<(Tryz.pinned.checked.prog).types.size)))=true:=by kernel_rfl
theorem aYO:((Rows.evalCountsRow.ifacesOut==Tryz.f5.resultTypes.toList.any ((Tryz.pinned.checked.prog).ifacesRec ·)))=true:=by kernel_rfl
theorem aYN:((Rows.evalCountsRow.loopsOut==Tryz.f5.resultTypes.toList.any ((Tryz.pinned.checked.prog).loopsFrom ·)))=true:=by kernel_rfl
theorem aYM:((Rows.evalCountsRow.plainKeys==(Tryz.pinned.checked.prog).plainKeys))=true:=by kernel_rfl
theorem aYL:(Rows.evalCountsRow.shortTexts.isNone)=true:=by kernel_rfl
theorem aYK:((Tryz.pinned.checked.prog).stopsHeard)=true:=by kernel_rfl
theorem aYJ:((Tryz.pinned.checked.prog).mayEnter)=true:=by kernel_rfl
theorem aYI:((Rows.evalCountsRow.lifted==(Tryz.pinned.checked.prog).liftsFinal))=true:=by kernel_rfl
theorem aYH:(((Tryz.pinned.checked.prog).make==some Rows.evalCountsRow.make))=true:=by kernel_rfl
theorem aYG:((Rows.evalCountsRow.kinds==(if Rows.evalCountsRow.domain.isEmpty then [] else Tryz.f5.params.toList.map fun t=>match (Tryz.pinned.checked.prog).underlying t with | some (.int k)=>some k | _=>none)))=true:=by kernel_rfl
theorem aYF:((Rows.evalCountsRow.pinned==Rows.evalCountsRow.pinnedBy))=true:=by kernel_rfl
theorem aYE:((Rows.evalCountsRow.veiled==(Tryz.f5.params.toList++Rows.evalCountsSpec.plain.varTypes (Tryz.pinned.checked.prog)++Tryz.f5.resultTypes.toList).any ((Tryz.pinned.checked.prog).veiledRec ·)))=true:=by kernel_rfl
theorem aYD:(Rows.evalCountsRow.veiledFits (Tryz.pinned.checked.prog) Tryz.f5.params.toList (Tryz.f5.params.toList++Rows.evalCountsSpec.plain.varTypes (Tryz.pinned.checked.prog)++Tryz.f5.resultTypes.toList))=true:=by kernel_rfl
theorem aNZ (P:Program) (f:FuncId) (fn:Func) (s:ChangeSpec) (c:OpenClaim) (h0:(c.wf (OpenSpec.ofChange s))=true) (h1:(laidOutB P)=true) (h2:(mapsRowed P)=true) (h3:(fn.params.all (P.readableRec ·))=true) (h4:(namedTie P c.named s.vars)=true) (h5:((c.stops==[]))=true) (h6:((P.stops==[]))=true) (h7:((c.knobs==[]))=true) (h8:((P.stopKnobs==[]))=true) (h9:((c.inPlace==P.inPlace f))=true) (h10:((c.unfollowed==P.unfollowed f))=true) (h11:((c.recurses==P.recurses f))=true) (h12:((c.named==P.varsNamed f))=true) (h13:((c.maps==(fn.params.toList++s.plain.varTypes P).any (P.mapsRec ·)))=true) (h14:((c.ifaces==(fn.params.toList++s.plain.varTypes P).any (P.ifacesRec ·)))=true) (h15:((c.mapsOut==P.mapsAmong fn.resultTypes.toList))=true) (h16:((c.loops==(fn.params.toList++s.plain.varTypes P).any (P.loopsFrom ·)))=true) (h17:((c.wideKeys==(fn.params.toList++s.plain.varTypes P++fn.resultTypes.toList).any (P.wideKeysFrom ·)))=true) (h18:(s.vars.all (P.varReadable ·))=true) (h19:(fn.resultTypes.all (fun t=>P.readableRec t&&decide (t<P.types.size)))=true) (h20:((c.ifacesOut==fn.resultTypes.toList.any (P.ifacesRec ·)))=true) (h21:((c.loopsOut==fn.resultTypes.toList.any (P.loopsFrom ·)))=true) (h22:((c.plainKeys==P.plainKeys))=true) (h23:(c.shortTexts.isNone)=true) (h24:(P.stopsHeard)=true) (h25:(P.mayEnter)=true) (h26:((c.lifted==P.liftsFinal))=true) (h27:((P.make==some c.make))=true) (h28:((c.kinds==(if c.domain.isEmpty then [] else fn.params.toList.map fun t=>match P.underlying t with | some (.int k)=>some k | _=>none)))=true) (h29:((c.pinned==c.pinnedBy))=true) (h30:((c.veiled==(fn.params.toList++s.plain.varTypes P++fn.resultTypes.toList).any (P.veiledRec ·)))=true) (h31:(c.veiledFits P fn.params.toList (fn.params.toList++s.plain.varTypes P++fn.resultTypes.toList))=true):joinedFacts P f fn s c=true:=by
 unfold joinedFacts;exact (aB5 (aB5 (aB5 (aB5 (aB5 (aB5 (aB5 (aB5 (aB5 (aB5 (aB5 (aB5 (aB5 (aB5 (aB5 (aB5 (aB5 (aB5 (aB5 (aB5 (aB5 (aB5 (aB5 (aB5 (aB5 (aB5 (aB5 (aB5 (aB5 (aB5 (aB5 h0 h1) h2) h3) h4) h5) h6) h7) h8) h9) h10) h11) h12) h13) h14) h15) h16) h17) h18) h19) h20) h21) h22) h23) h24) h25) h26) h27) h28) h29) h30) h31)
theorem aE8:joinedFacts Tryz.pinned.checked.prog 5 Tryz.f5 Rows.evalCountsSpec Rows.evalCountsRow=true :=
 aNZ (Tryz.pinned.checked.prog) 5 Tryz.f5 Rows.evalCountsSpec Rows.evalCountsRow jk0 jk1 jk2 jk3 jk4 jk5 jk6 jk7 jk8 jk9 aYY aYX aYW aYV aYU aYT aYS aYR aYQ aYP aYO aYN aYM aYL aYK aYJ aYI aYH aYG aYF aYE aYD
theorem aEW:Tryz.pinned.checked.prog.funcNamed Rows.evalCountsRow.func=some 5:=by kernel_rfl
end Go.Proofs.YtngjlnhojicjeaaGreatDoor
