/- Part 6 of the proof. -/
import Derived.Test.YtngjlnhojicjeaaGreatDoorD5
import Derived.Laws.Externs
import Derived.Laws.IdiomCopy
import Derived.Lib.AppendZeros
import Derived.Lib.AppendZerosOnto
import Derived.Lib.Hide
import Derived.Lib.JoinLaws
import Derived.Lib.Overlaps
import Derived.Lib.SliceRun
import Derived.Lib.Walk
import Derived.Shelf.RegionOpenPlain
import Derived.Test.YtngjlnhojicjeaaGreatDoorChecked
import Derived.WalkKit
import Derived.Deep.AppendSrc
import Derived.LaidMore
import Derived.Deep.Slices
import Derived.OpenShut
import Derived.Test.YtngjlnhojicjeaaGreatDoorTie
import Derived.Lib.LaidU8
import Derived.MakeChecks
import Derived.ProofKit
import Derived.Test.YtngjlnhojicjeaaGreatDoorRows
import Derived.Stop.Joined
set_option linter.unusedVariables false
set_option linter.unusedSimpArgs false
namespace Go.Proofs.YtngjlnhojicjeaaGreatDoor
open Go.RowKit Go.Pl
variable{w:World}{v:Value}
theorem aXA {b:Nat}(hmO:aCt w v (aDe b))(hTe:Te w):Calls Tryz.prog 12 #[.agg #[v],vA (qdL qA)] w λe w'=>∃u z e',e=.returned (.tuple #[u,vI z])/\rwK ([([110,49],0),([110,50],0),([110,51],0)]:List (Bys×Int)) u z e'/\Mm nF_ w w' [e'] :=
 (aE7 (q:=qA) hmO (aWR w 0 rfl dE) (Gg_ _) hTe (by unfold aDe;simp) rfl).mono λe w' ⟨u,h1,h2⟩=>by
  rw[(aYI b).1] at h1 h2;rw[(aYI b).2] at h2;exact⟨u,0,_,h1,⟨rfl,rfl⟩,h2⟩
theorem aX9 {b:Nat}(hmO:aCt w v (aDe b))(hTe:Te w):Calls Tryz.prog 12 #[.agg #[v],vA (qdL qB)] w λe w'=>∃u z e',e=.returned (.tuple #[u,vI z])/\rwK ([([110,49],0),([110,50],0)]:List (Bys×Int)) u z e'/\Mm nF_ w w' [e'] :=
 (aGE (q:=qB) hmO (aWR w 0 rfl dE) (Gg_ _) hTe (by unfold aDe;simp) rfl).mono λe w' ⟨u,h1,h2⟩=>by
  rw[aXX b] at h1 h2;rw[aZZ b] at h2;exact⟨u,0,_,h1,⟨rfl,rfl⟩,h2⟩
theorem aX8 {b:Nat}(hmO:aCt w v (aDe b))(hTe:Te w):Calls Tryz.prog 12 #[.agg #[v],vA (qdL qC)] w λe w'=>∃u z e',e=.returned (.tuple #[u,vI z])/\rwK ([([110,51],1),([110,50],9)]:List (Bys×Int)) u z e'/\Mm nF_ w w' [e'] :=
 (aGD (q:=qC) hmO (aWR w 0 rfl dE) (Gg_ _) hTe (by unfold aDe;simp) rfl).mono λe w' ⟨u,h1,h2⟩=>by
  rw[aXW b] at h1 h2;rw[aZY b] at h2;exact⟨u,0,_,h1,⟨rfl,rfl⟩,h2⟩
theorem aX7 {b:Nat}(hmO:aCt w v (aDe b))(hTe:Te w):Calls Tryz.prog 12 #[.agg #[v],vA (qdL qD)] w λe w'=>∃u z e',e=.returned (.tuple #[u,vI z])/\(z=13/\e'=rw_ rwL 2 42 u [])/\Mm nF_ w w' [e'] :=
 (aLT (q:=qD) hmO (aWR w 0 rfl dE) (Gg_ _) hTe (by unfold aDe;simp) rfl (by rw[aYH b];decide)).mono λe w' ⟨u,h1,h2⟩=>by
  rw[aYH b] at h1;exact⟨u,13,_,h1,⟨rfl,rfl⟩,h2⟩
theorem aD1 {p1 p2:Option Addr}{c1 c2:Nat}{A B:List (Bys×Int)}(h1:SrcP rwL 2 w p1 c1 A)(h2:SrcP rwL 2 w p2 c2 B)(hq:(A==B)=true):Calls Tryz.prog 14 #[vL p1 A.length c1,vL p2 B.length c2] w λe w'=>e=.returned (vB true)/\Fr nF_ w w' :=
 (aIm h1 h2).mono λe w' ⟨a,b⟩=>⟨by rw[a,hq],b⟩
theorem aJQ (hTe:Te w):Calls Tryz.prog 8 #[] w λe w'=>e=.returned (vB true)/\Fr nF_ w w':=by
 refine beg Tryz.func8 rfl rfl [] rfl rfl λY hY=>?_;have hM:=Mm.nil nF_ w;refine aJd 1 0 11 [] (K:=λu w8=>∃v b,u=.agg #[v]/\aCt w8 v (aDe b)) f0 hM ((aGz _).mono λe w9 ⟨v,b,h1,h2,h3⟩=>⟨⟨_,h1,v,b,rfl,h2⟩,h3⟩) λu w9 ⟨v,b,hu,hmO⟩ hM9 f9=>?_;subst hu;have hY:∀e w',(e=.returned (vB true)/\Fr nF_ w9 w')->Y e w':=λe w' h=>hY e w' ⟨h.1,f9.trans h.2⟩;have hTe:=hTe.fr f9;clear hM9 f9;obtain⟨w,rfl⟩:∃z:World,z=w9:=⟨_,rfl⟩;have hM:=Mm.nil nF_ w;obtain⟨p0,cp0,hp0,-⟩:=hmO.1.op;subst hp0;refine aBW 1 1 1 [] [] 24 (.agg #[vL p0 (aDe b).length cp0]) f0 hM λaa w1 hM=>seg 2 0 [] f0 ?_;have hM:=hM.nl;refine drx [1,3] (λZ=>[some (.agg #[vI 1,vS [],vS [],vI 0,vL none 0 0]),some (.tuple #[(tp0 (Z 1)),vI (tp1 (Z 1))])]) _ (λZ l=>[bk aa #[vL p0 (aDe b).length cp0] 24,(bif l.getD 1 false then pfE ((rwK ([([110,49],0),([110,50],0),([110,51],0)]:List (Bys×Int))) (tp0 (Z 1)) (tp1 (Z 1))) (Z.e 1) else aEB)]) (λZ=>[(2,(tp0 (Z 1))),(3,vI (tp1 (Z 1)))]) hM (λZ=>rfl) (λZ l w5 hM=>(fc (lam 24 0 0 1 hM rfl) f0)) ⟨aAO 0 1 14 (f:=11) (λZ=>#[]) (.agg #[vI 1,vS [],vS [],vI 0,vL none 0 0]) (λZ fr wm hM=>(aDE _)),aHP 1 3 1 16 (f:=12) (λZ=>#[.agg #[vL p0 (aDe b).length cp0],.agg #[vI 1,vI 1,vI 1,vS [],vS [],vI 0,vL none 0 0,vS [],vI 0,vI 0,vI 0,vS [],vS [],vI 0]]) (rwK ([([110,49],0),([110,50],0),([110,51],0)]:List (Bys×Int))) (λZ fr wm hM=>(aXA (hmO.fr hM.fr) (hTe.fr hM.fr))),trivial⟩ λab w1 hM=>?_;replace hM:Mm nF_ w w1 [bk aa #[vL p0 (aDe b).length cp0] 24,pfE ((rwK ([([110,49],0),([110,50],0),([110,51],0)]:List (Bys×Int))) (tp0 (ab 1)) (tp1 (ab 1))) (ab.e 1)]:=hM;obtain⟨⟨hz9,hge⟩,hM⟩:=hM.unpf (j:=1) rfl;rw[hge] at hM;obtain⟨vA,hvA⟩:∃z,z=tp0 (ab 1):=⟨_,rfl⟩;rw[<-hvA] at hM;rw[hz9,<-hvA];clear hvA hz9 hge;replace hM:Mm nF_ w _ [bk aa #[vL p0 (aDe b).length cp0] 24,_]:=hM;obtain⟨qA,cA,e9,-⟩:=(hM.src (j:=1) rfl rwT.len).op;subst e9;refine seg 3 0 [] f0 ?_;have hM:=hM.nl;refine drx [1,3] (λZ=>[some (.agg #[vI 1,vS [],vS [],vI 0,vL none 0 0]),some (.tuple #[(tp0 (Z 1)),vI (tp1 (Z 1))])]) _ (λZ l=>[bk aa #[vL p0 (aDe b).length cp0] 24,rw_ rwL 2 42 (vL qA ([([110,49],0),([110,50],0),([110,51],0)]:List (Bys×Int)).length cA) ([([110,49],0),([110,50],0),([110,51],0)]:List (Bys×Int)),(bif l.getD 1 false then pfE ((rwK ([([110,49],0),([110,50],0)]:List (Bys×Int))) (tp0 (Z 1)) (tp1 (Z 1))) (Z.e 1) else aEB)]) (λZ=>[(4,(tp0 (Z 1))),(5,vI (tp1 (Z 1)))]) hM (λZ=>rfl) (λZ l w5 hM=>(fc (lam 24 0 0 1 hM rfl) f0)) ⟨aAO 0 1 21 (f:=11) (λZ=>#[]) (.agg #[vI 1,vS [],vS [],vI 0,vL none 0 0]) (λZ fr wm hM=>(aDE _)),aHP 1 3 2 23 (f:=12) (λZ=>#[.agg #[vL p0 (aDe b).length cp0],.agg #[vI 3,vI 1,vI 1,vS [],vS [],vI 0,vL none 0 0,vS [119,49],vI 5,vI 0,vI 0,vS [],vS [],vI 0]]) (rwK ([([110,49],0),([110,50],0)]:List (Bys×Int))) (λZ fr wm hM=>(aX9 (hmO.fr hM.fr) (hTe.fr hM.fr))),trivial⟩ λac w1 hM=>?_;replace hM:Mm nF_ w w1 [bk aa #[vL p0 (aDe b).length cp0] 24,_,pfE ((rwK ([([110,49],0),([110,50],0)]:List (Bys×Int))) (tp0 (ac 1)) (tp1 (ac 1))) (ac.e 1)]:=hM;obtain⟨⟨hz9,hge⟩,hM⟩:=hM.unpf (j:=2) rfl;rw[hge] at hM;obtain⟨vB,hvB⟩:∃z,z=tp0 (ac 1):=⟨_,rfl⟩;rw[<-hvB] at hM;rw[hz9,<-hvB];clear hvB hz9 hge;replace hM:Mm nF_ w _ [bk aa #[vL p0 (aDe b).length cp0] 24,_,_]:=hM;obtain⟨qB,cB,e9,-⟩:=(hM.src (j:=2) rfl rwT.len).op;subst e9;refine seg 4 0 [] f0 ?_;have hM:=hM.nl;refine drx [1,4] (λZ=>[some (.agg #[vI 1,vS [],vS [],vI 0,vL none 0 0]),some (.tuple #[(tp0 (Z 1)),vI (tp1 (Z 1))])]) _ (λZ l=>[bk aa #[vL p0 (aDe b).length cp0] 24,rw_ rwL 2 42 (vL qA ([([110,49],0),([110,50],0),([110,51],0)]:List (Bys×Int)).length cA) ([([110,49],0),([110,50],0),([110,51],0)]:List (Bys×Int)),rw_ rwL 2 42 (vL qB ([([110,49],0),([110,50],0)]:List (Bys×Int)).length cB) ([([110,49],0),([110,50],0)]:List (Bys×Int)),(bif l.getD 1 false then pfE ((rwK ([([110,51],1),([110,50],9)]:List (Bys×Int))) (tp0 (Z 1)) (tp1 (Z 1))) (Z.e 1) else aEB)]) (λZ=>[(6,(tp0 (Z 1))),(7,vI (tp1 (Z 1)))]) hM (λZ=>rfl) (λZ l w5 hM=>(fc (lam 24 0 0 1 hM rfl) f0)) ⟨aAO 0 1 28 (f:=11) (λZ=>#[]) (.agg #[vI 1,vS [],vS [],vI 0,vL none 0 0]) (λZ fr wm hM=>(aDE _)),aHP 1 4 3 31 (f:=12) (λZ=>#[.agg #[vL p0 (aDe b).length cp0],.agg #[vI 4,vI 0,vI 1,vS [],vS [],vI 0,vL none 0 0,vS [],vI 2,vI 9,vI 8,vS [],vS [],vI 0]]) (rwK ([([110,51],1),([110,50],9)]:List (Bys×Int))) (λZ fr wm hM=>(aX8 (hmO.fr hM.fr) (hTe.fr hM.fr))),trivial⟩ λad w1 hM=>?_;replace hM:Mm nF_ w w1 [bk aa #[vL p0 (aDe b).length cp0] 24,_,_,pfE ((rwK ([([110,51],1),([110,50],9)]:List (Bys×Int))) (tp0 (ad 1)) (tp1 (ad 1))) (ad.e 1)]:=hM;obtain⟨⟨hz9,hge⟩,hM⟩:=hM.unpf (j:=3) rfl;rw[hge] at hM;obtain⟨vC,hvC⟩:∃z,z=tp0 (ad 1):=⟨_,rfl⟩;rw[<-hvC] at hM;rw[hz9,<-hvC];clear hvC hz9 hge;replace hM:Mm nF_ w _ [bk aa #[vL p0 (aDe b).length cp0] 24,_,_,_]:=hM;obtain⟨qC,cC,e9,-⟩:=(hM.src (j:=3) rfl rwT.len).op;subst e9;refine seg 5 0 [] f0 ?_;have hM:=hM.nl;refine drx [1,3] (λZ=>[some (.agg #[vI 1,vS [],vS [],vI 0,vL none 0 0]),some (.tuple #[(tp0 (Z 1)),vI (tp1 (Z 1))])]) _ (λZ l=>[bk aa #[vL p0 (aDe b).length cp0] 24,rw_ rwL 2 42 (vL qA ([([110,49],0),([110,50],0),([110,51],0)]:List (Bys×Int)).length cA) ([([110,49],0),([110,50],0),([110,51],0)]:List (Bys×Int)),rw_ rwL 2 42 (vL qB ([([110,49],0),([110,50],0)]:List (Bys×Int)).length cB) ([([110,49],0),([110,50],0)]:List (Bys×Int)),rw_ rwL 2 42 (vL qC ([([110,51],1),([110,50],9)]:List (Bys×Int)).length cC) ([([110,51],1),([110,50],9)]:List (Bys×Int)),(bif l.getD 1 false then pfE ((λu z e=>z=13/\e=rw_ rwL 2 42 u []) (tp0 (Z 1)) (tp1 (Z 1))) (Z.e 1) else aEB)]) (λZ=>[(9,vI (tp1 (Z 1)))]) hM (λZ=>rfl) (λZ l w5 hM=>(fc (lam 24 0 0 1 hM rfl) f0)) ⟨aAO 0 1 36 (f:=11) (λZ=>#[]) (.agg #[vI 1,vS [],vS [],vI 0,vL none 0 0]) (λZ fr wm hM=>(aDE _)),aHP 1 3 4 38 (f:=12) (λZ=>#[.agg #[vL p0 (aDe b).length cp0],.agg #[vI 2,vI 0,vI 1,vS [],vS [],vI 0,vL none 0 0,vS [119,49],vI 0,vI 0,vI 0,vS [],vS [],vI 0]]) (λu z e=>z=13/\e=rw_ rwL 2 42 u []) (λZ fr wm hM=>(aX7 (hmO.fr hM.fr) (hTe.fr hM.fr))),trivial⟩ λae w1 hM=>?_;replace hM:Mm nF_ w w1 [bk aa #[vL p0 (aDe b).length cp0] 24,_,_,_,pfE ((λu z e=>z=13/\e=rw_ rwL 2 42 u []) (tp0 (ae 1)) (tp1 (ae 1))) (ae.e 1)]:=hM;obtain⟨⟨hz9,hge⟩,hM⟩:=hM.unpf (j:=4) rfl;rw[hge] at hM;obtain⟨vD,hvD⟩:∃z,z=tp0 (ae 1):=⟨_,rfl⟩;rw[<-hvD] at hM;rw[hz9];clear hvD hz9 hge;replace hM:Mm nF_ w _ [bk aa #[vL p0 (aDe b).length cp0] 24,_,_,_,_]:=hM;obtain⟨qD,cD,e9,-⟩:=(hM.src (j:=4) rfl rwT.len).op;subst e9;refine aAu 6 7 48 [(43,vB true),(44,vL qA ([([110,49],0),([110,50],0),([110,51],0)]:List (Bys×Int)).length cA),(45,.agg #[vS [110,49],vI 0]),(46,.agg #[vS [110,50],vI 0]),(47,.agg #[vS [110,51],vI 0])] (cs:=#[vS [110,49],vI 0,vS [110,50],vI 0,vS [110,51],vI 0]) (T:=42) (v:=λb=>vL (some ⟨b,0,none⟩) 3 3) f0 hM λaf w1 hM=>aAw 6 8 49 [] f0 hM (aD1 (A:=([([110,49],0),([110,50],0),([110,51],0)]:List (Bys×Int))) (B:=([([110,49],0),([110,50],0),([110,51],0)]:List (Bys×Int))) (((hM.src (j:=1) rfl rwT.len).p).2) (aBL (f:=rwL) (c:=2) (hM.get 5 rfl) ([([110,49],0),([110,50],0),([110,51],0)]:List (Bys×Int)) 3 (λ_=>rfl) rfl rfl) kR) λw1 hM=>aAu 6 18 59 [(55,vB true),(56,vL qB ([([110,49],0),([110,50],0)]:List (Bys×Int)).length cB),(57,.agg #[vS [110,49],vI 0]),(58,.agg #[vS [110,50],vI 0])] (cs:=#[vS [110,49],vI 0,vS [110,50],vI 0]) (T:=42) (v:=λb=>vL (some ⟨b,0,none⟩) 2 2) f0 hM λag w1 hM=>aAw 6 19 60 [] f0 hM (aD1 (A:=([([110,49],0),([110,50],0)]:List (Bys×Int))) (B:=([([110,49],0),([110,50],0)]:List (Bys×Int))) (((hM.src (j:=2) rfl rwT.len).p).2) (aBL (f:=rwL) (c:=2) (hM.get 6 rfl) ([([110,49],0),([110,50],0)]:List (Bys×Int)) 2 (λ_=>rfl) rfl rfl) kR) λw1 hM=>aAu 7 9 71 [(67,vB true),(68,vL qC ([([110,51],1),([110,50],9)]:List (Bys×Int)).length cC),(69,.agg #[vS [110,51],vI 1]),(70,.agg #[vS [110,50],vI 9])] (cs:=#[vS [110,51],vI 1,vS [110,50],vI 9]) (T:=42) (v:=λb=>vL (some ⟨b,0,none⟩) 2 2) f0 hM λah w1 hM=>aAw 7 10 72 [] f0 hM (aD1 (A:=([([110,51],1),([110,50],9)]:List (Bys×Int))) (B:=([([110,51],1),([110,50],9)]:List (Bys×Int))) (((hM.src (j:=3) rfl rwT.len).p).2) (aBL (f:=rwL) (c:=2) (hM.get 7 rfl) ([([110,51],1),([110,50],9)]:List (Bys×Int)) 2 (λ_=>rfl) rfl rfl) kR) λw1 hM=>rt1 0 (vB true) rfl f0 (hY _ _ ⟨rfl,hM.fr⟩)
def aC4 (o:Ob)(i:Int):Int:=bif (o.kind==4)||((o.kind==5) && !(i==1)) then 2 else 1
variable{o:Ob}{i:Nat}
section
variable{l:List ObR}{S:Ob->Bool}{y:Bys}
theorem aLk {id:Bys}(h:¬aAr (aAa l) id<0):∃k z,aAr (aAa l) id=((k:Nat):Int)/\l[k]?=some z/\z.o.id=id:=by
 obtain⟨k,o,hk,ho,he⟩:=aB5 h;obtain⟨z,hz⟩:=geb (l:=l) (i:=k) (by rw[<-aAT];exact gl ho);have hzo:z.o=o:=by have:=aAK hz;rw[ho] at this;exact(Gh_ this).symm
 exact⟨k,z,hk,hz,by rw[hzo];exact he⟩
end
theorem aD4 {α:Type}(k:α->Bys)(v:α->Value):∀(T:List α)(m:Value->Option Value)(id:Bys),(∀s∈T,k s≠id)->(T.foldl (λm s=>upd m (vS (k s)) (v s)) m) (vS id)=m (vS id)
 | [],_,_,_=>rfl
 | s::S,m,id,h=>by
  rw[List.foldl_cons,aD4 k v S _ id λt ht=>h t (.tail _ ht)];exact aDX m λe=>h s (.head _) (aMR e).symm
theorem aEG {α:Type}(k:α->Bys)(v:α->Value){s:α}:∀(T:List α)(m:Value->Option Value),(T.map k).Nodup->s∈T->(T.foldl (λm s=>upd m (vS (k s)) (v s)) m) (vS (k s))=some (v s)
 | t::S,m,hp,hs=>by
  rw[List.map_cons] at hp;obtain⟨h1,h2⟩:=List.nodup_cons.1 hp;rw[List.foldl_cons];rcases List.mem_cons.1 hs with rfl|hs
  ·rw[aD4 k v S _ _ λt ht e=>h1 (List.mem_map.2 ⟨t,ht,e⟩)];exact aHb _ _ _
  ·exact aEG k v S _ h2 hs
noncomputable def objF (T:List ObR):Value->Option Value:=T.foldl (λm b=>upd m (vS b.o.id) (vA (obL b))) λ_=>none
theorem aNY (T:List ObR)(b:ObR):objF (T++[b])=upd (objF T) (vS b.o.id) (vA (obL b)):=by unfold objF;rw[List.foldl_append];rfl
def obF (os:List ObR)(id:Bys):Option ObR:=os.find? λb=>b.o.id==id
variable{os:List ObR}
theorem aNC (hp:(aAa os).Pairwise λx y=>blt x.id y.id=true):(os.map (·.o.id)).Nodup:=by
 unfold aAa at hp;unfold List.Nodup;rw[List.pairwise_map] at hp ⊢;exact hp.imp λ{a b} h e=>by rw[e,aA0] at h;cases h
theorem aMd (hp:(os.map (·.o.id)).Nodup){a b:ObR}(ha:a∈os)(hb:b∈os)(e:a.o.id=b.o.id):a=b:=by
 induction os with
 | nil=>cases ha
 | cons c T ih =>
  rw[List.map_cons] at hp;obtain⟨h1,h2⟩:=List.nodup_cons.1 hp;rcases List.mem_cons.1 ha with ea|ha9<;>rcases List.mem_cons.1 hb with eb|hb9
  ·rw[ea,eb]
  ·exact absurd (List.mem_map.2 ⟨b,hb9,by rw[<-e,ea]⟩) h1
  ·exact absurd (List.mem_map.2 ⟨a,ha9,by rw[e,eb]⟩) h1
  ·exact ih h2 ha9 hb9
theorem aE8 {id:Bys}{b:ObR}(h:obF os id=some b):b∈os/\b.o.id=id:=by
 unfold obF at h;exact⟨List.mem_of_find?_eq_some h,by have:=List.find?_some h;simpa using this⟩
theorem aSe (hp:(os.map (·.o.id)).Nodup){b:ObR}(hb:b∈os):obF os b.o.id=some b:=by
 unfold obF
 cases h:os.find? λc=>c.o.id==b.o.id with
 | none=>exact absurd (List.find?_eq_none.1 h b hb) sI
 | some c=>have:=aE8 (os:=os) h;rw[aMd hp this.1 hb this.2]
theorem aQI {id:Bys}(h:obF os id=none):∀b∈os,b.o.id≠id:=λb hb e=>absurd (List.find?_eq_none.1 h b hb) (by simp[e])
theorem aNZ (hp:(os.map (·.o.id)).Nodup)(id:Bys):objF os (vS id)=(obF os id).map λb=>vA (obL b):=by
 cases h:obF os id with
 | none=>exact aD4 (λb:ObR=>b.o.id) _ os _ id (aQI h)
 | some b =>
  obtain⟨h1,rfl⟩:=aE8 h;exact aEG (λb:ObR=>b.o.id) (λb=>vA (obL b)) os _ hp h1
structure RgR where
 id:Bys
 L:List Pt
 p:Option Addr
 c:Nat
def rgE (r:RgR):Ent:=rw_ ptL 2 29 (vL r.p r.L.length r.c) r.L
noncomputable def rgF (R:List RgR):Value->Option Value:=R.foldl (λm r=>upd m (vS r.id) (vL r.p r.L.length r.c)) λ_=>none
theorem aQ1 (R:List RgR)(r:RgR):rgF (R++[r])=upd (rgF R) (vS r.id) (vL r.p r.L.length r.c):=by unfold rgF;rw[List.foldl_append];rfl
def ndA (os:List ObR)(r:Bys):Option Pt:=match obF os r with
 | some x=>bif x.o.kind==1 then some (x.o.x,x.o.y) else none
 | none=>none
def rgL (os:List ObR)(b:ObR):List Pt:=b.o.refs.map λr=>(ndA os r).getD (0,0)
def aBf (os:List ObR)(b:ObR):Option (List Pt):=bif (b.o.kind==3)&&(b.o.refs.all λr=>(ndA os r).isSome)&&aDU (rgL os b) then some (rgL os b) else none
def aPE (os T:List ObR)(R:List RgR):Prop:=R.map (λr=>(r.id,r.L))=T.filterMap λb=>(aBf os b).map λL=>(b.o.id,L)
variable{y:ObR}{R:List RgR}
theorem aHr (h:aPE os (os.take i) R)(hy:os[i]?=some y)(hr:aBf os y=none):aPE os (os.take (i+1)) R:=by
 unfold aPE at h ⊢;rw[gt_ hy,List.filterMap_append,<-h];simp[hr]
theorem aQ0 (h:aPE os (os.take i) R)(hy:os[i]?=some y){r:RgR}(hr:aBf os y=some r.L)(hi:r.id=y.o.id):aPE os (os.take (i+1)) (R++[r]):=by
 unfold aPE at h ⊢;rw[gt_ hy,List.filterMap_append,<-h];simp[hr,hi]
theorem aTk (h:(y.o.kind==3)=false):aBf os y=none:=by unfold aBf;rw[h];rfl
variable{k:Nat}
theorem aNA {r:Bys}(hr:y.o.refs[k]?=some r)(h:ndA os r=none):aBf os y=none:=by
 unfold aBf
 have:(y.o.refs.all λr=>(ndA os r).isSome)=false:=by
  rw[List.all_eq_false];exact⟨r,Ge_ hr,by rw[h];simp⟩
 rw[this,Bool.and_false];rfl
theorem aQz (h:aDU (rgL os y)=false):aBf os y=none:=by unfold aBf;rw[h,Bool.and_false];rfl
theorem aQy (h3:(y.o.kind==3)=true)(hn:∀r∈y.o.refs,(ndA os r).isSome=true)(h:aDU (rgL os y)=true):aBf os y=some (rgL os y):=by
 unfold aBf;rw[h3,h,List.all_eq_true.2 hn];rfl
theorem aVI (hp:(aAa os).Pairwise λx y=>blt x.id y.id=true)(r:Bys):ptOf (aAa os) r=ndA os r:=by
 unfold ptOf ndA
 by_cases hf:aAr (aAa os) r<0
 ·cases h:obF os r with
  | none=>cases(aAa os)[(aAr (aAa os) r).toNat]?<;>simp[hf]
  | some b =>
   obtain⟨h1,rfl⟩:=aE8 h;exact absurd hf (aD5 hp (List.mem_map.2 ⟨b,h1,rfl⟩)).1
 ·obtain⟨k,o,h1,h2,h3⟩:=aB5 hf;obtain⟨z,hz⟩:=geb (l:=os) (i:=k) (by rw[<-aAT];exact gl h2);have hzo:z.o=o:=by have:=aAK hz;rw[h2] at this;exact(Gh_ this).symm
  have e:=aSe (aNC hp) (gm hz);rw[show z.o.id=r by rw[hzo,h3]] at e;rw[h1,Int.toNat_natCast,h2,e,decide_eq_false oM,<-hzo];show(bif false || !(z.o.kind==1) then none else some (z.o.x,z.o.y))=(bif z.o.kind==1 then some (z.o.x,z.o.y) else none);cases(z.o.kind==1)<;>rfl
def ndG (os:List ObR)(f:ObR->List (Pt×Bool))(o:Ob):List Bys->Nat->List (Pt×Bool)
 | [],_=>[]
 | r::rs,i=>match obF os r with
  | some x=>bif x.o.kind==aC4 o (i:Int) then f x++ndG os f o rs (i+1) else[((0,0),false)]
  | none=>[((0,0),false)]
def ndN (os:List ObR):Nat->ObR->List (Pt×Bool)
 | 0,_=>[]
 | d+1,b=>bif b.o.kind==1 then[((b.o.x,b.o.y),true)] else ndG os (ndN os d) b.o b.o.refs 0
def ndP (os:List ObR)(b:ObR):List (Pt×Bool):=ndN os 3 b
def npB (z:Pt×Bool):Array Value:=#[.agg #[vI z.1.1,vI z.1.2],vB z.2]
def npV (L:List (Pt×Bool)):List (Array Value):=L.map npB
def aJb (r:List Pt)(z:Pt×Bool):Bool:=z.2 && !decide (aFe r z.1<0)
def inP (os:List ObR)(id area:Bys):Bool:=match obF os id,(obF os area).bind (aBf os) with
 | some o,some r=>(ndP os o).all (aJb r)
 | _,_=>false
theorem aRU (hp:(os.map (·.o.id)).Nodup)(hR:aPE os os R)(id:Bys):(match(obF os id).bind (aBf os) with
  | some L=>∃r∈R,r.L=L/\rgF R (vS id)=some (vL r.p r.L.length r.c)
  | none=>rgF R (vS id)=none):=by
 have hids:(R.map (·.id)).Sublist (os.map (·.o.id)):=by
  have e:R.map (·.id)=(os.filterMap λb=>(aBf os b).map λL=>(b.o.id,L)).map (·.1):=by rw[<-hR,List.map_map];rfl
  rw[e]
  have key:∀T:List ObR,((T.filterMap λb=>(aBf os b).map λL=>(b.o.id,L)).map (·.1)).Sublist (T.map (·.o.id)):=by
   intro T
   induction T with
   | nil=>exact .slnil
   | cons c T ih =>
    rw[List.filterMap_cons,List.map_cons]
    cases aBf os c with
    | none=>exact ih.cons _
    | some L=>exact ih.cons_cons _
  exact key os
 have hnd:=hids.nodup hp
 have hmem:∀{i:Bys}{L:List Pt},(∃r∈R,r.id=i/\r.L=L)↔∃b∈os,aBf os b=some L/\b.o.id=i:=λ{i L}=>by
  have h1:(∃r∈R,r.id=i/\r.L=L)↔(i,L)∈R.map λr=>(r.id,r.L):=by
   rw[List.mem_map];constructor
   ·rintro⟨r,h,rfl,rfl⟩;exact⟨r,h,rfl⟩
   ·rintro⟨r,h,e⟩;injection e with e1 e2;exact⟨r,h,e1,e2⟩
  rw[h1,hR,List.mem_filterMap];constructor
  ·rintro⟨b,hb,e⟩;obtain⟨L',h2,e⟩:=Option.map_eq_some_iff.1 e
   injection e with e1 e2;subst e1;subst e2
   exact⟨b,hb,h2,rfl⟩
  ·rintro⟨b,hb,h2,rfl⟩;exact⟨b,hb,by rw[h2];rfl⟩
 cases ho:(obF os id).bind (aBf os) with
 | some L =>
  obtain⟨b,hb,hL⟩:=Option.bind_eq_some_iff.1 ho;obtain⟨h1,h2⟩:=aE8 hb;obtain⟨r,hr,e1,e2⟩:=hmem.2 ⟨b,h1,hL,h2⟩;subst e1;exact⟨r,hr,e2,aEG (λr:RgR=>r.id) (λr=>vL r.p r.L.length r.c) R _ hnd hr⟩
 | none =>
  refine aD4 (λr:RgR=>r.id) _ R _ id λr hr e=>?_;obtain⟨b,hb,h1,h2⟩:=hmem.1 ⟨r,hr,e,rfl⟩;have:=aSe hp hb;rw[h2] at this;rw[this,Option.bind_some,h1] at ho;cases ho
def aEY (h:Nat)(q:QdR)(os:List ObR)(area:Bys):List (Bys×Int):=(aDy h q os).filter λx => !((x.1==area) || !(inP os x.1 area))
def aR2 (h:Nat)(q:QdR)(os:List ObR):List (Bys×Int):=os.filterMap λb=>bif (aAE b.o.tags q.key).2&&(b.o.kind==3)&&(aBf os b).isSome then some (b.o.id,((aEY h q os b.o.id).length:Int)) else none
def obC (b:ObR):Array Value:=(oY_ b)
def aKu (M:List Ent)(W:World):Prop:=Mm (BlM M) W W M
variable{M:List Ent}{W:World}{G:Nat->Prop}
theorem aKu.fr {W':World}(h:aKu M W)(f:Fr G W W')(ha:∀k,BlM M k->¬G k):aKu M W':=⟨Fr.refl _ _,λe he=>e.fr (h.at_ e he) f λk hk hg=>ha k ⟨e,he,hk⟩ hg,λe he k hk _=>⟨e,he,hk⟩,h.nd⟩
theorem aKu.lt (h:aKu M W)(hk:BlM M k):k<W.heap.size:=by
  obtain⟨e,he,hb⟩:=hk;exact e.lt (h.at_ e he) hb
variable{A:List Ent}
theorem aKu.app {B:List Ent}(ha:aKu A W)(hb:aKu B W)(hd:∀k,BlM A k->¬BlM B k):aKu (A++B) W:=⟨Fr.refl _ _,λe he=>(List.mem_append.1 he).elim (ha.at_ e) (hb.at_ e),λe he k hk _=>⟨e,he,hk⟩,List.pairwise_append.2 ⟨ha.nd,hb.nd,λx hx y hy k h1 h2=>hd k ⟨x,hx,h1⟩ ⟨y,hy,h2⟩⟩⟩
theorem aKu.sub {M':List Ent}(h:aKu M W)(hs:M'.Sublist M):aKu M' W:=Mm.re (Mm.sub h hs) λe he k hk=>⟨e,he,hk⟩
theorem BlM.app {B:List Ent}(h:BlM (A++B) k):BlM A k\/BlM B k:=by
  obtain⟨e,he,hb⟩:=h;exact(List.mem_append.1 he).imp (⟨e,·,hb⟩) (⟨e,·,hb⟩)
variable{F:Nat->Prop}{w0:World}
theorem aY5 {N:Nat}{M1:List Ent}(h:∀k,BlM M k->F k\/N<=k)(hN:N<=w0.heap.size)(hM:Mm (BlM M) w0 w M1):∀k,BlM M1 k->F k\/N<=k:=λk ⟨e,he,hb⟩=>by
  rcases Nat.lt_or_ge k w0.heap.size with h1|h1
  · exact h k (hM.own e he k hb h1)
  · exact .inr (Gn_ hN h1)
theorem aK5 (hM:Mm F w0 w M):∀k,BlM M k->F k\/w0.heap.size<=k:=λk ⟨e,he,hb⟩=>by
  rcases Nat.lt_or_ge k w0.heap.size with h1|h1
  · exact .inl (hM.own e he k hb h1)
  · exact .inr h1
noncomputable def mpRd (os:List ObR)(pb mo no:Nat)(rv bv:Value):List Ent:=[bk pb #[rv,.map (some mo),bv] 225,mp Tryz.prog 9 mo no (objF os)]
def aLw (pb cb cpp:Nat)(b:ObR):List Ent:=[bk cb (obC b) 48,bk cpp #[vP pb 0] 219]
structure NdK (os:List ObR)(pb mo no:Nat)(rv bv:Value)(cb cpp:Nat)(b:ObR)(G:Nat->Prop)(W:World):Prop where
  rd:aKu (aLw pb cb cpp b++mpRd os pb mo no rv bv) W
  ap:∀k,BlM (aLw pb cb cpp b++mpRd os pb mo no rv bv) k->¬G k
  ob:∃w0,(∀z∈os,ObIn w0 z)/\Fr nF_ w0 W/\∀k,G k->w0.heap.size<=k
variable{pb mo no cb cpp:Nat}{rv bv:Value}
theorem NdK.inn {cb' cpp':Nat}{b z:ObR}{w1:World}(h:NdK os pb mo no rv bv cb cpp b G W)(hM:Mm G W w M)(c:Mm nF_ w w1 (aLw pb cb' cpp' z)):∀(G':Nat->Prop) W',(∀k,G' k->BlM M k\/w1.heap.size<=k)->Fr nF_ w1 W'->NdK os pb mo no rv bv cb' cpp' z G' W':=λG' W' hG f=>by
  have hr:aKu (mpRd os pb mo no rv bv) w:=(h.rd.sub (List.sublist_append_right _ _)).fr hM.fr λk hk=>h.ap k (by obtain⟨e,he,hb⟩:=hk;exact⟨e,List.mem_append_right _ he,hb⟩);have hr1:aKu (mpRd os pb mo no rv bv) w1:=hr.fr c.fr λ_ _ h=>h;have hc1:aKu (aLw pb cb' cpp' z) w1:=c.re λe he k hk=>⟨e,he,hk⟩;have hge:∀k,BlM (aLw pb cb' cpp' z) k->w.heap.size<=k:=λk ⟨e,he,hb⟩=>c.ge he hb
  have hd:∀k,BlM (aLw pb cb' cpp' z) k->¬BlM (mpRd os pb mo no rv bv) k:=λk h1 h2=>by
    have:=hge k h1;have:=hr.lt h2;omega
  refine⟨(hc1.app hr1 hd).fr f λ_ _ h=>h,λk hk hg=>?_,?_⟩
  · have hlt:=(hc1.app hr1 hd).lt hk
    rcases hG k hg with h1|h1
    · rcases BlM.app hk with h2|h2
      · have:=hge k h2
        obtain⟨e,he,hb⟩:=h1;have:=e.lt (hM.at_ e he) hb;omega
      · rcases aK5 hM k h1 with h3|h3
        · exact h.ap k (by obtain⟨e,he,hb⟩:=h2;exact⟨e,List.mem_append_right _ he,hb⟩) h3
        · have:=(h.rd.sub (List.sublist_append_right _ _)).lt h2;omega
    · omega
  · obtain⟨w0,h1,h2,h3⟩:=h.ob
    have hf:Fr nF_ w0 w:=h2.trans' hM.fr λr hr hg=>absurd hr (by have:=h3 r hg;omega);refine⟨w0,h1,(hf.trans c.fr).trans f,λk hk=>?_⟩;rcases hG k hk with h4|h4
    · rcases aK5 hM k h4 with h5|h5
      · exact h3 k h5
      · exact Gn_ h2.size h5
    · exact Gn_ (hf.trans c.fr).size h4
theorem NdK.src {b:ObR}(h:NdK os pb mo no rv bv cb cpp b G W)(hb:b∈os):∃B,SrcB stL 1 W B b.pr b.cr b.o.refs/\∀k,G k->B<=k:=by
  obtain⟨w0,h1,h2,h3⟩:=h.ob;exact⟨_,(h1 b hb).refs.b h2,h3⟩
theorem NdK.bnd {b:ObR}(h:NdK os pb mo no rv bv cb cpp b G W){z:ObR}(hz:z∈os):ObB z.o:=by
  obtain⟨w0,h1,-⟩:=h.ob;exact(h1 z hz).bnd
variable{j:Nat}
theorem aOe {V A C:List (Pt×Bool)}(h:V=A++C){z:Pt×Bool}(hz:C[j]?=some z):(npV V)[A.length+j]?=some (npB z):=by
  unfold npV;rw[Gr_,h,List.getElem?_append_right (Nat.le_add_right _ _),Nat.add_sub_cancel_left,hz];rfl
theorem aEA (V:List (Pt×Bool)):(npV V).length=V.length:=Gp_ _
theorem aT0 {V A C D:List (Pt×Bool)}(h:V=A++(C++D)){z:Pt×Bool}(hz:C[j]?=some z):(npV V)[A.length+j]?=some (npB z):=aOe h (by rw[List.getElem?_append_left (gl hz)];exact hz)
section
variable{f:ObR->List (Pt×Bool)}{V A:List (Pt×Bool)}{y:Bys}
theorem aT9 {z:ObR}(h:V=A++ndG os f o (o.refs.drop i) i)(hy:o.refs[i]?=some y)(ho:obF os y=some z)(hk:(z.o.kind==aC4 o (i:Int))=true):V=A++(f z++ndG os f o (o.refs.drop (i+1)) (i+1)):=by
  rw[h,List.drop_eq_getElem_cons (gl hy),(List.getElem?_eq_some_iff.1 hy).2];show A++(match obF os y with|some x=>bif x.o.kind==aC4 o (i:Int) then f x++ndG os f o (o.refs.drop (i+1)) (i+1) else[((0,0),false)]|none=>[((0,0),false)])=_;rw[ho];simp only[hk,cond_true]
theorem aVH {z:ObR}(h:V=A++ndG os f o (o.refs.drop i) i)(hy:o.refs[i]?=some y)(ho:obF os y=some z)(hk:(z.o.kind==aC4 o (i:Int))=false):V=A++[((0,0),false)]:=by
  rw[h,List.drop_eq_getElem_cons (gl hy),(List.getElem?_eq_some_iff.1 hy).2];show A++(match obF os y with|some x=>bif x.o.kind==aC4 o (i:Int) then f x++ndG os f o (o.refs.drop (i+1)) (i+1) else[((0,0),false)]|none=>[((0,0),false)])=_;rw[ho];simp only[hk,cond_false]
theorem aQN (h:V=A++ndG os f o (o.refs.drop i) i)(hy:o.refs[i]?=some y)(ho:obF os y=none):V=A++[((0,0),false)]:=by
  rw[h,List.drop_eq_getElem_cons (gl hy),(List.getElem?_eq_some_iff.1 hy).2];show A++(match obF os y with|some x=>bif x.o.kind==aC4 o (i:Int) then f x++ndG os f o (o.refs.drop (i+1)) (i+1) else[((0,0),false)]|none=>[((0,0),false)])=_;rw[ho]
theorem aTA (h:V=A++ndG os f o (o.refs.drop i) i)(hi:o.refs.length<=i):V=A:=by
  rw[h,List.drop_eq_nil_of_le hi];exact List.append_nil A
end
theorem look_none (hp:(os.map (·.o.id)).Nodup){id:Bys}(h:obF os id=none)(z:Value):(Value.tuple #[((objF os) (vS id)).getD z,.bool ((objF os) (vS id)).isSome])=.tuple #[z,.bool false]:=by rw[aNZ hp,h];rfl
theorem aFW (hp:(os.map (·.o.id)).Nodup){id:Bys}{b:ObR}(h:obF os id=some b)(z:Value):(Value.tuple #[((objF os) (vS id)).getD z,.bool ((objF os) (vS id)).isSome])=.tuple #[vA (obL b),.bool true]:=by rw[aNZ hp,h];rfl
theorem aG3 (w:World):(zeroValue 48).run Tryz.prog w=.ok (.agg #[vS [],vI 0,vI 0,vI 0,vL none 0 0,vL none 0 0]) w:=by kernel_rfl
theorem aJM (b:ObR)(i:Int):Calls Tryz.prog 191 #[vA (obL b),vI i] w λe w'=>e=.returned (vI (aC4 b.o i))/\Fr nF_ w w':=by
  refine beg Tryz.func191 rfl rfl [(0,.agg (oY_ b)),(1,vI i)] rfl rfl λZ hZ=>?_;have hM:=Mm.nil nF_ w;refine aAu 0 0 2 [] (cs:=(oY_ b)) (T:=48) (v:=λb=>vP b 0) f0 hM λad w1 hM=>seg 1 4 [(8,vB (b.o.kind==4))] (fc (ldm 3 0 1 hM rfl rfl) f0) ?_;cases aa:(b.o.kind==4)
  rotate_left
  ·exact rt1 4 (vI 2) rfl f0 (hZ _ _ ⟨by unfold aC4;simp only[aa]<;>rfl,hM.fr⟩)
  refine seg 1 8 [(12,vB (b.o.kind==5))] (fc (ldm 3 0 1 hM rfl rfl) f0) ?_;cases ab:(b.o.kind==5)
  ·exact rt1 4 (vI 1) rfl f0 (hZ _ _ ⟨by unfold aC4;simp only[aa,ab]<;>rfl,hM.fr⟩)
  refine seg 1 12 [(16,vB (!(i==1)))] f0 ?_;cases ac:(i==1)
  ·exact rt1 4 (vI 2) rfl f0 (hZ _ _ ⟨by unfold aC4;simp only[aa,ab,ac]<;>rfl,hM.fr⟩)
  exact rt1 4 (vI 1) rfl f0 (hZ _ _ ⟨by unfold aC4;simp only[aa,ab,ac]<;>rfl,hM.fr⟩)
theorem aIy (pb:Nat)(b:ObR)(w:World):Calls Tryz.prog 146 #[vP pb 0,vA (obL b)] w λe w'=>∃cb cpp,e=.returned (.func (.func 190) #[] #[vP cb 0,vP cpp 0])/\Mm nF_ w w' (aLw pb cb cpp b):=by
  refine beg Tryz.func146 rfl rfl [(0,vP pb 0),(1,.agg (oY_ b))] rfl rfl λZ hZ=>?_;have hM:=Mm.nil nF_ w;refine aAu 0 0 2 [] (cs:=#[vP pb 0]) (T:=219) (v:=λb=>vP b 0) f0 hM λaa w1 hM=>aAu 0 1 3 [] (cs:=(oY_ b)) (T:=48) (v:=λb=>vP b 0) f0 hM λab w1 hM=>rt1 4 (.func (.func 190) #[] #[vP ab 0,vP aa 0]) rfl f0 (hZ _ _ ⟨ab,aa,rfl,hM.pick [1,0]⟩)
theorem aH0 (hp:(os.map (·.o.id)).Nodup){f:ObR->List (Pt×Bool)}{b:ObR}(hb:b∈os)(hrec:(b.o.kind==1)=false->∀(i:Nat)(z:ObR),z∈os->z.o.kind=aC4 b.o (i:Int)->∀cb1 cp1,aPA Tryz.prog 190 #[vP cb1 0,vP cp1 0] (npV (f z)) (NdK os pb mo no rv bv cb1 cp1 z)):aPA Tryz.prog 190 #[vP cb 0,vP cpp 0] (npV (bif b.o.kind==1 then[((b.o.x,b.o.y),true)] else ndG os f b.o b.o.refs 0)) (NdK os pb mo no rv bv cb cpp b):=by
  obtain⟨V,hV0⟩:∃V,V=(bif b.o.kind==1 then[((b.o.x,b.o.y),true)] else ndG os f b.o b.o.refs 0):=⟨_,rfl⟩;rw[<-hV0];intro l J T w e0 hJ he hKp hround;obtain⟨B,hs,hG⟩:=hKp.src hb;have bb:=hs.bnd;have hrd:∀w1,Fr e0.B w w1->aKu (aLw pb cb cpp b++mpRd os pb mo no rv bv) w1:=λw1 f=>hKp.rd.fr f hKp.ap;refine aWX Tryz.func190 rfl rfl [(0,.func (.yield l) #[] #[]),(1,vP cb 0),(2,vP cpp 0)] rfl rfl λZ hZ=>?_;have hM:=Mm.one he;refine aAu 0 0 3 [] (cs:=#[.func (.yield l) #[] #[]]) (T:=282) (v:=λb=>vP b 0) f0 hM λaa w1 hM=>seg 1 3 [(12,vB (b.o.kind==1))] (fc (ldm 3 0 1 (hrd _ hM.fr) rfl rfl) f0) ?_;cases ab:(b.o.kind==1)
  rotate_left
  ·have hV1:V=[((b.o.x,b.o.y),true)]:=by rw[hV0,ab];rfl
   refine aPJ 2 3 16 [(13,.func (.yield l) #[] #[]),(15,.agg #[vI b.o.x,vI b.o.y])] #[29,4] dE (fc (ldm 282 1 0 hM rfl rfl) (fc (lam 29 0 2 2 (hrd _ hM.fr) rfl) f0)) hM (j:=0) rfl (hround 0 _ _ _ hJ (hM.get 0 rfl) hM.fr (λb9 hb9=>aK5 hM b9 ⟨_,.head _,hb9⟩) (by rw[hV1];rfl)) (λec w1 hJ hM=>?_) (λet w1 hT hM=>?_)
   · skip
     exact aJ4 (Ds:=[]) rfl f0 hM.mark0 (λw9 hM=>hZ _ _ ⟨⟨_,rfl⟩,.inl ⟨_,by rw[aEA,hV1];exact hJ,hM.get 0 rfl,λb9 hb9=>aK5 hM b9 ⟨_,.head _,hb9⟩,hM.fr⟩⟩)
   · skip
     exact aJ4 (Ds:=[]) rfl f0 hM.mark0 (λw9 hM=>hZ _ _ ⟨⟨_,rfl⟩,.inr ⟨_,hT,hM.get 0 rfl,λb9 hb9=>aK5 hM b9 ⟨_,.head _,hb9⟩,hM.fr⟩⟩)
  replace hV0:V=[]++ndG os f b.o (b.o.refs.drop 0) 0:=by rw[hV0,ab];rfl
  have hk1:=ab;have hM:=hM.mark0;refine seg 4 0 [(18,vL b.pr b.o.refs.length b.cr),(19,vI (b.o.refs.length:Int)),(20,vI 0)] (fc (ldm 45 0 4 (hrd _ hM.fr) rfl rfl) f0) ?_
  have af:∀(ad:Nat)(i:Nat)(ek:Ent)(pre:List (Pt×Bool))(Ds:List Nat)(w2:World),i<=b.o.refs.length->V=pre++ndG os f b.o (b.o.refs.drop i) i->J pre.length ek->Mm e0.B w w2 [ek,bk aa #[.func (.yield l) #[] #[]] 282,aH1 Ds]->ad=b.o.refs.length-i->AtO Tryz.prog (aAv Tryz.f190) (aHZ Tryz.prog Tryz.f190 Z) (Ds.map mkD) 58 (some (4,0)) [(20,vI (i:Int)),(19,vI (b.o.refs.length:Int)),(18,vL b.pr b.o.refs.length b.cr),(3,vP aa 0),(1,vP cb 0),(2,vP cpp 0)] w2:=by
   refine aCh λad ag i ek pre Ds w2 hi hV hJ hM an=>seg 4 1 [(21,vB (decide ((i:Int)<(b.o.refs.length:Int))))] f0 ?_;cases ae:(decide ((i:Int)<(b.o.refs.length:Int)))
   ·have ah:=df ae;exact aJ4 rfl f0 (show Mm _ _ _ ([ek,bk aa #[.func (.yield l) #[] #[]] 282]++[aH1 Ds]) from hM.pick [0,1,2]) (λw9 hM=>hZ _ _ ⟨⟨_,rfl⟩,.inl ⟨_,by rw[aEA,aTA hV oM];exact hJ,hM.get 0 rfl,λb9 hb9=>aK5 hM b9 ⟨_,.head _,hb9⟩,hM.fr⟩⟩)
   have ah:=dt ae;obtain⟨y,hy,ai,aj,ak,al,n304⟩:=hs.eb hG (i:=i) oM;refine seg 6 0 [(22,vI (i:Int)),(23,vP ai (aj+i*1)),(24,vS y),(4,vI (i:Int)),(5,vS y)] (fc (ix 45 b.cr ak (gl hy)) (fc (ld0 9 hM (al 0 _ rfl) n304) f0)) ?_
   cases ho:obF os y with
   | none =>
     have hV1:=aQN hV hy ho;refine aBW 6 9 6 [(32,.agg #[vS [],vI 0,vI 0,vI 0,vL none 0 0,vL none 0 0]),(33,vB false)] [] 48 (.agg #[vS [],vI 0,vI 0,vI 0,vL none 0 0,vL none 0 0]) (fc (ldm 219 1 0 (hrd _ hM.fr) rfl rfl) (fc (ldm 223 2 1 (hrd _ hM.fr) rfl rfl) (fc (rz2 (lko 223 3 (vS y) _ (hrd _ hM.fr) rfl aEi u223_ (aE2 ((hKp.bnd hb).refs y (gm hy))) (aG3 _)) (look_none hp ho _)) f0))) hM λao w1 hM=>seg 7 0 [(7,vB false)] f0 (drc [(43,vB true)] hM (λw5 hM=>f0) λw5 hM=>aPJ 8 2 46 [(44,.func (.yield l) #[] #[]),(45,.agg #[vI 0,vI 0])] #[29,4] dE (fc (ldm 282 1 0 hM rfl rfl) f0) hM (j:=0) rfl (hround pre.length _ _ _ hJ (hM.get 0 rfl) hM.fr (λb9 hb9=>aK5 hM b9 ⟨_,.head _,hb9⟩) (aOe hV1 (j:=0) rfl)) (λec w1 hJ hM=>?_) (λet w1 hT hM=>?_))
     · skip
       exact aJ4 rfl f0 (show Mm _ _ _ ([ec,bk aa #[.func (.yield l) #[] #[]] 282]++[aH1 Ds]) from hM.pick [0,1,2]) (λw9 hM=>hZ _ _ ⟨⟨_,rfl⟩,.inl ⟨_,by rw[aEA,hV1,Gi_];exact hJ,hM.get 0 rfl,λb9 hb9=>aK5 hM b9 ⟨_,.head _,hb9⟩,hM.fr⟩⟩)
     · skip
       exact aJ4 rfl f0 (show Mm _ _ _ ([et,bk aa #[.func (.yield l) #[] #[]] 282]++[aH1 Ds]) from hM.pick [0,1,2]) (λw9 hM=>hZ _ _ ⟨⟨_,rfl⟩,.inr ⟨_,hT,hM.get 0 rfl,λb9 hb9=>aK5 hM b9 ⟨_,.head _,hb9⟩,hM.fr⟩⟩)
   | some z =>
     obtain⟨hz,hzi⟩:=aE8 ho;refine aBW 6 9 6 [(32,.agg (oY_ z)),(33,vB true)] [] 48 (.agg (oY_ z)) (fc (ldm 219 1 0 (hrd _ hM.fr) rfl rfl) (fc (ldm 223 2 1 (hrd _ hM.fr) rfl rfl) (fc (rz2 (lko 223 3 (vS y) _ (hrd _ hM.fr) rfl aEi u223_ (aE2 ((hKp.bnd hb).refs y (gm hy))) (aG3 _)) (aFW hp ho _)) f0))) hM λaq w1 hM=>seg 7 0 [(7,vB true)] f0 (drc [(43,vB (!(z.o.kind==(aC4 b.o (i:Int)))))] hM (λw5 hM=>(fc (ldm 3 3 1 hM rfl rfl) (fc (lam 48 0 0 6 (hrd _ hM.fr) rfl) (fc (tcl (aJM b (i:Int))) f0)))) λw5 hM=>?_);cases ac:(z.o.kind==(aC4 b.o (i:Int)))
     ·have hV1:=aVH hV hy ho ac;refine aPJ 8 2 46 [(44,.func (.yield l) #[] #[]),(45,.agg #[vI 0,vI 0])] #[29,4] dE (fc (ldm 282 1 0 hM rfl rfl) f0) hM (j:=0) rfl (hround pre.length _ _ _ hJ (hM.get 0 rfl) hM.fr (λb9 hb9=>aK5 hM b9 ⟨_,.head _,hb9⟩) (aOe hV1 (j:=0) rfl)) (λec w1 hJ hM=>?_) (λet w1 hT hM=>?_)
      · skip
        exact aJ4 rfl f0 (show Mm _ _ _ ([ec,bk aa #[.func (.yield l) #[] #[]] 282]++[aH1 Ds]) from hM.pick [0,1,2]) (λw9 hM=>hZ _ _ ⟨⟨_,rfl⟩,.inl ⟨_,by rw[aEA,hV1,Gi_];exact hJ,hM.get 0 rfl,λb9 hb9=>aK5 hM b9 ⟨_,.head _,hb9⟩,hM.fr⟩⟩)
      · skip
        exact aJ4 rfl f0 (show Mm _ _ _ ([et,bk aa #[.func (.yield l) #[] #[]] 282]++[aH1 Ds]) from hM.pick [0,1,2]) (λw9 hM=>hZ _ _ ⟨⟨_,rfl⟩,.inr ⟨_,hT,hM.get 0 rfl,λb9 hb9=>aK5 hM b9 ⟨_,.head _,hb9⟩,hM.fr⟩⟩)
     have hV2:=aT9 hV hy ho ac;refine cal 9 2 49 [(47,vP pb 0),(48,.agg (oY_ z))] (K:=λu w8=>∃cb1 cp1,u=.func (.func 190) #[] #[vP cb1 0,vP cp1 0]/\Mm nF_ _ w8 (aLw pb cb1 cp1 z)) (fc (ldm 219 1 0 (hrd _ hM.fr) rfl rfl) (fc (lam 48 3 0 6 hM rfl) f0)) ((aIy pb z _).mono λe w9 ⟨a1,a2,h1,h2⟩=>⟨_,h1,a1,a2,rfl,h2⟩) λu w1 ⟨cb1,cp1,hu,hc1⟩=>?_;subst hu;have hin:=NdK.inn hKp hM hc1;have hM:=hM.q hc1.fr;refine seg 1010 0 [] f0 ?_;have hM:=hM.pick [0,1,2];refine aQw 10 (g := .tmp 49) (ps:=#[50,51]) (vs:=npV (f z)) (λj Mk=>∃ej,Mk=[ej,bk aa #[.func (.yield l) #[] #[]] 282,aH1 Ds]/\J (pre.length+j) ej/\∀k,BlM Mk k->e0.B k\/w.heap.size<=k) (λMk=>∃ej,Mk=[ej,bk aa #[.func (.yield l) #[] #[]] 282,aH1 Ds]/\T ej) hM ⟨_,rfl,hJ,aK5 hM⟩ (enters_of Tryz.func190 kR rfl) (hrec hk1 i z hz (et ac) cb1 cp1) (λG W hG f=>hin G W (λk hk=>(hG k hk).imp (λ⟨e9,h9,hb9⟩=>⟨e9,Gs_ [_] h9,hb9⟩) id) f) (λv hv=>by obtain⟨z9,-,rfl⟩:=List.mem_map.1 hv;rfl) ?_ ?_ ?_
     · skip
       intro j v Mk W l1 hv hI hfW hM;obtain⟨ej,rfl,hJ,hsb⟩:=hI;obtain⟨z1,hz1,rfl⟩:=aVd (g:=npB) hv;refine aBW 10 0 8 [] [] 29 (.agg #[vI z1.1.1,vI z1.1.2]) f0 hM λam w1 hM=>?_;have hsb1:=aY5 hsb hfW.size hM;refine aJc [(9,vB z1.2),(8,vP am 0),(3,vP aa 0)] f0 λa E=>⟨_,_,E,hM,λW2 l2 R2 hf2 hM hE=>?_⟩;have hw2:=hf2.size;refine aPJ 12 3 55 [(52,.func (.yield l) #[] #[]),(53,.agg #[vI z1.1.1,vI z1.1.2]),(54,vB z1.2)] #[29,4] dE (fc (ldm 282 1 0 hM rfl rfl) (fc (lam 29 3 0 2 hM rfl) f0)) hM (j:=0) rfl (hround (pre.length+j) _ _ _ hJ (hM.get 0 rfl) (hf2.trans' hM.fr λr hr hb=>(hsb1 r hb).resolve_right oM) (λb9 hb9=>hsb1 b9 ⟨_,.head _,hb9⟩) (aT0 hV2 hz1)) (λec w1 hJ hM=>?_) (λet w1 hT hM=>?_)
       · skip
         exact aJc [] f0 λa E=>hE.nrm a _ _ ⟨_,rfl,hJ,aY5 hsb1 hw2 (hM.pick [0,1,2])⟩ (hM.pick [0,1,2])
       · skip
         exact aTl [] f0 λa E=>hE.ret a _ _ ⟨_,rfl,hT⟩ (hM.pick [0,1,2])
     · skip
       intro Mk w1 hI hM;obtain⟨ek1,rfl,hJ,hsb⟩:=hI;rw[aEA,<-Gi_] at hJ;have hM:=Mm.mark1 (M:=[ek1,bk aa #[.func (.yield l) #[] #[]] 282]) hM;show AtO _ _ _ ((_::Ds).map mkD) _ _ _ _;refine seg 4 0 [(20,vI ((i:Int)+1))] (fc (aAP (i:Int) 1 u3_) f0) (aAi _ (ag _ (by have:=gl hy;omega) (i+1) ek1 (pre++f z) (_::Ds) _ (gl hy) (by rw[Gl_];exact hV2) hJ hM rfl))
     · skip
       intro a Mk w1 hT hM E;obtain⟨et,rfl,hT⟩:=hT;exact(aSn (Ds:=_::Ds) E.df (Mm.mark1 (M:=[et,bk aa #[.func (.yield l) #[] #[]] 282]) hM) λw9 hM=>⟨.tuple #[],by simp[results,show Tryz.f190.results=#[] from rfl],hZ _ _ ⟨⟨_,rfl⟩,.inr ⟨et,hT,hM.get 0 rfl,λb9 hb9=>aK5 hM b9 ⟨_,.head _,hb9⟩,hM.fr⟩⟩⟩).1
  exact aAi _ (af _ 0 e0 [] [] _ (Gg_ _) hV0 hJ hM rfl)
theorem aLf (o:Ob)(i:Int):(aC4 o i=2/\(o.kind=4\/o.kind=5))\/aC4 o i=1:=by
  unfold aC4
  cases h:(o.kind==4)||((o.kind==5) && !(i==1)) with
  | false=>exact .inr rfl
  | true =>
    simp only[Bool.or_eq_true,Ga_,beq_iff_eq] at h;exact .inl ⟨rfl,h.imp id (·.1)⟩
theorem aMe (hp:(os.map (·.o.id)).Nodup){b:ObR}(hb:b∈os):aPA Tryz.prog 190 #[vP cb 0,vP cpp 0] (npV (ndP os b)) (NdK os pb mo no rv bv cb cpp b) :=
  aH0 hp (f:=ndN os 2) hb λ_ i z hz hk cb1 cp1=>aH0 hp (f:=ndN os 1) hz λhz1 i2 z2 hz2 hk2 cb2 cp2=>by
    have e2:z2.o.kind=1:=by
      rcases aLf z.o (i2:Int) with h|h
      · rcases aLf b.o (i:Int) with h3|h3<;>omega
      · omega
    exact aH0 hp (f:=ndN os 0) hz2 λh=>absurd e2 (ef h)
variable{F0:Nat->Prop}
theorem aUv {Ms:List Ent}{e:Ent}(h:Mm F0 w0 w (A++(aBQ Ms::[e]))):Mm F0 w0 w (A++[aBQ (Ms++[e])]):=aDc h.ung
section
variable{r:Bys}{PL:List Pt}
theorem aT6 (h:obF os r=none):ndA os r=none:=by unfold ndA;rw[h]
theorem aT5 {z:ObR}(h:obF os r=some z)(hk:(z.o.kind==1)=true):ndA os r=some (z.o.x,z.o.y):=by unfold ndA;rw[h];simp only[hk,cond_true]
theorem aT7 {z:ObR}(h:obF os r=some z)(hk:(z.o.kind==1)=false):ndA os r=none:=by unfold ndA;rw[h];simp only[hk,cond_false]
theorem aTq {p:Pt}(h:PL=(y.o.refs.take k).map λr=>(ndA os r).getD (0,0))(hr:y.o.refs[k]?=some r)(hp:ndA os r=some p):PL++[p]=(y.o.refs.take (k+1)).map λr=>(ndA os r).getD (0,0):=by rw[h,gt_ hr,List.map_append];simp[hp]
theorem aUB {p:Pt}(h:∀r∈y.o.refs.take k,(ndA os r).isSome=true)(hr:y.o.refs[k]?=some r)(hp:ndA os r=some p):∀r∈y.o.refs.take (k+1),(ndA os r).isSome=true:=λs hs=>by
  rw[gt_ hr] at hs;rcases List.mem_append.1 hs with h1|h1
  · exact h s h1
  · rw[List.mem_singleton.1 h1,hp];rfl
end
abbrev aUG (Z:Ending->World->Prop):=AtO Tryz.prog (aAv Tryz.f145) (aAI (bodyPost Tryz.prog Tryz.f145 Z)) [] 97
theorem aNW (hm:aCt w v os)(hvm:aAh (aAa os)=true)(hlen:os.length<=100000):Calls Tryz.prog 145 #[.agg #[v]] w λe w'=>∃pb mr mo nr no R bv,e=.returned (vP pb 0)/\aPE os os R/\Mm nF_ w w' [bk pb #[.map (some mr),.map (some mo),bv] 225,mp Tryz.prog 9 mr nr (rgF R),mp Tryz.prog 9 mo no (objF os),aBQ (R.map rgE)]:=by
  have hm0:=hm;obtain⟨hs0,hob⟩:=hm0;have hnd:=aNC (aAV hvm);obtain⟨p0,cp0,hp0,sp0⟩:=hs0.op;subst hp0;refine beg Tryz.func145 rfl rfl [(0,.agg #[vL p0 os.length cp0])] rfl rfl λY hY=>?_;have hM:=Mm.nil nF_ w;refine aAu 0 0 1 [] (cs:=#[vL p0 os.length cp0]) (T:=24) (v:=λb=>vP b 0) f0 hM λad w1 hM=>aAw 1 1 14 [(13,.agg #[vL p0 os.length cp0])] (fc (lam 24 0 0 1 hM rfl) f0) hM ((aCB (hm.fr hM.fr)).mono λe w9 h=>⟨by rw[h.1,hvm],h.2⟩) λw1 hM=>aOf 3 0 16 [] 9 f0 hM λaa w1 hM=>aOf 3 1 17 [] 9 f0 hM λab w1 hM=>aAu 3 3 19 [(18,.agg #[.map (some aa),.map (some ab),vL none 0 0])] (cs:=#[.map (some aa),.map (some ab),vL none 0 0]) (T:=225) (v:=λb=>vP b 0) f0 hM λac w1 hM=>seg 5 0 [(3,vP ac 0),(21,vL p0 os.length cp0),(22,vI (os.length:Int)),(23,vI 0)] (fc (ldm 22 0 0 hM rfl rfl) f0) ?_
  have ax:∀(aj:Nat)(k:Nat)(w2:World),k<=os.length->Mm nF_ w w2 [bk ad #[vL p0 os.length cp0] 24,mp Tryz.prog 9 aa 0 (λ_=>none),mp Tryz.prog 9 ab k (objF (os.take k)),bk ac #[.map (some aa),.map (some ab),vL none 0 0] 225]->aj=os.length-k->aUG Y (some (5,0)) [(23,vI (k:Int)),(22,vI (os.length:Int)),(21,vL p0 os.length cp0),(3,vP ac 0),(1,vP ad 0)] w2:=by
   refine aCh λaj ay k w2 hk hM bh=>seg 5 1 [(24,vB (decide ((k:Int)<(os.length:Int))))] f0 ?_;cases ak:(decide ((k:Int)<(os.length:Int)))
   rotate_left
   ·have az:=dt ak;obtain⟨y0,hy0,bi,bj,a0,a1⟩:=sp0.el (i:=k) oM;refine aBW 6 2 5 [(26,.agg (oY_ y0))] [] 48 (.agg (oY_ y0)) (fc (ix 22 cp0 a0 (gl hy0)) (fc (la0 48 hM a1) f0)) hM λal w1 hM=>seg 7 0 [] f0 (drx [7] (λZ=>[none]) _ (λZ l=>[bk ad #[vL p0 os.length cp0] 24,mp Tryz.prog 9 aa 0 (λ_=>none),(bif l.getD 0 false then mp Tryz.prog 9 ab (k+1) (upd (objF (os.take k)) (vS y0.o.id) (.agg (oY_ y0))) else mp Tryz.prog 9 ab k (objF (os.take k))),bk ac #[.map (some aa),.map (some ab),vL none 0 0] 225,bk al (oY_ y0) 48]) (λZ=>[]) hM (λZ=>rfl) (λZ l w5 hM=>(fc (ldm 223 3 1 hM rfl rfl) (fc (ldm 9 4 0 hM rfl rfl) (fc (lam 48 4 0 6 hM rfl) f0)))) ⟨aPp 0 7 223 2 (λZ=>ab) k (objF (os.take k)) (λZ=>vS y0.o.id) (λZ =>.agg (oY_ y0)) aEi u223_ (λZ=>(aE2 (hob _ (gm hy0)).bnd.id)),trivial⟩ λbl w1 hM=>?_);replace hM:Mm nF_ w w1 [bk ad #[vL p0 os.length cp0] 24,_,_,bk ac #[.map (some aa),.map (some ab),vL none 0 0] 225,bk al (oY_ y0) 48]:=hM;refine seg 5 0 [(23,vI ((k:Int)+1))] (fc (aAP (k:Int) 1 u3_) f0) ?_;have hM:=hM.pick [0,1,2,3];replace hM:Mm nF_ w w1 [bk ad #[vL p0 os.length cp0] 24,mp Tryz.prog 9 aa 0 (λ_=>none),mp Tryz.prog 9 ab (k+1) (objF (os.take (k+1))),bk ac #[.map (some aa),.map (some ab),vL none 0 0] 225]:=by rw[gt_ hy0,aNY];exact hM
    exact aAi _ (ay _ (by have:=gl hy0;omega) (k+1) _ (gl hy0) hM rfl)
   have az:=df ak;rw[Gc_ (show os.length<=k by omega)] at hM;have hM:=hM.row (f:=stL) (c:=1) (E:=9);have hM:=hM.pick [0,2,3,1,4];have hM:=aDc (Ms:=[]) (by rw[List.append_nil];exact hM);replace hM:Mm nF_ w _ [bk ad #[vL p0 os.length cp0] 24,_,bk ac #[.map (some aa),.map (some ab),vL none 0 0] 225,_,_,_]:=hM;refine seg 10 0 [(36,vL p0 os.length cp0),(37,vI (os.length:Int)),(38,vI 0)] (fc (ldm 22 0 0 hM rfl rfl) f0) ?_
   have a2:∀(am:Nat)(i:Nat)(nr:Nat)(R:List RgR)(vb:Value)(BL:List Bys)(w2:World),i<=os.length->aPE os (os.take i) R->BL.length<=i->Mm nF_ w w2 [bk ad #[vL p0 os.length cp0] 24,mp Tryz.prog 9 ab k (objF os),bk ac #[.map (some aa),.map (some ab),vb] 225,mp Tryz.prog 9 aa nr (rgF R),rw_ stL 1 9 vb BL,aBQ (R.map rgE)]->am=os.length-i->aUG Y (some (10,0)) [(38,vI (i:Int)),(37,vI (os.length:Int)),(36,vL p0 os.length cp0),(3,vP ac 0)] w2:=by
    refine aCh λam af i nr R vb BL w2 hi hR hBn hM bm=>seg 10 1 [(39,vB (decide ((i:Int)<(os.length:Int))))] f0 ?_;cases an:(decide ((i:Int)<(os.length:Int)))
    ·have a3:=df an;exact rt1 2 (vP ac 0) rfl f0 (hY _ _ ⟨ac,aa,ab,nr,k,R,vb,rfl,by rw[Gc_ oM] at hR;exact hR,hM.pick [2,3,1,5]⟩)
    have a3:=dt an;obtain⟨y,hy,bo,bp,a4,a5⟩:=sp0.el (i:=i) oM;refine aBW 11 2 7 [(41,.agg (oY_ y))] [] 48 (.agg (oY_ y)) (fc (ix 22 cp0 a4 (gl hy)) (fc (la0 48 hM a5) f0)) hM λae w1 hM=>seg 12 3 [(44,vB (!(y.o.kind==3)))] (fc (ldm 3 6 1 hM rfl rfl) f0) ?_;cases ah:(y.o.kind==3)
    ·have a6:=ef ah;refine seg 10 0 [(38,vI ((i:Int)+1))] (fc (aAP (i:Int) 1 u3_) f0) ?_;have hM:=hM.pick [0,1,2,3,4,5];exact aAi _ (af _ (by have:=gl hy;omega) (i+1) nr R vb BL _ (gl hy) (aHr hR hy (aTk ah)) oM hM rfl)
    have a6:=et ah;have hM:=hM.row (f:=ptL) (c:=2) (E:=29);have hrl:=aHt (aCo hvm _ (List.mem_map.2 ⟨y,gm hy,rfl⟩));refine seg 15 0 [(8,vL none 0 0),(46,vL y.pr y.o.refs.length y.cr),(47,vI (y.o.refs.length:Int)),(48,vI 0)] (fc (ldm 45 6 4 hM rfl rfl) f0) ?_
    have a7:∀(ao:Nat)(j:Nat)(vl:Value)(PL:List Pt)(w2:World),j<=y.o.refs.length->(PL=(y.o.refs.take j).map λr=>(ndA os r).getD (0,0))->(∀r∈y.o.refs.take j,(ndA os r).isSome=true)->PL.length<=j->Mm nF_ w w2 [bk ad #[vL p0 os.length cp0] 24,mp Tryz.prog 9 ab k (objF os),bk ac #[.map (some aa),.map (some ab),vb] 225,mp Tryz.prog 9 aa nr (rgF R),rw_ stL 1 9 vb BL,aBQ (R.map rgE),bk ae (oY_ y) 48,rw_ ptL 2 29 vl PL]->ao=y.o.refs.length-j->aUG Y (some (15,0)) [(48,vI (j:Int)),(47,vI (y.o.refs.length:Int)),(46,vL y.pr y.o.refs.length y.cr),(8,vl),(7,vP ae 0),(38,vI (i:Int)),(37,vI (os.length:Int)),(36,vL p0 os.length cp0),(3,vP ac 0)] w2:=by
     refine aCh λao a8 j vl PL w2 hj hPL hall hPn hM bq=>seg 15 1 [(49,vB (decide ((j:Int)<(y.o.refs.length:Int))))] f0 ?_;cases aq:(decide ((j:Int)<(y.o.refs.length:Int)))
     ·have a9:=df aq;rw[Gc_ (show y.o.refs.length<=j by omega)] at hPL hall;obtain rfl:PL=rgL os y:=hPL;obtain⟨ql,cl9,el9,-⟩:=(hM.src (j:=7) rfl ptT.len).op;subst el9;refine aAw 21 1 75 [(74,vL ql (rgL os y).length cl9)] f0 hM (aBY ((hM.src (j:=7) rfl ptT.len).p).2) λw1 hM=>seg 21 3 [(76,vB (!(aDU (rgL os y))))] f0 ?_;cases au:(aDU (rgL os y))
      ·refine seg 22 0 [] f0 ?_;have hM:=hM.nl;refine drx [4,7,8,11] (λZ=>[some (vb),some (vL (some ⟨(bn (Z 1)),0,none⟩) 1 1),some (vL (slp (Z 2)) (BL++[y.o.id]).length (slc (Z 2))),none]) _ (λZ l=>[bk ad #[vL p0 os.length cp0] 24,mp Tryz.prog 9 ab k (objF os),bk ac #[.map (some aa),.map (some ab),(bif l.getD 3 false then vL (slp (Z 2)) (BL++[y.o.id]).length (slc (Z 2)) else vb)] 225,mp Tryz.prog 9 aa nr (rgF R),(bif l.getD 2 false then rw_ stL 1 9 (vL (slp (Z 2)) (BL++[y.o.id]).length (slc (Z 2))) (BL++[y.o.id]) else rw_ stL 1 9 vb BL),aBQ (R.map rgE),bk ae (oY_ y) 48,rw_ ptL 2 29 (vL ql (rgL os y).length cl9) (rgL os y),(bif l.getD 1 false then bk (bn (Z 1)) #[vS y.o.id] 9 else aEB)]) (λZ=>[]) hM (λZ=>rfl) (λZ l w5 hM=>(fc (ldm 9 6 0 hM rfl rfl) f0)) ⟨aU0 0 4 45 2 2 81 (λZ=>ac) (λZ l=>#[.map (some aa),.map (some ab),(bif l.getD 3 false then vL (slp (Z 2)) (BL++[y.o.id]).length (slc (Z 2)) else vb)]) 225 (λZ=>vb),aDb 1 7 8 84 (λZ=>#[vS y.o.id]) 9 (λb=>vL (some ⟨b,0,none⟩) 1 1),aHQ 2 8 4 85 45 9 0 (λZ=>vb) BL [y.o.id] (λZ=>(bn (Z 1))) 1 stT (by simp only[Gi_,Gf_,Gm_];omega) (λZ fr wm hM=>aCu (f:=stL) (x:=y.o.id) (hM.get 8 (e:=bk ((bn (Z 1))) (stL y.o.id).toArray 9) kR) (Nat.lt_succ_self _)),aC2 3 11 45 2 2 (λZ=>ac) (λZ l=>#[.map (some aa),.map (some ab),(bif l.getD 3 false then vL (slp (Z 2)) (BL++[y.o.id]).length (slc (Z 2)) else vb)]) 225 (λZ=>vL (slp (Z 2)) (BL++[y.o.id]).length (slc (Z 2))),trivial⟩ λag w1 hM=>?_;replace hM:Mm nF_ w w1 [bk ad #[vL p0 os.length cp0] 24,_,bk ac #[.map (some aa),.map (some ab),vL (slp (ag 2)) (BL++[y.o.id]).length (slc (ag 2))] 225,_,_,_,bk ae (oY_ y) 48,_,bk (bn (ag 1)) #[vS y.o.id] 9]:=hM;refine seg 10 0 [(38,vI ((i:Int)+1))] (fc (aAP (i:Int) 1 u3_) f0) ?_;have hM:=hM.pick [0,1,2,3,4,5];exact aAi _ (af _ (by have:=gl hy;omega) (i+1) nr R (vL (slp (ag 2)) (BL++[y.o.id]).length (slc (ag 2))) (BL++[y.o.id]) _ (gl hy) (aHr hR hy (aQz au)) (by simp only[Gi_,Gf_,Gm_];omega) hM rfl)
      refine seg 23 0 [] f0 (drx [7] (λZ=>[none]) _ (λZ l=>[bk ad #[vL p0 os.length cp0] 24,mp Tryz.prog 9 ab k (objF os),bk ac #[.map (some aa),.map (some ab),vb] 225,(bif l.getD 0 false then mp Tryz.prog 9 aa (nr+1) (upd (rgF R) (vS y.o.id) (vL ql (rgL os y).length cl9)) else mp Tryz.prog 9 aa nr (rgF R)),rw_ stL 1 9 vb BL,aBQ (R.map rgE),bk ae (oY_ y) 48,rw_ ptL 2 29 (vL ql (rgL os y).length cl9) (rgL os y)]) (λZ=>[]) hM (λZ=>rfl) (λZ l w5 hM=>(fc (ldm 222 2 0 hM rfl rfl) (fc (ldm 9 6 0 hM rfl rfl) f0))) ⟨aPp 0 7 222 3 (λZ=>aa) nr (rgF R) (λZ=>vS y.o.id) (λZ=>vL ql (rgL os y).length cl9) aEi u222_ (λZ=>(aE2 (hob _ (gm hy)).bnd.id)),trivial⟩ λbr w1 hM=>?_);replace hM:Mm nF_ w w1 [bk ad #[vL p0 os.length cp0] 24,_,bk ac #[.map (some aa),.map (some ab),vb] 225,_,_,_,bk ae (oY_ y) 48,_]:=hM;refine seg 10 0 [(38,vI ((i:Int)+1))] (fc (aAP (i:Int) 1 u3_) f0) ?_;have hM:=hM.pick [0,1,2,3,4,5,7];obtain⟨r9,hr9⟩:∃z:RgR,z=⟨y.o.id,rgL os y,ql,cl9⟩:=⟨_,rfl⟩;replace hM:Mm nF_ w w1 [bk ad #[vL p0 os.length cp0] 24,mp Tryz.prog 9 ab k (objF os),bk ac #[.map (some aa),.map (some ab),vb] 225,mp Tryz.prog 9 aa (nr+1) (rgF (R++[r9])),rw_ stL 1 9 vb BL,aBQ ((R++[r9]).map rgE)]:=by rw[aQ1,List.map_append];subst hr9;exact aUv (A:=[bk ad #[vL p0 os.length cp0] 24,mp Tryz.prog 9 ab k (objF os),bk ac #[.map (some aa),.map (some ab),vb] 225,mp Tryz.prog 9 aa _ _,rw_ stL 1 9 vb BL]) hM
      exact aAi _ (af _ (by have:=gl hy;omega) (i+1) (nr+1) (R++[r9]) vb BL _ (gl hy) (aQ0 hR hy (r:=r9) (by rw[hr9];exact aQy ah hall au) (by rw[hr9])) oM hM rfl)
     have a9:=dt aq;have ba:=(hob _ (gm hy)).refs;obtain⟨r,hr,bb,bc,bd,be⟩:=ba.el (i:=j) oM;refine seg 17 0 [(50,vP bb (bc+j*1)),(51,vS r),(10,vS r)] (fc (ix 45 y.cr bd (gl hr)) (fc (ld0 9 hM (be 0 _ rfl)) f0)) ?_
     cases ho:obF os r with
     | none =>
       have hna:=aT6 ho;refine aBW 17 9 11 [(59,.agg #[vS [],vI 0,vI 0,vI 0,vL none 0 0,vL none 0 0]),(60,vB false)] [] 48 (.agg #[vS [],vI 0,vI 0,vI 0,vL none 0 0,vL none 0 0]) (fc (ldm 223 2 1 hM rfl rfl) (fc (rz2 (lko 223 1 (vS r) _ hM rfl aEi u223_ (aE2 ((hob _ (gm hy)).bnd.refs r (gm hr))) (aG3 _)) (look_none hnd ho _)) f0)) hM λbs w1 hM=>seg 10 0 [(38,vI ((i:Int)+1))] (fc (aAP (i:Int) 1 u3_) f0) ?_;have hM:=hM.pick [0,1,2,3,4,5];exact aAi _ (af _ (by have:=gl hy;omega) (i+1) nr R vb BL _ (gl hy) (aHr hR hy (aNA hr hna)) oM hM rfl)
     | some z =>
       refine aBW 17 9 11 [(59,.agg (oY_ z)),(60,vB true)] [] 48 (.agg (oY_ z)) (fc (ldm 223 2 1 hM rfl rfl) (fc (rz2 (lko 223 1 (vS r) _ hM rfl aEi u223_ (aE2 ((hob _ (gm hy)).bnd.refs r (gm hr))) (aG3 _)) (aFW hnd ho _)) f0)) hM λbt w1 hM=>seg 18 7 [(67,vB (!(z.o.kind==1)))] (fc (ldm 3 8 1 hM rfl rfl) f0) ?_;cases ai:(z.o.kind==1)
       ·have bf:=ef ai;have hna:=aT7 ho ai;refine seg 10 0 [(38,vI ((i:Int)+1))] (fc (aAP (i:Int) 1 u3_) f0) ?_;have hM:=hM.pick [0,1,2,3,4,5];exact aAi _ (af _ (by have:=gl hy;omega) (i+1) nr R vb BL _ (gl hy) (aHr hR hy (aNA hr hna)) oM hM rfl)
       have bf:=et ai;have hna:=aT5 ho ai;refine aAu 19 3 71 [(68,vl),(70,.agg #[vI z.o.x,vI z.o.y])] (cs:=#[vI z.o.x,vI z.o.y]) (T:=29) (v:=λb=>vL (some ⟨b,0,none⟩) 1 1) (fc (lam 29 8 2 2 hM rfl) f0) hM λbu w1 hM=>aU6 19 4 72 [] (cap:=1) dE ptT f0 hM (j:=7) rfl (aCu (f:=ptL) (x:=((z.o.x,z.o.y):Pt)) (hM.get 9 rfl) (Nat.lt_succ_self _)) (λh=>by cases h) (by simp only[Gi_,Gf_,Gm_];omega) λbw w1 hM=>?_;obtain⟨av,aw,bg,-⟩:=(hM.src (j:=7) rfl ptT.len).op;subst bg;refine seg 15 0 [(8,vL av (PL++[((z.o.x,z.o.y):Pt)]).length aw),(48,vI ((j:Int)+1))] (fc (aAP (j:Int) 1 u3_) f0) ?_;have hM:=hM.pick [0,1,2,3,4,5,6,7];exact aAi _ (a8 _ (by have:=gl hr;omega) (j+1) (vL av (PL++[((z.o.x,z.o.y):Pt)]).length aw) (PL++[((z.o.x,z.o.y):Pt)]) _ (gl hr) (aTq hPL hr hna) (aUB hall hr hna) (by simp only[Gi_,Gf_,Gm_];omega) hM rfl)
    exact aAi _ (a7 _ 0 (vL none 0 0) [] _ (Gg_ _) rfl (λr hr=>by cases hr) (Gj_ _) hM rfl)
   exact aAi _ (a2 _ 0 0 [] (vL none 0 0) [] _ (Gg_ _) rfl (Gg_ _) hM rfl)
  exact aAi _ (ax _ 0 _ (Gg_ _) hM rfl)
theorem aXI (b:Nat) :Ft.ok Tryz.prog w (.g2 (λx y =>.binOp .eql 219 x y 219) (vP b 0) (.pointer none) (vB false)):=λo ρ x y ho hx hy=>by simp[execOp,ho,hx,hy,go_sem,Tryz.underlying219]
theorem aKw (w:World):(zeroValue 100).run Tryz.prog w=.ok (vL none 0 0) w:=by kernel_rfl
theorem aUw {r:RgR}(h:Mm F0 w0 w (A++[aBQ (R.map rgE)]))(hr:r∈R):Mm F0 w0 w (A++[rgE r]):=(Mm.ung (C:=[]) h).sub ((List.Sublist.refl A).append (List.singleton_sublist.2 (Gs_ _ (List.mem_map.2 ⟨r,hr,rfl⟩))))
theorem NdK.of {z:ObR}{w1:World}(hA:Mm nF_ w0 w (M++mpRd os pb mo no rv bv))(c:Mm nF_ w w1 (aLw pb cb cpp z))(hob:∀z∈os,ObIn w0 z):∀(G:Nat->Prop) W,(∀k,G k->BlM M k\/w1.heap.size<=k)->Fr nF_ w1 W->NdK os pb mo no rv bv cb cpp z G W:=λG W hG f=>by
  have hr:aKu (mpRd os pb mo no rv bv) w:=(hA.sub (List.sublist_append_right _ _)).re λe he k hk=>⟨e,he,hk⟩;have hr1:=hr.fr c.fr λ_ _ h=>h;have hc1:aKu (aLw pb cb cpp z) w1:=c.re λe he k hk=>⟨e,he,hk⟩;have hge:∀k,BlM (aLw pb cb cpp z) k->w.heap.size<=k:=λk ⟨e,he,hb⟩=>c.ge he hb
  have hd:∀k,BlM (aLw pb cb cpp z) k->¬BlM (mpRd os pb mo no rv bv) k:=λk h1 h2=>by
    have:=hge k h1;have:=hr.lt h2;omega
  refine⟨(hc1.app hr1 hd).fr f λ_ _ h=>h,λk hk hg=>?_,w0,hob,(hA.fr.trans c.fr).trans f,λk hk=>?_⟩
  · have hlt:=(hc1.app hr1 hd).lt hk
    rcases hG k hg with h1|h1
    · rcases BlM.app hk with h2|h2
      · have:=hge k h2
        obtain⟨e,he,hb⟩:=h1;have:=e.lt (hA.at_ e (Gs_ _ he)) hb;omega
      · obtain⟨e,he,hb⟩:=h2
        exact hA.apart he hb h1
    · omega
  · rcases hG k hk with⟨e,he,hb⟩|h1
    · exact hA.ge (Gs_ _ he) hb
    · exact Gn_ (hA.fr.trans c.fr).size h1
theorem aTX {id ar:Bys}(h:obF os id=none):inP os id ar=false:=by unfold inP;rw[h]
theorem aO0 {id ar:Bys}(h:(obF os ar).bind (aBf os)=none):inP os id ar=false:=by
  unfold inP;rw[h];cases obF os id<;>rfl
theorem aLi {id ar:Bys}{z:ObR}{L:List Pt}(h:obF os id=some z)(h2:(obF os ar).bind (aBf os)=some L):inP os id ar=(ndP os z).all (aJb L):=by unfold inP;rw[h,h2]
theorem aPy {T:List (Pt×Bool)}{L:List Pt}{y:Pt×Bool}(hy:T[k]?=some y)(h:aJb L y=false):T.all (aJb L)=false:=by
  rw[List.all_eq_false];exact⟨y,gm hy,by rw[h];simp⟩
theorem aRF {T:List (Pt×Bool)}{L:List Pt}(h:∀k y,k<T.length->T[k]?=some y->aJb L y=true):T.all (aJb L)=true:=by
  rw[List.all_eq_true];intro y hy;obtain⟨k,hk,e⟩:=List.mem_iff_getElem.1 hy;exact h k y hk (by rw[Gb_ hk,e])
theorem aI8 (hmO:aCt w v os)(hvm:aAh (aAa os)=true)(hlen:os.length<=100000){id ar:Bys}(hb1:B63 id)(hb2:B63 ar):Calls Tryz.prog 105 #[.agg #[v],vS id,vS ar] w λe w'=>e=.returned (vB (inP os id ar))/\Fr nF_ w w':=by
  have hm0:=hmO;obtain⟨hs0,hob⟩:=hm0;have hnd:=aNC (aAV hvm);obtain⟨p0,cp0,hp0,sp0⟩:=hs0.op;subst hp0;refine aWX Tryz.func105 rfl rfl [(0,.agg #[vL p0 os.length cp0]),(1,vS id),(2,vS ar)] rfl rfl λZ hZ=>?_;have hM:=Mm.nil nF_ w;refine aAu 0 0 3 [] (cs:=#[vL p0 os.length cp0]) (T:=24) (v:=λb=>vP b 0) f0 hM λag w1 hM=>aAu 0 1 6 [] (cs:=#[vB false]) (T:=4) (v:=λb=>vP b 0) f0 hM λaa w1 hM=>aHU 1 1 15 [(14,.agg #[vL p0 os.length cp0])] (K:=λu Mn=>∃pb mr mo nr no R bv,u=vP pb 0/\aPE os os R/\Mn=[bk pb #[.map (some mr),.map (some mo),bv] 225,mp Tryz.prog 9 mr nr (rgF R),mp Tryz.prog 9 mo no (objF os),aBQ (R.map rgE)]) [0,1] [] (fc (lam 24 0 0 1 hM rfl) f0) hM rfl rfl dE (λhm=>((aNW (hmO.fr hM.fr) hvm hlen).mono λe w9 ⟨pb,mr,mo,nr,no,R,bv,h1,h2,h3⟩=>⟨_,_,h1,⟨pb,mr,mo,nr,no,R,bv,rfl,h2,rfl⟩,aEP h3 λ_ h=>h.elim⟩)) λu Mn w1 hK hM=>?_;obtain⟨pb,mr,mo,nr,no,R,bv,rfl,hR,rfl⟩:=hK;refine seg 4 0 [(7,vP pb 0),(16,vP pb 0),(17,vB false)] (fc (aXI pb) f0) ?_
  cases ho:obF os id with
  | none =>
    have hno:=aTX (os:=os) (id:=id) (ar:=ar) ho;refine aBW 4 9 8 [(25,.agg #[vS [],vI 0,vI 0,vI 0,vL none 0 0,vL none 0 0]),(26,vB false)] [] 48 (.agg #[vS [],vI 0,vI 0,vI 0,vL none 0 0,vL none 0 0]) (fc (ldm 223 2 1 hM rfl rfl) (fc (rz2 (lko 223 4 (vS id) _ hM rfl aEi u223_ (aE2 hb1) (aG3 _)) (look_none hnd ho _)) f0)) hM λah w1 hM=>seg 5 0 [(9,vB false)] f0 ?_;have hrg:=aRU hnd hR ar
    cases hr:(obF os ar).bind (aBf os) with
    | none =>
      have hno:=aO0 (os:=os) (id:=id) (ar:=ar) hr;rw[hr] at hrg;replace hrg:rgF R (vS ar)=none:=hrg;refine aBW 5 9 10 [(34,vL none 0 0),(35,vB false)] [] 100 (vL none 0 0) (fc (ldm 222 2 0 hM rfl rfl) (fc (rz2 (lko 222 3 (vS ar) _ hM rfl aEi u222_ (aE2 hb2) (aKw _)) (by rw[hrg]<;>rfl)) f0)) hM λai w1 hM=>stm 7 0 [] 4 1 0 (vB false) f0 hM rfl λw1 hM=>aQu 1 rfl f0 hM rfl (hZ _ _ ⟨by rw[hno],hM.fr⟩)
    | some L0 =>
      rw[hr] at hrg;obtain⟨r9,hr9,rfl,hrg⟩:=hrg;refine aBW 5 9 10 [(34,vL r9.p r9.L.length r9.c),(35,vB true)] [] 100 (vL r9.p r9.L.length r9.c) (fc (ldm 222 2 0 hM rfl rfl) (fc (rz2 (lko 222 3 (vS ar) _ hM rfl aEi u222_ (aE2 hb2) (aKw _)) (by rw[hrg]<;>rfl)) f0)) hM λaj w1 hM=>stm 7 0 [] 4 1 0 (vB false) f0 hM rfl λw1 hM=>aQu 1 rfl f0 hM rfl (hZ _ _ ⟨by rw[hno],hM.fr⟩)
  | some z =>
    obtain⟨hz,hzi⟩:=aE8 ho;refine aBW 4 9 8 [(25,.agg (oY_ z)),(26,vB true)] [] 48 (.agg (oY_ z)) (fc (ldm 223 2 1 hM rfl rfl) (fc (rz2 (lko 223 4 (vS id) _ hM rfl aEi u223_ (aE2 hb1) (aG3 _)) (aFW hnd ho _)) f0)) hM λad w1 hM=>seg 5 0 [(9,vB true)] f0 ?_;have hrg:=aRU hnd hR ar
    cases hr:(obF os ar).bind (aBf os) with
    | none =>
      have hno:=aO0 (os:=os) (id:=id) (ar:=ar) hr;rw[hr] at hrg;replace hrg:rgF R (vS ar)=none:=hrg;refine aBW 5 9 10 [(34,vL none 0 0),(35,vB false)] [] 100 (vL none 0 0) (fc (ldm 222 2 0 hM rfl rfl) (fc (rz2 (lko 222 3 (vS ar) _ hM rfl aEi u222_ (aE2 hb2) (aKw _)) (by rw[hrg]<;>rfl)) f0)) hM λak w1 hM=>stm 7 0 [] 4 1 0 (vB false) f0 hM rfl λw1 hM=>aQu 1 rfl f0 hM rfl (hZ _ _ ⟨by rw[hno],hM.fr⟩)
    | some L0 =>
      rw[hr] at hrg;obtain⟨r9,hr9,rfl,hrg⟩:=hrg;refine aBW 5 9 10 [(34,vL r9.p r9.L.length r9.c),(35,vB true)] [] 100 (vL r9.p r9.L.length r9.c) (fc (ldm 222 2 0 hM rfl rfl) (fc (rz2 (lko 222 3 (vS ar) _ hM rfl aEi u222_ (aE2 hb2) (aKw _)) (by rw[hrg]<;>rfl)) f0)) hM λab w1 hM=>?_;have hM:=aUw (A:=[bk pb #[.map (some mr),.map (some mo),bv] 225,mp Tryz.prog 9 mo no (objF os),bk ad (oY_ z) 48,bk aa #[vB false] 4,bk ab #[vL r9.p r9.L.length r9.c] 100]) (hM.pick [2,4,6,1,7,5]) hr9;have hM:=hM.pick [3,4,5,2,0,1];replace hM:Mm nF_ w _ [bk aa #[vB false] 4,bk ab #[vL r9.p r9.L.length r9.c] 100,_,bk ad (oY_ z) 48,bk pb #[.map (some mr),.map (some mo),bv] 225,_]:=hM;refine cal 8 2 44 [(42,vP pb 0),(43,.agg (oY_ z))] (K:=λu w8=>∃cb1 cp1,u=.func (.func 190) #[] #[vP cb1 0,vP cp1 0]/\Mm nF_ _ w8 (aLw pb cb1 cp1 z)) (fc (lam 48 3 0 6 hM rfl) f0) ((aIy pb z _).mono λe w9 ⟨a1,a2,h1,h2⟩=>⟨_,h1,a1,a2,rfl,h2⟩) λu w1 ⟨cb1,cp1,hu,hc1⟩=>?_;subst hu;have hin:=NdK.of (M:=[bk aa #[vB false] 4,bk ab #[vL r9.p r9.L.length r9.c] 100,rw_ ptL 2 29 (vL r9.p r9.L.length r9.c) r9.L]) (hM.pick [0,1,2,4,5]) hc1 hob;have hM:=(hM.q hc1.fr).pick [0,1,2];refine seg 1009 0 [] f0 (aQw 9 (g := .tmp 44) (ps:=#[45,46]) (vs:=npV (ndP os z)) (λj Mk=>Mk=[bk aa #[vB false] 4,bk ab #[vL r9.p r9.L.length r9.c] 100,rw_ ptL 2 29 (vL r9.p r9.L.length r9.c) r9.L]/\∀k y,k<j->(ndP os z)[k]?=some y->aJb r9.L y=true) (λMk=>Mk=[bk aa #[vB false] 4,bk ab #[vL r9.p r9.L.length r9.c] 100,rw_ ptL 2 29 (vL r9.p r9.L.length r9.c) r9.L]/\(ndP os z).all (aJb r9.L)=false) hM ⟨rfl,λk y h=>absurd h (Nat.not_lt_zero k)⟩ (enters_of Tryz.func190 kR rfl) (aMe hnd hz) hin (λv hv=>by obtain⟨z9,-,rfl⟩:=List.mem_map.1 hv;rfl) ?_ ?_ ?_)
      · skip
        intro j v Mk W l1 hv hI hfW hM;obtain⟨rfl,hall⟩:=hI;obtain⟨z1,hz1,rfl⟩:=aVd (g:=npB) hv;refine aBW 9 0 12 [] [] 29 (.agg #[vI z1.1.1,vI z1.1.2]) f0 hM λaf w1 hM=>aJc [(13,vB z1.2),(12,vP af 0),(10,vP ab 0),(6,vP aa 0)] f0 λa E=>⟨_,_,E,hM,λW2 l2 R2 hf2 hM hE=>?_⟩;refine seg 11 3 [(49,vB (!z1.2))] f0 ?_
        cases ac:z1.2 with
        | false =>
         refine stm 12 0 [] 4 0 0 (vB false) f0 hM rfl λw1 hM=>?_;have hok:aJb r9.L z1=false:=by unfold aJb;simp only[ac]<;>rfl
         exact aTl [] f0 λa E=>hE.ret a _ _ ⟨rfl,aPy hz1 hok⟩ (hM.pick [0,1,2])
        | true =>
         refine aAw 11 5 52 [(50,vL r9.p r9.L.length r9.c),(51,.agg #[vI z1.1.1,vI z1.1.2])] (fc (ldm 100 1 0 hM rfl rfl) (fc (lam 29 3 0 2 hM rfl) f0)) hM (aG9 ((hM.src (j:=2) rfl ptT.len).p).2 z1.1) λw1 hM=>seg 11 8 [(54,vB (decide ((aFe r9.L z1.1)<0)))] f0 ?_;cases ae:(decide ((aFe r9.L z1.1)<0))
         ·have hok:aJb r9.L z1=true:=by unfold aJb;simp only[ac,ae]<;>rfl
          exact aJc [] f0 λa E=>hE.nrm a _ _ ⟨rfl,λk y hk hy=>by rcases Nat.lt_succ_iff_lt_or_eq.1 hk with h|h;exact hall k y h hy;rw[h,hz1] at hy;cases hy;exact hok⟩ (hM.pick [0,1,2])
         refine stm 12 0 [] 4 0 0 (vB false) f0 hM rfl λw1 hM=>?_;have hok:aJb r9.L z1=false:=by unfold aJb;simp only[ac,ae]<;>rfl
         exact aTl [] f0 λa E=>hE.ret a _ _ ⟨rfl,aPy hz1 hok⟩ (hM.pick [0,1,2])
      · skip
        intro Mk w1 hI hM;obtain⟨rfl,hall⟩:=hI;rw[aEA] at hall;refine stm 13 0 [] 4 0 0 (vB true) f0 hM rfl λw1 hM=>aQt 0 rfl f0 (show Mm _ _ _ ([bk aa #[vB true] 4,bk ab #[vL r9.p r9.L.length r9.c] 100,rw_ ptL 2 29 (vL r9.p r9.L.length r9.c) r9.L]++[dfE _]) from hM) rfl (λw9 hM=>hZ _ _ ⟨by rw[aLi ho hr,aRF λk y hk hy=>hall k y hk hy],hM.fr⟩)
      · skip
        intro a Mk w1 hT hM E;obtain⟨rfl,hT⟩:=hT;exact(aLd (u:=true) E.df hM λw9 hM=>⟨_,aNB rfl (E.at_ 6 (vP aa 0) rfl) 0 rfl kR hM,hZ _ _ ⟨by rw[aLi ho hr,hT],hM.fr⟩⟩).1
variable{B:Code}{o:Oper}{ds:List Deferred}{α:Type}{E:TypeId}{w':World}
section
variable{P:Program}{R:Pst}{n:Nat}{p:Option (Nat×Nat)}{L N:Frm}{r' i':Nat}{F:List Ft}
theorem aZm (T E:TypeId)(g s:Nat){n c:Nat}{z:Int}(hz:z=(k:Int))(hk:k<n)(hc:n<=c)(hs:∀w,(Go.sizeOf E).run P w=.ok s w)(hT:P.underlying T=some (.slice E):=by kernel_rfl):Ft.ok P w (.g2 (λx a =>.slice T x (some a) none none) (vL (some ⟨g,0,none⟩) n c) (vI z) (vL (some ⟨g,k*s,none⟩) (n-k) (c-k))):=λo ρ x y ho hx hy=>by
  subst hz;have h1:¬c<k:=by omega
  have h2:¬n<k:=by omega
  have h3:¬c=0:=by omega
  have h4:¬c=k:=by omega
  have h5:¬c-k=0:=by omega
  have h6:k<=n:=by omega
  have h7:k<=c:=by omega
  simp[execOp,ho,hx,hy,go_sem,hT,hs,h1,h2,h3,h4,h5,h6,h7,Result.andThen,Addr.add];exact λh=>h.symm
theorem aQ7 {f:α->List Value}{c:Nat}(hlen:∀x,(f x).length=c){B g n cap:Nat}{A:List α}(h:ow f c E w B (vL (some ⟨g,0,none⟩) n cap) A)(hk:k<=A.length){us:List Value}(hus:us.length=(A.length-k)*c)(ho:us.all (·.oneCell')=true) :
    ∃w',(storeCells ⟨g,k*c,none⟩ us 0).run P w=.ok () w'/\ow f c E w' B (vL (some ⟨g,0,none⟩) k cap) (A.take k)/\Fr (λr=>r=g) w w':=by
  rcases h.2 with⟨h1,_⟩|⟨g',cap',cur,h1,hB,h3,h4,h5,h6,h7⟩
  · cases h1
  · cases h1
    have hcs:A.length*c<=cur.size:=by rw[h6];exact Nat.mul_le_mul_right c h4
    have hkc:k*c+(A.length-k)*c=A.length*c:=by rw[<-Nat.add_mul];congr 1;omega
    obtain⟨w',r1,r2,r3⟩:=aA8 (P:=P) us (k:=k*c) (i:=0) h3 oM ho;have hl:(A.take k).length=k:=by rw[Gq_];omega
    refine⟨w',r1,⟨aAz hlen _,.inr ⟨_,_,_,by rw[hl],hB,r2,by omega,h5,by rw[aEe];exact h6,?_⟩⟩,r3⟩;rw[hl];have hpg:=aEf us cur (k*c+0);rw[<-aCL hlen,<-h7,List.take_take,Nat.min_eq_left oM];apply List.ext_getElem?;intro q
    by_cases hq:q<k*c
    · rw[List.getElem?_take_of_lt hq,List.getElem?_take_of_lt hq,Array.getElem?_toList,Array.getElem?_toList,hpg q oM,if_neg oM]
    · rw[List.getElem?_take_eq_none oM,List.getElem?_take_eq_none oM]
theorem aOX {T:TypeId}{ρ:Operand->Value}{x:Operand}{g m c:Nat}{z:Array Value}(ho:o.op=.call ⟨.builtin .clear,#[x],#[T]⟩)(hx:ρ x=vL (some ⟨g,k,none⟩) (m+1) c)(hT:P.underlying T=some (.slice E))(hz:∀w,(zeroValue E).run P w=.ok (.agg z) w)(g1:(storeCells ⟨g,k,none⟩ (Builtin.zeroCells z (m+1)).toList 0).run P w=.ok () w'):(execOp ρ o).run P w=.ok (.value (.tuple #[])) w':=by
  simp[execOp,ho,hx,resolve,invoke,go_sem,Builtin.clear_,run_underlying hT,hz,g1]
theorem clr (r' i':Nat)(N:Frm)(T:TypeId)(j:Nat){f:α->List Value}{c:Nat}{g n2 cap:Nat}{A:List α}(hlen:∀x,(f x).length=c)(z:Array Value)(hF:aBg P w F)(hM:Mm F0 w0 w M)(hj:M[j]?=some (rw_ f c E (vL (some ⟨g,0,none⟩) n2 cap) A))(hk:k<A.length)(hT:P.underlying T=some (.slice E))(hz:∀w,(zeroValue E).run P w=.ok (.agg z) w)(hzc:∀m,(Builtin.zeroCells z m).toList.length=m*c)(hzo:∀m,(Builtin.zeroCells z m).toList.all (·.oneCell')=true)
    (kk:∀w',Mm F0 w0 w' (M.set j (rw_ f c E (vL (some ⟨g,0,none⟩) k cap) (A.take k)))->AtO P B R ds n (some (r',i'+1)) (N++L) w')
    (h:(lhs (go P w n B p L r' i' F) N L,aWT (go P w n B p L r' i' F) n L (λx =>.call ⟨.builtin .clear,#[x],#[T]⟩))=(rhs (go P w n B p L r' i' F) N B r' i',aWS (go P w n B p L r' i' F) n L (λx =>.call ⟨.builtin .clear,#[x],#[T]⟩) none (vL (some ⟨g,k*c,none⟩) (n2-k) (cap-k))):=by kernel_rfl):AtO P B R ds n p L w:=by
  have hn2:n2=A.length:=by
    have h9:=hM.get j hj;rcases h9.2 with⟨h1,_⟩|⟨g',cap',cur,h1,_⟩
    · cases h1
    · cases h1;rfl
  subst hn2;obtain⟨m,hm⟩:∃m,A.length-k=m+1:=⟨A.length-k-1,by omega⟩;obtain⟨w',g1,g2,g3⟩:=aQ7 (P:=P) hlen (hM.get j hj) (Nat.le_of_lt hk) (hzc (A.length-k)) (hzo _);have hM':=hM.put (w':=w') (e':=rw_ f c E (vL (some ⟨g,0,none⟩) k cap) (A.take k)) j hj g3 (λb _ e=>by subst e;rfl) g2 λb e =>.inl e;refine aSa hF h λO k1 o l a x hf hd1 En hdd hw ho hx=>?_
  have hr:(execOp a.eval o).run P w=.ok (.value (.tuple #[])) w':=by
    rw[hm] at g1 hx;exact aOX ho hx hT hz g1
  refine aDH hw hr ?_;rw[hdd];obtain⟨O1,dr,k2,hf1,hk⟩:=kk w' hM';rw[hf] at hf1;cases hf1;have hdr:O.toList.drop (i'+1)=l:=by rw[<-List.tail_drop,hd1];rfl
  rw[<-hdr];exact hk _ En
end
def aKh (os:List ObR)(ar:Bys)(x:Bys×Int):Bool:=(x.1==ar) || !(inP os x.1 ar)
theorem rg1 {b:Nat}{cs:Array Value}{T:TypeId}(h:w.heap[b]?=some (.cells cs T (0,0)))(hv:cs[0]?=some v):w.rangeAt b 0 [v]:=λj u hu=>by
  cases j with
  | zero=>cases hu;exact bx h 0 hv
  | succ j=>cases hu
variable{ca fb:Nat}{v1:Array Value}
theorem aII (hm:aCt w v os)(hvm:aAh (aAa os)=true)(hlen:os.length<=100000){cf:Nat}{ar:Bys}(hb2:B63 ar)(hca:w.heap[ca]?=some (.cells #[vS ar] 9 (0,0)))(hcf:w.heap[cf]?=some (.cells #[vP fb 0] 68 (0,0)))(hfb:w.heap[fb]?=some (.cells v1 93 (0,0)))(hv1:v1[0]?=some v){x:Bys×Int}(hb1:B63 x.1):Calls Tryz.prog 104 #[.agg #[vS x.1,vI x.2],vP ca 0,vP cf 0] w λe w'=>e=.returned (vB (aKh os ar x))/\Fr nF_ w w':=by
  refine beg Tryz.func104 rfl rfl [(0,.agg #[vS x.1,vI x.2]),(1,vP ca 0),(2,vP cf 0)] rfl rfl λZ hZ=>?_;have hM:=Mm.nil nF_ w;refine aAu 0 0 3 [] (cs:=#[vS x.1,vI x.2]) (T:=42) (v:=λb=>vP b 0) f0 hM λab w1 hM=>seg 1 0 [] f0 ?_;cases aa:(x.1==ar)
  ·refine drc [(4,vB (!(inP os x.1 ar)))] hM (λw5 hM=>(fc (ldm 9 0 0 hM rfl rfl) (fc (ld0 9 hM (bx hca 0 rfl)) (fc (rz (seq 9 x.1 ar) aa) (fc (ld0 68 hM (bx hcf 0 rfl)) (fc (la0 24 hM (l:=[v]) (rg1 hfb hv1)) (fc (ldm 9 0 0 hM rfl rfl) (fc (ld0 9 hM (bx hca 0 rfl)) (fc (tcl (aI8 (hm.fr hM.fr) hvm hlen hb1 hb2)) f0))))))))) λw5 hM=>rt1 4 (vB (!(inP os x.1 ar))) rfl f0 (hZ _ _ ⟨by unfold aKh;simp only[aa]<;>rfl,hM.fr⟩)
  refine drc [(4,vB true)] hM (λw5 hM=>(fc (ldm 9 0 0 hM rfl rfl) (fc (ld0 9 hM (bx hca 0 rfl)) (fc (rz (seq 9 x.1 ar) aa) f0)))) λw5 hM=>rt1 4 (vB true) rfl f0 (hZ _ _ ⟨by unfold aKh;simp only[aa]<;>rfl,hM.fr⟩)
def aO2 (P:Bys×Int->Bool)(L:List (Bys×Int)):Int:=match L.findIdx? P with
  | some i=>(i:Int)
  | none => -1
theorem aTZ {P:Bys×Int->Bool}{L:List (Bys×Int)}(h:∀k x,k<L.length->L[k]?=some x->P x=false):aO2 P L=-1:=by
  unfold aO2
  rw[List.findIdx?_eq_none_iff.2 λx hx=>by
    obtain⟨k,hk,e⟩:=List.mem_iff_getElem.1 hx;exact h k x hk (by rw[Gb_ hk,e])]
variable{y:Bys×Int}
theorem aRk {P:Bys×Int->Bool}{L:List (Bys×Int)}(hy:L[i]?=some y)(hp:P y=true)(h:∀k x,k<i->L[k]?=some x->P x=false):aO2 P L=(i:Int):=by
  have e:L.findIdx? P=some i:=by
    obtain⟨hi,rfl⟩:=List.getElem?_eq_some_iff.1 hy;exact List.findIdx?_eq_some_iff_getElem.2 ⟨hi,hp,λj hj=>by rw[h j _ hj (Gb_ oM)];simp⟩
  unfold aO2;rw[e]
theorem aO1 (P:Bys×Int->Bool)(L:List (Bys×Int)):(aO2 P L=-1/\L.filter (λx => !P x)=L)\/∃i:Nat,aO2 P L=(i:Int)/\i<L.length/\L.take i=(L.take (i+1)).filter λx => !P x:=by
  unfold aO2
  cases h:L.findIdx? P with
  | none =>
    refine .inl ⟨rfl,?_⟩;rw[List.filter_eq_self];intro x hx;rw[List.findIdx?_eq_none_iff.1 h x hx];rfl
  | some i =>
    obtain⟨hi,h1,h2⟩:=List.findIdx?_eq_some_iff_getElem.1 h;refine .inr ⟨i,rfl,hi,?_⟩;rw[List.take_succ_eq_append_getElem hi,List.filter_append,show[L[i]].filter (λx => !P x)=[] by simp[h1],List.append_nil]
    symm
    rw[List.filter_eq_self];intro x hx;obtain⟨k,hk,e⟩:=List.mem_iff_getElem.1 hx;rw[Gq_] at hk;rw[List.getElem_take] at e;have:=h2 k oM;rw[e] at this;simpa using this
abbrev aYv (Z:Ending->World->Prop):=AtO Tryz.prog (aAv Tryz.f127) (aAI (bodyPost Tryz.prog Tryz.f127 Z)) [] 19
theorem aMt (hm:aCt w v os)(hvm:aAh (aAa os)=true)(hlen:os.length<=100000){cf:Nat}{ar:Bys}(hb2:B63 ar)(hca:w.heap[ca]?=some (.cells #[vS ar] 9 (0,0)))(hcf:w.heap[cf]?=some (.cells #[vP fb 0] 68 (0,0)))(hfb:w.heap[fb]?=some (.cells v1 93 (0,0)))(hv1:v1[0]?=some v){L:List (Bys×Int)}(hid:∀x∈L,B63 x.1){p:Option Addr}{cap:Nat}(hs:SrcP rwL 2 w p cap L):Calls Tryz.prog 127 #[vL p L.length cap,.func (.func 104) #[] #[vP ca 0,vP cf 0]] w λe w'=>e=.returned (vI (aO2 (aKh os ar) L))/\Fr nF_ w w':=by
  have bb:=hs.bnd;refine beg Tryz.func127 rfl rfl [(0,vL p L.length cap),(1,.func (.func 104) #[] #[vP ca 0,vP cf 0])] rfl rfl λZ hZ=>?_;have hM:=Mm.nil nF_ w;refine seg 2 0 [(7,vI (L.length:Int)),(8,vI 0)] f0 ?_
  have ad:∀(aa:Nat)(i:Nat)(w2:World),i<=L.length->(∀k x,k<i->L[k]?=some x->aKh os ar x=false)->Mm nF_ w w2 []->aa=L.length-i->aYv Z (some (2,0)) [(8,vI (i:Int)),(7,vI (L.length:Int)),(0,vL p L.length cap),(1,.func (.func 104) #[] #[vP ca 0,vP cf 0])] w2:=by
   refine aCh λaa ae i w2 hi hall hM ai=>seg 2 1 [(9,vB (decide ((i:Int)<(L.length:Int))))] f0 ?_;cases ab:(decide ((i:Int)<(L.length:Int)))
   ·have af:=df ab;exact rt1 4 (vI (-1)) rfl f0 (hZ _ _ ⟨by rw[aTZ λk x hk=>hall k x oM],hM.fr⟩)
   have af:=dt ab;obtain⟨y,hy,aj,ak,ag,ah⟩:=hs.el (i:=i) oM;refine aAw 4 5 16 [(5,vI (i:Int)),(11,.func (.func 104) #[] #[vP ca 0,vP cf 0]),(15,.agg #[vS y.1,vI y.2])] (fc (ix 36 cap ag (gl hy)) (fc (la0 42 hM ah) f0)) hM (aII (hm.fr hM.fr) hvm hlen hb2 ((hM.fr).obj hca id) ((hM.fr).obj hcf id) ((hM.fr).obj hfb id) hv1 (x:=y) (hid y (gm hy))) λw1 hM=>?_;cases ac:(aKh os ar y)
   ·refine seg 2 0 [(8,vI ((i:Int)+1))] (fc (aAP (i:Int) 1 u3_) f0) (aAi _ (ae _ (by have:=gl hy;omega) (i+1) _ (gl hy) (λk x hk hx=>by rcases Nat.lt_succ_iff_lt_or_eq.1 hk with h|h;exact hall k x h hx;rw[h,hy] at hx;cases hx;exact ac) hM rfl))
   exact rt1 4 (vI (i:Int)) rfl f0 (hZ _ _ ⟨by rw[aRk hy ac hall],hM.fr⟩)
  exact aAi _ (ad _ 0 _ (Gg_ _) (λ_ _ h=>absurd h (Nat.not_lt_zero _)) hM rfl)
theorem aUX (w:World):(zeroValue 42).run Tryz.prog w=.ok (.agg #[vS [],vI 0]) w:=by kernel_rfl
theorem zc2 (m:Nat):(Builtin.zeroCells #[vS [],vI 0] m).toList.length=m*2:=by
  unfold Builtin.zeroCells;simp
theorem zo2 (m:Nat):(Builtin.zeroCells #[vS [],vI 0] m).toList.all (·.oneCell')=true:=by
  unfold Builtin.zeroCells;rw[List.all_eq_true];intro x hx;simp at hx;obtain⟨i,hi,rfl⟩:=hx;have:i%2=0\/i%2=1:=by omega
  rcases this with h|h<;>simp[h]<;>rfl
section
variable{P:Bys×Int->Bool}{A L:List (Bys×Int)}
theorem aWu (h:A.take i=(L.take j).filter λx => !P x)(hy:L[j]?=some y)(hp:P y=true):A.take i=(L.take (j+1)).filter λx => !P x:=by
  rw[gt_ hy,List.filter_append,<-h];simp[hp]
theorem aXY (h:A.take i=(L.take j).filter λx => !P x)(hy:L[j]?=some y)(hp:P y=false)(hi:i<A.length):(A.set i y).take (i+1)=(L.take (j+1)).filter λx => !P x:=by
  rw[gt_ hy,List.filter_append,<-h,List.take_succ_eq_append_getElem (by rw[List.length_set];exact hi),List.getElem_set_self,List.take_set_of_le (Gj_ i)];simp[hp]
theorem aUh (h:A.drop j=L.drop j)(hy:L[j]?=some y):A[j]?=some y:=by
  have e:(A.drop j)[0]?=(L.drop j)[0]?:=by rw[h]
  rw[List.getElem?_drop,List.getElem?_drop] at e;exact e.trans hy
theorem aOO (h:A.drop j=L.drop j):A.drop (j+1)=L.drop (j+1):=by
  have:=congrArg List.tail h;rw[List.tail_drop,List.tail_drop] at this;exact this
theorem aWv (h:A.drop j=L.drop j)(hi:i<j):(A.set i y).drop (j+1)=L.drop (j+1):=by
  rw[List.drop_set_of_lt oM];exact aOO h
end
abbrev bAm (Z:Ending->World->Prop):=AtO Tryz.prog (aAv Tryz.f70) (aAI (bodyPost Tryz.prog Tryz.f70 Z)) [] 42
variable{wB:World}
theorem aM1 {u0:Value}(hm:aCt wB v os)(hvm:aAh (aAa os)=true)(hlen:os.length<=100000){cf:Nat}{ar:Bys}(hb2:B63 ar)(hca:wB.heap[ca]?=some (.cells #[vS ar] 9 (0,0)))(hcf:wB.heap[cf]?=some (.cells #[vP fb 0] 68 (0,0)))(hfb:wB.heap[fb]?=some (.cells v1 93 (0,0)))(hv1:v1[0]?=some v)(hfB:Fr nF_ wB w)(hG:∀k,G k->wB.heap.size<=k){L:List (Bys×Int)}(hid:∀x∈L,B63 x.1)(hl:L.length<=1000000)(hM:Mm G w w [rw_ rwL 2 42 u0 L]):Calls Tryz.prog 70 #[u0,.func (.func 104) #[] #[vP ca 0,vP cf 0]] w λe w'=>∃u,e=.returned u/\Mm G w w' [rw_ rwL 2 42 u (L.filter λx => !aKh os ar x)]:=by
  obtain⟨p,c,hv0,-⟩:=(hM.src (j:=0) rfl rwT.len).op;subst hv0;have hfr:∀w1,Fr G w w1->Fr nF_ wB w1:=λw1 f=>hfB.trans' f λr hr hg=>absurd hr (by have:=hG r hg;omega);refine beg Tryz.func70 rfl rfl [(0,vL p L.length c),(1,.func (.func 104) #[] #[vP ca 0,vP cf 0])] rfl rfl λZ hZ=>?_
  skip
  refine aAw 1 2 10 [(8,vL p L.length c),(9,.func (.func 104) #[] #[vP ca 0,vP cf 0])] f0 hM (aMt (hm.fr (hfr _ hM.fr)) hvm hlen hb2 (((hfr _ hM.fr)).obj hca id) (((hfr _ hM.fr)).obj hcf id) (((hfr _ hM.fr)).obj hfb id) hv1 hid ((hM.src (j:=0) rfl rwT.len).p).2) λw1 hM=>seg 2 2 [(5,vI (aO2 (aKh os ar) L)),(12,vB ((aO2 (aKh os ar) L)==(-1)))] f0 ?_;cases aa:((aO2 (aKh os ar) L)==(-1))
  rotate_left
  ·have ai:=et aa;exact rt1 4 (vL p L.length c) rfl f0 (hZ _ _ ⟨_,rfl,by rcases aO1 (aKh os ar) L with⟨-,hz⟩|⟨i0,hi0,-⟩;rw[hz];exact hM;exact absurd (et aa) oM⟩)
  have ai:=ef aa;rcases aO1 (aKh os ar) L with⟨hi0,-⟩|⟨i0,hi0,hil,htk⟩
  · exact absurd hi0 (ef aa)
  obtain⟨g,hg,-,hLc,-⟩:=aJB (hM.get 0 rfl) (show 0<L.length by omega);subst hg;rw[hi0];refine seg 5 0 [(6,vI ((i0:Int)+1))] (fc (aAP (i0:Int) 1 u3_) f0) ?_
  have aj:∀(ab:Nat)(j:Nat)(i:Nat)(A:List (Bys×Int))(w2:World),j<=L.length->i<j->A.length=L.length->(A.take i=(L.take j).filter λx => !aKh os ar x)->A.drop j=L.drop j->Mm G w w2 [rw_ rwL 2 42 (vL (some ⟨g,0,none⟩) L.length c) A]->ab=L.length-j->bAm Z (some (5,0)) [(6,vI (j:Int)),(5,vI (i:Int)),(0,vL (some ⟨g,0,none⟩) L.length c),(1,.func (.func 104) #[] #[vP ca 0,vP cf 0])] w2:=by
   refine aCh λab ac j i A w2 hjl hij hAl hA hdr hM am=>seg 5 4 [(19,vB (decide ((j:Int)<(L.length:Int))))] f0 ?_;cases ad:(decide ((j:Int)<(L.length:Int)))
   ·have ak:=df ad;have hcm:c<=9223372036854775807:=((hM.src (j:=0) rfl rwT.len).p).2.ca;refine clr 11 3 [(38,vL (some ⟨g,i*2,none⟩) (L.length-i) (c-i))] 36 0 rwT.len _ (fc (aZm 36 42 g 2 rfl (show i<L.length by omega) hLc (λw=>by kernel_rfl)) f0) hM rfl (show i<A.length by omega) Tryz.underlying36 aUX zc2 zo2 λw1 hM=>rt1 4 (vL (some ⟨g,0,none⟩) i c) rfl (fc (aX1 36 42 g (n:=L.length) (c:=c) (k:=i) rfl (show i<=c by omega) (show 0<c by omega) hcm ⟨2,λw=>by kernel_rfl⟩) f0) (hZ _ _ ⟨_,rfl,by rw[hA,Gc_ (show L.length<=j by omega)] at hM;exact hM⟩)
   have ak:=dt ad;obtain⟨y,hy⟩:=geb (l:=L) (i:=j) oM;have hyA:=aUh hdr hy;obtain⟨an,ae,-⟩:=hM.el rwT (j:=0) rfl hyA;refine aBW 7 4 7 [(25,.agg #[vS y.1,vI y.2])] [] 42 (.agg #[vS y.1,vI y.2]) (fc (ix 36 c ae (show j<L.length by omega)) (fc (lar 42 0 0 2 rwT hM rfl ae hyA) f0)) hM λao w1 hM=>aAw 8 2 28 [(26,.func (.func 104) #[] #[vP ca 0,vP cf 0]),(27,.agg #[vS y.1,vI y.2])] (fc (lam 42 1 0 2 hM rfl) f0) hM (aII (hm.fr (hfr _ hM.fr)) hvm hlen hb2 (((hfr _ hM.fr)).obj hca id) (((hfr _ hM.fr)).obj hcf id) (((hfr _ hM.fr)).obj hfb id) hv1 (x:=y) (hid y (gm hy))) λw1 hM=>seg 8 4 [(29,vB (!(aKh os ar y)))] f0 ?_;cases af:(aKh os ar y)
   ·obtain⟨aq,ag⟩:=geb (l:=A) (i:=i) oM;obtain⟨al,ah,-⟩:=hM.el rwT (j:=0) rfl ag;refine aXx 9 4 [(32,.agg #[vS y.1,vI y.2]),(33,vP al (0+i*2))] 42 0 0 y (.agg #[vS y.1,vI y.2]) rwT (fc (lam 42 1 0 2 hM rfl) (fc (ix 36 c ah (show i<L.length by omega)) f0)) hM rfl ah ag rfl λw1 hM=>seg 5 0 [(5,vI ((i:Int)+1)),(6,vI ((j:Int)+1))] (fc (aAP (i:Int) 1 u3_) (fc (aAP (j:Int) 1 u3_) f0)) ?_;have hM:=hM.pick [0];exact aAi _ (ac _ oM (j+1) (i+1) (A.set i y) _ oM oM (by rw[List.length_set];exact hAl) (aXY hA hy af oM) (aWv hdr hij) hM rfl)
   refine seg 5 0 [(6,vI ((j:Int)+1))] (fc (aAP (j:Int) 1 u3_) f0) ?_;have hM:=hM.pick [0];exact aAi _ (ac _ oM (j+1) i A _ oM oM hAl (aWu hA hy af) (aOO hdr) hM rfl)
  exact aAi _ (aj _ (i0+1) i0 L _ oM oM rfl htk rfl hM rfl)
def aFw (h:Nat)(q:QdR)(os:List ObR)(b:ObR):Option (Bys×Int):=bif (aAE b.o.tags q.key).2&&(b.o.kind==3)&&(aBf os b).isSome then some (b.o.id,((aEY h q os b.o.id).length:Int)) else none
theorem aOS (h:Nat)(q:QdR)(os:List ObR):aR2 h q os=os.filterMap (aFw h q os):=rfl
theorem aR1 (h:Nat)(q:QdR)(os:List ObR):(aR2 h q os).length<=os.length:=List.length_filterMap_le _ _
theorem aRh (h:Nat)(q:QdR)(os:List ObR)(a:Bys):(aEY h q os a).length<=os.length:=Gn_ (List.length_filter_le _ _) (aEz h q os)
theorem aKQ (hv:aAh (aAa os)=true){b:ObR}(hb:b∈os)(h3:(b.o.kind==3)=true):(aBf os b).isSome=(((aAd (aAa os) b.o.id).1==0)&&aDU (aAd (aAa os) b.o.id).2):=by
  obtain⟨q1,q2⟩:=aD5 (aAV hv) (List.mem_map.2 ⟨b,hb,rfl⟩);obtain⟨k,o,hk,ho,he⟩:=aB5 q1;obtain⟨z,hz⟩:=geb (l:=os) (i:=k) (by rw[<-aAT];exact gl ho);have hzo:z.o=o:=by have:=aAK hz;rw[ho] at this;exact(Gh_ this).symm
  have hzb:z=b:=aMd (aNC (aAV hv)) (gm hz) hb (by rw[hzo,he]);subst hzb;have hnd:∀r,ptOf (aAa os) r=ndA os r:=aVI (aAV hv);rw[aGI hv hk hz];unfold aA3 aBf;have h1:(z.o.kind==1)=false:=by rw[et h3];rfl
  have e1:(z.o.refs.all λr=>(ptOf (aAa os) r).isSome)=(z.o.refs.all λr=>(ndA os r).isSome):=by simp only[hnd]
  have e2:(z.o.refs.map λr=>(ptOf (aAa os) r).getD (0,0))=rgL os z:=by unfold rgL;simp only[hnd]
  rw[h1,h3,e1,e2,Bool.or_true];cases z.o.refs.all λr=>(ndA os r).isSome
  · rfl
  · show(bif true&&true&&aDU (rgL os z) then some (rgL os z) else none).isSome=(((0:Int)==0)&&aDU (rgL os z))
    cases aDU (rgL os z)<;>rfl
section
variable{P:Program}{rd:Option Nat}{r n:Nat}{L:Frm}{ef:List Nat}{V:Lts->List (Option Value)}{F:Lts->List Ft}{Mf:Lts->List Bool->List Ent}
theorem aU3 (p i d:Nat){f:FuncId}(args:Lts->Array Value)(n0:Nat)
    (hc:∀Z fr wm,Mm F0 w0 wm (Mf Z (flg B r ef i fr))->Calls P f (args Z) wm λx w'=>∃q c0,x=.returned (vL q n0 c0)/\Fr nF_ wm w')
    (hm:∀Z fr q c0,Mf Z (flg B r ef i fr)=Mf (aBK Z p (vL q n0 c0)) ((flg B r ef i fr).set p true):=by intro Z fr q c0;kernel_rfl)
    (hV:∀Z q c0,((V (aBK Z p (vL q n0 c0)))[p]?).getD none=some (vL q n0 c0):=by intro Z q c0;rfl)
    (hs:∀Z wm,enL P wm (aA9 B r) i (frX P w n B r L ef V F i Z)=some (f,args Z,some d,wm):=by intro Z wm;kernel_rfl):Arm rd P w n B r L ef V F ds F0 w0 Mf p i:=by
  intro Z fr a wm Q o ho En hw hM;obtain⟨h1,h2⟩:=aIG ho En (hs Z wm);refine aCA (R:=λu w'=>∃q c0,u=vL q n0 c0/\Fr nF_ wm w') h1 ((hc Z fr wm hM).mono λx w' ⟨q,c0,g1,g2⟩=>⟨_,g1,q,c0,rfl,g2⟩) λu w' ⟨q,c0,hu,g1⟩=>?_;subst hu;have hM':=hM.q g1;rw[hm Z fr q c0] at hM';exact⟨vL q n0 c0,Z.e p,by rw[aAy,hV,h2];rfl,by rw[aAy];exact hM'⟩
end
theorem aXS {T:TypeId}{u:Value}{L:List (Bys×Int)}(h:Mm nF_ w w' [rw_ rwL 2 T u L]):∃q c0,u=vL q L.length c0/\Fr nF_ w w':=by
  obtain⟨q,c0,e,-⟩:=(h.src (j:=0) rfl rwT.len).op;exact⟨q,c0,e,h.fr⟩
variable{h:Nat}
theorem aU8 {q:QdR}(hb:∀b∈os,B63 b.o.id):∀x∈aDy h q os,B63 x.1:=λx hx=>by
  obtain⟨b,h1,rfl⟩:=List.mem_map.1 hx;exact hb b (List.mem_filter.1 h1).1
theorem aX4 :Ft.ok Tryz.prog w (.g2 (λx y =>.binOp .neq 95 x y 95) (.pointer none) (.pointer none) (vB false)):=λo ρ x y ho hx hy=>by simp[execOp,ho,hx,hy,go_sem,u95_]
theorem aX3 (b:Nat) :Ft.ok Tryz.prog w (.g2 (λx y =>.binOp .neq 95 x y 95) (vP b 0) (.pointer none) (vB true)):=λo ρ x y ho hx hy=>by simp[execOp,ho,hx,hy,go_sem,u95_]
variable{S:List ShR}
section
variable{q:QdR}{y:ObR}
theorem aM6 (h1:(aAE y.o.tags q.key).2=false\/(y.o.kind==3)=false\/(aBf os y).isSome=false):aFw h q os y=none:=by
  unfold aFw;rcases h1 with e|e|e<;>rw[e]<;>simp
theorem aWz (h1:(aAE y.o.tags q.key).2=true)(h2:(y.o.kind==3)=true)(h3:(aBf os y).isSome=true):aFw h q os y=some (y.o.id,((aEY h q os y.o.id).length:Int)):=by unfold aFw;rw[h1,h2,h3];rfl
theorem aWw {r:Bys×Int}(hy:os[i]?=some y)(e:aFw h q os y=some r):(os.take i).filterMap (aFw h q os)++[r]=(os.take (i+1)).filterMap (aFw h q os):=by rw[gt_ hy,List.filterMap_append];simp[e]
theorem aM2 (hy:os[i]?=some y)(e:aFw h q os y=none):(os.take i).filterMap (aFw h q os)=(os.take (i+1)).filterMap (aFw h q os):=by rw[gt_ hy,List.filterMap_append];simp[e]
theorem aN9 (hvm:aAh (aAa os)=true)(hSh:aE1 (aAa os) os S){s:ShR}(hs:s∈S)(e:s.o.o.id=y.o.id)(hy:y∈os)(h3:(y.o.kind==3)=true):(aBf os y).isSome=aDU (s.P (aAa os)):=by
  have h1:=aNh hSh hs;rw[aKQ hvm hy h3,<-e,h1];rfl
theorem aLV (hvm:aAh (aAa os)=true)(hSh:aE1 (aAa os) os S)(hno:∀s∈S,s.o.o.id≠y.o.id)(hy:y∈os):(y.o.kind==3)=false\/(aBf os y).isSome=false:=by
  cases h3:(y.o.kind==3) with
  | false=>exact .inl rfl
  | true =>
    refine .inr ?_;rw[aKQ hvm hy h3]
    cases h1:((aAd (aAa os) y.o.id).1==0) with
    | false=>rfl
    | true =>
      have hm:y∈S.map (·.o):=by rw[hSh];exact List.mem_filter.2 ⟨hy,h1⟩
      obtain⟨s,hs,rfl⟩:=List.mem_map.1 hm;exact absurd rfl (hno s hs)
end
variable{B cp0:Nat}{p0:Option Addr}
theorem aGN {bs xi:Nat}(hm:aCt w (vL p0 os.length cp0) os)(hvm:aAh (aAa os)=true){q:QdR}(hq:QdIn w B h q)(hBw:B<=w.heap.size)(hTe:Te w)(hfb:w.heap[fb]?=some (.cells (fY_ (vL p0 os.length cp0) q (.map (some bs)) (vP xi 0)) 93 (0,0)))(hlen:os.length<=100000){ar:Bys}(hb2:B63 ar):Calls Tryz.prog 57 #[vP fb 0,vS ar] w λe w'=>∃u,e=.returned u/\Mm nF_ w w' [rw_ rwL 2 42 u (aEY h q os ar)]:=by
  have hm0:=hm;obtain⟨hs0,hob⟩:=hm0;refine beg Tryz.func57 rfl rfl [(0,vP fb 0),(1,vS ar)] rfl rfl λZ hZ=>?_;have hM:=Mm.nil nF_ w;refine aAu 0 0 2 [] (cs:=#[vP fb 0]) (T:=68) (v:=λb=>vP b 0) f0 hM λaa w1 hM=>aAu 0 1 3 [] (cs:=#[vS ar]) (T:=9) (v:=λb=>vP b 0) f0 hM λab w1 hM=>?_;have hMB:=hM;refine cal 1 1 9 [(8,vP fb 0)] (K:=λu w8=>∃v8,u=.tuple #[v8,vI 0]/\Mm nF_ _ w8 [rw_ rwL 2 42 v8 (aDy h q os)]) (fc (ldm 68 0 0 hM rfl rfl) f0) ((aJa (hm.fr hM.fr) hvm (hq.fr hM.fr hBw) (Gn_ hBw hM.fr.size) (hTe.fr hM.fr) (hM.fr.obj hfb id) oM).mono λe w9 ⟨u9,h1,h2⟩=>⟨_,h1,u9,rfl,h2⟩) λu w1 ⟨v8,hu,hrw⟩=>?_;subst hu;have hM:=hMB.add hrw.fr _ (hrw.get 0 rfl) (λk hk=>hrw.ge (.head _) hk);refine aHU 2 2 14 [(12,v8),(13,.func (.func 104) #[] #[vP ab 0,vP aa 0])] (K:=λu Mn=>Mn=[rw_ rwL 2 42 u (aEY h q os ar)]) [0,1] [2] f0 hM rfl rfl dE (λhmm=>((aM1 (hm.fr hMB.fr) hvm hlen hb2 (hMB.get 1 rfl) (hMB.get 0 rfl) (hMB.fr.obj hfb id) rfl hrw.fr (λk ⟨e,he,hb⟩=>hrw.ge he hb) (aU8 λb hb=>(hob b hb).bnd.id) (by have:=aEz h q os;omega) hmm).mono λe w9 ⟨u,h1,h2⟩=>⟨_,_,h1,rfl,h2⟩)) λu Mn w1 hK hM=>?_;obtain rfl:=hK;exact rt1 4 u rfl f0 (hZ _ _ ⟨_,rfl,hM.pick [2]⟩)
theorem aHY {bs xi:Nat}(hm:aCt w (vL p0 os.length cp0) os)(hvm:aAh (aAa os)=true){q:QdR}(hq:QdIn w B h q)(hBw:B<=w.heap.size)(hTe:Te w)(hfb:w.heap[fb]?=some (.cells (fY_ (vL p0 os.length cp0) q (.map (some bs)) (vP xi 0)) 93 (0,0)))(hlen:os.length<=100000):Calls Tryz.prog 29 #[vP fb 0] w λe w'=>∃u,e=.returned (.tuple #[u,vI 0])/\Mm nF_ w w' [rw_ rwL 2 42 u (aEY h q os q.id)]:=by
  refine beg Tryz.func29 rfl rfl [(0,vP fb 0)] rfl rfl λZ hZ=>?_;have hM:=Mm.nil nF_ w;refine aHU 1 6 10 [(4,vP fb 0),(9,vS q.id)] (K:=λu Mn=>Mn=[rw_ rwL 2 42 u (aEY h q os q.id)]) [] [] (fc (ld0 9 hM (bx hfb 8 rfl)) f0) hM rfl rfl dE (λhmm=>((aGN (hm.fr hM.fr) hvm (hq.fr hM.fr hBw) (Gn_ hBw hM.fr.size) (hTe.fr hM.fr) (hM.fr.obj hfb id) hlen hq.id).mono λe w9 ⟨u,h1,h2⟩=>⟨_,_,h1,rfl,aEP h2 λ_ h=>h.elim⟩)) λu Mn w1 hK hM=>?_;obtain rfl:=hK;exact rt2 2 3 u (vI 0) rfl rfl f0 (hZ _ _ ⟨_,rfl,hM⟩)
abbrev bAl (Z:Ending->World->Prop):=AtO Tryz.prog (aAv Tryz.f33) (aAI (bodyPost Tryz.prog Tryz.f33 Z)) [] 68
theorem aKi (hfB:Fr nF_ wB w)(hG:∀k,G k->wB.heap.size<=k){bs xi mb ns:Nat}{S0:Nat->Prop}(hm:aCt wB (vL p0 os.length cp0) os)(hvm:aAh (aAa os)=true){q:QdR}(hq:QdIn wB B h q)(hBw:B<=wB.heap.size)(hTe:Te wB)(hSh:aE1 (aAa os) os S)(hol:os.length<=100000)(hns:ns=S.length)(hM:Mm G w w [bk fb (fY_ (vL p0 os.length cp0) q (.map (some bs)) (vP xi 0)) 93,mp Tryz.prog 9 bs ns (shF S),ixO xi mb ns (bxS (aAa os) S) S0,aBQ (S.map (shE (aAa os)))]):Calls Tryz.prog 33 #[vP fb 0] w λe w'=>∃u,e=.returned (.tuple #[u,vI 0])/\Mm G w w' [rw_ rwL 2 42 u (aR2 h q os)]:=by
  have hm0:=hm;obtain⟨hs0,hob⟩:=hm0;have hpw:=aVx hvm hSh;have sp0:=hs0.p.2.b hfB;refine beg Tryz.func33 rfl rfl [(0,vP fb 0)] rfl rfl λY hY=>?_
  skip
  have hM:=hM.row (f:=rwL) (c:=2) (E:=42);refine seg 3 0 [(4,vL none 0 0),(14,vL p0 os.length cp0),(15,vI (os.length:Int)),(16,vI 0)] (fc (ldm 22 0 0 hM rfl rfl) f0) ?_
  have aj:∀(ae:Nat)(i:Nat)(vo:Value)(w2:World),i<=os.length->Mm G w w2 [bk fb (fY_ (vL p0 os.length cp0) q (.map (some bs)) (vP xi 0)) 93,mp Tryz.prog 9 bs ns (shF S),ixO xi mb ns (bxS (aAa os) S) S0,aBQ (S.map (shE (aAa os))),rw_ rwL 2 42 vo ((os.take i).filterMap (aFw h q os))]->ae=os.length-i->bAl Y (some (3,0)) [(16,vI (i:Int)),(15,vI (os.length:Int)),(14,vL p0 os.length cp0),(4,vo),(0,vP fb 0)] w2:=by
   refine aCh λae aa i vo w2 hi hM au=>seg 3 1 [(17,vB (decide ((i:Int)<(os.length:Int))))] f0 ?_;cases af:(decide ((i:Int)<(os.length:Int)))
   ·have ak:=df af;exact rt2 2 3 vo (vI 0) rfl rfl f0 (hY _ _ ⟨_,rfl,by rw[Gc_ oM] at hM;exact hM.pick [4]⟩)
   have ak:=dt af;obtain⟨y,hy,av,aw,al,am,n310⟩:=sp0.eb hG (i:=i) oM;refine aBW 4 2 6 [(19,.agg (oY_ y))] [] 48 (.agg (oY_ y)) (fc (ix 22 cp0 al (gl hy)) (fc (la0 48 hM am n310) f0)) hM λag w1 hM=>seg 5 0 [] f0 ?_
   by_cases hsh:∃s∈S,s.o.o.id=y.o.id
   · skip
     obtain⟨s,hss,hys⟩:=hsh;have hls:=aFk hpw hss hys;have hM:=hM.q ((Fr.refl _ _).drew);refine drq [(7,vP s.b 0)] rfl (fc (ldm 90 0 15 hM rfl rfl) (fc (ldm 9 5 0 hM rfl rfl) (fc (rz2 (lk 90 1 (vS y.o.id) (.pointer none) hM rfl aEi u90_ (aE2 (hob _ (gm hy)).bnd.id) (aG2 _)) hls) f0))) (seg 6 0 [] f0 (drc [(9,vB (aAE y.o.tags q.key).2)] hM (λw5 hM=>(fc (ldm 46 5 5 hM rfl rfl) (fc (ldm 9 0 12 hM rfl rfl) (fc (tcl (aEk (((hob _ (gm hy)).tags.fr (hfB.trans' hM.fr λr hr hg=>absurd hr (Nat.not_lt.2 (hG r hg)))).src) q.key)) f0)))) λw5 hM=>seg 7 2 [(39,vB (aAE y.o.tags q.key).2)] f0 ?_))
     cases ah:(aAE y.o.tags q.key).2 with
     | false =>
      refine seg 3 0 [(16,vI ((i:Int)+1))] (fc (aAP (i:Int) 1 u3_) f0) ?_;have hM:=hM.pick [0,1,2,3,4];replace hM:Mm G w _ [bk fb (fY_ (vL p0 os.length cp0) q (.map (some bs)) (vP xi 0)) 93,_,_,_,_]:=hM;obtain⟨u1,hu1⟩:∃z,z=vo:=⟨_,rfl⟩;rw[<-hu1] at hM;rw[aM2 hy (aM6 (h:=h) (.inl ah)),hu1] at hM;exact aAi _ (aa _ (by have:=gl hy;omega) (i+1) vo _ (gl hy) hM rfl)
     | true =>
      refine seg 7 7 [(44,vB (y.o.kind==3))] (fc (ldm 3 5 1 hM rfl rfl) f0) ?_;cases ab:(y.o.kind==3)
      ·have an:=ef ab;refine seg 3 0 [(16,vI ((i:Int)+1))] (fc (aAP (i:Int) 1 u3_) f0) ?_;have hM:=hM.pick [0,1,2,3,4];replace hM:Mm G w _ [bk fb (fY_ (vL p0 os.length cp0) q (.map (some bs)) (vP xi 0)) 93,_,_,_,_]:=hM;obtain⟨u1,hu1⟩:∃z,z=vo:=⟨_,rfl⟩;rw[<-hu1] at hM;rw[aM2 hy (aM6 (h:=h) (.inr (.inl ab))),hu1] at hM;exact aAi _ (aa _ (by have:=gl hy;omega) (i+1) vo _ (gl hy) hM rfl)
      have an:=et ab;refine aAw 7 15 53 [(48,vB true),(52,vL s.pp (s.P (aAa os)).length s.pc)] (fc (aX3 s.b) (fc (ld0 100 (Mm.nil nF_ _) (bx (aQa hM (j:=3) rfl hss).blk 7 rfl)) f0)) hM (aBY (aQa hM (j:=3) rfl hss).pt) λw1 hM=>seg 7 17 [(54,vB (aDU (s.P (aAa os))))] f0 ?_;cases ai:(aDU (s.P (aAa os)))
      ·refine seg 3 0 [(16,vI ((i:Int)+1))] (fc (aAP (i:Int) 1 u3_) f0) ?_;have hM:=hM.pick [0,1,2,3,4];replace hM:Mm G w _ [bk fb (fY_ (vL p0 os.length cp0) q (.map (some bs)) (vP xi 0)) 93,_,_,_,_]:=hM;obtain⟨u1,hu1⟩:∃z,z=vo:=⟨_,rfl⟩;rw[<-hu1] at hM;rw[aM2 hy (aM6 (h:=h) (.inr (.inr (by rw[aN9 hvm hSh hss hys (gm hy) ab,ai])))),hu1] at hM;exact aAi _ (aa _ (by have:=gl hy;omega) (i+1) vo _ (gl hy) hM rfl)
      refine seg 8 0 [] f0 ?_;have hM:=hM.nl;refine drx [6,9,10] (λZ=>[some (vL (slp (Z 0)) (aEY h q os y.o.id).length (slc (Z 0))),some (vL (some ⟨(bn (Z 1)),0,none⟩) 1 1),some (vL (slp (Z 2)) (((os.take i).filterMap (aFw h q os))++[(y.o.id,((aEY h q os y.o.id).length:Int))]).length (slc (Z 2)))]) _ (λZ l=>[bk fb (fY_ (vL p0 os.length cp0) q (.map (some bs)) (vP xi 0)) 93,mp Tryz.prog 9 bs ns (shF S),ixO xi mb ns (bxS (aAa os) S) S0,aBQ (S.map (shE (aAa os))),(bif l.getD 2 false then rw_ rwL 2 42 (vL (slp (Z 2)) (((os.take i).filterMap (aFw h q os))++[(y.o.id,((aEY h q os y.o.id).length:Int))]).length (slc (Z 2))) (((os.take i).filterMap (aFw h q os))++[(y.o.id,((aEY h q os y.o.id).length:Int))]) else rw_ rwL 2 42 vo ((os.take i).filterMap (aFw h q os))),bk ag (oY_ y) 48,(bif l.getD 1 false then bk (bn (Z 1)) #[vS y.o.id,vI ((aEY h q os y.o.id).length:Int)] 42 else aEB)]) (λZ=>[(4,vL (slp (Z 2)) (((os.take i).filterMap (aFw h q os))++[(y.o.id,((aEY h q os y.o.id).length:Int))]).length (slc (Z 2)))]) hM (λZ=>rfl) (λZ l w5 hM=>(fc (ldm 9 5 0 hM rfl rfl) (fc (ldm 9 5 0 hM rfl rfl) f0))) ⟨aU3 0 6 61 (f:=57) (λZ=>#[vP fb 0,vS y.o.id]) ((aEY h q os y.o.id).length) (λZ fr wm hM=>((aGN (hm.fr (hfB.trans' hM.fr λr hr hg=>absurd hr (Nat.not_lt.2 (hG r hg)))) hvm (hq.fr (hfB.trans' hM.fr λr hr hg=>absurd hr (Nat.not_lt.2 (hG r hg))) hBw) (Gn_ hBw (hfB.trans' hM.fr λr hr hg=>absurd hr (Nat.not_lt.2 (hG r hg))).size) (hTe.fr (hfB.trans' hM.fr λr hr hg=>absurd hr (Nat.not_lt.2 (hG r hg)))) (hM.get 0 (e:=bk fb (fY_ (vL p0 os.length cp0) q (.map (some bs)) (vP xi 0)) 93) kR) hol (hob _ (gm hy)).bnd.id).mono λe w9 ⟨u,h1,h2⟩=>by obtain⟨q9,c9,rfl,h3⟩:=aXS h2;exact⟨q9,c9,h1,h3⟩)),aDb 1 9 6 64 (λZ=>#[vS y.o.id,vI ((aEY h q os y.o.id).length:Int)]) 42 (λb=>vL (some ⟨b,0,none⟩) 1 1),aHQ 2 10 4 65 36 42 0 (λZ=>vo) ((os.take i).filterMap (aFw h q os)) [(y.o.id,((aEY h q os y.o.id).length:Int))] (λZ=>(bn (Z 1))) 1 rwT (by have h7:=List.length_filterMap_le (aFw h q os) (os.take i);have h8:=List.length_take_le i os;simp only[Gf_,Gm_];omega) (λZ fr wm hM=>aCu (f:=rwL) (x:=(y.o.id,((aEY h q os y.o.id).length:Int))) (hM.get 6 (e:=bk ((bn (Z 1))) (rwL (y.o.id,((aEY h q os y.o.id).length:Int))).toArray 42) kR) (Nat.lt_succ_self _)),trivial⟩ λac w1 hM=>?_;replace hM:Mm G w w1 [bk fb (fY_ (vL p0 os.length cp0) q (.map (some bs)) (vP xi 0)) 93,_,_,_,_,bk ag (oY_ y) 48,bk (bn (ac 1)) #[vS y.o.id,vI ((aEY h q os y.o.id).length:Int)] 42]:=hM;refine seg 3 0 [(16,vI ((i:Int)+1))] (fc (aAP (i:Int) 1 u3_) f0) ?_;have hM:=hM.pick [0,1,2,3,4];replace hM:Mm G w _ [bk fb (fY_ (vL p0 os.length cp0) q (.map (some bs)) (vP xi 0)) 93,_,_,_,_]:=hM;obtain⟨u1,hu1⟩:∃z,z=(vL (slp (ac 2)) (((os.take i).filterMap (aFw h q os))++[(y.o.id,((aEY h q os y.o.id).length:Int))]).length (slc (ac 2))):=⟨_,rfl⟩;rw[<-hu1] at hM;rw[aWw hy (aWz (h:=h) ah ab (by rw[aN9 hvm hSh hss hys (gm hy) ab,ai])),hu1] at hM;exact aAi _ (aa _ (by have:=gl hy;omega) (i+1) (vL (slp (ac 2)) (((os.take i).filterMap (aFw h q os))++[(y.o.id,((aEY h q os y.o.id).length:Int))]).length (slc (ac 2))) _ (gl hy) hM rfl)
   · skip
     have hnsh:∀s∈S,s.o.o.id≠y.o.id:=λs hs e=>hsh ⟨s,hs,e⟩;have hls:=aKE hnsh;have hM:=hM.q ((Fr.refl _ _).drew);refine drq [(7,.pointer none)] rfl (fc (ldm 90 0 15 hM rfl rfl) (fc (ldm 9 5 0 hM rfl rfl) (fc (rz2 (lk 90 1 (vS y.o.id) (.pointer none) hM rfl aEi u90_ (aE2 (hob _ (gm hy)).bnd.id) (aG2 _)) hls) f0))) (seg 6 0 [] f0 (drc [(9,vB (aAE y.o.tags q.key).2)] hM (λw5 hM=>(fc (ldm 46 5 5 hM rfl rfl) (fc (ldm 9 0 12 hM rfl rfl) (fc (tcl (aEk (((hob _ (gm hy)).tags.fr (hfB.trans' hM.fr λr hr hg=>absurd hr (Nat.not_lt.2 (hG r hg)))).src) q.key)) f0)))) λw5 hM=>seg 7 2 [(39,vB (aAE y.o.tags q.key).2)] f0 ?_))
     cases ao:(aAE y.o.tags q.key).2 with
     | false =>
      refine seg 3 0 [(16,vI ((i:Int)+1))] (fc (aAP (i:Int) 1 u3_) f0) ?_;have hM:=hM.pick [0,1,2,3,4];replace hM:Mm G w _ [bk fb (fY_ (vL p0 os.length cp0) q (.map (some bs)) (vP xi 0)) 93,_,_,_,_]:=hM;obtain⟨u1,hu1⟩:∃z,z=vo:=⟨_,rfl⟩;rw[<-hu1] at hM;rw[aM2 hy (aM6 (h:=h) (.inl ao)),hu1] at hM;exact aAi _ (aa _ (by have:=gl hy;omega) (i+1) vo _ (gl hy) hM rfl)
     | true =>
      refine seg 7 7 [(44,vB (y.o.kind==3))] (fc (ldm 3 5 1 hM rfl rfl) f0) ?_;cases ad:(y.o.kind==3)
      ·have aq:=ef ad;refine seg 3 0 [(16,vI ((i:Int)+1))] (fc (aAP (i:Int) 1 u3_) f0) ?_;have hM:=hM.pick [0,1,2,3,4];replace hM:Mm G w _ [bk fb (fY_ (vL p0 os.length cp0) q (.map (some bs)) (vP xi 0)) 93,_,_,_,_]:=hM;obtain⟨u1,hu1⟩:∃z,z=vo:=⟨_,rfl⟩;rw[<-hu1] at hM;rw[aM2 hy (aM6 (h:=h) (.inr (.inl ad))),hu1] at hM;exact aAi _ (aa _ (by have:=gl hy;omega) (i+1) vo _ (gl hy) hM rfl)
      have aq:=et ad;refine seg 3 0 [(16,vI ((i:Int)+1))] (fc (aX4 (w:=_)) (fc (aAP (i:Int) 1 u3_) f0)) ?_;have hM:=hM.pick [0,1,2,3,4];replace hM:Mm G w _ [bk fb (fY_ (vL p0 os.length cp0) q (.map (some bs)) (vP xi 0)) 93,_,_,_,_]:=hM;obtain⟨u1,hu1⟩:∃z,z=vo:=⟨_,rfl⟩;rw[<-hu1] at hM;rw[aM2 hy (aM6 (h:=h) (.inr (aLV hvm hSh hnsh (gm hy)))),hu1] at hM;exact aAi _ (aa _ (by have:=gl hy;omega) (i+1) vo _ (gl hy) hM rfl)
  exact aAi _ (aj _ 0 (vL none 0 0) _ (Gg_ _) hM rfl)
def kyK:Bys:=[117,110,109,101,110,116,105,111,110,101,100,95,107,101,121,95,111,102,95,101,118,97,108]
def aGL:Nat->CdR->Bool
  | 0,_=>false
  | h+1,c=>(c.key==kyK)||c.kids.any (aGL h)
theorem aTG {c:CdR}(e:(c.key==([117,110,109,101,110,116,105,111,110,101,100,95,107,101,121,95,111,102,95,101,118,97,108]:Bys))=true):aGL (h+1) c=true:=by
  show((c.key==kyK)||c.kids.any (aGL h))=true;rw[show(c.key==kyK)=true from e];rfl
theorem aTF {c:CdR}{y:CdR}(hy:c.kids[i]?=some y)(e:aGL h y=true):aGL (h+1) c=true:=by
  show((c.key==kyK)||c.kids.any (aGL h))=true;rw[Bool.or_eq_true];exact .inr (List.any_eq_true.2 ⟨y,Ge_ hy,e⟩)
theorem aVL {c:CdR}(e:(c.key==([117,110,109,101,110,116,105,111,110,101,100,95,107,101,121,95,111,102,95,101,118,97,108]:Bys))=false)(hk:∀k y,k<c.kids.length->c.kids[k]?=some y->aGL h y=false):aGL (h+1) c=false:=by
  show((c.key==kyK)||c.kids.any (aGL h))=false;rw[show(c.key==kyK)=false from e,Bool.false_or,List.any_eq_false];intro y hy;obtain⟨k,hl,rfl⟩:=List.mem_iff_getElem.1 hy;rw[hk k _ hl (Gb_ hl)];simp
def aWL (h:Nat):Prop:=∀{c:CdR}{w:World}{B:Nat},CdB w B h c->B<=w.heap.size->Calls Tryz.prog 21 #[vA (cdL c)] w λe w'=>e=.returned (vB (aGL h c))/\Fr nF_ w w'
abbrev bAj (Z:Ending->World->Prop):=AtO Tryz.prog (aAv Tryz.f21) (aAI (bodyPost Tryz.prog Tryz.f21 Z)) [] 20
theorem aQP (ih:aWL h){c:CdR}(hc:CdB w B (h+1) c)(hBw:B<=w.heap.size):Calls Tryz.prog 21 #[.agg (cY_ c)] w λe w'=>e=.returned (vB (aGL (h+1) c))/\Fr nF_ w w':=by
  have hq:=hc.2.2.1.bnd;refine beg Tryz.func21 rfl rfl [(0,.agg (cY_ c))] rfl rfl λZ hZ=>?_;have hM:=Mm.nil nF_ w;refine aAu 0 0 1 [] (cs:=(cY_ c)) (T:=27) (v:=λb=>vP b 0) f0 hM λaa w1 hM=>seg 1 3 [(6,vB (c.key==[117,110,109,101,110,116,105,111,110,101,100,95,107,101,121,95,111,102,95,101,118,97,108]))] (fc (ldm 9 0 1 hM rfl rfl) (fc (seq 9 c.key [117,110,109,101,110,116,105,111,110,101,100,95,107,101,121,95,111,102,95,101,118,97,108]) f0)) ?_;cases ab:(c.key==[117,110,109,101,110,116,105,111,110,101,100,95,107,101,121,95,111,102,95,101,118,97,108])
  rotate_left
  ·exact rt1 2 (vB true) rfl f0 (hZ _ _ ⟨by rw[aTG ab],hM.fr⟩)
  refine seg 4 0 [(3,vI 0)] f0 ?_
  have af:∀(ac:Nat)(i:Nat)(w2:World),i<=c.kids.length->(∀k y,k<i->c.kids[k]?=some y->aGL h y=false)->Mm nF_ w w2 [bk aa (cY_ c) 27]->ac=c.kids.length-i->bAj Z (some (4,0)) [(3,vI (i:Int)),(1,vP aa 0)] w2:=by
   refine aCh λac ag i w2 hi hall hM ak=>seg 4 5 [(11,vB (decide ((i:Int)<(c.kids.length:Int))))] (fc (ldm 25 0 4 hM rfl rfl) f0) ?_;cases ad:(decide ((i:Int)<(c.kids.length:Int)))
   ·have ah:=df ad;exact rt1 2 (vB false) rfl f0 (hZ _ _ ⟨by rw[aVL ab λk z hk=>hall k z oM],hM.fr⟩)
   have ah:=dt ad;obtain⟨y,hy,al,am,ai,aj⟩:=(toP hc.2.2.1 hBw).el (i:=i) oM;refine aAw 6 5 19 [(18,.agg (cY_ y))] (fc (ldm 25 0 4 hM rfl rfl) (fc (ix 25 c.cap ai (gl hy)) (fc (la0 27 hM aj) f0))) hM (ih ((hc.2.2.2 y (gm hy)).g (λ_ h=>h.elim) hM.fr hBw) (Gn_ hBw hM.fr.size)) λw1 hM=>?_;cases ae:(aGL h y)
   ·refine seg 4 0 [(3,vI ((i:Int)+1))] (fc (aAP (i:Int) 1 u3_) f0) (aAi _ (ag _ (by have:=gl hy;omega) (i+1) _ (gl hy) (λk z hk hz=>by rcases Nat.lt_succ_iff_lt_or_eq.1 hk with h|h;exact hall k z h hz;rw[h,hy] at hz;cases hz;exact ae) hM rfl))
   exact rt1 2 (vB true) rfl f0 (hZ _ _ ⟨by rw[aTF hy ae],hM.fr⟩)
  exact aAi _ (af _ 0 _ (Gg_ _) (λ_ _ h=>absurd h (Nat.not_lt_zero _)) hM rfl)
theorem aSm:∀h,aWL h
  | 0=>λhc=>hc.elim
  | h+1=>λhc hBw=>aQP (aSm h) hc hBw
theorem aV1 (a b:Bys×Int):Ft.ok Tryz.prog w (.g2 (λx y =>.binOp .eql 42 x y 42) (.agg #[vS a.1,vI a.2]) (.agg #[vS b.1,vI b.2]) (vB (a==b))):=λo ρ x y ho hx hy=>by
  have e:(a==b)=((a.1==b.1)&&(a.2==b.2)):=rfl
  by_cases q1:a.1=b.1<;>by_cases q2:a.2=b.2<;>simp[execOp,ho,hx,hy,go_sem,Tryz.underlying42,Tryz.underlying41,u9_,u3_,e,aAF,q1,q2]
abbrev bAk (Z:Ending->World->Prop):=AtO Tryz.prog (aAv Tryz.f13) (aAI (bodyPost Tryz.prog Tryz.f13 Z)) [] 18
theorem aJR {p:Option Addr}{cap:Nat}{L:List (Bys×Int)}(hs:SrcP rwL 2 w p cap L)(z:Bys×Int):Calls Tryz.prog 13 #[vL p L.length cap,.agg #[vS z.1,vI z.2]] w λe w'=>e=.returned (vB (decide (z∈L)))/\Fr nF_ w w':=by
  have bb:=hs.bnd;refine beg Tryz.func13 rfl rfl [(0,vL p L.length cap),(1,.agg #[vS z.1,vI z.2])] rfl rfl λZ hZ=>?_;have hM:=Mm.nil nF_ w;refine aAu 0 0 3 [] (cs:=#[vS z.1,vI z.2]) (T:=42) (v:=λb=>vP b 0) f0 hM λaa w1 hM=>seg 2 0 [(5,vI 0)] f0 ?_
  have ae:∀(ab:Nat)(i:Nat)(w2:World),i<=L.length->(∀k y,k<i->L[k]?=some y->¬y=z)->Mm nF_ w w2 [bk aa #[vS z.1,vI z.2] 42]->ab=L.length-i->bAk Z (some (2,0)) [(5,vI (i:Int)),(3,vP aa 0),(0,vL p L.length cap)] w2:=by
   refine aCh λab af i w2 hi hall hM aj=>seg 2 4 [(9,vB (decide ((i:Int)<(L.length:Int))))] f0 ?_;cases ac:(decide ((i:Int)<(L.length:Int)))
   ·have ag:=df ac;exact rt1 4 (vB false) rfl f0 (hZ _ _ ⟨by rw[decide_eq_false λhz=>by obtain⟨k,hk,e⟩:=List.mem_iff_getElem.1 hz;exact hall k z oM (by rw[Gb_ hk,e]) rfl],hM.fr⟩)
   have ag:=dt ac;refine seg 4 0 [] f0 ?_;have hM:=hM.q ((Fr.refl _ _).drew);obtain⟨y,hy,ak,al,ah,ai⟩:=hs.el (i:=i) oM;refine drq [(17,vB (y==z))] rfl (fc (ix 36 cap ah (gl hy)) (fc (la0 42 hM ai) (fc (lam 42 0 0 2 hM rfl) (fc (aV1 y z) f0)))) ?_;cases ad:(y==z)
   ·refine seg 2 0 [(5,vI ((i:Int)+1))] (fc (aAP (i:Int) 1 u3_) f0) (aAi _ (af _ (by have:=gl hy;omega) (i+1) _ (gl hy) (λk u hk hu=>by rcases Nat.lt_succ_iff_lt_or_eq.1 hk with h|h;exact hall k u h hu;rw[h,hy] at hu;cases hu;exact ef ad) hM rfl))
   exact rt1 4 (vB true) rfl f0 (hZ _ _ ⟨by rw[decide_eq_true (by rw[<-et ad];exact gm hy)],hM.fr⟩)
  exact aAi _ (ae _ 0 _ (Gg_ _) (λ_ _ h=>absurd h (Nat.not_lt_zero _)) hM rfl)
structure Tg (φ:ObR->ObR):Prop where
 id:∀b,(φ b).o.id=b.o.id
 kind:∀b,(φ b).o.kind=b.o.kind
 x:∀b,(φ b).o.x=b.o.x
 y:∀b,(φ b).o.y=b.o.y
 refs:∀b,(φ b).o.refs=b.o.refs
section
variable{φ:ObR->ObR}(T:Tg φ) 
include T
theorem Tg.find (id:Bys):aAr (aAa (os.map φ)) id=aAr (aAa os) id:=by
 unfold aAr aAa;rw[List.map_map,List.findIdx?_map,List.findIdx?_map]
 have:((λo:Ob=>o.id==id)∘((λb:ObR=>b.o)∘φ))=((λo:Ob=>o.id==id)∘λb:ObR=>b.o):=funext λb=>by
  show((φ b).o.id==id)=(b.o.id==id);rw[T.id]
 rw[this]
theorem Tg.ptOf (s:Bys):ptOf (aAa (os.map φ)) s=ptOf (aAa os) s:=by
 unfold Go.Proofs.YtngjlnhojicjeaaGreatDoor.ptOf;rw[T.find];unfold aAa;rw[List.map_map,Gr_,Gr_]
 cases os[(aAr (os.map (·.o)) s).toNat]? with
 | none=>rfl
 | some b =>
  show(bif _ || !((φ b).o.kind==1) then none else some ((φ b).o.x,(φ b).o.y))=(bif _ || !(b.o.kind==1) then none else some (b.o.x,b.o.y));rw[T.kind,T.x,T.y]
theorem Tg.pts (hv:aAh (aAa os)=true)(hv2:aAh (aAa (os.map φ))=true)(s:Bys):aAd (aAa (os.map φ)) s=aAd (aAa os) s:=by
 have hO:∀b:ObR,aA3 (aAa (os.map φ)) (φ b).o=aA3 (aAa os) b.o:=λb=>by
  unfold aA3;rw[T.kind,T.x,T.y,T.refs];simp only[T.ptOf]
 unfold aAd;rw[hv,hv2,T.find];have e:(aAa (os.map φ))[(aAr (aAa os) s).toNat]?=(os[(aAr (aAa os) s).toNat]?).map λb=>(φ b).o:=by unfold aAa;rw[List.map_map,Gr_];rfl
 have e2:(aAa os)[(aAr (aAa os) s).toNat]?=(os[(aAr (aAa os) s).toNat]?).map λb=>b.o:=by unfold aAa;rw[Gr_]
 rw[e,e2]
 cases os[(aAr (aAa os) s).toNat]? with
 | none=>rfl
 | some b =>
  show(bif !true then _ else bif decide (aAr (aAa os) s<0) then _ else aA3 (aAa (os.map φ)) (φ b).o)=(bif !true then _ else bif decide (aAr (aAa os) s<0) then _ else aA3 (aAa os) b.o);rw[hO]
theorem Tg.ob (id:Bys):obF (os.map φ) id=(obF os id).map φ:=by
 unfold obF;rw[List.find?_map];congr 2;exact funext λb=>by show((φ b).o.id==id)=(b.o.id==id);rw[T.id]
theorem Tg.nd (r:Bys):ndA (os.map φ) r=ndA os r:=by
 unfold ndA;rw[T.ob]
 cases obF os r with
 | none=>rfl
 | some b =>
  show(bif (φ b).o.kind==1 then some ((φ b).o.x,(φ b).o.y) else none)=(bif b.o.kind==1 then some (b.o.x,b.o.y) else none);rw[T.kind,T.x,T.y]
theorem Tg.ring (b:ObR):aBf (os.map φ) (φ b)=aBf os b:=by
 have e:rgL (os.map φ) (φ b)=rgL os b:=by unfold rgL;rw[T.refs];simp only[T.nd]
 unfold aBf;rw[e,T.kind,T.refs];simp only[T.nd]
theorem Tg.ndG {f g:ObR->List (Pt×Bool)}(h:∀b,f (φ b)=g b){o o2:Ob}(ho:∀i,aC4 o2 i=aC4 o i):∀(rs:List Bys)(i:Nat),ndG (os.map φ) f o2 rs i=ndG os g o rs i
 | [],_=>rfl
 | r::rs,i=>by
  unfold Go.Proofs.YtngjlnhojicjeaaGreatDoor.ndG;rw[T.ob]
  cases obF os r with
  | none=>rfl
  | some b =>
   show(bif (φ b).o.kind==aC4 o2 (i:Int) then f (φ b)++_ else _)=(bif b.o.kind==aC4 o (i:Int) then g b++_ else _);rw[T.kind,ho,h,Tg.ndG h ho rs (i+1)]
theorem Tg.ndN:∀(d:Nat)(b:ObR),ndN (os.map φ) d (φ b)=ndN os d b
 | 0,_=>rfl
 | d+1,b=>by
  show(bif (φ b).o.kind==1 then[(((φ b).o.x,(φ b).o.y),true)] else Go.Proofs.YtngjlnhojicjeaaGreatDoor.ndG (os.map φ) (Go.Proofs.YtngjlnhojicjeaaGreatDoor.ndN (os.map φ) d) (φ b).o (φ b).o.refs 0)=(bif b.o.kind==1 then[((b.o.x,b.o.y),true)] else Go.Proofs.YtngjlnhojicjeaaGreatDoor.ndG os (Go.Proofs.YtngjlnhojicjeaaGreatDoor.ndN os d) b.o b.o.refs 0);rw[T.kind,T.x,T.y,T.refs,T.ndG (λb=>Tg.ndN d b) (o:=b.o) (λi=>by unfold aC4;rw[T.kind])]
theorem Tg.inP (id ar:Bys):inP (os.map φ) id ar=inP os id ar:=by
 unfold Go.Proofs.YtngjlnhojicjeaaGreatDoor.inP;rw[T.ob,T.ob]
 have e:((obF os ar).map φ).bind (aBf (os.map φ))=(obF os ar).bind (aBf os):=by
  cases obF os ar with
  | none=>rfl
  | some b=>exact T.ring b
 rw[e]
 cases obF os id with
 | none=>rfl
 | some b =>
  cases(obF os ar).bind (aBf os) with
  | none=>rfl
  | some r=>show(ndP (os.map φ) (φ b)).all (aJb r)=(ndP os b).all (aJb r);unfold ndP;rw[T.ndN]
end
theorem aPv {α:Type}{f g:α->Bool}:∀{L:List α},(∀x∈L,f x=g x)->L.any f=L.any g
 | [],_=>rfl
 | a::L,h=>by rw[List.any_cons,List.any_cons,h a (.head _),aPv λx hx=>h x (.tail _ hx)]
theorem aLj {t t2:List Tag}(ht:∀k,¬k=kyK->aAE t2 k=aAE t k):∀(h:Nat)(c:CdR),aGL h c=false->aAD t2 h c=aAD t h c
 | 0,_,_=>rfl
 | h+1,c,hm=>by
  have hm2:((c.key==kyK)||c.kids.any (aGL h))=false:=hm;rw[Bool.or_eq_false_iff] at hm2;have hk:aAE t2 c.key=aAE t c.key:=ht c.key λe=>by rw[e] at hm2;simp at hm2
  have hkid:∀k∈c.kids,aAD t2 h k=aAD t h k:=λk hk=>aLj ht h k (by have:=List.any_eq_false.1 hm2.2 k hk;simpa using this);have h1:(c.kids.any λk => !(aAD t2 h k))=c.kids.any λk => !(aAD t h k):=aPv λk hk=>by rw[hkid k hk]
  have h2:c.kids.any (aAD t2 h)=c.kids.any (aAD t h):=aPv hkid;rw[aAp,aAp,hk,h1,h2]
theorem aRC {φ:ObR->ObR}(T:Tg φ){b:ObR}(ht:∀k,¬k=kyK->aAE (φ b).o.tags k=aAE b.o.tags k){q:QdR}(hm:aGL h q.wh=false):aA2 h q (φ b)=aA2 h q b:=by
 unfold aA2 aCK;rw[T.kind,aLj ht h q.wh hm]
theorem aRo {α β:Type}{f g:α->Option β}:∀{L:List α},(∀x∈L,f x=g x)->L.filterMap f=L.filterMap g
 | [],_=>rfl
 | a::L,h=>by rw[List.filterMap_cons,List.filterMap_cons,h a (.head _),aRo λx hx=>h x (.tail _ hx)]
section
variable{φ:ObR->ObR}(T:Tg φ){q:QdR}(hv:aAh (aAa os)=true)(hv2:aAh (aAa (os.map φ))=true)(ha:∀b∈os,aA2 h q (φ b)=aA2 h q b)
include T
include ha in
theorem Tg.all:aDy h q (os.map φ)=aDy h q os:=by
 unfold aDy;rw[List.filter_map,List.map_map];have e:os.filter (aA2 h q∘φ)=os.filter (aA2 h q):=List.filter_congr λb hb=>ha b hb;rw[e];exact List.map_congr_left λb _=>by show((φ b).o.id,(0:Int))=(b.o.id,0);rw[T.id]
include ha in
theorem Tg.ins (a:Bys):aEY h q (os.map φ) a=aEY h q os a:=by
 unfold aEY;rw[T.all ha];exact List.filter_congr λx _=>by rw[T.inP]
include ha in
theorem Tg.cnt (ht:∀b∈os,aAE (φ b).o.tags q.key=aAE b.o.tags q.key):aR2 h q (os.map φ)=aR2 h q os:=by
 rw[aOS,aOS,List.filterMap_map];refine aRo λb hb=>?_;show aFw h q (os.map φ) (φ b)=aFw h q os b;unfold aFw;rw[ht b hb,T.kind,T.ring,T.id,T.ins ha]
include hv hv2
theorem Tg.mkS:mkS (os.map φ)=(mkS os).map λs=>mk0 (φ s.o):=by
 unfold Go.Proofs.YtngjlnhojicjeaaGreatDoor.mkS;rw[List.filter_map,List.map_map,List.map_map]
 have e:os.filter ((λb:ObR=>(aAd (aAa (os.map φ)) b.o.id).1==0)∘φ)=os.filter λb=>(aAd (aAa os) b.o.id).1==0:=List.filter_congr λb _=>by
  show((aAd (aAa (os.map φ)) (φ b).o.id).1==0)=((aAd (aAa os) b.o.id).1==0);rw[T.id,T.pts hv hv2]
 rw[e];rfl
theorem Tg.P (b:ObR):(mk0 (φ b)).P (aAa (os.map φ))=(mk0 b).P (aAa os):=by
 show(aAd (aAa (os.map φ)) (φ b).o.id).2=(aAd (aAa os) b.o.id).2;rw[T.id,T.pts hv hv2]
theorem Tg.L (b:ObR):(mk0 (φ b)).L (aAa (os.map φ))=(mk0 b).L (aAa os):=by
 show aEX (φ b).o.kind ((mk0 (φ b)).P (aAa (os.map φ)))=aEX b.o.kind ((mk0 b).P (aAa os));rw[T.kind,T.P hv hv2]
theorem Tg.ar (b:ObR)(z:Pt):arP (aAa (os.map φ)) (mk0 (φ b)) z=arP (aAa os) (mk0 b) z:=by
 unfold arP;rw[T.P hv hv2,show(mk0 (φ b)).o.o.kind=(mk0 b).o.o.kind from T.kind b]
theorem Tg.sq (b:ObR)(z:Pt):sqP (aAa (os.map φ)) (mk0 (φ b)) z=sqP (aAa os) (mk0 b) z:=by
 unfold sqP;rw[T.ar hv hv2,T.L hv hv2]
theorem Tg.ap (b u:ObR):apP (aAa (os.map φ)) (mk0 (φ b)) (mk0 (φ u))=apP (aAa os) (mk0 b) (mk0 u):=by
 unfold apP;rw[T.ar hv hv2,T.L hv hv2,T.L hv hv2,T.P hv hv2,T.P hv hv2,T.sq hv hv2]
include ha
theorem Tg.along:aC8 h q (os.map φ)=aC8 h q os:=by
 unfold aC8;rw[List.find?_map]
 have e:((λb:ObR=>(b.o.id==q.id)&&((aAd (aAa (os.map φ)) b.o.id).1==0))∘φ)=λb:ObR=>(b.o.id==q.id)&&((aAd (aAa os) b.o.id).1==0):=funext λb=>by
  show(((φ b).o.id==q.id)&&((aAd (aAa (os.map φ)) (φ b).o.id).1==0))=_;rw[T.id,T.pts hv hv2]
 rw[e]
 cases os.find? λb=>(b.o.id==q.id)&&((aAd (aAa os) b.o.id).1==0) with
 | none=>rfl
 | some u =>
  show aEy (aAa (os.map φ)) h q (Go.Proofs.YtngjlnhojicjeaaGreatDoor.mkS (os.map φ)) (mk0 (φ u))=aEy (aAa os) h q (Go.Proofs.YtngjlnhojicjeaaGreatDoor.mkS os) (mk0 u);unfold aEy;rw[T.mkS hv hv2,List.filterMap_map];refine aRo λs hs=>?_;obtain⟨b,hb,rfl⟩:=List.mem_map.1 hs;show alR (aAa (os.map φ)) h q (mk0 (φ u)) (mk0 (φ b))=alR (aAa os) h q (mk0 u) (mk0 b);unfold alR;rw[T.ap hv hv2,show(mk0 (φ b)).o.o.id=(mk0 b).o.o.id from T.id b,show aA2 h q (mk0 (φ b)).o=aA2 h q (mk0 b).o from ha b (List.mem_filter.1 hb).1]
theorem Tg.near:aFR h q (os.map φ)=aFR h q os:=by
 unfold aFR aGx;rw[T.mkS hv hv2,List.filterMap_map]
 have e:(Go.Proofs.YtngjlnhojicjeaaGreatDoor.mkS os).filterMap (cdR (aAa (os.map φ)) h q (q.x,q.y)∘λs=>mk0 (φ s.o))=(Go.Proofs.YtngjlnhojicjeaaGreatDoor.mkS os).filterMap (cdR (aAa os) h q (q.x,q.y)):=aRo λs hs=>by
  obtain⟨b,hb,rfl⟩:=List.mem_map.1 hs;show cdR (aAa (os.map φ)) h q (q.x,q.y) (mk0 (φ b))=cdR (aAa os) h q (q.x,q.y) (mk0 b);unfold cdR;rw[T.sq hv hv2,show(mk0 (φ b)).o.o.id=(mk0 b).o.o.id from T.id b,show aA2 h q (mk0 (φ b)).o=aA2 h q (mk0 b).o from ha b (List.mem_filter.1 hb).1]
 rw[e]
end
theorem Tg.kindI {φ:ObR->ObR}(T:Tg φ)(id:Bys):kindI (os.map φ) id=kindI os id:=by
 unfold Go.Proofs.YtngjlnhojicjeaaGreatDoor.kindI;rw[T.find,Gr_]
 cases os[(aAr (aAa os) id).toNat]? with
 | none=>rfl
 | some b=>exact T.kind b
theorem Tg.check {φ:ObR->ObR}(T:Tg φ){q:QdR}(hv:aAh (aAa os)=true)(hv2:aAh (aAa (os.map φ))=true):aAn h (os.map φ) q=aAn h os q:=by
 unfold aAn;rw[hv,hv2,T.find,T.kindI]
def kdQ (q:QdR)(k:Int):QdR:={ q with kind:=k }
def upB (h:Nat)(q:QdR)(m:Nat)(b:ObR):Bool:=(decide (b.o.kind<=(m:Int))&&decide (1<=b.o.kind))&&aCK h q.wh b.o.tags
def upK (h:Nat)(q:QdR)(os:List ObR)(m:Nat):Nat:=(os.filter (upB h q m)).length
theorem aSQ (h:Nat)(q:QdR)(os:List ObR):upK h q os 0=0:=by
 unfold upK;rw[List.length_eq_zero_iff,List.filter_eq_nil_iff];intro b _ e;unfold upB at e;simp only[Ga_,decide_eq_true_eq] at e;omega
theorem aMS (h:Nat)(q:QdR)(m:Nat):∀os:List ObR,upK h q os (m+1)=upK h q os m+(aDy h (kdQ q ((m+1:Nat):Int)) os).length
 | []=>rfl
 | b::os=>by
  have ih:=aMS h q m os;unfold upK aDy at ih ⊢;rw[Gp_] at ih ⊢
  have e:aA2 h (kdQ q ((m+1:Nat):Int)) b=(decide (b.o.kind=((m+1:Nat):Int))&&aCK h q.wh b.o.tags):=by
   unfold aA2;show(((((m+1:Nat):Int)==0)||(((m+1:Nat):Int)==b.o.kind))&&aCK h q.wh b.o.tags)=_;rw[show(((m+1:Nat):Int)==0)=false from by rw[Gt_];omega,Bool.false_or];congr 1
   by_cases h1:b.o.kind=((m+1:Nat):Int)
   ·rw[decide_eq_true h1,h1];exact beq_self_eq_true _
   ·rw[decide_eq_false h1,Gt_];exact λh2=>h1 h2.symm
  have h3:upB h q (m+1) b=(upB h q m b||aA2 h (kdQ q ((m+1:Nat):Int)) b)/\¬(upB h q m b=true/\aA2 h (kdQ q ((m+1:Nat):Int)) b=true):=by
   rw[e];unfold upB
   cases aCK h q.wh b.o.tags with
   | false=>simp
   | true =>
    simp only[Bool.and_true];constructor
    ·rw[Bool.eq_iff_iff];simp only[Ga_,Bool.or_eq_true,decide_eq_true_eq];omega
    ·simp only[Ga_,decide_eq_true_eq];omega
  rw[List.filter_cons,List.filter_cons,List.filter_cons];rw[h3.1];have h6:=h3.2;cases h4:upB h q m b<;>cases h5:aA2 h (kdQ q ((m+1:Nat):Int)) b
  ·simp only[Bool.or_false,Bool.false_eq_true,if_false];exact ih
  ·simp only[Bool.or_true,Bool.false_eq_true,if_false,if_true,Gf_];omega
  ·simp only[Bool.or_false,Bool.false_eq_true,if_false,if_true,Gf_];omega
  ·exact absurd ⟨h4,h5⟩ h6
theorem aVg {q:QdR}(hk:q.kind=0):∀{os:List ObR},(∀b∈os,1<=b.o.kind/\b.o.kind<=5)->upK h q os 5=(aDy h q os).length:=λ{os} hb=>by
 unfold upK aDy;rw[Gp_];congr 1;refine List.filter_congr λb hm=>?_;have:=hb b hm;unfold upB aA2;rw[hk,decide_eq_true oM,decide_eq_true oM];rfl
theorem aVV {q:QdR}(hk:q.kind=0){k:Int}:∀x∈aDy h (kdQ q k) os,x∈aDy h q os:=λx hx=>by
 obtain⟨b,hb,rfl⟩:=List.mem_map.1 hx;obtain⟨h1,h2⟩:=List.mem_filter.1 hb;refine List.mem_map.2 ⟨b,List.mem_filter.2 ⟨h1,?_⟩,rfl⟩;unfold aA2 at h2 ⊢;rw[Ga_] at h2;rw[hk];show((((0:Int)==0)||_)&&_)=true;rw[show((0:Int)==0)=true from rfl,Bool.true_or,Bool.true_and];exact h2.2
theorem aQX (hv:aAh (aAa os)=true):∀b∈os,1<=b.o.kind/\b.o.kind<=5:=λb hb=>by
 have h9:=aCo hv _ (List.mem_map.2 ⟨b,hb,rfl⟩);unfold aA1 at h9;simp only[Ga_] at h9;have hw:=h9.1.1.1.1.1.1;have h1:=aMM (k:=b.o.kind) (by simpa using hw);have h0:¬b.o.kind=0:=λe=>by rw[e] at hw;revert hw;decide
 omega
theorem aVW {q:QdR}(hask:q.ask=1)(hc:aAn h os q=0){k:Int}(h1:1<=k)(h5:k<=5):aAn h os (kdQ q k)=0:=by
 obtain⟨hvq,hvm,-,-⟩:=aEs hc
 have hv2:aAU h (kdQ q k)=true:=by
  unfold aAU at hvq ⊢;simp only[Ga_] at hvq ⊢;refine⟨⟨⟨?_,?_⟩,hvq.1.2⟩,hvq.2⟩
  ·show(!decide (k<0))=true;simp;omega
  ·show(!decide (6<=k))=true;simp;omega
 have hn:aBC (kdQ q k)=0:=by unfold aBC;rw[show(kdQ q k).ask=1 from hask];rfl
 unfold aAn;rw[hv2,hvm,hn];rfl
theorem aEj {t:Tag}{k:Bys}(h:¬t.1=k)(l:List Tag):aAE (t::l) k=aAE l k:=by
 show(bif t.1==k then(t.2,true) else aAE l k)=aAE l k;rw[beq_eq_false_iff_ne.2 h];rfl
theorem aO4 {t:Tag}{k:Bys}(h:¬t.1=k):∀(l:List Tag)(i:Nat),aAE (l.take i++t::l.drop i) k=aAE l k
 | l,0=>aEj h l
 | [],i+1=>by rw[List.take_nil,List.drop_nil];exact aEj h []
 | a::l,i+1=>by
  show(bif a.1==k then(a.2,true) else aAE (l.take i++t::l.drop i) k)=(bif a.1==k then(a.2,true) else aAE l k);rw[aO4 h l i]
theorem aO5 {k:Bys}:∀(l:List Tag)(i:Nat){t:Tag},l[i]?=some t->¬t.1=k->aAE (l.take i++l.drop (i+1)) k=aAE l k
 | a::l,0,t,hi,h=>by cases hi;exact(aEj h l).symm
 | a::l,i+1,t,hi,h=>by
  show(bif a.1==k then(a.2,true) else aAE (l.take i++l.drop (i+1)) k)=(bif a.1==k then(a.2,true) else aAE l k);rw[aO5 l i hi h]
theorem aO3 {k:Bys}{t2:Tag}(h2:¬t2.1=k):∀(l:List Tag)(i:Nat){t:Tag},l[i]?=some t->¬t.1=k->aAE (l.set i t2) k=aAE l k
 | a::l,0,t,hi,h=>by cases hi;rw[aEj h];exact aEj h2 l
 | a::l,i+1,t,hi,h=>by
  show(bif a.1==k then(a.2,true) else aAE (l.set i t2) k)=(bif a.1==k then(a.2,true) else aAE l k);rw[aO3 h2 l i hi h]
theorem aTe (hp:(os.map (·.o.id)).Nodup){b o:ObR}(hb:os[k]?=some b):os.set k o=os.map λc=>if c.o.id=b.o.id then o else c:=by
 apply List.ext_getElem?;intro i;rw[Gr_,List.getElem?_set]
 by_cases h:k=i
 ·subst h;rw[if_pos rfl,if_pos (gl hb),hb];simp
 ·rw[if_neg h]
  cases hi:os[i]? with
  | none=>rfl
  | some c =>
   have:¬c.o.id=b.o.id:=λe=>by
    have h1:(os.map (·.o.id))[i]?=some c.o.id:=by rw[Gr_,hi];rfl
    have h2:(os.map (·.o.id))[k]?=some b.o.id:=by rw[Gr_,hb];rfl
    obtain⟨q1,e1⟩:=List.getElem?_eq_some_iff.1 h1;obtain⟨q2,e2⟩:=List.getElem?_eq_some_iff.1 h2;rcases Nat.lt_trichotomy k i with h9|h9|h9
    ·exact List.pairwise_iff_getElem.1 hp k i q2 q1 h9 (e2.trans (e.symm.trans e1.symm))
    ·exact h h9
    ·exact List.pairwise_iff_getElem.1 hp i k q1 q2 h9 (e1.trans (e.trans e2.symm))
   show some c=some (if c.o.id=b.o.id then o else c);rw[if_neg this]
theorem aF4 (t:Tag)(k:Bys):Calls Tryz.prog 43 #[.agg #[vS t.1,vS t.2],vS k] w λe w'=>e=.returned (vI (Lib.compareBytes t.1 k))/\Fr nF_ w w':=by
  refine beg Tryz.func43 rfl rfl [(0,.agg #[vS t.1,vS t.2]),(1,vS k)] rfl rfl λZ hZ=>?_;have hM:=Mm.nil nF_ w;refine aAu 0 0 2 [] (cs:=#[vS t.1,vS t.2]) (T:=72) (v:=λb=>vP b 0) f0 hM λaa w1 hM=>aAw 1 3 8 [(6,vS t.1),(7,vS k)] (fc (ldm 9 0 0 hM rfl rfl) f0) hM (aEK t.1 k _) λw1 hM=>rt1 4 (vI (Lib.compareBytes t.1 k)) rfl f0 (hZ _ _ ⟨rfl,hM.fr⟩)
abbrev bAi (Z:Ending->World->Prop):=AtO Tryz.prog (aAv Tryz.f42) (aAI (bodyPost Tryz.prog Tryz.f42 Z)) [] 49
theorem aPi {p:Option Addr}{cap:Nat}{L:List Tag}(hs:SrcP tgL 2 w p cap L)(hlen:L.length<=400000000)(s:Bys):Calls Tryz.prog 42 #[vL p L.length cap,vS s,.func (.func 43) #[] #[]] w λe w'=>∃(i:Nat)(b:Bool),e=.returned (.tuple #[vI (i:Int),vB b])/\i<=L.length/\(b=true->∃t,L[i]?=some t/\t.1=s)/\Fr nF_ w w':=by
  refine beg Tryz.func42 rfl rfl [(0,vL p L.length cap),(1,vS s),(2,.func (.func 43) #[] #[])] rfl rfl λZ hZ=>?_;have hM:=Mm.nil nF_ w;refine seg 3 0 [(8,vI (L.length:Int)),(9,vI 0),(10,vI (L.length:Int))] f0 ?_
  have ae:∀(aa:Nat)(i:Nat)(j:Nat)(w2:World),i<=j->j<=L.length->Mm nF_ w w2 []->aa=j-i->bAi Z (some (3,0)) [(10,vI (j:Int)),(9,vI (i:Int)),(8,vI (L.length:Int)),(0,vL p L.length cap),(1,vS s),(2,.func (.func 43) #[] #[])] w2:=by
   refine aCh λaa ab i j w2 hij hjl hM al=>seg 3 3 [(17,vB (decide ((i:Int)<(j:Int))))] f0 ?_;cases ac:(decide ((i:Int)<(j:Int)))
   ·have af:=df ac;refine seg 8 5 [(35,vI (i:Int)),(39,vB (decide ((i:Int)<(L.length:Int))))] f0 ?_;cases ad:(decide ((i:Int)<(L.length:Int)))
    ·have ag:=df ad;exact rt2 6 7 (vI (i:Int)) (vB false) rfl rfl f0 (hZ _ _ ⟨i,_,rfl,by omega,(λh=>by cases h),hM.fr⟩)
    have ag:=dt ad;obtain⟨z,hz,am,an,ah,ai⟩:=hs.el (i:=i) oM;refine aAw 8 11 46 [(40,.func (.func 43) #[] #[]),(44,.agg #[vS z.1,vS z.2]),(45,vS s)] (fc (ix 46 cap ah (gl hz)) (fc (la0 72 hM ai) f0)) hM (aF4 z s) λw1 hM=>rt2 6 7 (vI (i:Int)) (vB ((Lib.compareBytes z.1 s)==0)) rfl rfl f0 (hZ _ _ ⟨i,_,rfl,by omega,(λh=>⟨z,hz,eq_of_beq (by rw[<-aHG];exact h)⟩),hM.fr⟩)
   have af:=dt ac;obtain⟨y,hy,ao,aq,aj,ak⟩:=hs.el (i:=((i+j) / 2)) oM;refine aAw 5 6 30 [(11,vI ((((i+j) / 2:Nat)):Int)),(24,.func (.func 43) #[] #[]),(28,.agg #[vS y.1,vS y.2]),(29,vS s)] (fc (aAP (i:Int) (j:Int) u3_) (fc (tou 139 ((i:Int)+(j:Int)) oM oM) (fc (aSV 139 (i+j) oM) (fc (toi 139 ((((i+j) / 2:Nat)):Int) oM oM) (fc (ix 46 cap aj (gl hy)) (fc (la0 72 hM ak) f0)))))) hM (aF4 y s) λw1 hM=>seg 5 8 [(31,vB (decide ((Lib.compareBytes y.1 s)<0)))] f0 ?_;cases au:(decide ((Lib.compareBytes y.1 s)<0))
   ·refine seg 3 0 [(10,vI ((((i+j) / 2:Nat)):Int))] f0 (aAi _ (ab _ oM i ((i+j) / 2) _ oM oM hM rfl))
   refine seg 3 0 [(9,vI (((((i+j) / 2:Nat)):Int)+1))] (fc (aAP ((((i+j) / 2:Nat)):Int) 1 u3_) f0) (aAi _ (ab _ oM ((i+j) / 2+1) j _ oM oM hM rfl))
  exact aAi _ (ae _ 0 L.length _ (Gg_ _) (Gj_ _) hM rfl)
theorem aXn (p:Option Addr)(n c:Nat) :Ft.ok Tryz.prog w (.g2 (λx y =>.binOp .eql 46 x y 46) (vL p n c) (vL none 0 0) (vB p.isNone)):=λo ρ x y ho hx hy=>by
  have:=Lib.run_eql_slice_nil (P:=Tryz.prog) w 46 72 p n c 0 0 u46_;simp only[execOp,ho,hx,hy,go_sem] at this ⊢;simp[this,Result.andThen]
theorem aIO {p:Option Addr}{cap:Nat}{L:List Tag}(hs:SrcP tgL 2 w p cap L)(hl:L.length<=1000000):Calls Tryz.prog 45 #[vL p L.length cap] w λe w'=>∃u,e=.returned u/\Mm nF_ w w' [rw_ tgL 2 72 u L]:=by
  refine beg Tryz.func45 rfl rfl [(0,vL p L.length cap)] rfl rfl λZ hZ=>?_;have hM:=Mm.nil nF_ w;refine seg 1 2 [(4,vB p.isNone)] (fc (aXn p L.length cap) f0) ?_
  cases aa:p.isNone with
  | false =>
   refine aAu 3 0 5 [] (cs:=#[]) (T:=72) (v:=λb=>vL (some ⟨b,0,none⟩) 0 0) f0 hM λae w1 hM=>?_;have hM:=aH4 hM (f:=tgL) (c:=2) (j:=0) rfl [] 0 rfl rfl rfl;refine aU6 3 2 7 [(6,vL p L.length cap)] (cap:=cap) dE tgT f0 hM (j:=0) rfl (hs.fr hM.fr).at_ hs.nil (by simp only[Gm_];omega) λaf w1 hM=>?_;obtain⟨ab,ac,ad,-⟩:=(hM.src (j:=0) rfl tgT.len).op;subst ad;exact rt1 2 (vL ab ([]++L).length ac) rfl f0 (hZ _ _ ⟨_,rfl,hM.pick [0]⟩)
  | true =>
   have hp:p=none:=by simpa using aa
   have hL:L=[]:=List.eq_nil_of_length_eq_zero (by have:=hs.le;have:=hs.nil hp;omega);exact rt1 2 (vL none 0 0) rfl f0 (hZ _ _ ⟨_,rfl,by rw[hL];exact(hM.pick (M':=[]) []).row⟩)
theorem aXK (p:Option Addr)(n c:Nat) :Ft.ok Tryz.prog w (.g2 (λx y =>.binOp .eql 22 x y 22) (vL p n c) (vL none 0 0) (vB p.isNone)):=λo ρ x y ho hx hy=>by
  have:=Lib.run_eql_slice_nil (P:=Tryz.prog) w 22 48 p n c 0 0 u22_;simp only[execOp,ho,hx,hy,go_sem] at this ⊢;simp[this,Result.andThen]
theorem aIP {p:Option Addr}{cap:Nat}{L:List ObR}(hs:SrcP obL 6 w p cap L)(hl:L.length<=1000000):Calls Tryz.prog 51 #[vL p L.length cap] w λe w'=>∃u,e=.returned u/\Mm nF_ w w' [rw_ obL 6 48 u L]:=by
  refine beg Tryz.func51 rfl rfl [(0,vL p L.length cap)] rfl rfl λZ hZ=>?_;have hM:=Mm.nil nF_ w;refine seg 1 2 [(4,vB p.isNone)] (fc (aXK p L.length cap) f0) ?_
  cases aa:p.isNone with
  | false =>
   refine aAu 3 0 5 [] (cs:=#[]) (T:=48) (v:=λb=>vL (some ⟨b,0,none⟩) 0 0) f0 hM λae w1 hM=>?_;have hM:=aH4 hM (f:=obL) (c:=6) (j:=0) rfl [] 0 rfl rfl rfl;refine aU6 3 2 7 [(6,vL p L.length cap)] (cap:=cap) dE obT f0 hM (j:=0) rfl (hs.fr hM.fr).at_ hs.nil (by simp only[Gm_];omega) λaf w1 hM=>?_;obtain⟨ab,ac,ad,-⟩:=(hM.src (j:=0) rfl obT.len).op;subst ad;exact rt1 2 (vL ab ([]++L).length ac) rfl f0 (hZ _ _ ⟨_,rfl,hM.pick [0]⟩)
  | true =>
   have hp:p=none:=by simpa using aa
   have hL:L=[]:=List.eq_nil_of_length_eq_zero (by have:=hs.le;have:=hs.nil hp;omega);exact rt1 2 (vL none 0 0) rfl f0 (hZ _ _ ⟨_,rfl,by rw[hL];exact(hM.pick (M':=[]) []).row⟩)
theorem aMA (hm:aCt w (vL p0 os.length cp0) os)(hlen2:os.length<=1000000){o:ObR}(ho:ObIn w o)(hin:¬aAr (aAa os) o.o.id<0)(hk:aAr (aAa os) o.o.id=(k:Int))(hkl:k<os.length):Calls Tryz.prog 20 #[.agg #[vL p0 os.length cp0],vA (obL o)] w λe w'=>∃u,e=.returned (.tuple #[.agg #[u],vI (bif (aAh (aAa os)&&aA1 o.o) then 0 else 1)])/\Mm nF_ w w' [rw_ obL 6 48 u (bif (aAh (aAa os)&&aA1 o.o) then os.set k o else[])]:=by
  have hm0:=hm;obtain⟨hs0,hob⟩:=hm0;have hm0:=hm;have hlen:os.length<=400000000:=by omega
  refine beg Tryz.func20 rfl rfl [(0,.agg #[vL p0 os.length cp0]),(1,.agg (oY_ o))] rfl rfl λZ hZ=>?_;have hM:=Mm.nil nF_ w;refine aAu 0 0 2 [] (cs:=#[vL p0 os.length cp0]) (T:=24) (v:=λb=>vP b 0) f0 hM λai w1 hM=>aAu 0 1 3 [] (cs:=(oY_ o)) (T:=48) (v:=λb=>vP b 0) f0 hM λaj w1 hM=>aAu 0 2 4 [] (cs:=#[vL none 0 0]) (T:=24) (v:=λb=>vP b 0) f0 hM λak w1 hM=>aAu 1 1 10 [(9,.agg #[vL p0 os.length cp0])] (cs:=#[vL p0 os.length cp0]) (T:=24) (v:=λb=>vL (some ⟨b,0,none⟩) 1 1) (fc (lam 24 0 0 1 hM rfl) f0) hM λal w1 hM=>aAw 1 2 11 [] f0 hM (aER (hm.fr hM.fr) (hM.get 3 rfl)) λw1 hM=>seg 1 5 [(13,vB (!(aAh (aAa os))))] f0 ?_;cases aa:(aAh (aAa os))
  ·refine stm 2 1 [(18,.agg #[vL none 0 0])] 24 2 0 (.agg #[vL none 0 0]) f0 hM rfl λw1 hM=>?_;have hl9:=aBi 24 2 (P:=Tryz.prog) (n:=1) hM rfl rfl;exact aXC 4 24 5 (vI 1) rfl rfl hl9 f0 (hZ _ _ ⟨(vL none 0 0),by simp only[aa]<;>rfl,by simp only[aa];exact(hM.pick (M':=[]) []).row⟩)
  have hvm:=aa;refine aAw 1 6 15 [(14,.agg (oY_ o))] (fc (lam 48 1 0 6 hM rfl) f0) hM (aF2 (ho.fr hM.fr)) λw1 hM=>seg 1 9 [(17,vB (!(aA1 o.o)))] f0 ?_;cases ab:(aA1 o.o)
  ·refine stm 2 1 [(18,.agg #[vL none 0 0])] 24 2 0 (.agg #[vL none 0 0]) f0 hM rfl λw1 hM=>?_;have hl9:=aBi 24 2 (P:=Tryz.prog) (n:=1) hM rfl rfl;exact aXC 4 24 5 (vI 1) rfl rfl hl9 f0 (hZ _ _ ⟨(vL none 0 0),by simp only[aa,ab]<;>rfl,by simp only[aa,ab];exact(hM.pick (M':=[]) []).row⟩)
  refine aJd 3 3 23 [(20,.agg #[vL p0 os.length cp0]),(22,vS o.o.id)] (K:=λu w8=>∃(i:Nat)(b:Bool),u=.tuple #[vI (i:Int),vB b]/\(b=true->aAr (aAa os) o.o.id=(i:Int))/\(b=false->aAr (aAa os) o.o.id<0)) (fc (lam 24 0 0 1 hM rfl) (fc (ldm 9 1 0 hM rfl rfl) f0)) hM ((aEw (hm.fr hM.fr) hlen (aAV hvm) o.o.id).mono λe w8 ⟨i,b,h1,h2,h3,h4⟩=>⟨⟨_,h1,i,b,rfl,h2,h3⟩,h4⟩) λ_ w1 ⟨i348,ac,hv9,ag,hn348⟩ hM f1=>?_;subst hv9;refine aHU 4 2 28 [(6,vI (i348:Int)),(7,vB ac),(27,vL p0 os.length cp0)] (K:=λu Mn=>Mn=[rw_ obL 6 48 u os]) [0,1,2,3] [] (fc (ldm 22 0 0 hM rfl rfl) f0) hM rfl rfl dE (λhm=>((aIP (hm0.1.p.2.fr hM.fr) hlen2).mono λe w9 ⟨u,h1,h2⟩=>⟨_,_,h1,rfl,aEP h2 λ_ h=>h.elim⟩)) λu Mn w1 hK hM=>?_;obtain rfl:=hK;obtain⟨qc,cc,ec,-⟩:=(hM.src (j:=4) rfl obT.len).op;subst ec;refine aBW 4 4 8 [(29,.agg #[vL qc os.length cc])] [] 24 (.agg #[vL qc os.length cc]) f0 hM λam w1 hM=>seg 6 2 [(37,vB ac)] f0 ?_
  cases ae:ac with
  | false =>
   exact absurd (hn348 ae) hin
  | true =>
   have hik:=ag ae;rw[hk] at hik;obtain rfl:i348=k:=by omega
   obtain⟨an,ad⟩:=geb (l:=os) (i:=i348) oM;obtain⟨ah,af,-⟩:=hM.el obT (j:=4) rfl ad;refine aXx 7 5 [(42,.agg (oY_ o)),(43,vP ah (0+i348*6))] 48 4 0 o (.agg (oY_ o)) obT (fc (ldm 22 5 0 hM rfl rfl) (fc (lam 48 1 0 6 hM rfl) (fc (ix 22 cc af (gl ad)) f0))) hM rfl af ad rfl λw1 hM=>stm 10 1 [(50,.agg #[vL qc os.length cc])] 24 2 0 (.agg #[vL qc os.length cc]) (fc (lam 24 5 0 1 hM rfl) f0) hM rfl λw1 hM=>?_;have hl9:=aBi 24 2 (P:=Tryz.prog) (n:=1) hM rfl rfl;exact aXC 4 24 5 (vI 0) rfl rfl hl9 f0 (hZ _ _ ⟨(vL qc os.length cc),by simp only[aa,ab]<;>rfl,by simp only[aa,ab];exact hM.pick [4]⟩)
open Go.Lib Go.Shelf
variable{a:Act}{K:Act->World->Prop}{Q:Exit->Act->World->Prop}{v':Value}
theorem aGW {P:Program}(w:World)(d s:Operand)(t t':TypeId)
  (ho:o.op=.call { callee := .builtin .copy,args:=#[d,s],argTypes:=#[t,t'] }) (v u:Value) (hd:a.eval d=v) (hs:a.eval s=u) 
  (hr:(Builtin.copy_ #[t,t'] o.type #[v,u]).run P w=.ok v' w') (h:K (a.put o.dst v') w'):o.wp P a w K Q:=by
 unfold Oper.wp execOp;simp only[ho,resolve,invoke,builtin,Sem.run_bind,Sem.run_pure,Result.andThen_ok,List.map_toArray,List.map_cons,List.map_nil,hd,hs,hr];exact h
variable{ops:Array Oper}
theorem aE3 {P:Program}(w:World){rest:List Oper}(hgd:o.guard=none)(d s:Operand)(t t':TypeId)
  (ho:o.op=.call { callee := .builtin .copy,args:=#[d,s],argTypes:=#[t,t'] }) (v u:Value) (hd:a.eval d=v) (hs:a.eval s=u) 
  (hr:(Builtin.copy_ #[t,t'] o.type #[v,u]).run P w=.ok v' w') (h:wpList P ops Q rest (a.put o.dst v') w'):wpList P ops Q (o::rest) a w :=
 wpList_plain hgd λ_ hK=>aGW w d s t t' ho v u hd hs hr (hK _ _ h)
theorem aDn {P:Program}{E:Prop}
  (hg:o.guard=none) (d x:Operand) (dT sT:TypeId) (hop:o.op=Op.call { callee:=Callee.builtin Builtin.copy,args:=#[d,x],argTypes:=#[dT,sT] })
  (v u:Value) (hd:a.eval d=v) (hx:a.eval x=u) (hr:(Builtin.copy_ #[dT,sT] o.type #[v,u]).run P w=.ok v' w') (hK:K (a.put o.dst v') w') :
  if Region.wanted o (yielded ops a.tmps)=true then Oper.wp P o a w K Q else E:=by
 have hw:Region.wanted o (yielded ops a.tmps)=true:=by simp[Region.wanted,hg]
 rw[if_pos hw];unfold Oper.wp;simp[execOp,hop,resolve,invoke,builtin,hd,hx,hr,Result.andThen];exact hK
theorem aZv {g vb la lb o:Nat}{cur cv:Array Value}{T0 T1:TypeId}(hg:w.heap[g]?=some (.cells cur T1 (0,0)))(h0:cur.size≠0)(hb:w.heap[vb]?=some (.cells cv T0 (0,0)))(hne:vb≠g) :
  (callFunc 89 #[.slice (some ⟨vb,0,none⟩) la ca,.slice (some ⟨g,o,none⟩) lb cb]).run Tryz.prog w=.ok (.value (.bool false)) w:=by
 rw[run_callFunc_extern (P:=Tryz.prog) (f:=89) Tryz.func89 kR kR kR (e:=Extern.SlicesOverlaps.overlaps #[46,46] #[4]) kR,
  Lib.run_overlaps_apart w 46 4 72 u46_ 2 (λ_=>by kernel_rfl) ⟨vb,0,none⟩ ⟨g,o,none⟩ la ca lb cb hne T0 T1 cv.size cur.size (by simp[World.shape?,hb]) (by simp[World.shape?,hg]) h0 (by simp[World.frozen?,hb]) (by simp[World.frozen?,hb])]
 rfl
variable{xs:List Value}
set_option maxHeartbeats 4000000 in
set_option maxRecDepth 100000 in
theorem aMm {g n c vb:Nat}{cur cv:Array Value}(hg:w.heap[g]?=some (.cells cur 72 (0,0)))(hcur:cur.size=c*2)(hi:i<n)(hroom:n+1<=c)(hn8:n<=100000000)(hc63:c<=9223372036854775807)(hvb:vb≠g)(hb:w.heap[vb]?=some (.cells cv 72 (0,0)))(hxs:cv.toList=xs)(hxl:xs.length=2)
  (h1c:∀v∈cur.toList.take (n*2),v.oneCell'=true) (h1v:∀v∈xs,v.oneCell'=true) :
  Calls Tryz.prog 47 #[.slice (some ⟨g,0,none⟩) n c,.int .i64 i,.slice (some ⟨vb,0,none⟩) 1 1] w λe w' =>
   e=.returned (.slice (some ⟨g,0,none⟩) (n+1) c)/\∃A1 A2:Array Value,A1=(cur.toList.take ((i+1)*2)++(cur.toList.take (n*2)).drop (i*2)++cur.toList.drop ((i+1)*2+((cur.toList.take (n*2)).drop (i*2)).length)).toArray/\A2=(A1.toList.take (i*2)++xs++A1.toList.drop (i*2+xs.length)).toArray/\w'=(w.drew.setRow g A1).setRow g A2:=by
 have mixed:Tryz.prog.follows Departure.mixedOrders=true:=by kernel_rfl
 have hw1:IntKind.i64.wrap ((i:Int)+1)=(i:Int)+1:=by rw[IntKind.wrap_i64];omega
 have hw2:IntKind.i64.wrap ((n:Int)+1)=(n:Int)+1:=by rw[IntKind.wrap_i64];omega
 have hb1:(0:Int)<=(i:Int)+1:=by omega
 have hin:i<=n:=by omega
 have htn:((i:Int)+1).toNat=i+1:=by omega
 have hb2:¬(c=i+1):=by omega
 have hb3:(i:Int)<=(n:Int)+1:=by omega
 have hb4:¬(c=i):=by omega
 have hs0:0<cur.size:=by omega
 have hov:∀o lb cb,(callFunc 89 #[.slice (some ⟨vb,0,none⟩) 1 1,.slice (some ⟨g,o,none⟩) lb cb]).run Tryz.prog w=.ok (.value (.bool false)) w:=λo lb cb=>aZv hg oM hb hvb;obtain⟨cs,hcs⟩:∃z,z=(cur.toList.take (n*2)).drop (i*2):=⟨_,rfl⟩;have hcl:cs.length=(n-i)*2:=by rw[hcs,Go_,Gq_,Array.length_toList,hcur,Nat.min_eq_left oM];omega
 have hsz:(Tryz.prog.info? 72).map (·.size)=some 2:=by kernel_rfl
 have hmin:Nat.min (n+1-i) (n-i)=n-i:=by simp only[Nat.min_def];split<;>omega
 rw[<-hcs];obtain⟨A1,hA1⟩:∃z:Array Value,z=(cur.toList.take ((i+1)*2)++cs++cur.toList.drop ((i+1)*2+cs.length)).toArray:=⟨_,rfl⟩;have hA1s:A1.size=cur.size:=by rw[hA1,List.size_toArray];simp only[Gi_,Gq_,Go_,Array.length_toList];omega
 obtain⟨A2,hA2⟩:∃z:Array Value,z=(A1.toList.take (i*2)++xs++A1.toList.drop (i*2+xs.length)).toArray:=⟨_,rfl⟩
 have hcp1:∀ty dc sc,(Builtin.copy_ #[46,46] ty #[.slice (some ⟨g,(i+1)*2,none⟩) (n-i) dc,.slice (some ⟨g,i*2,none⟩) (n+1-i) sc]).run Tryz.prog w.drew=.ok (goInt ((n-i:Nat):Int)) (w.drew.setRow g A1):=λty dc sc=>by
  have h:=aAS (P:=Tryz.prog) w.drew 46 46 ty 72 2 g ((i+1)*2) (n-i) dc ⟨g,i*2,none⟩ (n+1-i) sc cur 72 cs u46_ hsz hg (by rw[hmin,hcl])
   (λj v hj=>by
    rw[Addr.add_lit];have hjl:=(List.getElem?_eq_some_iff.1 hj).1;rw[hcl] at hjl;rw[hcs,List.getElem?_drop,List.getElem?_take_of_lt oM] at hj;show w.cell? ⟨g,i*2+j,none⟩=some v;rw[aAj hg,<-Array.getElem?_toList];exact hj)
   oM (λv hv=>h1c v (by rw[hcs] at hv;exact List.mem_of_mem_drop hv))
  rw[hmin] at h;rw[h,hA1]
 have hg1:(w.drew.setRow g A1).heap[g]?=some (.cells A1 72 (0,0)):=setRow_heap w.drew g cur A1 72 (0,0) hg;have hb1':(w.drew.setRow g A1).heap[vb]?=some (.cells cv 72 (0,0)):=by rw[setRow_other w.drew g vb A1 hvb];exact hb
 have hmn2:Nat.min 1 (n+1-i)=1:=by simp only[Nat.min_def];split<;>omega
 have hcp2:∀(W:World),W.heap=(w.drew.setRow g A1).heap->∀ty dc,(Builtin.copy_ #[46,46] ty #[.slice (some ⟨g,i*2,none⟩) (n+1-i) dc,.slice (some ⟨vb,0,none⟩) 1 1]).run Tryz.prog W=.ok (goInt ((1:Nat):Int)) (W.setRow g A2):=λW hW ty dc=>by
  have h:=aAS (P:=Tryz.prog) W 46 46 ty 72 2 g (i*2) (n+1-i) dc ⟨vb,0,none⟩ 1 1 A1 72 xs u46_ hsz (by rw[hW];exact hg1) (by rw[hmn2,hxl])
   (λj v hj=>by
    rw[Addr.add_lit,Nat.zero_add];have h1:W.heap[vb]?=some (.cells cv 72 (0,0)):=by rw[hW];exact hb1'
    rw[aAj h1,<-Array.getElem?_toList,hxs];exact hj)
   oM h1v
  rw[hmn2] at h;rw[h,hA2]
 have hA1':=Go.Lib.hid hA1;have hA2':=Go.Lib.hid hA2;clear hcs hA1 hA2
 go_enter Tryz.func47,Tryz.ntmps47
 go_wp2_with (simp only[hov])
 go_region_law_o (refine aDn rfl _ _ 46 46 rfl _ _ (by simp[Act.eval,Act.put]) (by simp[Act.eval,Act.put]) (hcp1 _ _ _) ?_)
 go_wp2_with (at_builtin;refine aE3 _ rfl _ _ 46 46 rfl _ _ rfl rfl (hcp2 _ rfl _ _) ?_)
 go_ret
 exact⟨rfl,A1,A2,hA1'.out,hA2'.out,rfl⟩
set_option maxHeartbeats 4000000 in
set_option maxRecDepth 100000 in
theorem aOy {f:α->List Value}(X:ElT Tryz.prog f 2 46 72){g n c vb:Nat}{cur cv:Array Value}(hg:w.heap[g]?=some (.cells cur 72 (0,0)))(hcur:cur.size=c*2)(hi:i<n)(hnc:n<=c)(hroom:c<n+1)(hc63:n<=100000000)(hvb:vb≠g)(hb:w.heap[vb]?=some (.cells cv 72 (0,0)))(hxs:cv.toList=xs)(hxl:xs.length=2)
  (h1c:∀v∈cur.toList.take (n*2),v.oneCell'=true) (h1v:∀v∈xs,v.oneCell'=true) :
  Calls Tryz.prog 47 #[.slice (some ⟨g,0,none⟩) n c,.int .i64 i,.slice (some ⟨vb,0,none⟩) 1 1] w λe w' =>
   ∃(G:Nat)(R0 R1 R2:Array Value),e=.returned (.slice (some ⟨w.heap.size,0,none⟩) (n+1) G)/\n+1<=G/\G<=maxLen/\R0.size=G*2/\R0.toList.take (i*2)=cur.toList.take (i*2)/\
    R1=(R0.toList.take (i*2)++xs++R0.toList.drop (i*2+xs.length)).toArray/\R2=(R1.toList.take ((i+1)*2)++(cur.toList.take (n*2)).drop (i*2)++R1.toList.drop ((i+1)*2+((cur.toList.take (n*2)).drop (i*2)).length)).toArray/\w'=((((w.alloc (.cells R0 72)).drew.setRow w.heap.size R1).drew).setRow w.heap.size R2):=by
 have mixed:Tryz.prog.follows Departure.mixedOrders=true:=by kernel_rfl
 obtain⟨i0,z0,hi0,hz0,hzs,hzc,hzb⟩:=X.info;have hz3:(c:Int)<(n:Int)+1:=by omega
 have hw1:IntKind.i64.wrap ((i:Int)+1)=(i:Int)+1:=by rw[IntKind.wrap_i64];omega
 have hw2:IntKind.i64.wrap ((n:Int)+1)=(n:Int)+1:=by rw[IntKind.wrap_i64];omega
 have hw3:IntKind.i64.wrap ((n:Int)+1-(i:Int))=(n:Int)+1-(i:Int):=by rw[IntKind.wrap_i64];omega
 have hb1:(0:Int)<=(i:Int)+1:=by omega
 have htn:((i:Int)+1).toNat=i+1:=by omega
 have hb3:(i:Int)<=(n:Int):=by omega
 have hbw:g<w.heap.size:=aAf hg;have hvw:vb<w.heap.size:=aAf hb;have hkk:(n:Int)+1-(i:Int)=((n+1-i:Nat):Int):=by omega
 have hik:i+(n+1-i)=n+1:=by omega
 obtain⟨cs,hcs⟩:∃z,z=(cur.toList.take (n*2)).drop (i*2):=⟨_,rfl⟩;have hcl:cs.length=(n-i)*2:=by rw[hcs,Go_,Gq_,Array.length_toList,hcur,Nat.min_eq_left oM];omega
 have hsz:(Tryz.prog.info? 72).map (·.size)=some 2:=by kernel_rfl
 rw[<-hcs];obtain⟨ol,hol⟩:∃z,z=cur.toList.take (i*2):=⟨_,rfl⟩;have holl:ol.length=i*2:=by rw[hol,Gq_,Array.length_toList,hcur];omega
 have hold:(Builtin.firstCells i0.size i (.slice (some ⟨g,0,none⟩) i c)).run Tryz.prog w.drew=.ok ol.toArray w.drew:=by
  rw[hzs]
  exact run_firstCells_some w.drew 2 i ⟨g,0,none⟩ i c ol holl (λj v hj=>by
   rw[Addr.add_lit,Nat.zero_add];have hjl:=(List.getElem?_eq_some_iff.1 hj).1;rw[holl] at hjl;rw[hol,List.getElem?_take_of_lt hjl] at hj;show w.cell? ⟨g,j,none⟩=some v;rw[aAj hg,<-Array.getElem?_toList];exact hj)
 have hrz:∀ty,(Builtin.append_ #[46,3] ty #[.slice (some ⟨g,0,none⟩) i c,.int .i64 ((n:Int)+1-(i:Int))]).run Tryz.prog w =
   .ok (.slice (some ⟨w.heap.size,0,none⟩) (n+1) (grownCap w (n+1) c 72)) (w.drew.alloc (.cells (ol.toArray++Builtin.zeroCells z0.cells (n+1-i)++Builtin.zeroCells z0.cells (grownCap w (n+1) c 72-(n+1))) 72)):=λty=>by
  have h:=Lib.run_append_grow_zeros (P:=Tryz.prog) w 46 3 ty 72 i0 _ .i64 .i64 u46_ u3_ hi0 hz0 (some ⟨g,0,none⟩) i c ol hold (n+1-i) oM oM oM oM (by have:=Nat.mul_le_mul (show n+1-i<=100000001 by omega) hzb;omega) (by rw[hik];exact growslice_fits hroom (by have:=Nat.mul_le_mul (show n+1<=100000001 by omega) hzb;omega));rw[hik] at h;rw[hkk];exact h
 obtain⟨G,hG⟩:∃G,G=grownCap w (n+1) c 72:=⟨_,rfl⟩;have hGn:n+1<=G:=by rw[hG];exact grownCap_ge w _ _ _
 have hGm:G<=maxLen:=by rw[hG];exact grownCap_le_maxLen w (n+1) c 72 (by unfold maxLen;omega)
 have hG63:G<=9223372036854775807:=by unfold maxLen at hGm;omega
 obtain⟨R0,hR0⟩:∃R:Array Value,R=ol.toArray++Builtin.zeroCells z0.cells (n+1-i)++Builtin.zeroCells z0.cells (G-(n+1)):=⟨_,rfl⟩;rw[<-hG,<-hR0] at hrz;have hR0s:R0.size=G*2:=by rw[hR0,Array.size_append,Array.size_append,size_zeroCells,size_zeroCells,hzc,List.size_toArray,holl];omega
 have hR0t:R0.toList.take (i*2)=cur.toList.take (i*2):=by
  rw[hR0,Array.toList_append,Array.toList_append,Gl_,<-holl,List.take_left',holl,<-hol];rfl
 obtain⟨R1,hR1⟩:∃z:Array Value,z=(R0.toList.take (i*2)++xs++R0.toList.drop (i*2+xs.length)).toArray:=⟨_,rfl⟩;have hR1s:R1.size=G*2:=by rw[hR1,List.size_toArray];simp only[Gi_,Gq_,Go_,Array.length_toList];omega
 obtain⟨R2,hR2⟩:∃z:Array Value,z=(R1.toList.take ((i+1)*2)++cs++R1.toList.drop ((i+1)*2+cs.length)).toArray:=⟨_,rfl⟩;obtain⟨W1,hW1⟩:∃W1,W1=w.drew.alloc (.cells R0 72):=⟨_,rfl⟩;have hn0:W1.heap[w.heap.size]?=some (.cells R0 72 (0,0)):=by rw[hW1];exact aAl w.drew _
 have hOg:W1.heap[g]?=some (.cells cur 72 (0,0)):=by rw[hW1];exact(aBJ (w:=w.drew) hbw _).trans hg
 have hOv:W1.heap[vb]?=some (.cells cv 72 (0,0)):=by rw[hW1];exact(aBJ (w:=w.drew) hvw _).trans hb
 have hmn2:Nat.min 1 (n+1-i)=1:=by simp only[Nat.min_def];split<;>omega
 have hcpA:∀(W:World),W.heap=W1.heap->∀ty dc,(Builtin.copy_ #[46,46] ty #[.slice (some ⟨w.heap.size,i*2,none⟩) (n+1-i) dc,.slice (some ⟨vb,0,none⟩) 1 1]).run Tryz.prog W=.ok (goInt ((1:Nat):Int)) (W.setRow w.heap.size R1):=λW hW ty dc=>by
  have h:=aAS (P:=Tryz.prog) W 46 46 ty 72 2 w.heap.size (i*2) (n+1-i) dc ⟨vb,0,none⟩ 1 1 R0 72 xs u46_ hsz (by rw[hW];exact hn0) (by rw[hmn2,hxl])
   (λj v hj=>by
    rw[Addr.add_lit,Nat.zero_add];have h1:W.heap[vb]?=some (.cells cv 72 (0,0)):=by rw[hW];exact hOv
    rw[aAj h1,<-Array.getElem?_toList,hxs];exact hj)
   oM h1v
  rw[hmn2] at h;rw[h,hR1]
 have hn1:(W1.setRow w.heap.size R1).heap[w.heap.size]?=some (.cells R1 72 (0,0)):=setRow_heap W1 w.heap.size R0 R1 72 (0,0) hn0;have hO1:(W1.setRow w.heap.size R1).heap[g]?=some (.cells cur 72 (0,0)):=by rw[setRow_other W1 w.heap.size g R1 oM];exact hOg
 have hmin:Nat.min (n-i) (n-i)=n-i:=Nat.min_self _
 have hcpB:∀(W:World),W.heap=(W1.setRow w.heap.size R1).heap->∀ty dc sc,(Builtin.copy_ #[46,46] ty #[.slice (some ⟨w.heap.size,(i+1)*2,none⟩) (n-i) dc,.slice (some ⟨g,i*2,none⟩) (n-i) sc]).run Tryz.prog W=.ok (goInt ((n-i:Nat):Int)) (W.setRow w.heap.size R2):=λW hW ty dc sc=>by
  have h:=aAS (P:=Tryz.prog) W 46 46 ty 72 2 w.heap.size ((i+1)*2) (n-i) dc ⟨g,i*2,none⟩ (n-i) sc R1 72 cs u46_ hsz (by rw[hW];exact hn1) (by rw[hmin,hcl])
   (λj v hj=>by
    rw[Addr.add_lit];have hjl:=(List.getElem?_eq_some_iff.1 hj).1;rw[hcl] at hjl;rw[hcs,List.getElem?_drop,List.getElem?_take_of_lt oM] at hj;have h1:W.heap[g]?=some (.cells cur 72 (0,0)):=by rw[hW];exact hO1
    rw[aAj h1,<-Array.getElem?_toList];exact hj)
   oM (λv hv=>h1c v (by rw[hcs] at hv;exact List.mem_of_mem_drop hv))
  rw[hmin] at h;rw[h,hR2]
 subst hW1;have hR1':=Go.Lib.hid hR1;have hR2':=Go.Lib.hid hR2;have hR0t':=Go.Lib.hid hR0t;have hR0s':=Go.Lib.hid hR0s;have hGn':=Go.Lib.hid hGn;have hGm':=Go.Lib.hid hGm;have hGi:¬(G=i):=by omega
 have hGim:¬(G=i+1):=by omega
 have hci:¬(c=i):=by omega
 clear hkk hik hold hR0 hG hR1 hR2 hR0t hR0s hcs hol hR1s hmn2 hmin hi0 hz0 hzs hzc hzb hsz hn0 hOg hOv hn1 hO1 hg hb;have hcA:∀ty dc,(Builtin.copy_ #[46,46] ty #[.slice (some ⟨w.heap.size,i*2,none⟩) (n+1-i) dc,.slice (some ⟨vb,0,none⟩) 1 1]).run Tryz.prog (w.alloc (.cells R0 72)).drew=.ok (goInt ((1:Nat):Int)) ((w.alloc (.cells R0 72)).drew.setRow w.heap.size R1):=hcpA (w.alloc (.cells R0 72)).drew rfl
 go_enter Tryz.func47,Tryz.ntmps47
 go_wp2_with (first
  | (at_builtin;refine Lib.wpList_append_run _ rfl _ _ _ _ rfl _ _ rfl rfl _ _ (hrz _) ?_)
  | simp only[hcA])
 go_region_law_o (refine aDn rfl _ _ 46 46 rfl (.slice (some ⟨w.heap.size,(i+1)*2,none⟩) (n-i) (G-(i+1))) (.slice (some ⟨g,i*2,none⟩) (n-i) (c-i)) (by simp[Act.eval,Act.put]) (by simp[Act.eval,Act.put]) (hcpB (((w.alloc (.cells R0 72)).drew.setRow w.heap.size R1).drew) rfl 3 (G-(i+1)) (c-i)) ?_)
 go_wp2
 go_ret
 exact⟨G,R0,R1,R2,rfl,hGn'.out,hGm'.out,hR0s'.out,hR0t'.out,hR1'.out,hR2'.out,rfl⟩
end Go.Proofs.YtngjlnhojicjeaaGreatDoor
namespace Go.Proofs.YtngjlnhojicjeaaGreatDoor
open Go.RowKit Go.Pl Go.Lib Go.Shelf
variable{w:World}
theorem Fr.setRowT {F:Nat->Prop}{a:World}(h:Fr F a w){g:Nat}(hg:g<a.heap.size->F g)(cs:Array Value):Fr F a (w.setRow g cs) :=
 ⟨h.os,h.tape,h.output,by rw[size_setRow];exact h.size,λr hr hn=>by rw[setRow_other w g r cs (λe=>hn (e▸hg (e▸hr)))];exact h.blk r hr hn⟩
variable{v:Value}{α:Type}
set_option maxHeartbeats 4000000 in
set_option maxRecDepth 100000 in
theorem aRf {f:α->List Value}(X:ElT Tryz.prog f 2 46 72){B vb:Nat}{L:List α}{x:α}(hv:ow f 2 72 w B v L)(hb:w.heap[vb]?=some (.cells (f x).toArray 72 (0,0)))(hl:L.length<=100000000)(hB:B<=w.heap.size) :
  Calls Tryz.prog 47 #[v,.int .i64 L.length,.slice (some ⟨vb,0,none⟩) 1 1] w λe w'=>∃v',e=.returned v'/\ow f 2 72 w' B v' (L++[x])/\Fr (λk=>v.ownBlock=some k) w w'/\(v'.ownBlock=v.ownBlock\/v'.ownBlock=some w.heap.size):=by
 obtain⟨i0,z0,hi0,hz0,hzs,hzc,hzb⟩:=X.info
 obtain⟨v',w',hr,c1,c2,_,c4⟩:=run_append_own_at (P:=Tryz.prog) (w:=w) B 46 46 72 i0 z0 2 _ u46_ hi0 hz0 hzs rfl hzc oM v L.length _ hv ⟨vb,0,none⟩ 1 1 (f x) (by rw[X.len]) (λj u hj=>by
  rw[Addr.add_lit,Nat.zero_add,aAj hb,<-Array.getElem?_toList];exact hj) (X.one x) (by unfold maxLen;omega) (by have:=Nat.mul_le_mul (show L.length+1<=100000001 by omega) hzb;omega) hB
 have hfin:Hid (∃v'',(Ending.returned v')=.returned v''/\ow f 2 72 w' B v'' (L++[x])/\Fr (λk=>v.ownBlock=some k) w w'/\(v''.ownBlock=v.ownBlock\/v''.ownBlock=some w.heap.size)):=by
  refine⟨v',rfl,?_,(Fr.refl _ _).grown c2 λk hk _=>hk,c4⟩;unfold ow;rw[Gi_,List.flatMap_append];simpa using c1
 obtain⟨n,hn⟩:∃n,n=L.length:=⟨_,rfl⟩;rcases hv.2 with⟨rfl,h0⟩|⟨g,cap,cur,rfl,hg1,hg,hnc,hcm,hcs,ht⟩
 ·have hL0:(L.length:Int)=0:=by omega
  rw[hL0];clear hi0 hz0 hzs hzc hzb c1 c2 c4 hv hb hn hL0
  go_enter Tryz.func47,Tryz.ntmps47
  go_wp2_with (at_builtin;refine Lib.wpList_append_run _ rfl _ _ _ _ rfl _ _ rfl rfl _ _ hr ?_)
  go_ret
  exact hfin.out
 ·rw[<-hn] at hfin ⊢ hr hnc;have hcm':cap<=9223372036854775807:=by unfold maxLen at hcm;omega
  clear hi0 hz0 hzs hzc hzb c1 c2 c4 hv hb hg ht hcs hcm hg1
  go_enter Tryz.func47,Tryz.ntmps47
  go_wp2_with (at_builtin;refine Lib.wpList_append_run _ rfl _ _ _ _ rfl _ _ rfl rfl _ _ hr ?_)
  all_goals (go_ret;exact hfin.out)
theorem aNf {f:α->List Value}{c:Nat}(hf:∀x,(f x).length=c)(L:List α)(i:Nat)(x:α):(L.take i++x::L.drop i).flatMap f=(L.flatMap f).take (i*c)++f x++(L.flatMap f).drop (i*c):=by
 rw[List.flatMap_append,List.flatMap_cons,aCL hf,aIC hf,Gl_]
variable{i:Nat}
theorem aJO {f:α->List Value}(X:ElT Tryz.prog f 2 46 72){B vb:Nat}{L:List α}{x:α}(hv:ow f 2 72 w B v L)(hi:i<=L.length)(hb:w.heap[vb]?=some (.cells (f x).toArray 72 (0,0)))(hvb:v.ownBlock≠some vb)(hl:L.length<=100000000)(hB:B<=w.heap.size) :
  Calls Tryz.prog 47 #[v,.int .i64 i,.slice (some ⟨vb,0,none⟩) 1 1] w λe w'=>∃v',e=.returned v'/\ow f 2 72 w' B v' (L.take i++x::L.drop i)/\Fr (λk=>v.ownBlock=some k) w w'/\(v'.ownBlock=v.ownBlock\/v'.ownBlock=some w.heap.size):=by
 rcases Nat.lt_or_ge i L.length with hlt|hge
 ·rcases hv.2 with⟨rfl,h0⟩|⟨g,cap,cur,rfl,hg1,hg,hnc,hcm,hcs,ht⟩
  ·omega
  have h1c:∀u∈cur.toList.take (L.length*2),u.oneCell'=true:=λu hu=>by
   rw[ht] at hu;obtain⟨s,_,hs⟩:=List.mem_flatMap.1 hu;exact X.one s u hs
  have hcurl:cur.toList.length=cap*2:=by rw[Array.length_toList];exact hcs
  have hne:vb≠g:=λe=>hvb (by subst e;rfl);have hlen:(L.take i++x::L.drop i).length=L.length+1:=by rw[Gi_,Gf_,Gq_,Go_];omega
  have hfl:(L.flatMap f).length=L.length*2:=aAz X.len L;have hfx:=X.len x;have hcl:((L.flatMap f).drop (i*2)).length=(L.length-i)*2:=by rw[Go_,hfl];omega
  have htk:∀k,k<=L.length*2->cur.toList.take k=(L.flatMap f).take k:=λk hk=>by rw[<-ht,List.take_take,Nat.min_eq_left hk]
  rcases Nat.lt_or_ge cap (L.length+1) with hr|hr
  ·refine(aOy X hg hcs hlt hnc hr hl hne hb rfl (by simpa using hfx) h1c (by simpa using X.one x)).mono ?_;rintro e w' ⟨G,R0,R1,R2,rfl,hG1,hG2,hR0,hRt,hR1,hR2,rfl⟩;rw[ht,hcl] at hR2;rw[hRt,htk _ oM] at hR1;have hR1l:R1.toList=(L.flatMap f).take (i*2)++f x++R0.toList.drop (i*2+2):=by rw[hR1];simp[hfx]
   have hl1:((L.flatMap f).take (i*2)++f x).length=(i+1)*2:=by rw[Gi_,Gq_,hfl,hfx];omega
   have hR1t:R1.toList.take ((i+1)*2)=(L.flatMap f).take (i*2)++f x:=by rw[hR1l,<-hl1,List.take_left'];rfl
   rw[hR1t] at hR2;have hR2l:R2.toList=(L.flatMap f).take (i*2)++f x++(L.flatMap f).drop (i*2)++R1.toList.drop ((i+1)*2+(L.length-i)*2):=by rw[hR2]
   have hl2:((L.flatMap f).take (i*2)++f x++(L.flatMap f).drop (i*2)).length=(L.length+1)*2:=by rw[Gi_,hl1,hcl];omega
   have hsz:R2.size=G*2:=by
    have h1:R1.toList.length=G*2:=by rw[hR1l,Gi_,hl1,Go_,Array.length_toList,hR0];omega
    rw[<-Array.length_toList,hR2l,Gi_,hl2,Go_,h1];omega
   have hn0:(w.alloc (.cells R0 72)).drew.heap[w.heap.size]?=some (.cells R0 72 (0,0)):=aAl w _;have hn1:=setRow_heap _ w.heap.size R0 R1 72 (0,0) hn0;have hn2:=setRow_heap (((w.alloc (.cells R0 72)).drew.setRow w.heap.size R1).drew) w.heap.size R1 R2 72 (0,0) hn1;refine⟨_,rfl,?_,?_,.inr rfl⟩
   ·refine⟨aAz X.len _,.inr ⟨w.heap.size,G,R2,by rw[hlen],hB,hn2,by rw[hlen];exact hG1,hG2,hsz,?_⟩⟩;rw[hlen,aNf X.len,hR2l,<-hl2,List.take_left'];rfl
   ·exact Fr.setRowT (Fr.setRowT ((Fr.refl _ w).alloc _).drew (λh=>absurd h (Nat.lt_irrefl _)) _).drew (λh=>absurd h (Nat.lt_irrefl _)) _
  ·refine(aMm hg hcs hlt hr hl (by unfold maxLen at hcm;omega) hne hb rfl (by simpa using hfx) h1c (by simpa using X.one x)).mono ?_;rintro e w' ⟨rfl,A1,A2,hA1,hA2,rfl⟩;rw[ht,hcl] at hA1
   have hA1t:A1.toList.take (i*2)=(L.flatMap f).take (i*2):=by
    rw[hA1,Gl_,List.take_append_of_le_length (by rw[Gq_,Array.length_toList];omega),List.take_take,Nat.min_eq_left oM,htk _ oM]
   have hc0:(cur.toList.take ((i+1)*2)).length=(i+1)*2:=by rw[Gq_,Array.length_toList];omega
   have hA1d:A1.toList.drop ((i+1)*2)=(L.flatMap f).drop (i*2)++cur.toList.drop ((i+1)*2+(L.length-i)*2):=by
    rw[hA1,Gl_];exact List.drop_left' hc0
   have hA1s:A1.size=cap*2:=by rw[hA1,List.size_toArray,Gi_,Gi_,hc0,hcl,Go_,hcurl];omega
   have hl1:((L.flatMap f).take (i*2)++f x).length=(i+1)*2:=by rw[Gi_,Gq_,hfl,hfx];omega
   have hl2:((L.flatMap f).take (i*2)++f x++(L.flatMap f).drop (i*2)).length=(L.length+1)*2:=by rw[Gi_,hl1,hcl];omega
   have hA2l:A2.toList=(L.flatMap f).take (i*2)++f x++(L.flatMap f).drop (i*2)++cur.toList.drop ((i+1)*2+(L.length-i)*2):=by
    rw[hA2,hA1t];have e:i*2+(f x).length=(i+1)*2:=by rw[hfx];omega
    have e2:(f x).toArray.toList=f x:=rfl;rw[e2,e,hA1d];simp[Gl_]
   have hsz:A2.size=cap*2:=by
    have h:=congrArg List.length hA2l;rw[Gi_,hl2,Go_,hcurl,Array.length_toList] at h;omega
   have hn1:=setRow_heap w.drew g cur A1 72 (0,0) hg;have hn2:=setRow_heap (w.drew.setRow g A1) g A1 A2 72 (0,0) hn1;refine⟨_,rfl,?_,?_,.inl rfl⟩
   ·refine⟨aAz X.len _,.inr ⟨g,cap,A2,by rw[hlen],hg1,hn2,by rw[hlen];exact hr,hcm,hsz,?_⟩⟩;rw[hlen,aNf X.len,hA2l,<-hl2,List.take_left'];rfl
   ·exact Fr.setRowT (F:=λk=>(Value.slice (some ⟨g,0,none⟩) L.length cap).ownBlock=some k) (Fr.setRowT (Fr.refl (λk=>(Value.slice (some ⟨g,0,none⟩) L.length cap).ownBlock=some k) w).drew (λ_=>rfl) _) (λ_=>rfl) _
 ·obtain rfl:i=L.length:=by omega
  refine(aRf X hv hb hl hB).mono ?_;rintro e w' ⟨v',h1,h2,h3,h4⟩;exact⟨v',h1,by rw[List.take_length,List.drop_length];exact h2,h3,h4⟩
variable{c2:Nat}{E:TypeId}{ti:TypeInfo}
theorem aV9 {P:Program}{f:α->List Value}{c:Nat}(hlen:∀x,(f x).length=c){T ty:TypeId}{B g n cap:Nat}{L:List α}(h:ow f c E w B (vL (some ⟨g,0,none⟩) n cap) L)(hi:i<L.length)(hT:P.underlying T=some (.slice E))(hinfo:P.info? E=some ti)(hsz:ti.size=c)(hone:∀x,∀v∈f x,v.oneCell'=true){A:Addr}(hA:¬L.length=i+1->A=⟨g,(i+1)*c,none⟩){m2:Nat}(hm:m2=L.length-(i+1)) :
  ∃w',(Builtin.append_ #[T,T] ty #[vL (some ⟨g,0,none⟩) i cap,vL (some A) m2 c2]).run P w=.ok (vL (some ⟨g,0,none⟩) (L.length-1) cap) w'/\ow f c E w' B (vL (some ⟨g,0,none⟩) (L.length-1) cap) (L.take i++L.drop (i+1))/\Fr (λr=>r=g) w w':=by
 rcases h.2 with⟨h1,_⟩|⟨g',cap',cur,h1,hB,h3,h4,h5,h6,h7⟩
 ·cases h1
 cases h1;subst hsz hm;obtain⟨news,hnews⟩:∃z,z=(L.drop (i+1)).flatMap f:=⟨_,rfl⟩;have hnl:news.length=(L.length-(i+1))*ti.size:=by rw[hnews,aAz hlen,Go_]
 have hLc:L.length*ti.size<=cur.size:=by rw[h6];exact Nat.mul_le_mul_right _ h4
 have hsplit:(i+1)*ti.size+news.length=L.length*ti.size:=by rw[hnl,<-Nat.add_mul];congr 1;omega
 have hold:∀j,j<news.length->cur[(i+1)*ti.size+j]?=news[j]?:=λj hj=>by
  have e:news=(L.flatMap f).drop ((i+1)*ti.size):=by
   rw[hnews]
   conv=>rhs;rw[<-List.take_append_drop (i+1) L,List.flatMap_append]
   have hl:((L.take (i+1)).flatMap f).length=(i+1)*ti.size:=by rw[aAz hlen,Gq_];congr 1;omega
   have hd:((L.take (i+1)).flatMap f).drop ((i+1)*ti.size)=[]:=List.drop_of_length_le (by rw[hl];exact Gj_ _);rw[List.drop_append_of_le_length (by rw[hl];exact Gj_ _),hd,List.nil_append]
  rw[e,List.getElem?_drop,<-h7,List.getElem?_take_of_lt oM,Array.getElem?_toList]
 have ho:∀u∈news,u.oneCell'=true:=λu hu=>by
  rw[hnews] at hu;obtain⟨x,_,hx⟩:=List.mem_flatMap.1 hu;exact hone x u hx
 have hs:Go.Src P ti.size T (vL (some A) (L.length-(i+1)) c2) (L.length-(i+1)) news w:=Go.Src.ofSlice w hT A _ c2 news hnl (λj u hu=>by
  have hj:=(List.getElem?_eq_some_iff.1 hu).1;have hne:¬L.length=i+1:=λe=>by rw[hnl,e,Nat.sub_self,Nat.zero_mul] at hj;omega
  rw[hA hne,Addr.add_lit,aAj h3,hold j hj,hu]) ho
 obtain⟨w',r1,r2,r3⟩:=aA8 (P:=P) news (k:=i*ti.size) (i:=0) h3 (by rw[Nat.add_zero];have:i*ti.size<=(i+1)*ti.size:=Nat.mul_le_mul_right _ oM;omega) (List.all_eq_true.2 ho);have hic:i*ti.size<=(i+1)*ti.size:=Nat.mul_le_mul_right _ oM
 have hcell:∀j,j<news.length->(w.cell? ⟨g,0+i*ti.size+j,none⟩).isSome=true:=λj hj=>by
  rw[aAj h3,Nat.zero_add,Array.getElem?_eq_getElem oM];rfl
 have hfz:∀j,j<news.length->w.frozen? ⟨g,0+i*ti.size+j,none⟩=false:=λj hj=>by simp[World.frozen?,h3]
 have hr:=run_append_room_src (P:=P) w T T ty E ti hT hinfo g 0 i cap (vL (some A) (L.length-(i+1)) c2) (L.length-(i+1)) news hs oM hcell hfz;have hst:=run_storeCells_cells (P:=P) g (i*ti.size) news 0 w (by simpa using hcell) (by simpa using hfz) ho
 have hw:w.setCells g (0+i*ti.size) news=w':=by
  rw[hst] at r1;simpa using r1
 rw[hw] at hr;have hll:(L.take i++L.drop (i+1)).length=L.length-1:=by rw[Gi_,Gq_,Go_];omega
 refine⟨w',by rw[hr];congr 2;omega,⟨aAz hlen _,.inr ⟨_,_,_,by rw[hll],hB,r2,by omega,h5,by rw[aEe];exact h6,?_⟩⟩,r3⟩;rw[hll,List.flatMap_append,<-hnews];have hpg:=aEf news cur (i*ti.size+0);have ht:(L.take i).flatMap f=cur.toList.take (i*ti.size):=by rw[<-aCL hlen,<-h7,List.take_take,Nat.min_eq_left (Nat.mul_le_mul_right _ oM)]
 have hend:(L.length-1)*ti.size=i*ti.size+news.length:=by rw[hnl,<-Nat.add_mul];congr 1;omega
 rw[ht,hend];apply List.ext_getElem?;intro q;have hcl:(cur.toList.take (i*ti.size)).length=i*ti.size:=by rw[Gq_,Array.length_toList];omega
 by_cases h8:q<i*ti.size
 ·rw[List.getElem?_take_of_lt oM,Array.getElem?_toList,hpg q oM,if_neg oM,List.getElem?_append_left oM,List.getElem?_take_of_lt h8,Array.getElem?_toList]
 ·by_cases h9:q<i*ti.size+news.length
  ·rw[List.getElem?_take_of_lt h9,Array.getElem?_toList,hpg q oM,if_pos oM,List.getElem?_append_right oM,hcl,Nat.add_zero]
  ·rw[List.getElem?_take_eq_none oM,List.getElem?_eq_none (by rw[Gi_];omega)]
variable{B:Code}{M:List Ent}{F0:Nat->Prop}{ds:List Deferred}{m:Nat}
section
variable{P:Program}{R:Pst}{n:Nat}{p:Option (Nat×Nat)}{L N:Frm}{w0:World}{r' i':Nat}{F:List Ft}
theorem aNJ {f:α->List Value}{c:Nat}(hlen:∀x,(f x).length=c){B g n cap:Nat}{A:List α}(h:ow f c E w B (vL (some ⟨g,0,none⟩) n cap) A)(hm:A.length+m<=cap){us:List Value}(hus:us.length=m*c)(ho:us.all (·.oneCell')=true) :
  ∃w',(storeCells ⟨g,A.length*c,none⟩ us 0).run P w=.ok () w'/\ow f c E w' B (vL (some ⟨g,0,none⟩) n cap) A/\Fr (λr=>r=g) w w':=by
 rcases h.2 with⟨h1,_⟩|⟨g',cap',cur,h1,hB,h3,h4,h5,h6,h7⟩
 ·cases h1
 ·cases h1;have hcs:A.length*c+m*c<=cur.size:=by rw[h6,<-Nat.add_mul];exact Nat.mul_le_mul_right c hm
  obtain⟨w',r1,r2,r3⟩:=aA8 (P:=P) us (k:=A.length*c) (i:=0) h3 oM ho;refine⟨w',r1,⟨h.1,.inr ⟨_,_,_,rfl,hB,r2,h4,h5,by rw[aEe];exact h6,?_⟩⟩,r3⟩;have hpg:=aEf us cur (A.length*c+0);rw[<-h7];apply List.ext_getElem?;intro q
  by_cases hq:q<A.length*c
  ·rw[List.getElem?_take_of_lt hq,List.getElem?_take_of_lt hq,Array.getElem?_toList,Array.getElem?_toList,hpg q oM,if_neg oM]
  ·rw[List.getElem?_take_eq_none oM,List.getElem?_take_eq_none oM]
theorem bAc (r' i':Nat)(N:Frm)(T:TypeId)(j:Nat){f:α->List Value}{c:Nat}{g n2 cap:Nat}{A:List α}(hlen:∀x,(f x).length=c)(z:Array Value)(hF:aBg P w F)(hM:Mm F0 w0 w M)(hj:M[j]?=some (rw_ f c E (vL (some ⟨g,0,none⟩) n2 cap) A))(hk:A.length+(m+1)<=cap)(hT:P.underlying T=some (.slice E))(hz:∀w,(zeroValue E).run P w=.ok (.agg z) w)(hzc:∀m,(Builtin.zeroCells z m).toList.length=m*c)(hzo:∀m,(Builtin.zeroCells z m).toList.all (·.oneCell')=true)
  (kk:∀w',Mm F0 w0 w' (M.set j (rw_ f c E (vL (some ⟨g,0,none⟩) n2 cap) A))->AtO P B R ds n (some (r',i'+1)) (N++L) w')
  (h:(lhs (go P w n B p L r' i' F) N L,aWT (go P w n B p L r' i' F) n L (λx =>.call ⟨.builtin .clear,#[x],#[T]⟩))=(rhs (go P w n B p L r' i' F) N B r' i',aWS (go P w n B p L r' i' F) n L (λx =>.call ⟨.builtin .clear,#[x],#[T]⟩) none (vL (some ⟨g,A.length*c,none⟩) (m+1) c2)):=by kernel_rfl):AtO P B R ds n p L w:=by
 obtain⟨w',g1,g2,g3⟩:=aNJ (P:=P) hlen (hM.get j hj) hk (hzc (m+1)) (hzo _);have hM':=hM.put (w':=w') (e':=rw_ f c E (vL (some ⟨g,0,none⟩) n2 cap) A) j hj g3 (λb _ e=>by subst e;rfl) g2 λb e =>.inl e;refine aSa hF h λO k1 o l a x hf hd1 En hdd hw ho hx=>aDH hw (aOX ho hx hT hz g1) ?_;rw[hdd];obtain⟨O1,dr,k2,hf1,hk⟩:=kk w' hM';rw[hf] at hf1;cases hf1;have hdr:O.toList.drop (i'+1)=l:=by rw[<-List.tail_drop,hd1];rfl
 rw[<-hdr];exact hk _ En
theorem sl4 (r' i' d:Nat)(N:Frm)(T E:TypeId)(t4:Nat){g s n2 a b:Nat}(hd:d<n)(hF:aBg P w F)(hs:∀w,(Go.sizeOf E).run P w=.ok s w)(hT:P.underlying T=some (.slice E))(hab:a<=b)(hbm:b<=m)(hmc:m<=c2)(ham:a<m)(h4:Go.Pl.look (N++L) t4=some (vI (m:Int)))
  (k:∀v,AtO P B R ds n (some (r',i'+1)) ((d,v)::(N++L)) w)
  (h:(lhs (go P w n B p L r' i' F) N L,aSU (go P w n B p L r' i' F) n L (λx y z =>.slice T x (some y) (some z) (some (.tmp t4))))=(rhs (go P w n B p L r' i' F) N B r' i',aST (go P w n B p L r' i' F) n L (λx y z =>.slice T x (some y) (some z) (some (.tmp t4))) (some d) (vL (some ⟨g,0,none⟩) n2 c2) (vI (a:Int)) (vI (b:Int))):=by kernel_rfl):AtO P B R ds n p L w :=
 aK2 hF h λO kk o l ac x y z hf hd1 En hdd hw ho hx hy hz=>by
  have h5:ac.eval (.tmp t4)=vI (m:Int):=En.at_ t4 _ h4;have q1:¬m<b:=by omega
  have q2:¬b<a:=by omega
  have q3:¬c2<m:=by omega
  have q4:¬m=a:=by omega
  have q5:¬m-a=0:=by omega
  have hr:(execOp ac.eval o).run P w=.ok (.value (vL (some ⟨g,a*s,none⟩) (b-a) (m-a))) w:=by
   generalize hev:ac.eval=ρ at *;simp[execOp,ho,hx,hy,hz,h5,go_sem,hT,hs,q1,q2,q3,q4,q5,hab,hbm,hmc,Result.andThen,Addr.add];exact λh=>h.symm
  refine aDH hw hr ?_;rw[hdd];obtain⟨O1,dr,k2,hf1,hk⟩:=k (vL (some ⟨g,a*s,none⟩) (b-a) (m-a));rw[hf] at hf1;cases hf1;have hdr:O.toList.drop (i'+1)=l:=by rw[<-List.tail_drop,hd1];rfl
  rw[<-hdr];exact hk _ (En.put hd)
end
variable{ad:Addr}
section
variable{P:Program}{w0:World}{rd:Option Nat}{r n:Nat}{L:Frm}{ef:List Nat}{V:Lts->List (Option Value)}{F:Lts->List Ft}{Mf:Lts->List Bool->List Ent}
theorem aW9 {f:α->List Value}{c:Nat}(p i j d:Nat)(T E:TypeId){g n2 cap i0 m2:Nat}{A A2:List α}(hA2:A2=A.take i0++A.drop (i0+1))(hlen:∀x,(f x).length=c)(hi:i0<A.length)(hT:P.underlying T=some (.slice E))(hinfo:P.info? E=some ti)(hsz:ti.size=c)(hone:∀x,∀v∈f x,v.oneCell'=true)(hA:¬A.length=i0+1->ad=⟨g,(i0+1)*c,none⟩)(hm2:m2=A.length-(i0+1))
  (hj:∀Z fr,(Mf Z (flg B r ef i fr))[j]?=some (rw_ f c E (vL (some ⟨g,0,none⟩) n2 cap) A):=by intro Z fr;kernel_rfl)
  (hm:∀Z fr,(Mf Z (flg B r ef i fr)).set j (rw_ f c E (vL (some ⟨g,0,none⟩) A2.length cap) A2)=Mf (aBK Z p undef) ((flg B r ef i fr).set p true):=by intro Z fr;kernel_rfl)
  (hV:∀Z,((V (aBK Z p undef))[p]?).getD none=some (vL (some ⟨g,0,none⟩) A2.length cap):=by intro Z;rfl)
  (hs:∀Z,aUO (aA9 B r) i (frX P w n B r L ef V F i Z)=aUN (aA9 B r) i (λx y =>.call { callee := .builtin .append,args:=#[x,y],argTypes:=#[T,T] }) (vL (some ⟨g,0,none⟩) i0 cap) (vL (some ad) m2 c2) (some d):=by intro Z;kernel_rfl):Arm rd P w n B r L ef V F ds F0 w0 Mf p i:=by
 intro Z fr a wm Q o ho En hw hM;obtain⟨x,y,h1,h2,h3,h4⟩:=aK8 ho En (hs Z);have hrow:=hM.get j (hj Z fr);obtain⟨w',g1,g2,g3⟩:=aV9 (P:=P) (ty:=o.type) hlen hrow hi hT hinfo hsz hone hA hm2 (c2:=c2);have e:A2.length=A.length-1:=by rw[hA2,Gi_,Gq_,Go_];omega
 rw[<-e] at g1 g2;rw[<-hA2] at g2;have hM':=hM.put (w':=w') j (e':=rw_ f c E (vL (some ⟨g,0,none⟩) A2.length cap) A2) (hj Z fr) g3 (λk _ e=>by subst e;rfl) g2 λk e =>.inl e;rw[hm] at hM'
 have hr:(execOp a.eval o).run P wm=.ok (.value (vL (some ⟨g,0,none⟩) A2.length cap)) w':=by
  simp[execOp,h1,h2,h3,resolve,invoke,builtin,g1,Result.andThen]
 exact aF1 (w':=w') hr ⟨undef,Z.e p,by rw[aAy,hV,h4];rfl,by rw[aAy];exact hM'⟩
end
variable{k:Nat}
section
variable{P:Program}
theorem aX0 (T E:TypeId)(g s:Nat){n c:Nat}{z:Int}(had:ad=if c=k then⟨g,0,none⟩ else⟨g,k*s,none⟩)(hz:z=(k:Int))(hk:k<=n)(hc:n<=c)(hs:∀w,(Go.sizeOf E).run P w=.ok s w)(hT:P.underlying T=some (.slice E):=by kernel_rfl):Ft.ok P w (.g2 (λx a =>.slice T x (some a) none none) (vL (some ⟨g,0,none⟩) n c) (vI z) (vL (some ad) (n-k) (c-k))):=λo ρ x y ho hx hy=>by
  subst hz had;have h1:¬c<k:=by omega
  have h2:¬n<k:=by omega
  have h7:k<=c:=by omega
  have h6:k<=n:=hk
  by_cases h4:c=k
  · have h5:c-k=0:=by omega
    simp[execOp,ho,hx,hy,go_sem,hT,hs,h1,h2,h4,h5,h6,h7,Result.andThen,Addr.add]
    try omega
  · have h5:¬c-k=0:=by omega
    simp[execOp,ho,hx,hy,go_sem,hT,hs,h1,h2,h4,h5,h6,h7,Result.andThen,Addr.add]
    try exact λh=>h.symm
theorem aZn (T E:TypeId)(g s:Nat){n c a b:Nat}(hb:b=a+m)(hc:b<=c)(hm:0<m)(hs:∀w,(Go.sizeOf E).run P w=.ok s w)(hT:P.underlying T=some (.slice E):=by kernel_rfl):Ft.ok P w (.g3 (λx y z =>.slice T x (some y) (some z) none) (vL (some ⟨g,0,none⟩) n c) (vI (a:Int)) (vI (b:Int)) (vL (some ⟨g,a*s,none⟩) m (c-a))):=λo ρ x y z ho hx hy hz=>by
  have h1:¬c<b:=by omega
  have h2:¬b<a:=by omega
  have h4:¬c=a:=by omega
  have h5:¬c-a=0:=by omega
  have h6:a<=b:=by omega
  have h8:b-a=m:=by omega
  simp[execOp,ho,hx,hy,hz,go_sem,hT,hs,h1,h2,h4,h5,h6,h8,hc,Result.andThen,Addr.add]
  try exact λh=>h.symm
end
theorem aUW (w:World):(zeroValue 72).run Tryz.prog w=.ok (.agg #[vS [],vS []]) w:=by kernel_rfl
theorem zcT (m:Nat):(Builtin.zeroCells #[vS [],vS []] m).toList.length=m*2:=by
  unfold Builtin.zeroCells;simp
theorem zoT (m:Nat):(Builtin.zeroCells #[vS [],vS []] m).toList.all (·.oneCell')=true:=by
  unfold Builtin.zeroCells;rw[List.all_eq_true];intro x hx;simp at hx;obtain⟨i,hi,rfl⟩:=hx;have:i%2=0\/i%2=1:=by omega
  rcases this with h|h<;>simp[h]<;>rfl
theorem aM0 {G:Nat->Prop}{u0:Value}{L:List Tag}(hi:i<L.length)(hl:L.length<=1000000)(hM:Mm G w w [rw_ tgL 2 72 u0 L]):Calls Tryz.prog 46 #[u0,vI (i:Int),vI ((i:Int)+1)] w λe w'=>∃u,e=.returned u/\Mm G w w' [rw_ tgL 2 72 u (L.take i++L.drop (i+1))]:=by
  obtain⟨p,c,hv0,-⟩:=(hM.src (j:=0) rfl tgT.len).op;subst hv0;obtain⟨g,hg,-,hLc,-⟩:=aJB (hM.get 0 rfl) (show 0<L.length by omega);subst hg;have hcm:c<=9223372036854775807:=((hM.src (j:=0) rfl tgT.len).p).2.ca;obtain⟨ad,had⟩:∃ad:Addr,ad=if c=i+1 then⟨g,0,none⟩ else⟨g,(i+1)*2,none⟩:=⟨_,rfl⟩
  obtain⟨A,hA⟩:∃A,A=L.take i++L.drop (i+1):=⟨_,rfl⟩;have hAl:L.length=A.length+1:=by rw[hA,Gi_,Gq_,Go_];omega
  obtain⟨ti,tz,hti,-,hsz,-⟩:=tgT.info;refine beg Tryz.func46 rfl rfl [(0,vL (some ⟨g,0,none⟩) L.length c),(1,vI (i:Int)),(2,vI ((i:Int)+1))] rfl rfl λY hY=>?_
  skip
  refine sl4 1 5 13 [(8,vL (some ⟨g,0,none⟩) L.length c),(9,vI (i:Int)),(10,vI ((i:Int)+1)),(12,vI (L.length:Int))] 46 72 12 dE f0 (λw=>by kernel_rfl) u46_ (g:=g) (s:=2) (n2:=L.length) (c2:=c) (a:=i) (b:=i+1) (m:=L.length) oM oM hLc oM rfl λv9=>seg 2 3 [(16,vB ((i:Int)==((i:Int)+1)))] f0 ?_;cases aa:((i:Int)==((i:Int)+1))
  ·have ab:=ef aa;refine seg 5 0 [(7,vI (L.length:Int))] f0 (drx [6] (λZ=>[some (vL (some ⟨g,0,none⟩) A.length c)]) _ (λZ l=>[(bif l.getD 0 false then rw_ tgL 2 72 (vL (some ⟨g,0,none⟩) A.length c) A else rw_ tgL 2 72 (vL (some ⟨g,0,none⟩) L.length c) L)]) (λZ=>[(0,vL (some ⟨g,0,none⟩) A.length c)]) hM (λZ=>rfl) (λZ l w5 hM=>(fc (aX1 46 72 g (n:=L.length) (c:=c) (k:=i) rfl (show i<=c by omega) (show 0<c by omega) hcm ⟨2,λw=>by kernel_rfl⟩) (fc (aX0 46 72 g 2 had rfl (show i+1<=L.length by omega) hLc (λw=>by kernel_rfl)) f0))) ⟨aW9 0 6 0 26 46 72 (g:=g) (n2:=L.length) (cap:=c) (m2:=L.length-(i+1)) (c2:=c-(i+1)) (i0:=i) (ad:=ad) hA tgT.len hi tgT.hT hti hsz tgT.one (λe=>by rw[had,if_neg oM]) rfl,trivial⟩ λac w1 hM=>?_);replace hM:Mm G w w1 [_]:=hM;refine bAc 6 5 [(31,vL (some ⟨g,A.length*2,none⟩) 1 (c-A.length))] 46 0 (m:=0) (c2:=c-A.length) tgT.len _ (fc (aZn 46 72 g 2 (n:=A.length) hAl (show L.length<=c from hLc) dE (λw=>by kernel_rfl)) f0) hM rfl (show A.length+(0+1)<=c by omega) u46_ aUW zcT zoT λw1 hM=>rt1 6 (vL (some ⟨g,0,none⟩) A.length c) rfl f0 (hY _ _ ⟨_,rfl,by rw[<-hA];exact hM⟩)
  have ab:=et aa;exact absurd (et aa) oM
theorem aZU {L:List Tag}{x:Tag}{vb:Nat}(hM:Mm (BlM [rw_ tgL 2 72 v L,bk vb #[vS x.1,vS x.2] 72]) w w [rw_ tgL 2 72 v L,bk vb #[vS x.1,vS x.2] 72])(hi:i<=L.length)(hl:L.length<=100000000):Calls Tryz.prog 47 #[v,.int .i64 i,vL (some ⟨vb,0,none⟩) 1 1] w λe w'=>∃u Mn,e=.returned u/\Mn=[rw_ tgL 2 72 u (L.take i++x::L.drop i)]/\Mm (BlM [rw_ tgL 2 72 v L,bk vb #[vS x.1,vS x.2] 72]) w w' Mn:=by
  have hn:v.ownBlock≠some vb:=λe=>by
    have:=List.pairwise_iff_getElem.1 hM.nd 0 1 sI sI dE;exact this vb e rfl
  refine(aJO tgT (hM.get 0 rfl) hi (hM.get 1 rfl) hn hl (Gg_ _)).mono λe w' ⟨v',h1,h2,h3,h4⟩=>⟨v',_,h1,rfl,?_⟩
  exact(hM.pick [0]).put (w':=w') 0 rfl h3 (λk _ e=>e) (e':=rw_ tgL 2 72 v' (L.take i++x::L.drop i)) h2 (λk e=>by
    have e:v'.ownBlock=some k:=e;rcases h4 with h4|h4
    · exact .inl (by rw[h4] at e;exact e)
    · rw[h4] at e;cases e;exact .inr (Gj_ _))
structure SetT (L T:List Tag)(s:Bys):Prop where
  get:∀k,¬s=k->aAE T k=aAE L k
  bnd:∀t∈T,B63 t.1/\B63 t.2
variable{s:Bys}
theorem SetT.same {L:List Tag}(hb:∀t∈L,B63 t.1/\B63 t.2):SetT L L s:=⟨λ_ _=>rfl,hb⟩
section
variable{L:List Tag}{v:Bys}{t:Tag}(hb:∀t∈L,B63 t.1/\B63 t.2)
include hb
theorem SetT.del (ht:L[i]?=some t)(e:t.1=s):SetT L (L.take i++L.drop (i+1)) s :=
  ⟨λk hk=>aO5 L i ht (by rw[e];exact hk),λx hx=>(List.mem_append.1 hx).elim (λh=>hb x (List.mem_of_mem_take h)) λh=>hb x (List.mem_of_mem_drop h)⟩
theorem SetT.set (hs:B63 s)(hv:B63 v)(ht:L[i]?=some t)(e:t.1=s):SetT L (L.set i (t.1,v)) s :=
  ⟨λk hk=>aO3 (t2:=(t.1,v)) (by rw[e];exact hk) L i ht (by rw[e];exact hk),λx hx=>(List.mem_or_eq_of_mem_set hx).elim (hb x) λh=>by rw[h];exact⟨by rw[e];exact hs,hv⟩⟩
theorem SetT.ins (hs:B63 s)(hv:B63 v):SetT L (L.take i++(s,v)::L.drop i) s :=
  ⟨λk hk=>aO4 hk L i,λx hx=>(List.mem_append.1 hx).elim (λh=>hb x (List.mem_of_mem_take h)) λh=>(List.mem_cons.1 h).elim (λh=>by rw[h];exact⟨hs,hv⟩) λh=>hb x (List.mem_of_mem_drop h)⟩
end
theorem aXv {L:List Tag}(h:aE5 L=true):L.length<=60:=by
  unfold aE5 at h;simp only[Ga_,decide_eq_true_eq] at h;omega
theorem aLH {p:Option Addr}{cap:Nat}{L:List Tag}(hs:SrcP tgL 2 w p cap L)(hbt:∀t∈L,B63 t.1/\B63 t.2){v:Bys}(hks:s.length<=9223372036854775807)(hkv:B63 v):Calls Tryz.prog 19 #[vL p L.length cap,vS s,vS v] w λe w'=>∃u z T,e=.returned (.tuple #[u,vI z])/\Mm nF_ w w' [rw_ tgL 2 72 u T]/\(∀t∈T,B63 t.1/\B63 t.2)/\(z=0->SetT L T s):=by
  have bb:=hs.bnd;refine beg Tryz.func19 rfl rfl [(0,vL p L.length cap),(1,vS s),(2,vS v)] rfl rfl λZ hZ=>?_;have hM:=Mm.nil nF_ w;refine aAw 1 1 12 [(11,vL p L.length cap)] f0 hM (aBS (hs.src.fr hM.fr) hbt) λw1 hM=>seg 1 4 [(14,vB (!(aE5 L)))] f0 ?_;cases ac:(aE5 L)
  ·exact rt2 6 7 (vL none 0 0) (vI 1) rfl rfl f0 (hZ _ _ ⟨_,_,[],rfl,(hM.pick (M':=[]) []).row,(λ_ h=>by cases h),λh=>absurd h dE⟩)
  have h60:=aXv ac;refine aAw 1 5 16 [(15,vS s)] f0 hM (aA6 hks _) λw1 hM=>seg 1 9 [(19,vB (!(aBk s)))] f0 ?_;cases af:(aBk s)
  ·exact rt2 6 7 (vL none 0 0) (vI 1) rfl rfl f0 (hZ _ _ ⟨_,_,[],rfl,(hM.pick (M':=[]) []).row,(λ_ h=>by cases h),λh=>absurd h dE⟩)
  refine seg 1 13 [(23,vB (decide (200<(v.length:Int))))] (fc (aHS 9 v) f0) ?_;cases ag:(decide (200<(v.length:Int)))
  rotate_left
  ·exact rt2 6 7 (vL none 0 0) (vI 1) rfl rfl f0 (hZ _ _ ⟨_,_,[],rfl,(hM.pick (M':=[]) []).row,(λ_ h=>by cases h),λh=>absurd h dE⟩)
  refine aJd 3 2 27 [(25,vL p L.length cap),(26,vS s)] (K:=λu w8=>∃(i:Nat)(b:Bool),u=.tuple #[vI (i:Int),vB b]/\i<=L.length/\(b=true->∃t,L[i]?=some t/\t.1=s)) f0 hM ((aPi (hs.fr hM.fr) oM s).mono λe w9 ⟨i,b,h1,h2,h3,h4⟩=>⟨⟨_,h1,i,b,rfl,h2,h3⟩,h4⟩) λu w1 ⟨i9,b9,hu,hi9,hb9⟩ hM f1=>?_;subst hu;refine aHU 4 1 31 [(8,vI (i9:Int)),(9,vB b9),(30,vL p L.length cap)] (K:=λu Mn=>Mn=[rw_ tgL 2 72 u L]) [] [] f0 hM rfl rfl dE (λhm=>((aIO (hs.fr hM.fr) oM).mono λe w9 ⟨u,h1,h2⟩=>⟨_,_,h1,rfl,aEP h2 λ_ h=>h.elim⟩)) λu Mn w1 hK hM=>?_;obtain rfl:=hK;obtain⟨qk,ck,ek,-⟩:=(hM.src (j:=0) rfl tgT.len).op;subst ek;refine seg 5 2 [(10,vL qk L.length ck),(34,vB b9)] f0 ?_
  cases ad:b9 with
  | false =>
   refine seg 9 3 [(53,vB (!(v==[])))] (fc (sne 9 v []) f0) ?_;cases aa:(v==[])
   rotate_left
   ·exact rt2 6 7 (vL qk L.length ck) (vI 0) rfl rfl (fc (rz (sne 9 v []) (by rw[aa]<;>rfl)) f0) (hZ _ _ ⟨_,_,_,rfl,hM.pick [0],(SetT.same (s:=s) hbt).bnd,λ_=>SetT.same (s:=s) hbt⟩)
   refine seg 9 8 [(50,vB ((L.length:Int)==60))] f0 ?_;cases ah:((L.length:Int)==60)
   ·refine aAu 12 5 66 [(61,vL qk L.length ck),(62,vI (i9:Int)),(65,.agg #[vS s,vS v])] (cs:=#[vS s,vS v]) (T:=72) (v:=λb=>vL (some ⟨b,0,none⟩) 1 1) (fc (rz (sne 9 v []) (by rw[aa]<;>rfl)) f0) hM λai w1 hM=>aHU 12 6 67 [] (K:=λu Mn=>Mn=[rw_ tgL 2 72 u (L.take i9++(s,v)::L.drop i9)]) [] [0,1] f0 hM rfl rfl dE (λhm=>(aZU (L:=L) (x:=(s,v)) hm hi9 oM)) λu Mn w1 hK hM=>?_;obtain rfl:=hK;exact rt2 6 7 u (vI 0) rfl rfl f0 (hZ _ _ ⟨_,_,_,rfl,hM.pick [0],(SetT.ins hbt hks hkv).bnd,λ_=>SetT.ins hbt hks hkv⟩)
   exact rt2 6 7 (vL none 0 0) (vI 2) rfl rfl f0 (hZ _ _ ⟨_,_,[],rfl,(hM.pick (M':=[]) []).row,(λ_ h=>by cases h),λh=>absurd h dE⟩)
  | true =>
   obtain⟨t9,ht9,hts⟩:=hb9 ad;have hil:=gl ht9;refine seg 5 6 [(32,vB (v==[]))] (fc (seq 9 v []) f0) ?_;cases aj:(v==[])
   ·obtain⟨ae,ab,-⟩:=hM.el tgT (j:=0) rfl ht9;refine aXx 8 5 [(47,vS v),(49,vP ae ((0+i9*2)+1))] 9 0 1 (t9.1,v) (vS v) tgT (fc (ix 46 ck ab (show i9<L.length from hil)) f0) hM rfl ab ht9 rfl λw1 hM=>rt2 6 7 (vL qk L.length ck) (vI 0) rfl rfl f0 (hZ _ _ ⟨_,_,_,rfl,hM.pick [0],(SetT.set hbt hks hkv ht9 hts).bnd,λ_=>SetT.set hbt hks hkv ht9 hts⟩)
   refine aHU 6 4 42 [(38,vL qk L.length ck),(39,vI (i9:Int)),(41,vI ((i9:Int)+1))] (K:=λu Mn=>Mn=[rw_ tgL 2 72 u (L.take i9++L.drop (i9+1))]) [] [0] (fc (aAP (i9:Int) 1 u3_) f0) hM rfl rfl dE (λhm=>((aM0 hil oM hm).mono λe w9 ⟨u,h1,h2⟩=>⟨u,_,h1,rfl,h2⟩)) λu Mn w1 hK hM=>?_;obtain rfl:=hK;exact rt2 6 7 u (vI 0) rfl rfl f0 (hZ _ _ ⟨_,_,_,rfl,hM.pick [0],(SetT.del hbt ht9 hts).bnd,λ_=>SetT.del hbt ht9 hts⟩)
def aTT (h:Nat)(q:QdR)(os:List ObR):List (Bys×Int):=aEY h q os q.id
theorem aRg (h:Nat)(q:QdR)(os:List ObR):(aTT h q os).length<=os.length:=aRh h q os q.id
variable{B h:Nat}{os:List ObR}
section
variable{wm:World}{j b:Nat}{e:Ent}{p0:Option Addr}{cp0:Nat}(hm:aCt w (vL p0 os.length cp0) os)(hvm:aAh (aAa os)=true){q:QdR}(hq:QdIn w B h q)(hBw:B<=w.heap.size)(hTe:Te w)(hol:os.length<=10000)(hM:Mm nF_ w wm M)(hj:M[j]?=some (pfE (frK (vL p0 os.length cp0) os q b) e))(hF:Mm (BlM [pfE (frK (vL p0 os.length cp0) os q b) e]) wm wm [pfE (frK (vL p0 os.length cp0) os q b) e])
include hm hvm hq hBw hTe hol hM hj hF
theorem aMO:Calls Tryz.prog 29 #[vP b 0] wm λx w'=>∃u z e',x=.returned (.tuple #[u,vI z])/\rwK (aTT h q os) u z e'/\Mm (BlM [pfE (frK (vL p0 os.length cp0) os q b) e]) wm w' [e']:=by
 obtain⟨bs,xi,mb,S,hS,hG,h1⟩:=aGa hvm hM hj hF;exact(aHY (hm.fr hM.fr) hvm (hq.fr hM.fr hBw) (Gn_ hBw hM.fr.size) (hTe.fr hM.fr) (h1.get 0 rfl) oM).mono λx w' ⟨u,g1,g2⟩=>⟨u,0,_,g1,⟨rfl,rfl⟩,aEP g2 λ_ h=>h.elim⟩
theorem aOR:Calls Tryz.prog 33 #[vP b 0] wm λx w'=>∃u z e',x=.returned (.tuple #[u,vI z])/\rwK (aR2 h q os) u z e'/\Mm (BlM [pfE (frK (vL p0 os.length cp0) os q b) e]) wm w' [e']:=by
 obtain⟨bs,xi,mb,S,hS,hG,h1⟩:=aGa hvm hM hj hF;exact(aKi hM.fr hG hm hvm hq hBw hTe hS oM rfl h1).mono λx w' ⟨u,g1,g2⟩=>⟨u,0,_,g1,⟨rfl,rfl⟩,g2⟩
end
theorem aLS (hmO:aCt w v os){q:QdR}(hq:QdIn w B h q)(hBw:B<=w.heap.size)(hTe:Te w)(hol:os.length<=10000)(hask:q.ask=2):Calls Tryz.prog 12 #[.agg #[v],.agg (qY_ q)] w λe w'=>∃u,e=.returned (.tuple #[u,vI (aAn h os q)])/\Mm nF_ w w' [rw_ rwL 2 42 u (bif (aAn h os q)==0 then(aTT h q os) else[])] :=
 aBN hmO hq hBw hTe hol ⟨by omega,λ_ =>.inr (.inl ⟨rfl,hask⟩)⟩ (aRg h q os) λhc _ _ hm _ _ _ _ _ hM hj hF=>by
  obtain⟨hvq,hvm,hn1,hn2⟩:=aEs hc;exact aMO hm hvm hq hBw hTe hol hM hj hF
theorem aLU (hmO:aCt w v os){q:QdR}(hq:QdIn w B h q)(hBw:B<=w.heap.size)(hTe:Te w)(hol:os.length<=10000)(hask:q.ask=6):Calls Tryz.prog 12 #[.agg #[v],.agg (qY_ q)] w λe w'=>∃u,e=.returned (.tuple #[u,vI (aAn h os q)])/\Mm nF_ w w' [rw_ rwL 2 42 u (bif (aAn h os q)==0 then(aR2 h q os) else[])] :=
 aBN hmO hq hBw hTe hol ⟨by omega,λ_ =>.inr (.inr (.inr (.inr ⟨rfl,hask⟩)))⟩ (aR1 h q os) λhc _ _ hm _ _ _ _ _ hM hj hF=>by
  obtain⟨hvq,hvm,hn1,hn2⟩:=aEs hc;exact aOR hm hvm hq hBw hTe hol hM hj hF
def aCw (h:Nat)(q:QdR)(os:List ObR):List (Bys×Int):=if q.ask=1 then aDy h q os else if q.ask=2 then aTT h q os else if q.ask=3 then aC8 h q os else if q.ask=4 then aFR h q os else aR2 h q os
theorem aW7 {q:QdR}(h5:¬q.ask=5)(hc:aAn h os q=0):q.ask=1\/q.ask=2\/q.ask=3\/q.ask=4\/q.ask=6:=Decidable.byContradiction λhn=>by
 have hv:=(aEs hc).1;unfold aAU at hv;simp only[Ga_] at hv;have h2:=hv.2;unfold aIY at h2;have e:∀k:Int,¬q.ask=k->(q.ask==k)=false:=λk hk=>by simpa using hk
 rw[e 1 oM,e 2 oM,e 3 oM,e 4 oM,e 5 h5,e 6 oM] at h2;cases h2
theorem aGC (hmO:aCt w v os){q:QdR}(hq:QdIn w B h q)(hBw:B<=w.heap.size)(hTe:Te w)(hol:os.length<=10000)(h5:¬q.ask=5):Calls Tryz.prog 12 #[.agg #[v],.agg (qY_ q)] w λe w'=>∃u,e=.returned (.tuple #[u,vI (aAn h os q)])/\Mm nF_ w w' [rw_ rwL 2 42 u (bif (aAn h os q)==0 then(aCw h q os) else[])]:=by
 by_cases h1:q.ask=1
 ·rw[show aCw h q os=aDy h q os from if_pos h1];exact aE7 hmO hq hBw hTe hol h1
 by_cases h2:q.ask=2
 ·rw[show aCw h q os=aTT h q os by unfold aCw;rw[if_neg h1,if_pos h2]];exact aLS hmO hq hBw hTe hol h2
 by_cases h3:q.ask=3
 ·rw[show aCw h q os=aC8 h q os by unfold aCw;rw[if_neg h1,if_neg h2,if_pos h3]];exact aGE hmO hq hBw hTe hol h3
 by_cases h4:q.ask=4
 ·rw[show aCw h q os=aFR h q os by unfold aCw;rw[if_neg h1,if_neg h2,if_neg h3,if_pos h4]];exact aGD hmO hq hBw hTe hol h4
 by_cases h6:q.ask=6
 ·rw[show aCw h q os=aR2 h q os by unfold aCw;rw[if_neg h1,if_neg h2,if_neg h3,if_neg h4]];exact aLU hmO hq hBw hTe hol h6
 ·have hc:¬aAn h os q=0:=λhc=>by have:=aW7 h5 hc;omega
  refine(aBN hmO hq hBw hTe hol (F:=28) ⟨h5,λh=>absurd h hc⟩ (RW:=[]) (Gg_ _) λh=>absurd h hc).mono λe w' ⟨u,g1,g2⟩=>⟨u,g1,?_⟩;rw[show((aAn h os q)==0)=false by simpa using hc] at g2 ⊢;exact g2
theorem aTh {φ:ObR->ObR}(T:Tg φ){q:QdR}(hv:aAh (aAa os)=true)(hv2:aAh (aAa (os.map φ))=true)(ht:∀b∈os,∀k,¬k=kyK->aAE (φ b).o.tags k=aAE b.o.tags k)(hm:aGL h q.wh=false)(hk:¬q.key=kyK):aCw h q (os.map φ)=aCw h q os:=by
 have ha:∀b∈os,aA2 h q (φ b)=aA2 h q b:=λb hb=>aRC T (ht b hb) hm;unfold aCw;rw[T.all ha,show aTT h q (os.map φ)=aTT h q os from T.ins ha q.id,T.along hv hv2 ha,T.near hv hv2 ha,T.cnt ha λb hb=>ht b hb _ hk]
def o2R (b:ObR)(T:List Tag)(p:Option Addr)(c:Nat):ObR:={ b with o:={ b.o with tags:=T },pt:=p,ct:=c }
def tgF (id:Bys)(T:List Tag)(p:Option Addr)(c:Nat)(b:ObR):ObR:=if b.o.id=id then o2R b T p c else b
section
variable{id:Bys}{T:List Tag}{p:Option Addr}{c:Nat}{b:ObR}
theorem aRM:Tg (tgF id T p c):=⟨λb=>by unfold tgF;split<;>rfl,λb=>by unfold tgF;split<;>rfl,λb=>by unfold tgF;split<;>rfl,λb=>by unfold tgF;split<;>rfl,λb=>by unfold tgF;split<;>rfl⟩
theorem aHd:tgF b.o.id T p c b=o2R b T p c:=by unfold tgF;rw[if_pos rfl]
theorem aVo (hnd:(os.map (·.o.id)).Nodup)(hb:b∈os)(hS:SetT b.o.tags T kyK):∀a∈os,∀k,¬k=kyK->aAE (tgF b.o.id T p c a).o.tags k=aAE a.o.tags k:=λa ha k hk=>by
 by_cases e:a.o.id=b.o.id
 ·rw[aMd hnd ha hb e,aHd];exact hS.get k λe=>hk e.symm
 ·unfold tgF;rw[if_neg e]
theorem aVy (hnd:(os.map (·.o.id)).Nodup)(hb:os[k]?=some b):os.set k (tgF b.o.id T p c b)=os.map (tgF b.o.id T p c):=by
 rw[aTe hnd hb];refine List.map_congr_left λa ha=>?_
 by_cases e:a.o.id=b.o.id
 ·rw[if_pos e,aMd hnd ha (Ge_ hb) e]
 ·rw[if_neg e];unfold tgF;rw[if_neg e]
theorem aHD (hb:b∈os):¬aAr (aAa os) b.o.id<0:=by
 unfold aAr
 cases h:(aAa os).findIdx? (λo=>o.id==b.o.id) with
 | none=>exact absurd (List.findIdx?_eq_none_iff.1 h b.o (List.mem_map.2 ⟨b,hb,rfl⟩)) sI
 | some i=>show ¬((i:Nat):Int)<0;omega
theorem aUf (hnd:(os.map (·.o.id)).Nodup)(hb:b∈os)(h:aAr (aAa os) b.o.id=(k:Int)):os[k]?=some b:=by
 obtain⟨j,z,h1,h2,h3⟩:=aLk (aHD hb);rw[h] at h1;obtain rfl:k=j:=by omega
 rw[h2,aMd hnd (Ge_ h2) hb h3]
end
theorem aOk {φ:ObR->ObR}(T:Tg φ):∀{os:List ObR}{k:Bys},(∀b∈os,aA1 b.o=true->aA1 (φ b).o=true)->aJI k (aAa os)=true->aJI k (aAa (os.map φ))=true
 | [],_,_,_=>rfl
 | b::os,k,ho,h=>by
  have h:(aA1 b.o&&blt k b.o.id&&aJI b.o.id (aAa os))=true:=h;simp only[Ga_] at h;show(aA1 (φ b).o&&blt k (φ b).o.id&&aJI (φ b).o.id (aAa (os.map φ)))=true;rw[T.id,ho b (.head _) h.1.1,h.1.2,aOk T (λa ha=>ho a (.tail _ ha)) h.2];rfl
theorem aPO {φ:ObR->ObR}(T:Tg φ)(ho:∀b∈os,aA1 b.o=true->aA1 (φ b).o=true)(h:aAh (aAa os)=true):aAh (aAa (os.map φ))=true:=by
 unfold aAh at h ⊢;rw[Ga_] at h ⊢;refine⟨aOk T ho h.1,?_⟩;have h2:=h.2;unfold aAa at h2 ⊢;simpa using h2
theorem aNL {b:ObR}{T:List Tag}{p:Option Addr}{c:Nat}{q:QdR}(hv:aAh (aAa os)=true)(hb:b∈os)(hk:aAr (aAa os) b.o.id=(k:Int))(hS:SetT b.o.tags T kyK)(hvo:aA1 (o2R b T p c).o=true)(hm:aGL h q.wh=false)(hky:¬q.key=kyK):aAn h (os.set k (o2R b T p c)) q=aAn h os q/\aCw h q (os.set k (o2R b T p c))=aCw h q os:=by
 have hnd:=aNC (aAV hv);rw[<-aHd,aVy hnd (aUf hnd hb hk)]
 have hv2:=aPO (aRM (id:=b.o.id) (T:=T) (p:=p) (c:=c)) (λa ha e=>by
  by_cases ei:a.o.id=b.o.id
  ·rw[aMd hnd ha hb ei,aHd];exact hvo
  ·unfold tgF;rw[if_neg ei];exact e) hv
 exact⟨aRM.check hv hv2,aTh aRM hv hv2 (aVo hnd hb hS) hm hky⟩
theorem aV6 {a b:Bool}{x y:α}:(bif (a&&b) then(0:Int) else 1)=0->a=true/\b=true/\(bif (a&&b) then x else y)=x:=by cases a<;>cases b<;>simp
theorem aTx (h:∀b∈os,ObIn w b){o2:ObR}(h2:ObIn w o2) :∀b∈os.set k o2,ObIn w b:=λb hb=>(List.mem_or_eq_of_mem_set hb).elim (h b) λe=>e▸h2
theorem aXQ {q:QdR}(hq:QdIn w B h q)(k:Int):QdIn w B h (kdQ q k):=⟨hq.wh,hq.id,hq.key,hq.prof⟩
theorem aSR {kk n:Nat}{q:QdR}{B:List (Bys×Int)}(h1:1<=kk)(hn:n=upK h q os (kk-1))(hB:B=aDy h (kdQ q (kk:Int)) os):n+B.length=upK h q os (kk+1-1):=by
 obtain⟨m,rfl⟩:∃m,kk=m+1:=⟨kk-1,by omega⟩;rw[hn,hB];exact(aMS h q m os).symm
theorem aV3 (hmO:aCt w v os){q:QdR}(hq:QdIn w B h q)(hBw:B<=w.heap.size)(hTe:Te w)(hol:os.length<=10000)(hask:q.ask=1)(hc:aAn h os q=0){k:Int}(h1:1<=k)(h5:k<=5):Calls Tryz.prog 12 #[.agg #[v],.agg #[vI q.ask,vI k,vI q.wh.op,vS q.wh.key,vS q.wh.val,vI q.wh.n,vL q.wh.p q.wh.kids.length q.wh.cap,vS q.id,vI q.n,vI q.x,vI q.y,vS q.key,vS q.prof,vI q.min]] w λe w'=>∃u,e=.returned (.tuple #[u,vI 0])/\Mm nF_ w w' [rw_ rwL 2 42 u (aDy h (kdQ q k) os)] :=
 (aE7 (q:=kdQ q k) hmO (aXQ hq k) hBw hTe hol hask).mono λe w' ⟨u,g1,g2⟩=>by
  rw[aVW hask hc h1 h5] at g1 g2;exact⟨u,g1,g2⟩
theorem aNr {os2:List ObR}(hmO:aCt w v os2){q:QdR}(hq:QdIn w B h q)(hBw:B<=w.heap.size)(hTe:Te w)(hol:os2.length<=10000)(h5:¬q.ask=5)(hch:aAn h os2 q=aAn h os q/\aCw h q os2=aCw h q os):Calls Tryz.prog 12 #[.agg #[v],.agg (qY_ q)] w λe w'=>∃u,e=.returned (.tuple #[u,vI (aAn h os q)])/\Mm nF_ w w' [rw_ rwL 2 42 u (bif (aAn h os q)==0 then(aCw h q os) else[])]:=by
 rw[<-hch.1,<-hch.2];exact aGC hmO hq hBw hTe hol h5
theorem b2i (A B:TypeId)(n:Int)(h:0<=n/\n<=255)(hA:A=5:=by rfl)(hB:B=3:=by rfl):Ft.ok Tryz.prog w (.g1 (.convert A B) (.int .u8 n) (vI n)):=λo ρ x ho hx=>by
 subst hA hB;have hw:IntKind.i64.wrap n=n:=IntWalk.i64_in _ ⟨by omega,by omega⟩;simp[execOp,ho,hx,go_sem,convert,Tryz.underlying5,u3_,hw]
theorem aMx {n:Nat}(h:aEn (aAa os) (n:Int)=true):os.length<=n:=by
 unfold aEn at h;simp only[Ga_,decide_eq_true_eq,aAT] at h;omega
section
variable{q:QdR}{b:ObR}{r:Bys×Int}
end
abbrev CP7 (Z:Ending->World->Prop):=AtO Tryz.prog (aAv Tryz.f7) (aAI (bodyPost Tryz.prog Tryz.f7 Z)) [] 162
theorem aGc (hmO:aCt w v os){q:QdR}(hq:QdIn w B h q)(hBw:B<=w.heap.size)(hTe:Te w){which:Nat}(hw8:which<=255){value:Bys}(hval:B63 value):Calls Tryz.prog 7 #[.agg #[v],.agg (qY_ q),.int .u8 (which:Int),vS value] w λe w'=>e=.returned (vB true)/\Fr nF_ w w':=by
  obtain⟨p0,cp0,hp0,-⟩:=hmO.1.op;subst hp0;have hm0:=hmO;obtain⟨hs0,hob⟩:=hm0;have sp0:=hs0.p.2;have bp0:=sp0.bnd;refine beg Tryz.func7 rfl rfl [(0,.agg #[vL p0 os.length cp0]),(1,.agg (qY_ q)),(2,.int .u8 (which:Int)),(3,vS value)] rfl rfl λY hY=>?_;have hM:=Mm.nil nF_ w;refine aAu 0 0 4 [] (cs:=#[vL p0 os.length cp0]) (T:=24) (v:=λb=>vP b 0) f0 hM λaa w1 hM=>aAu 0 1 5 [] (cs:=(qY_ q)) (T:=31) (v:=λb=>vP b 0) f0 hM λab w1 hM=>aAw 1 0 25 [] f0 hM (aJQ (hTe.fr hM.fr)) λw1 hM=>aJd 2 2 28 [(9,vB true),(26,.agg #[vL p0 os.length cp0]),(27,.agg (qY_ q))] (K:=λu w8=>∃b,u=vB b/\(b=true->aEn (aAa os) 30=true)) (fc (lam 24 0 0 1 hM rfl) (fc (lam 31 1 0 14 hM rfl) f0)) hM ((aJX (hmO.fr hM.fr) (hq.fr hM.fr hBw) (Gn_ hBw hM.fr.size)).mono λe w9 ⟨⟨b,h1,h3⟩,h2⟩=>⟨⟨_,h1,b,rfl,h3⟩,h2⟩) λu w1 ⟨b9,hu,hb9⟩ hM f1=>?_;subst hu;refine seg 2 5 [(30,vB (!b9))] f0 ?_
  cases am:b9 with
  | false =>
   exact rt1 8 (vB true) rfl f0 (hY _ _ ⟨rfl,hM.fr⟩)
  | true =>
   have hol9:=aMx (n:=30) (hb9 am);have hol:os.length<=10000:=by omega
   refine seg 2 10 [(35,vB (q.ask==5))] (fc (ldm 3 1 0 hM rfl rfl) f0) ?_;cases an:(q.ask==5)
   rotate_left
   ·exact rt1 8 (vB true) rfl f0 (hY _ _ ⟨rfl,hM.fr⟩)
   have h5:=ef an;refine seg 2 16 [(41,vB ((os.length:Int)==0))] (fc (ldm 22 0 0 hM rfl rfl) f0) ?_;cases ao:((os.length:Int)==0)
   rotate_left
   ·exact rt1 8 (vB true) rfl f0 (hY _ _ ⟨rfl,hM.fr⟩)
   have hix:(which%os.length)<os.length:=Nat.mod_lt _ (by have:=ef ao;omega);refine seg 2 20 [(45,vB (decide (300<(value.length:Int))))] (fc (aHS 9 value) f0) ?_;cases a9:(decide (300<(value.length:Int)))
   rotate_left
   ·exact rt1 8 (vB true) rfl f0 (hY _ _ ⟨rfl,hM.fr⟩)
   refine aHU 4 2 50 [(48,.agg #[vL p0 os.length cp0]),(49,.agg (qY_ q))] (K:=λu Mn=>∃v9,u=.tuple #[v9,vI (aAn h os q)]/\Mn=[rw_ rwL 2 42 v9 (bif (aAn h os q)==0 then(aCw h q os) else[])]) [0,1] [] (fc (lam 24 0 0 1 hM rfl) (fc (lam 31 1 0 14 hM rfl) f0)) hM rfl rfl dE (λhm=>((aGC (hmO.fr hM.fr) (hq.fr hM.fr hBw) (Gn_ hBw hM.fr.size) (hTe.fr hM.fr) hol h5).mono λe w9 ⟨u,h1,h2⟩=>⟨_,_,h1,⟨u,rfl,rfl⟩,aEP h2 λ_ h=>h.elim⟩)) λu Mn w1 hK hM=>?_;obtain⟨v9,rfl,rfl⟩:=hK;obtain⟨A1,hA1⟩:∃z,z=(bif (aAn h os q)==0 then(aCw h q os) else[]):=⟨_,rfl⟩;rw[<-hA1] at hM;replace hM:Mm nF_ w _ [bk aa #[vL p0 os.length cp0] 24,bk ab (qY_ q) 31,_]:=hM;obtain⟨ql,cl,el,-⟩:=(hM.src (j:=2) rfl rwT.len).op;subst el;refine seg 5 0 [(10,vL ql A1.length cl),(11,vI (aAn h os q))] f0 ?_;obtain⟨b,hb,ba,bb,aq,au⟩:=sp0.el (i:=(which%os.length)) oM;have hM:=hM.nl;refine drx [10,11] (λZ=>[some (vP (bn (Z 0)) 0),none]) _ (λZ l=>[bk aa #[vL p0 os.length cp0] 24,bk ab (qY_ q) 31,rw_ rwL 2 42 (vL ql A1.length cl) A1,(bif l.getD 1 false then bk (bn (Z 0)) (oY_ b) 48 else(bif l.getD 0 false then bk (bn (Z 0)) #[vS [],vI 0,vI 0,vI 0,vL none 0 0,vL none 0 0] 48 else aEB))]) (λZ=>[(12,vP (bn (Z 0)) 0)]) hM (λZ=>rfl) (λZ l w5 hM=>(fc (ldm 22 0 0 hM rfl rfl) (fc (b2i 5 3 (which:Int) oM) (fc (ldm 22 0 0 hM rfl rfl) (fc (aXo (which:Int) (os.length:Int) u3_) (fc (ix 22 cp0 aq (gl hb) (z:=((which:Int)%(os.length:Int))) (hz:=rfl)) (fc (la0 48 hM au) f0))))))) ⟨aDb 0 10 3 12 (λZ=>#[vS [],vI 0,vI 0,vI 0,vL none 0 0,vL none 0 0]) 48 (λb=>vP b 0),aC2 1 11 48 3 0 (λZ=>(bn (Z 0))) (λZ l=>#[vS [],vI 0,vI 0,vI 0,vL none 0 0,vL none 0 0]) 48 (λZ =>.agg (oY_ b)),trivial⟩ λae w1 hM=>?_;replace hM:Mm nF_ w w1 [bk aa #[vL p0 os.length cp0] 24,bk ab (qY_ q) 31,_,bk (bn (ae 0)) (oY_ b) 48]:=hM;refine aHU 6 3 67 [(65,vL b.pt b.o.tags.length b.ct),(66,vS value)] (K:=λu Mn=>∃uT zT TT,u=.tuple #[uT,vI zT]/\Mn=[rw_ tgL 2 72 uT TT]/\(∀t∈TT,B63 t.1/\B63 t.2)/\(zT=0->SetT b.o.tags TT kyK)) [0,1,2,3] [] (fc (ldm 46 3 5 hM rfl rfl) f0) hM rfl rfl dE (λhm=>((aLH (s:=[117,110,109,101,110,116,105,111,110,101,100,95,107,101,121,95,111,102,95,101,118,97,108]) ((hob _ (gm hb)).tags.fr hM.fr) (hob _ (gm hb)).bnd.tags dE hval).mono λe w9 ⟨u,z,T,h1,h2,h3,h4⟩=>⟨_,_,h1,⟨u,z,T,rfl,rfl,h3,h4⟩,aEP h2 λ_ h=>h.elim⟩)) λu Mn w1 hK hM=>?_;obtain⟨uT,zT,TT,rfl,rfl,hbT,hST⟩:=hK;obtain⟨qt,ct,et,-⟩:=(hM.src (j:=4) rfl tgT.len).op;subst et;refine stm 7 2 [(14,vI zT),(70,vL qt TT.length ct),(71,vP (bn (ae 0)) 5)] 46 3 5 (vL qt TT.length ct) f0 hM rfl λw1 hM=>?_;obtain⟨k9,z9,hk9,hz9,-⟩:=aLk (aHD (gm hb));refine aHU 8 2 75 [(73,.agg #[vL p0 os.length cp0]),(74,.agg #[vS b.o.id,vI b.o.kind,vI b.o.x,vI b.o.y,vL b.pr b.o.refs.length b.cr,vL qt TT.length ct])] (K:=λu Mn=>∃uP zP os2,u=.tuple #[.agg #[uP],vI zP]/\Mn=[rw_ obL 6 48 uP os2]/\(zP=0->aAh (aAa os)=true/\aA1 (o2R b TT qt ct).o=true/\os2=os.set k9 (o2R b TT qt ct))) [0,1,2,3,4] [] (fc (lam 24 0 0 1 hM rfl) (fc (lam 48 3 0 6 hM rfl) f0)) hM rfl rfl dE (λhm=>((aMA (o:=(o2R b TT qt ct)) (hmO.fr hM.fr) oM ⟨(hob _ (gm hb)).refs.fr hM.fr,((hM.src (j:=4) rfl tgT.len).p).2,⟨(hob _ (gm hb)).bnd.id,(hob _ (gm hb)).bnd.refs,hbT⟩⟩ (aHD (b:=b) (gm hb)) hk9 (gl hz9)).mono λe w9 ⟨u,h1,h2⟩=>⟨_,_,h1,⟨u,_,_,rfl,rfl,aV6⟩,aEP h2 λ_ h=>h.elim⟩)) λu Mn w1 hK hM=>?_;obtain⟨uP,zP,os2,rfl,rfl,hPt⟩:=hK;obtain⟨qp,cp,ep,-⟩:=(hM.src (j:=5) rfl obT.len).op;subst ep;refine aBW 8 6 15 [(76,.agg #[vL qp os2.length cp]),(77,vI zP)] [] 24 (.agg #[vL qp os2.length cp]) f0 hM λav w1 hM=>seg 9 0 [(16,vI zP)] f0 ?_
   have cu352:∀(w2:World),Mm nF_ w w2 [bk aa #[vL p0 os.length cp0] 24,bk ab (qY_ q) 31,rw_ rwL 2 42 (vL ql A1.length cl) A1]->CP7 Y (some (13,0)) [(11,vI (aAn h os q)),(10,vL ql A1.length cl),(9,vB true),(5,vP ab 0),(4,vP aa 0)] w2:=by
    intro w2 hM;refine seg 13 4 [(113,vB (!(q.ask==1)))] (fc (ldm 3 1 0 hM rfl rfl) f0) ?_;cases aw:(q.ask==1)
    ·exact rt1 8 (vB true) rfl f0 (hY _ _ ⟨rfl,hM.fr⟩)
    refine seg 13 9 [(118,vB (!(q.kind==0)))] (fc (ldm 3 1 1 hM rfl rfl) f0) ?_;cases ax:(q.kind==0)
    ·exact rt1 8 (vB true) rfl f0 (hY _ _ ⟨rfl,hM.fr⟩)
    refine seg 13 12 [(121,vB (!((aAn h os q)==0)))] f0 ?_;cases ag:((aAn h os q)==0)
    ·exact rt1 8 (vB true) rfl f0 (hY _ _ ⟨rfl,hM.fr⟩)
    have hask:q.ask=1:=et aw;have hkd:q.kind=0:=et ax;have hc0:(aAn h os q)=0:=et ag;obtain⟨-,hvm9,-,-⟩:=aEs hc0;have hA1e:A1=aDy h q os:=by rw[hA1,ag];exact if_pos hask
    refine seg 17 0 [(19,vI 0),(20,vI 1)] f0 ?_
    have ay:∀(ah:Nat)(kk:Nat)(n:Nat)(w2:World),1<=kk->kk<=6->n=upK h q os (kk-1)->Mm nF_ w w2 [bk aa #[vL p0 os.length cp0] 24,bk ab (qY_ q) 31,rw_ rwL 2 42 (vL ql A1.length cl) A1]->ah=6-kk->CP7 Y (some (17,0)) [(20,vI (kk:Int)),(19,vI (n:Int)),(10,vL ql A1.length cl),(9,vB true),(5,vP ab 0),(4,vP aa 0)] w2:=by
     refine aCh λah az kk n w2 hk1 hk6 hn hM bc=>seg 17 2 [(124,vB (decide ((kk:Int)<=5)))] f0 ?_;cases ai:(decide ((kk:Int)<=5))
     ·have a0:=df ai;obtain rfl:kk=6:=by omega
      have hnA:n=A1.length:=by rw[hn,hA1e];exact aVg hkd (aQX hvm9)
      exact rt1 8 (vB ((n:Int)==(A1.length:Int))) rfl f0 (hY _ _ ⟨by rw[hnA,beq_self_eq_true],hM.fr⟩)
     have a0:=dt ai;refine aBW 19 1 21 [(127,.agg (qY_ q))] [] 31 (.agg (qY_ q)) (fc (lam 31 1 0 14 hM rfl) f0) hM λaf w1 hM=>stm 20 2 [(128,vI (kk:Int)),(129,vP af 1)] 3 3 1 (vI (kk:Int)) f0 hM rfl λw1 hM=>aHU 21 2 133 [(131,.agg #[vL p0 os.length cp0]),(132,.agg #[vI q.ask,vI (kk:Int),vI q.wh.op,vS q.wh.key,vS q.wh.val,vI q.wh.n,vL q.wh.p q.wh.kids.length q.wh.cap,vS q.id,vI q.n,vI q.x,vI q.y,vS q.key,vS q.prof,vI q.min])] (K:=λu Mn=>∃v9,u=.tuple #[v9,vI 0]/\Mn=[rw_ rwL 2 42 v9 (aDy h (kdQ q (kk:Int)) os)]) [0,1,2,3] [] (fc (lam 24 0 0 1 hM rfl) (fc (lam 31 3 0 14 hM rfl) f0)) hM rfl rfl dE (λhm=>((aV3 (hmO.fr hM.fr) (hq.fr hM.fr hBw) (Gn_ hBw hM.fr.size) (hTe.fr hM.fr) hol hask hc0 (k:=(kk:Int)) oM oM).mono λe w9 ⟨u,h1,h2⟩=>⟨_,_,h1,⟨u,rfl,rfl⟩,aEP h2 λ_ h=>h.elim⟩)) λu Mn w1 hK hM=>?_;obtain⟨v9,rfl,rfl⟩:=hK;obtain⟨Bs,hBs⟩:∃z,z=(aDy h (kdQ q (kk:Int)) os):=⟨_,rfl⟩;rw[<-hBs] at hM;replace hM:Mm nF_ w _ [bk aa #[vL p0 os.length cp0] 24,bk ab (qY_ q) 31,_,bk af #[vI q.ask,vI (kk:Int),vI q.wh.op,vS q.wh.key,vS q.wh.val,vI q.wh.n,vL q.wh.p q.wh.kids.length q.wh.cap,vS q.id,vI q.n,vI q.x,vI q.y,vS q.key,vS q.prof,vI q.min] 31,_]:=hM;obtain⟨qs,cs,es,-⟩:=(hM.src (j:=4) rfl rwT.len).op;subst es;have hnb:n<=os.length:=by rw[hn];exact List.length_filter_le _ _
     have hBb:Bs.length<=os.length:=by rw[hBs];exact aEz h _ os
     refine seg 25 0 [(22,vL qs Bs.length cs),(24,vI 0)] f0 ?_
     have a1:∀(aj:Nat)(i:Nat)(w2:World),i<=Bs.length->Mm nF_ w w2 [bk aa #[vL p0 os.length cp0] 24,bk ab (qY_ q) 31,rw_ rwL 2 42 (vL ql A1.length cl) A1,bk af #[vI q.ask,vI (kk:Int),vI q.wh.op,vS q.wh.key,vS q.wh.val,vI q.wh.n,vL q.wh.p q.wh.kids.length q.wh.cap,vS q.id,vI q.n,vI q.x,vI q.y,vS q.key,vS q.prof,vI q.min] 31,rw_ rwL 2 42 (vL qs Bs.length cs) Bs]->aj=Bs.length-i->CP7 Y (some (25,0)) [(24,vI (i:Int)),(22,vL qs Bs.length cs),(20,vI (kk:Int)),(19,vI (n:Int)),(10,vL ql A1.length cl),(9,vB true),(5,vP ab 0),(4,vP aa 0)] w2:=by
      refine aCh λaj a2 i w2 hi hM bd=>seg 25 4 [(141,vB (decide ((i:Int)<(Bs.length:Int))))] f0 ?_;cases ak:(decide ((i:Int)<(Bs.length:Int)))
      ·have a3:=df ak;refine seg 17 0 [(19,vI ((n:Int)+(Bs.length:Int))),(20,vI ((kk:Int)+1))] (fc (aAP (n:Int) (Bs.length:Int) u3_) (fc (aAP (kk:Int) 1 u3_) f0)) (aAi _ (az _ oM (kk+1) (n+Bs.length) _ oM oM (aSR hk1 hn hBs) (hM.pick [0,1,2]) rfl))
      have a3:=dt ak;obtain⟨ac,ad⟩:=geb (l:=Bs) (i:=i) oM;obtain⟨be,al,-⟩:=hM.el rwT (j:=4) rfl ad;refine aAw 27 5 149 [(144,vL ql A1.length cl),(148,.agg #[vS ac.1,vI ac.2])] (fc (ix 36 cs al (gl ad)) (fc (lar 42 4 0 2 rwT hM rfl al ad) f0)) hM (aJR ((hM.src (j:=2) rfl rwT.len).p).2 ac) λw1 hM=>seg 27 7 [(150,vB (!(decide (ac∈A1))))] f0 ?_;cases a4:(decide (ac∈A1))
      ·exact absurd (by rw[hA1e];exact aVV hkd _ (by rw[<-hBs];exact gm ad)) (of_decide_eq_false a4)
      refine seg 25 0 [(24,vI ((i:Int)+1))] (fc (aAP (i:Int) 1 u3_) f0) (aAi _ (a2 _ oM (i+1) _ oM hM rfl))
     exact aAi _ (a1 _ 0 _ (Gg_ _) hM rfl)
    exact aAi _ (ay _ 1 0 _ (Gj_ _) dE (aSQ h q os).symm hM rfl)
   refine seg 9 3 [(80,vB (zT==0))] f0 ?_;cases a5:(zT==0)
   ·refine seg 13 0 [] f0 (aAi _ (cu352  _ (hM.pick [0,1,2])))
   refine seg 9 7 [(84,vB (zP==0))] f0 ?_;cases a6:(zP==0)
   ·refine seg 13 0 [] f0 (aAi _ (cu352  _ (hM.pick [0,1,2])))
   refine aAw 9 9 87 [(86,.agg #[vI q.wh.op,vS q.wh.key,vS q.wh.val,vI q.wh.n,vL q.wh.p q.wh.kids.length q.wh.cap])] (fc (lam 27 1 2 5 hM rfl) f0) hM (aSm h (hq.fr hM.fr hBw).wh (Gn_ hBw hM.fr.size)) λw1 hM=>seg 9 13 [(90,vB (!(aGL h q.wh)))] f0 ?_;cases a7:(aGL h q.wh)
   rotate_left
   ·refine seg 13 0 [] f0 (aAi _ (cu352  _ (hM.pick [0,1,2])))
   refine seg 9 17 [(94,vB (!(q.key==[117,110,109,101,110,116,105,111,110,101,100,95,107,101,121,95,111,102,95,101,118,97,108])))] (fc (ldm 9 1 11 hM rfl rfl) (fc (sne 9 q.key [117,110,109,101,110,116,105,111,110,101,100,95,107,101,121,95,111,102,95,101,118,97,108]) f0)) ?_;cases a8:(q.key==[117,110,109,101,110,116,105,111,110,101,100,95,107,101,121,95,111,102,95,101,118,97,108])
   rotate_left
   ·refine seg 13 0 [] f0 (aAi _ (cu352  _ (hM.pick [0,1,2])))
   obtain⟨hvm,hvo,hos2⟩:=hPt (et a6);have hch:aAn h os2 q=aAn h os q/\aCw h q os2=aCw h q os:=by rw[hos2];exact aNL hvm (gm hb) hk9 (hST (et a5)) hvo a7 (ef a8)
   refine aHU 10 2 98 [(96,.agg #[vL qp os2.length cp]),(97,.agg (qY_ q))] (K:=λu Mn=>∃v9,u=.tuple #[v9,vI (aAn h os q)]/\Mn=[rw_ rwL 2 42 v9 (bif (aAn h os q)==0 then(aCw h q os) else[])]) [0,1,2,3,4,5,6] [] (fc (lam 24 6 0 1 hM rfl) (fc (lam 31 1 0 14 hM rfl) f0)) hM rfl rfl dE (λhm=>((aNr (os:=os) (os2:=os2) ⟨(hM.src (j:=5) rfl obT.len),by rw[hos2];exact aTx (o2:=(o2R b TT qt ct)) (λa ha=>(hob a ha).fr hM.fr) ⟨(hob _ (gm hb)).refs.fr hM.fr,((hM.src (j:=4) rfl tgT.len).p).2,⟨(hob _ (gm hb)).bnd.id,(hob _ (gm hb)).bnd.refs,hbT⟩⟩⟩ (hq.fr hM.fr hBw) (Gn_ hBw hM.fr.size) (hTe.fr hM.fr) (by rw[hos2,List.length_set];exact hol) h5 hch).mono λe w9 ⟨u,h1,h2⟩=>⟨_,_,h1,⟨u,rfl,rfl⟩,aEP h2 λ_ h=>h.elim⟩)) λu Mn w1 hK hM=>?_;obtain⟨v9,rfl,rfl⟩:=hK;rw[<-hA1] at hM;replace hM:Mm nF_ w _ [bk aa #[vL p0 os.length cp0] 24,bk ab (qY_ q) 31,_,bk (bn (ae 0)) #[vS b.o.id,vI b.o.kind,vI b.o.x,vI b.o.y,vL b.pr b.o.refs.length b.cr,vL qt TT.length ct] 48,_,_,bk av #[vL qp os2.length cp] 24,_]:=hM;obtain⟨qg,cg,eg,-⟩:=(hM.src (j:=7) rfl rwT.len).op;subst eg;refine aAw 11 6 107 [(104,vB false),(105,vL ql A1.length cl),(106,vL qg A1.length cg)] (fc (tv 103 (b := !((aAn h os q)==(aAn h os q))) (c:=false) sI) f0) hM (aD1 (A:=A1) (B:=A1) ((hM.src (j:=2) rfl rwT.len).p).2 ((hM.src (j:=7) rfl rwT.len).p).2 sI) λw1 hM=>seg 13 0 [] f0 (aAi _ (cu352  _ (hM.pick [0,1,2])))
open Go.ChangeShapes Go.WideShapes
section
variable{H:Type}{enc:TypeId×Value->H}{W:World}{sp:Nat->Bool}{held:Bool}{n:Nat}{cs:List Value}{x:DataW H×List MemPlace}
theorem aHw (dflt:α)(f:α->List Value)(c:Nat){T:TypeId}(hT:Tryz.prog.underlying T=some (.slice E))(hc:Tryz.prog.cellsOf E=c)(hlen:∀a,(f a).length=c)(hc0:0<c)(Q:α->Prop)(hel:∀m cs x,DataW.trod enc Tryz.prog W 0 sp held m E cs=some x->∃a,cs=f a/\Q a)
  (h:DataW.trod enc Tryz.prog W 0 sp held n T cs=some x):∃(l:List α)(p:Option Addr)(cap:Nat),cs=[.slice p l.length cap]/\SrcP f c W p cap l/\∀a∈l,Q a:=by
 rcases Deep.open_slice hT h with⟨rfl,_⟩|⟨a,len,cap,m,n,D,Pl,rfl,_,hl,hm,hmm,_,hx⟩
 ·exact⟨[],none,0,rfl,⟨Gj_ _,Gg_ _,.inl rfl,λ_=>rfl⟩,λ_ h=>(by cases h)⟩
 ·rw[hc] at hx;have hlm:len<=m:=by rw[hmm];split<;>omega
  have hall:∀i,i<len->∃s:α,(∀j,j<c->W.cell? ((a.add (i*c)).add j)=(f s)[j]?)/\Q s:=λi hi=>by
   obtain⟨cs',h1,h2⟩:=hx i oM;obtain⟨_,_,h3⟩:=World.cells?_some h1;obtain⟨s,rfl,hq⟩:=hel _ _ _ h2;exact⟨s,λj hj=>by rw[h3 j hj],hq⟩
  haveI:Inhabited α:=⟨dflt⟩
  obtain⟨g,hg⟩:=Deep.choose_lt hall;refine⟨(List.range len).map g,some a,cap,by simp,⟨by simpa using hl,hm,?_,λh=>by cases h⟩,λs hs=>?_⟩
  ·rcases Nat.eq_zero_or_pos len with h0|h0
   ·left;rw[h0];rfl
   ·right
    have hspot:a=⟨a.block,a.off,none⟩/\a.block<W.heap.size:=by
     have:=(hg 0 h0).1 0 hc0;rw[Nat.zero_mul] at this;have e0:(a.add 0).add 0=a:=by simp[Addr.add]
     rw[e0] at this;obtain⟨v0,hv0⟩:∃v,(f (g 0))[0]?=some v:=⟨_,Gb_ (by rw[hlen];exact hc0)⟩;rw[hv0] at this;refine⟨?_,World.block_lt_of_cell? W a this⟩
     cases a with
     | mk b o s =>
      cases s with
      | none=>rfl
      | some k =>
       unfold World.cell? at this
       split at this<;>simp at this
    refine⟨a.block,a.off,by rw[<-hspot.1],hspot.2,λi s hs j v hv=>?_⟩;rw[Gr_] at hs
    have hi:i<len:=by
     cases h:(List.range len)[i]? with
     | none=>rw[h] at hs;cases hs
     | some x=>have:=(List.getElem?_eq_some_iff.1 h).1;simpa using this
    rw[List.getElem?_range hi] at hs;simp at hs;subst hs
    have hj:j<c:=by
     have:=(List.getElem?_eq_some_iff.1 hv).1;rw[hlen] at this;exact this
    have:=(hg i hi).1 j hj
    have e:((⟨a.block,a.off,none⟩:Addr).add (i*c)).add j=⟨a.block,a.off+i*c+j,none⟩:=by
     unfold Addr.add
     by_cases h1:i*c=0<;>by_cases h2:j=0<;>simp[h1,h2,Nat.add_assoc]
    rw[hv,hspot.1,e] at this;exact this
  ·obtain⟨i,hi,rfl⟩:=List.mem_map.1 hs;exact(hg i (List.mem_range.1 hi)).2
set_option maxRecDepth 100000 in
theorem aCl (h:DataW.trod enc Tryz.prog W 0 sp held n 9 cs=some x):∃s:Bys,cs=stL s/\B63 s:=by
 obtain⟨s,rfl,_,hs⟩:=DataW.trod_string u9_ h;obtain⟨l,rfl⟩:=aEI s;rw[aCU] at hs;exact⟨l,rfl,by unfold maxLen at hs;unfold B63;omega⟩
set_option maxRecDepth 100000 in
theorem aCm (h:DataW.trod enc Tryz.prog W 0 sp held n 3 cs=some x):∃m:Int,cs=[vI m]:=by
 obtain⟨m,rfl,_⟩:=DataW.trod_int u3_ h;exact⟨m,rfl⟩
set_option maxRecDepth 100000 in
theorem aQB (h:DataW.trod enc Tryz.prog W 0 sp held n 72 cs=some x):∃t:Tag,cs=tgL t/\(B63 t.1/\B63 t.2):=by
 obtain⟨xs,m,_,_,hl,hlen,hf⟩:=DataW.trod_struct Tryz.underlying72 h;rw[show Tryz.prog.cellsOf 72=2 by kernel_rfl] at hl
 match cs,hl with
 | [c0,c1],_ =>
 obtain⟨y0,e0⟩:∃y,xs[0]?=some y:=⟨_,Gb_ (by rw[hlen];simp)⟩;obtain⟨y1,e1⟩:∃y,xs[1]?=some y:=⟨_,Gb_ (by rw[hlen];simp)⟩;have h0:DataW.trod enc Tryz.prog W 0 sp held m 9 (List.take (Tryz.prog.cellsOf 9) (List.drop 0 [c0,c1]))=some y0:=(hf 0 _ rfl).trans e0;have h1:DataW.trod enc Tryz.prog W 0 sp held m 9 (List.take (Tryz.prog.cellsOf 9) (List.drop 1 [c0,c1]))=some y1:=(hf 1 _ rfl).trans e1;rw[show Tryz.prog.cellsOf 9=1 by kernel_rfl] at h0 h1;obtain⟨s0,g0,b0⟩:=aCl h0;obtain⟨s1,g1,b1⟩:=aCl h1;have g0:[c0]=[vS s0]:=g0;have g1:[c1]=[vS s1]:=g1;cases g0;cases g1;exact⟨(s0,s1),rfl,b0,b1⟩
set_option maxRecDepth 100000 in
theorem aNS (h:DataW.trod enc Tryz.prog W 0 sp held n 29 cs=some x):∃a b:Int,cs=[vI a,vI b]:=by
 obtain⟨xs,m,_,_,hl,hlen,hf⟩:=DataW.trod_struct u29_ h;rw[show Tryz.prog.cellsOf 29=2 by kernel_rfl] at hl
 match cs,hl with
 | [c0,c1],_ =>
 obtain⟨y0,e0⟩:∃y,xs[0]?=some y:=⟨_,Gb_ (by rw[hlen];simp)⟩;obtain⟨y1,e1⟩:∃y,xs[1]?=some y:=⟨_,Gb_ (by rw[hlen];simp)⟩;have h0:DataW.trod enc Tryz.prog W 0 sp held m 3 (List.take (Tryz.prog.cellsOf 3) (List.drop 0 [c0,c1]))=some y0:=(hf 0 _ rfl).trans e0;have h1:DataW.trod enc Tryz.prog W 0 sp held m 3 (List.take (Tryz.prog.cellsOf 3) (List.drop 1 [c0,c1]))=some y1:=(hf 1 _ rfl).trans e1;rw[show Tryz.prog.cellsOf 3=1 by kernel_rfl] at h0 h1;obtain⟨s0,g0⟩:=aCm h0;obtain⟨s1,g1⟩:=aCm h1;have g0:[c0]=[vI s0]:=g0;have g1:[c1]=[vI s1]:=g1;cases g0;cases g1;exact⟨s0,s1,rfl⟩
set_option maxRecDepth 100000 in
theorem aTv (h:DataW.trod enc Tryz.prog W 0 sp held n 48 cs=some x):∃b:ObR,cs=obL b/\ObIn W b:=by
 obtain⟨xs,m,_,_,hl,hlen,hf⟩:=DataW.trod_struct Tryz.underlying48 h;rw[show Tryz.prog.cellsOf 48=6 by kernel_rfl] at hl
 match cs,hl with
 | [c0,c1,c2,c3,c4,c5],_ =>
 obtain⟨y0,e0⟩:∃y,xs[0]?=some y:=⟨_,Gb_ (by rw[hlen];simp)⟩;obtain⟨y1,e1⟩:∃y,xs[1]?=some y:=⟨_,Gb_ (by rw[hlen];simp)⟩;obtain⟨y2,e2⟩:∃y,xs[2]?=some y:=⟨_,Gb_ (by rw[hlen];simp)⟩;obtain⟨y3,e3⟩:∃y,xs[3]?=some y:=⟨_,Gb_ (by rw[hlen];simp)⟩;obtain⟨y4,e4⟩:∃y,xs[4]?=some y:=⟨_,Gb_ (by rw[hlen];simp)⟩;have h0:DataW.trod enc Tryz.prog W 0 sp held m 9 (List.take (Tryz.prog.cellsOf 9) (List.drop 0 [c0,c1,c2,c3,c4,c5]))=some y0:=(hf 0 _ rfl).trans e0;have h1:DataW.trod enc Tryz.prog W 0 sp held m 3 (List.take (Tryz.prog.cellsOf 3) (List.drop 1 [c0,c1,c2,c3,c4,c5]))=some y1:=(hf 1 _ rfl).trans e1;have h2:DataW.trod enc Tryz.prog W 0 sp held m 29 (List.take (Tryz.prog.cellsOf 29) (List.drop 2 [c0,c1,c2,c3,c4,c5]))=some y2:=(hf 2 _ rfl).trans e2;have h3:DataW.trod enc Tryz.prog W 0 sp held m 45 (List.take (Tryz.prog.cellsOf 45) (List.drop 4 [c0,c1,c2,c3,c4,c5]))=some y3:=(hf 3 _ rfl).trans e3;have h4:DataW.trod enc Tryz.prog W 0 sp held m 46 (List.take (Tryz.prog.cellsOf 46) (List.drop 5 [c0,c1,c2,c3,c4,c5]))=some y4:=(hf 4 _ rfl).trans e4;rw[show Tryz.prog.cellsOf 9=1 by kernel_rfl] at h0;rw[show Tryz.prog.cellsOf 3=1 by kernel_rfl] at h1;rw[show Tryz.prog.cellsOf 29=2 by kernel_rfl] at h2;rw[show Tryz.prog.cellsOf 45=1 by kernel_rfl] at h3;rw[show Tryz.prog.cellsOf 46=1 by kernel_rfl] at h4;obtain⟨s0,g0,b0⟩:=aCl h0;obtain⟨s1,g1⟩:=aCm h1;obtain⟨s2,s3,g2⟩:=aNS h2;obtain⟨rs,pr,cr,g3,k3,b3⟩:=aHw [] stL 1 u45_ kR (λ_=>rfl) dE B63 (λ_ _ _ h=>aCl h) h3;obtain⟨ts,pt,ct,g4,k4,b4⟩:=aHw ([],[]) tgL 2 u46_ kR (λ_=>rfl) dE (λt=>B63 t.1/\B63 t.2) (λ_ _ _ h=>aQB h) h4;have g0:[c0]=[vS s0]:=g0;have g1:[c1]=[vI s1]:=g1;have g2:[c2,c3]=[vI s2,vI s3]:=g2;have g3:[c4]=[vL pr rs.length cr]:=g3;have g4:[c5]=[vL pt ts.length ct]:=g4;cases g0;cases g1;cases g2;cases g3;cases g4;exact⟨⟨⟨s0,s1,s2,s3,rs,ts⟩,pr,cr,pt,ct⟩,rfl,k3,k4,b0,b3,b4⟩
set_option maxRecDepth 100000 in
theorem aQD (h:DataW.trod enc Tryz.prog W 0 sp held n 24 cs=some x):∃(os:List ObR)(v:Value),cs=[v]/\aCt W v os:=by
 obtain⟨xs,m,_,_,hl,hlen,hf⟩:=DataW.trod_struct Tryz.underlying24 h;rw[show Tryz.prog.cellsOf 24=1 by kernel_rfl] at hl
 match cs,hl with
 | [c0],_ =>
 obtain⟨y0,e0⟩:∃y,xs[0]?=some y:=⟨_,Gb_ (by rw[hlen];simp)⟩;have h0:DataW.trod enc Tryz.prog W 0 sp held m 22 (List.take (Tryz.prog.cellsOf 22) (List.drop 0 [c0]))=some y0:=(hf 0 _ rfl).trans e0;rw[show Tryz.prog.cellsOf 22=1 by kernel_rfl] at h0;obtain⟨os,p,cap,g0,k0,b0⟩:=aHw ⟨⟨[],0,0,0,[],[]⟩,none,0,none,0⟩ obL 6 u22_ kR (λ_=>rfl) dE (ObIn W) (λ_ _ _ h=>aTv h) h0;have g0:[c0]=[vL p os.length cap]:=g0;cases g0;exact⟨os,_,rfl,k0.src,b0⟩
end
end Go.Proofs.YtngjlnhojicjeaaGreatDoor
namespace Go.Pl
open Go.RowKit Go.ChangeShapes Go.WideShapes
theorem aDY {H:Type}{enc:TypeId×Value->H}{P:Program}(hl:laidOutB P=true){W W':World}(hb:Below W.heap.size W W') :
  ∀(ts:List TypeId)(vs:List Value)(ds:List (DataW H))(ps:List MemPlace),(∀t∈ts,P.readableRec t=true/\t<P.types.size)->DataW.TrodAll enc P W 0 (λ_=>true) true ts vs ds ps->(∀x∈ps,x.block<W.heap.size) ->
   DataW.TrodAll enc P W' 0 (λb=>decide (b<W.heap.size)) true ts vs ds ps
 | [],[],[],ps,_,h,_=>h
 | t::ts,v::vs,d::ds,ps,hr,h,hlt=>by
  obtain⟨p,q,h1,h2,rfl⟩:=h
  exact⟨p,q,Below.trod hl (hr t sI).1 (hr t sI).2 h1 hb (λx hx=>hlt x (by simp[hx])),
   aDY hl hb ts vs ds q (λt ht=>hr t (by simp[ht])) h2 (λx hx=>hlt x (by simp[hx])),rfl⟩
 | [],[],_::_,_,_,h,_=>h.elim
 | [],_::_,_,_,_,h,_=>by cases h
 | _::_,[],_,_,_,h,_=>by cases h
 | _::_,_::_,[],_,_,h,_=>h.elim
theorem aQV {H:Type}{enc:TypeId×Value->H}{P:Program}(hl:laidOutB P=true){fn:Func}{s:ChangeSpec}{apart fresh handsOn:Bool}{W W':World}{args:Array Value}{ds gs:List (DataW H)}{before:List MemPlace}
  (hread:∀t∈fn.params.toList,P.readableRec t=true/\t<P.types.size) {tb:TypeId}(hres:fn.resultTypes=#[tb]) (htb:P.underlying tb=some .bool) (hvars:s.vars=[])
  (hs:s.fn H (ds++gs)={ results:=[.lit (.bool true)],args:=ds }) (hW:DataW.Whole enc P fn.params.toList s.vars apart W args.toList ds gs before) (hb:Below W.heap.size W W') :
  s.post enc P fn apart fresh handsOn false W args (.bool true) W':=by
 have hlt:=hW.lt;have hW0:=hW;obtain⟨p,q,hA,hV,hpq,_,_⟩:=hW;refine⟨ds,gs,before,[],p,[],hW0,?_,?_,?_,hb.frame _,λh=>by cases h⟩
 ·rw[hs,hres];exact trodAll_mk1 (shut_bool htb _)
 ·rw[hs];exact aDY hl hb _ _ _ _ hread hA (λx hx=>hlt x (by rw[hpq];simp[hx]))
 ·rw[hs,hvars];rfl
end Go.Pl
namespace Go.Proofs.YtngjlnhojicjeaaGreatDoor
open Go.RowKit Go.Pl Go.ChangeShapes Go.WideShapes
theorem aZ6:laidOutB Tryz.prog=true:=by kernel_rfl
theorem aZ5:ownKnob Tryz.prog.godebug=none:=by kernel_rfl
variable{W:World}{name:String}
set_option maxRecDepth 100000 in
theorem aOF {g t:Nat}{s:String}{d:DataW Unit}{ms:Array _}(hg:Tryz.prog.globalNamed name=some g)(hty:(Tryz.prog.globals[g]?).map (·.type)=some t)(ht:Tryz.prog.underlying t=some (.interface ms))(h:Lib.VarReads Tryz.prog W name (.iface s d)):aYu W g:=by
 obtain⟨g',t',cs,fuel,p,hg',ht',hvar,hd⟩:=h;obtain rfl:=Gh_ (hg.symm.trans hg');obtain rfl:=Gh_ (hty.symm.trans ht')
 cases fuel with
 | zero=>cases hd
 | succ fuel =>
  unfold DataW.trod at hd;rw[ht] at hd;unfold World.var? at hvar;rw[hg] at hvar;simp only[Option.bind_some] at hvar
  split at hvar
  ·rename_i cs' T' fz hb;obtain rfl:=Gh_ hvar
   have key:∃ev,cs'.toList=[ev]/\(ev=.nilIface\/∃te pe,ev=.iface te pe):=by
    split at hd<;>first|(cases hd;done)|skip
    all_goals (rename_i h1 h2;first|(cases h1;done)|(cases h2;done)|(exact⟨_,h2,.inl rfl⟩)|(exact⟨_,h2,.inr ⟨_,_,rfl⟩⟩))
   obtain⟨ev,h1,h2⟩:=key;refine⟨ev,?_,h2⟩;have hz:cs'[0]?=some ev:=by rw[<-Array.getElem?_toList,h1];rfl
   unfold World.cell?;simp[hb,hz]
  ·cases hvar
def aMh:List (String×DataW Unit):=[("math/bits.deBruijn32tab",Rows.laid_math_bits_deBruijn32tab),("math/bits.deBruijn64tab",Rows.laid_math_bits_deBruijn64tab),("internal/strconv.uint64pow10",Rows.laid_internal_strconv_uint64pow10),("strconv.ErrRange",Rows.laid_strconv_ErrRange),("strconv.ErrSyntax",Rows.laid_strconv_ErrSyntax),("unicode.White_Space",Rows.laid_unicode_White_Space),("strings.asciiSpace",Rows.laid_strings_asciiSpace)]
set_option maxRecDepth 100000 in
theorem aRx (os:Os)(args:Array Value):laidMetH Tryz.prog aMh ((World.doorLaid Tryz.prog 86 os).forCall (λ_ _=>0) ⟨#[],args,[]⟩).memory :=
 laidMetH_of_parts3 (fuel:=8) (laidMet_of_run' 8 kR kR) kR kR
theorem aRN {k:IntKind}{zs:List Int}{g:Nat}{t e:TypeId}{n:Nat}(hg:Tryz.prog.globalNamed name=some g)(hty:(Tryz.prog.globals[g]?).map (·.type)=some t)(ht:Tryz.prog.underlying t=some (.array n e))(he:Tryz.prog.underlying e=some (.int k))(hce:Tryz.prog.cellsOf e=1)(hct:Tryz.prog.cellsOf t=n)(h:Lib.VarReads Tryz.prog W name (Lib.tabData k zs)):Lib.TabIs Tryz.prog W name k zs:=by
 obtain⟨g',t',cs,fuel,p,hg',ht',hvar,hd⟩:=h;obtain rfl:=Gh_ (hg.symm.trans hg');obtain rfl:=Gh_ (hty.symm.trans ht');unfold Lib.TabIs;rw[hvar,<-Lib.cells_of_tab ht he hce hct hd]
set_option maxRecDepth 100000 in
theorem aXu (h:laidMetH Tryz.prog aMh W):Tb W:=by
 rw[MakeChecks.laidMetH_plain _ _ _ kR] at h
 exact⟨aRN (g:=6) (t:=412) (e:=164) (n:=20) kR kR kR kR kR kR (Lib.laidMet.reads h (d:=Rows.laid_internal_strconv_uint64pow10) (.tail _ (.tail _ (.head _)))),
  aRN (g:=5) (t:=137) (e:=5) (n:=256) kR kR kR kR kR kR (Lib.laidMet.reads h (d:=Rows.laid_strings_asciiSpace) (.tail _ (.tail _ (.tail _ (.tail _ (.tail _ (.tail _ (.head _))))))))⟩
set_option maxRecDepth 100000 in
theorem aXt (h:laidMetH Tryz.prog aMh W):Te W:=by
 have hT:=aXu h;rw[MakeChecks.laidMetH_plain _ _ _ kR] at h
 exact⟨hT,aOF (g:=3) (t:=133) kR kR Tryz.underlying133 (Lib.laidMet.reads h (n := "strconv.ErrSyntax") (d:=Rows.laid_strconv_ErrSyntax) (.tail _ (.tail _ (.tail _ (.tail _ (.head _)))))),
  aOF (g:=4) (t:=133) kR kR Tryz.underlying133 (Lib.laidMet.reads h (n := "strconv.ErrRange") (d:=Rows.laid_strconv_ErrRange) (.tail _ (.tail _ (.tail _ (.head _)))))⟩
variable{cs:List Value}
section
variable{H:Type}{enc:TypeId×Value->H}{sp:Nat->Bool}{held:Bool}
theorem aNR {n:Nat}{x:DataW H×List MemPlace}{α:Type}(dflt:α)(f:α->List Value)(c:Nat){T E:TypeId}(hT:Tryz.prog.underlying T=some (.slice E))(hc:Tryz.prog.cellsOf E=c)(hlen:∀a,(f a).length=c)(hc0:0<c)(Q:Nat->α->Prop)(hel:∀m,m<n->∀cs x,DataW.trod enc Tryz.prog W 0 sp held m E cs=some x->∃a,cs=f a/\Q m a)
  (h:DataW.trod enc Tryz.prog W 0 sp held n T cs=some x):∃(l:List α)(p:Option Addr)(cap m:Nat),m<=n/\cs=[.slice p l.length cap]/\SrcP f c W p cap l/\∀a∈l,m<n/\Q m a:=by
 rcases DataW.trod_slice hT h with⟨rfl,_⟩|⟨a,len,cap,elems,rest,m,hfu,rfl,_,_,hl,hm,hle9,hel9,_,_⟩
 ·exact⟨[],none,0,0,Gg_ _,rfl,⟨Gj_ _,Gg_ _,.inl rfl,λ_=>rfl⟩,λ_ h=>(by cases h)⟩
 ·rw[hc] at hel9
  have hall:∀i,i<len->∃s:α,(∀j,j<c->W.cell? ((a.add (i*c)).add j)=(f s)[j]?)/\Q m s:=λi hi=>by
   have key:=hel9 i hi;rw[Gb_ oM] at key;obtain⟨cs',h1,h2⟩:=Option.bind_eq_some_iff.1 key;obtain⟨_,_,h3⟩:=World.cells?_some h1;obtain⟨s,rfl,hq⟩:=hel m oM _ _ h2;exact⟨s,λj hj=>by rw[h3 j hj],hq⟩
  haveI:Inhabited α:=⟨dflt⟩
  obtain⟨g,hg⟩:=Deep.choose_lt hall;refine⟨(List.range len).map g,some a,cap,m,by omega,by simp,⟨by simpa using hl,hm,?_,λh=>by cases h⟩,λs hs=>?_⟩
  ·rcases Nat.eq_zero_or_pos len with h0|h0
   ·left;rw[h0];rfl
   ·right
    have hspot:a=⟨a.block,a.off,none⟩/\a.block<W.heap.size:=by
     have:=(hg 0 h0).1 0 hc0;rw[Nat.zero_mul] at this;have e0:(a.add 0).add 0=a:=by simp[Addr.add]
     rw[e0] at this;obtain⟨v0,hv0⟩:∃v,(f (g 0))[0]?=some v:=⟨_,Gb_ (by rw[hlen];exact hc0)⟩;rw[hv0] at this;refine⟨?_,World.block_lt_of_cell? W a this⟩
     cases a with
     | mk b o s =>
      cases s with
      | none=>rfl
      | some k =>
       unfold World.cell? at this
       split at this<;>simp at this
    refine⟨a.block,a.off,by rw[<-hspot.1],hspot.2,λi s hs j v hv=>?_⟩;rw[Gr_] at hs
    have hi:i<len:=by
     cases h:(List.range len)[i]? with
     | none=>rw[h] at hs;cases hs
     | some x=>have:=(List.getElem?_eq_some_iff.1 h).1;simpa using this
    rw[List.getElem?_range hi] at hs;simp at hs;subst hs
    have hj:j<c:=by
     have:=(List.getElem?_eq_some_iff.1 hv).1;rw[hlen] at this;exact this
    have:=(hg i hi).1 j hj
    have e:((⟨a.block,a.off,none⟩:Addr).add (i*c)).add j=⟨a.block,a.off+i*c+j,none⟩:=by
     unfold Addr.add
     by_cases h1:i*c=0<;>by_cases h2:j=0<;>simp[h1,h2,Nat.add_assoc]
    rw[hv,hspot.1,e] at this;exact this
  ·obtain⟨i,hi,rfl⟩:=List.mem_map.1 hs;exact⟨by omega,(hg i (List.mem_range.1 hi)).2⟩
theorem CdB.up {w:World}{B:Nat}:∀{h k:Nat}{c:CdR},h<=k->CdB w B h c->CdB w B k c
 | 0,_,_,_,hc=>hc.elim
 | h+1,0,_,hk,_=>absurd hk oM
 | h+1,k+1,_,hk,⟨a,b,s,ks⟩=>⟨a,b,s,λx hx=>(ks x hx).up oM⟩
set_option maxRecDepth 100000 in
theorem aNT:∀{n:Nat}{cs:List Value}{x:DataW H×List MemPlace},DataW.trod enc Tryz.prog W 0 sp held n 27 cs=some x->∃c:CdR,cs=cdL c/\CdB W W.heap.size n c:=by
 intro n
 induction n using Nat.strongRecOn with
 | _ n ih =>
 intro cs x h;obtain⟨xs,m,hnm,_,hl,hlen,hf⟩:=DataW.trod_struct Tryz.underlying27 h;rw[show Tryz.prog.cellsOf 27=5 by kernel_rfl] at hl
 match cs,hl with
 | [c0,c1,c2,c3,c4],_ =>
 obtain⟨y0,e0⟩:∃y,xs[0]?=some y:=⟨_,Gb_ (by rw[hlen];simp)⟩;obtain⟨y1,e1⟩:∃y,xs[1]?=some y:=⟨_,Gb_ (by rw[hlen];simp)⟩;obtain⟨y2,e2⟩:∃y,xs[2]?=some y:=⟨_,Gb_ (by rw[hlen];simp)⟩;obtain⟨y3,e3⟩:∃y,xs[3]?=some y:=⟨_,Gb_ (by rw[hlen];simp)⟩;obtain⟨y4,e4⟩:∃y,xs[4]?=some y:=⟨_,Gb_ (by rw[hlen];simp)⟩;have h0:DataW.trod enc Tryz.prog W 0 sp held m 3 (List.take (Tryz.prog.cellsOf 3) (List.drop 0 [c0,c1,c2,c3,c4]))=some y0:=(hf 0 _ rfl).trans e0;have h1:DataW.trod enc Tryz.prog W 0 sp held m 9 (List.take (Tryz.prog.cellsOf 9) (List.drop 1 [c0,c1,c2,c3,c4]))=some y1:=(hf 1 _ rfl).trans e1;have h2:DataW.trod enc Tryz.prog W 0 sp held m 9 (List.take (Tryz.prog.cellsOf 9) (List.drop 2 [c0,c1,c2,c3,c4]))=some y2:=(hf 2 _ rfl).trans e2;have h3:DataW.trod enc Tryz.prog W 0 sp held m 3 (List.take (Tryz.prog.cellsOf 3) (List.drop 3 [c0,c1,c2,c3,c4]))=some y3:=(hf 3 _ rfl).trans e3;have h4:DataW.trod enc Tryz.prog W 0 sp held m 25 (List.take (Tryz.prog.cellsOf 25) (List.drop 4 [c0,c1,c2,c3,c4]))=some y4:=(hf 4 _ rfl).trans e4;rw[show Tryz.prog.cellsOf 3=1 by kernel_rfl] at h0 h3;rw[show Tryz.prog.cellsOf 9=1 by kernel_rfl] at h1 h2;rw[show Tryz.prog.cellsOf 25=1 by kernel_rfl] at h4;obtain⟨s0,g0⟩:=aCm h0;obtain⟨s1,g1,b1⟩:=aCl h1;obtain⟨s2,g2,b2⟩:=aCl h2;obtain⟨s3,g3⟩:=aCm h3;obtain⟨ks,p,cap,k,hk,g4,k4,b4⟩:=aNR (.mk 0 [] [] 0 none 0 []) cdL 5 Tryz.underlying25 kR (λ_=>rfl) dE (λm c=>CdB W W.heap.size m c) (λj hj _ _ h=>ih j oM h) h4;have g0:[c0]=[vI s0]:=g0;have g1:[c1]=[vS s1]:=g1;have g2:[c2]=[vS s2]:=g2;have g3:[c3]=[vI s3]:=g3;have g4:[c4]=[vL p ks.length cap]:=g4;cases g0;cases g1;cases g2;cases g3;cases g4;refine⟨.mk s0 s1 s2 s3 p cap ks,rfl,?_⟩;rw[hnm];exact⟨b1,b2,k4.b (Fr.refl _ _),λa ha=>(b4 a ha).2.up oM⟩
set_option maxRecDepth 100000 in
theorem aQC {n:Nat}{x:DataW H×List MemPlace}(h:DataW.trod enc Tryz.prog W 0 sp held n 31 cs=some x):∃(q:QdR)(m:Nat),cs=qdL q/\QdIn W W.heap.size m q:=by
 obtain⟨xs,m,hnm,_,hl,hlen,hf⟩:=DataW.trod_struct Tryz.underlying31 h;rw[show Tryz.prog.cellsOf 31=14 by kernel_rfl] at hl
 match cs,hl with
 | [c0,c1,c2,c3,c4,c5,c6,c7,c8,c9,c10,c11,c12,c13],_ =>
 obtain⟨y0,e0⟩:∃y,xs[0]?=some y:=⟨_,Gb_ (by rw[hlen];simp)⟩;obtain⟨y1,e1⟩:∃y,xs[1]?=some y:=⟨_,Gb_ (by rw[hlen];simp)⟩;obtain⟨y2,e2⟩:∃y,xs[2]?=some y:=⟨_,Gb_ (by rw[hlen];simp)⟩;obtain⟨y3,e3⟩:∃y,xs[3]?=some y:=⟨_,Gb_ (by rw[hlen];simp)⟩;obtain⟨y4,e4⟩:∃y,xs[4]?=some y:=⟨_,Gb_ (by rw[hlen];simp)⟩;obtain⟨y5,e5⟩:∃y,xs[5]?=some y:=⟨_,Gb_ (by rw[hlen];simp)⟩;obtain⟨y6,e6⟩:∃y,xs[6]?=some y:=⟨_,Gb_ (by rw[hlen];simp)⟩;obtain⟨y7,e7⟩:∃y,xs[7]?=some y:=⟨_,Gb_ (by rw[hlen];simp)⟩;obtain⟨y8,e8⟩:∃y,xs[8]?=some y:=⟨_,Gb_ (by rw[hlen];simp)⟩;have h0:DataW.trod enc Tryz.prog W 0 sp held m 3 (List.take (Tryz.prog.cellsOf 3) (List.drop 0 [c0,c1,c2,c3,c4,c5,c6,c7,c8,c9,c10,c11,c12,c13]))=some y0:=(hf 0 _ rfl).trans e0;have h1:DataW.trod enc Tryz.prog W 0 sp held m 3 (List.take (Tryz.prog.cellsOf 3) (List.drop 1 [c0,c1,c2,c3,c4,c5,c6,c7,c8,c9,c10,c11,c12,c13]))=some y1:=(hf 1 _ rfl).trans e1;have h2:DataW.trod enc Tryz.prog W 0 sp held m 27 (List.take (Tryz.prog.cellsOf 27) (List.drop 2 [c0,c1,c2,c3,c4,c5,c6,c7,c8,c9,c10,c11,c12,c13]))=some y2:=(hf 2 _ rfl).trans e2;have h3:DataW.trod enc Tryz.prog W 0 sp held m 9 (List.take (Tryz.prog.cellsOf 9) (List.drop 7 [c0,c1,c2,c3,c4,c5,c6,c7,c8,c9,c10,c11,c12,c13]))=some y3:=(hf 3 _ rfl).trans e3;have h4:DataW.trod enc Tryz.prog W 0 sp held m 3 (List.take (Tryz.prog.cellsOf 3) (List.drop 8 [c0,c1,c2,c3,c4,c5,c6,c7,c8,c9,c10,c11,c12,c13]))=some y4:=(hf 4 _ rfl).trans e4;have h5:DataW.trod enc Tryz.prog W 0 sp held m 29 (List.take (Tryz.prog.cellsOf 29) (List.drop 9 [c0,c1,c2,c3,c4,c5,c6,c7,c8,c9,c10,c11,c12,c13]))=some y5:=(hf 5 _ rfl).trans e5;have h6:DataW.trod enc Tryz.prog W 0 sp held m 9 (List.take (Tryz.prog.cellsOf 9) (List.drop 11 [c0,c1,c2,c3,c4,c5,c6,c7,c8,c9,c10,c11,c12,c13]))=some y6:=(hf 6 _ rfl).trans e6;have h7:DataW.trod enc Tryz.prog W 0 sp held m 9 (List.take (Tryz.prog.cellsOf 9) (List.drop 12 [c0,c1,c2,c3,c4,c5,c6,c7,c8,c9,c10,c11,c12,c13]))=some y7:=(hf 7 _ rfl).trans e7;have h8:DataW.trod enc Tryz.prog W 0 sp held m 3 (List.take (Tryz.prog.cellsOf 3) (List.drop 13 [c0,c1,c2,c3,c4,c5,c6,c7,c8,c9,c10,c11,c12,c13]))=some y8:=(hf 8 _ rfl).trans e8;rw[show Tryz.prog.cellsOf 3=1 by kernel_rfl] at h0 h1 h4 h8;rw[show Tryz.prog.cellsOf 9=1 by kernel_rfl] at h3 h6 h7;rw[show Tryz.prog.cellsOf 27=5 by kernel_rfl] at h2;rw[show Tryz.prog.cellsOf 29=2 by kernel_rfl] at h5;obtain⟨s0,g0⟩:=aCm h0;obtain⟨s1,g1⟩:=aCm h1;obtain⟨c,g2,b2⟩:=aNT h2;obtain⟨s3,g3,b3⟩:=aCl h3;obtain⟨s4,g4⟩:=aCm h4;obtain⟨s5,t5,g5⟩:=aNS h5;obtain⟨s6,g6,b6⟩:=aCl h6;obtain⟨s7,g7,b7⟩:=aCl h7;obtain⟨s8,g8⟩:=aCm h8;have g0:[c0]=[vI s0]:=g0;have g1:[c1]=[vI s1]:=g1;have g2:[c2,c3,c4,c5,c6]=[vI c.op,vS c.key,vS c.val,vI c.n,vL c.p c.kids.length c.cap]:=g2;have g3:[c7]=[vS s3]:=g3;have g4:[c8]=[vI s4]:=g4;have g5:[c9,c10]=[vI s5,vI t5]:=g5;have g6:[c11]=[vS s6]:=g6;have g7:[c12]=[vS s7]:=g7;have g8:[c13]=[vI s8]:=g8;cases g0;cases g1;cases g2;cases g3;cases g4;cases g5;cases g6;cases g7;cases g8;exact⟨⟨s0,s1,c,s3,s4,s5,t5,s6,s7,s8⟩,m,rfl,b2,b3,b6,b7⟩
end
open Go
theorem aB9 {a b:Bool}(h:a=true)(k:b=true):(a&&b)=true:=by rw[h,k];rfl
theorem jk0:(Rows.evalKindsRow.wf (OpenSpec.ofChange Rows.evalKindsSpec))=true:=by kernel_rfl
theorem jk1:(laidOutB (Tryz.pinned.checked.prog))=true:=by kernel_rfl
theorem jk2:(mapsRowed (Tryz.pinned.checked.prog))=true:=by kernel_rfl
theorem jk3:(Tryz.f7.params.all ((Tryz.pinned.checked.prog).readableRec ·))=true:=by kernel_rfl
theorem jk4:(namedTie (Tryz.pinned.checked.prog) Rows.evalKindsRow.named Rows.evalKindsSpec.vars)=true:=by kernel_rfl
theorem jk5:((Rows.evalKindsRow.stops==[]))=true:=by kernel_rfl
theorem jk6:(((Tryz.pinned.checked.prog).stops==[]))=true:=by kernel_rfl
theorem jk7:((Rows.evalKindsRow.knobs==[]))=true:=by kernel_rfl
theorem jk8:(((Tryz.pinned.checked.prog).stopKnobs==[]))=true:=by kernel_rfl
theorem jk9:((Rows.evalKindsRow.inPlace==(Tryz.pinned.checked.prog).inPlace 7))=true:=by kernel_rfl
theorem aZS:((Rows.evalKindsRow.unfollowed==(Tryz.pinned.checked.prog).unfollowed 7))=true:=by kernel_rfl
theorem aZR:((Rows.evalKindsRow.recurses==(Tryz.pinned.checked.prog).recurses 7))=true:=by kernel_rfl
theorem aZQ:((Rows.evalKindsRow.named==(Tryz.pinned.checked.prog).varsNamed 7))=true:=by kernel_rfl
theorem aZP:((Rows.evalKindsRow.maps==(Tryz.f7.params.toList++Rows.evalKindsSpec.plain.varTypes (Tryz.pinned.checked.prog)).any ((Tryz.pinned.checked.prog).mapsRec ·)))=true:=by kernel_rfl
theorem aZO:((Rows.evalKindsRow.ifaces==(Tryz.f7.params.toList++Rows.evalKindsSpec.plain.varTypes (Tryz.pinned.checked.prog)).any ((Tryz.pinned.checked.prog).ifacesRec ·)))=true:=by kernel_rfl
theorem aZN:((Rows.evalKindsRow.mapsOut==(Tryz.pinned.checked.prog).mapsAmong Tryz.f7.resultTypes.toList))=true:=by kernel_rfl
theorem aZM:((Rows.evalKindsRow.loops==(Tryz.f7.params.toList++Rows.evalKindsSpec.plain.varTypes (Tryz.pinned.checked.prog)).any ((Tryz.pinned.checked.prog).loopsFrom ·)))=true:=by kernel_rfl
theorem aZL:((Rows.evalKindsRow.wideKeys==(Tryz.f7.params.toList++Rows.evalKindsSpec.plain.varTypes (Tryz.pinned.checked.prog)++Tryz.f7.resultTypes.toList).any ((Tryz.pinned.checked.prog).wideKeysFrom ·)))=true:=by kernel_rfl
theorem aZK:(Rows.evalKindsSpec.vars.all ((Tryz.pinned.checked.prog).varReadable ·))=true:=by kernel_rfl
theorem aZJ:(Tryz.f7.resultTypes.all (λt=>(Tryz.pinned.checked.prog).readableRec t&&decide (t<(Tryz.pinned.checked.prog).types.size)))=true:=by kernel_rfl
theorem aZI:((Rows.evalKindsRow.ifacesOut==Tryz.f7.resultTypes.toList.any ((Tryz.pinned.checked.prog).ifacesRec ·)))=true:=by kernel_rfl
theorem aZH:((Rows.evalKindsRow.loopsOut==Tryz.f7.resultTypes.toList.any ((Tryz.pinned.checked.prog).loopsFrom ·)))=true:=by kernel_rfl
theorem aZG:((Rows.evalKindsRow.plainKeys==(Tryz.pinned.checked.prog).plainKeys))=true:=by kernel_rfl
theorem aZF:(Rows.evalKindsRow.shortTexts.isNone)=true:=by kernel_rfl
theorem aZE:((Tryz.pinned.checked.prog).stopsHeard)=true:=by kernel_rfl
theorem aZD:((Tryz.pinned.checked.prog).mayEnter)=true:=by kernel_rfl
theorem aZC:((Rows.evalKindsRow.lifted==(Tryz.pinned.checked.prog).liftsFinal))=true:=by kernel_rfl
theorem aZB:(((Tryz.pinned.checked.prog).make==some Rows.evalKindsRow.make))=true:=by kernel_rfl
theorem aZA:((Rows.evalKindsRow.kinds==(if Rows.evalKindsRow.domain.isEmpty then[] else Tryz.f7.params.toList.map λt=>match(Tryz.pinned.checked.prog).underlying t with|some (.int k)=>some k|_=>none)))=true:=by kernel_rfl
theorem aZ9:((Rows.evalKindsRow.pinned==Rows.evalKindsRow.pinnedBy))=true:=by kernel_rfl
theorem aZ8:((Rows.evalKindsRow.veiled==(Tryz.f7.params.toList++Rows.evalKindsSpec.plain.varTypes (Tryz.pinned.checked.prog)++Tryz.f7.resultTypes.toList).any ((Tryz.pinned.checked.prog).veiledRec ·)))=true:=by kernel_rfl
theorem aZ7:(Rows.evalKindsRow.veiledFits (Tryz.pinned.checked.prog) Tryz.f7.params.toList (Tryz.f7.params.toList++Rows.evalKindsSpec.plain.varTypes (Tryz.pinned.checked.prog)++Tryz.f7.resultTypes.toList))=true:=by kernel_rfl
theorem aOt (P:Program)(f:FuncId)(fn:Func)(s:ChangeSpec)(c:OpenClaim)(h0:(c.wf (OpenSpec.ofChange s))=true)(h1:(laidOutB P)=true)(h2:(mapsRowed P)=true)(h3:(fn.params.all (P.readableRec ·))=true)(h4:(namedTie P c.named s.vars)=true)(h5:((c.stops==[]))=true)(h6:((P.stops==[]))=true)(h7:((c.knobs==[]))=true)(h8:((P.stopKnobs==[]))=true)(h9:((c.inPlace==P.inPlace f))=true)(h10:((c.unfollowed==P.unfollowed f))=true)(h11:((c.recurses==P.recurses f))=true)(h12:((c.named==P.varsNamed f))=true)(h13:((c.maps==(fn.params.toList++s.plain.varTypes P).any (P.mapsRec ·)))=true)(h14:((c.ifaces==(fn.params.toList++s.plain.varTypes P).any (P.ifacesRec ·)))=true)(h15:((c.mapsOut==P.mapsAmong fn.resultTypes.toList))=true)(h16:((c.loops==(fn.params.toList++s.plain.varTypes P).any (P.loopsFrom ·)))=true)(h17:((c.wideKeys==(fn.params.toList++s.plain.varTypes P++fn.resultTypes.toList).any (P.wideKeysFrom ·)))=true)(h18:(s.vars.all (P.varReadable ·))=true)(h19:(fn.resultTypes.all (λt=>P.readableRec t&&decide (t<P.types.size)))=true)(h20:((c.ifacesOut==fn.resultTypes.toList.any (P.ifacesRec ·)))=true)(h21:((c.loopsOut==fn.resultTypes.toList.any (P.loopsFrom ·)))=true)(h22:((c.plainKeys==P.plainKeys))=true)(h23:(c.shortTexts.isNone)=true)(h24:(P.stopsHeard)=true)(h25:(P.mayEnter)=true)(h26:((c.lifted==P.liftsFinal))=true)(h27:((P.make==some c.make))=true)(h28:((c.kinds==(if c.domain.isEmpty then[] else fn.params.toList.map λt=>match P.underlying t with|some (.int k)=>some k|_=>none)))=true)(h29:((c.pinned==c.pinnedBy))=true)(h30:((c.veiled==(fn.params.toList++s.plain.varTypes P++fn.resultTypes.toList).any (P.veiledRec ·)))=true)(h31:(c.veiledFits P fn.params.toList (fn.params.toList++s.plain.varTypes P++fn.resultTypes.toList))=true):joinedFacts P f fn s c=true:=by
 unfold joinedFacts;exact(aB9 (aB9 (aB9 (aB9 (aB9 (aB9 (aB9 (aB9 (aB9 (aB9 (aB9 (aB9 (aB9 (aB9 (aB9 (aB9 (aB9 (aB9 (aB9 (aB9 (aB9 (aB9 (aB9 (aB9 (aB9 (aB9 (aB9 (aB9 (aB9 (aB9 (aB9 h0 h1) h2) h3) h4) h5) h6) h7) h8) h9) h10) h11) h12) h13) h14) h15) h16) h17) h18) h19) h20) h21) h22) h23) h24) h25) h26) h27) h28) h29) h30) h31)
theorem aFh:joinedFacts Tryz.pinned.checked.prog 7 Tryz.f7 Rows.evalKindsSpec Rows.evalKindsRow=true :=
 aOt (Tryz.pinned.checked.prog) 7 Tryz.f7 Rows.evalKindsSpec Rows.evalKindsRow jk0 jk1 jk2 jk3 jk4 jk5 jk6 jk7 jk8 jk9 aZS aZR aZQ aZP aZO aZN aZM aZL aZK aZJ aZI aZH aZG aZF aZE aZD aZC aZB aZA aZ9 aZ8 aZ7
theorem aGd:Tryz.pinned.checked.prog.funcNamed Rows.evalKindsRow.func=some 7:=by kernel_rfl
end Go.Proofs.YtngjlnhojicjeaaGreatDoor
