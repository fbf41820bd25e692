/- Part 3 of the proof. -/
import Derived.Test.YtngjlnhojicjeaaGreatDoorC2
import Derived.WalkLawsBesides
import Derived.Shelf.Abstract
import Derived.Laws.MakeOwn
import Derived.Laws.ResultCell
import Derived.Laws.Rows
import Derived.StringKeys
import Derived.Deep.QuietTactic
import Derived.BigQuiet
import Derived.Lib.Hide
import Derived.Deep.RegionLaw
import Derived.Sort.Grow
set_option linter.unusedVariables false
set_option linter.unusedSimpArgs false
namespace Go.Proofs.YtngjlnhojicjeaaGreatDoor
open Go.RowKit Go.Pl
structure QdR where
  ask:Int
  kind:Int
  wh:CdR
  id:Bys
  n:Int
  x:Int
  y:Int
  key:Bys
  prof:Bys
  min:Int
def qdL (q:QdR):List Value:=[vI q.ask,vI q.kind,vI q.wh.op,vS q.wh.key,vS q.wh.val,vI q.wh.n,vL q.wh.p q.wh.kids.length q.wh.cap,vS q.id,vI q.n,vI q.x,vI q.y,vS q.key,vS q.prof,vI q.min]
structure QdIn (w:World) (B h:Nat) (q:QdR):Prop where
  wh:CdB w B h q.wh
  id:q.id.length<=9223372036854775807
  key:q.key.length<=9223372036854775807
  prof:q.prof.length<=9223372036854775807
theorem QdIn.fr {w w':World}{B h:Nat}{q:QdR}(hq:QdIn w B h q) (f:Fr nF_ w w') (hB:B<=w.heap.size):QdIn w' B h q:=⟨hq.wh.g (fun _ h=>h.elim) f hB,hq.id,hq.key,hq.prof⟩
def aCY (q:QdR) (id n at9 key prof min:Bool):Bool:=(id||(([]:Bys)==q.id))&&(n||((0:Int)==q.n))&&(at9||(((0:Int)==q.x)&&((0:Int)==q.y)))&&(key||(([]:Bys)==q.key))&&(prof||(([]:Bys)==q.prof))&&(min||((0:Int)==q.min))
def aIK (q:QdR):Bool :=
  bif q.ask==1 then aCY q false false false false false false
  else bif q.ask==2 then aBg q.id&&aCY q true false false false false false
  else bif q.ask==3 then aBg q.id&&(decide (0<=q.n)&&decide (q.n<=1048576))&&aCY q true true false false false false
  else bif q.ask==4 then (decide (1<=q.n)&&decide (q.n<=10000))&&(decide (0<=q.x)&&decide (q.x<=1048575))&&(decide (0<=q.y)&&decide (q.y<=1048575))&&aCY q false true true false false false
  else bif q.ask==5 then aBg q.id&&(decide (0<=q.n)&&decide (q.n<=10080))&&aBg q.prof&&(decide (0<=q.min)&&decide (q.min<=9999999))&&aCY q true true false false true true
  else bif q.ask==6 then aBg q.key&&aCY q false false false true false false
  else false
def aAS (h:Nat) (q:QdR):Bool := !(decide (q.kind<0)) && !(decide (6<=q.kind))&&aDh h q.wh&&aIK q
def aBF (q:QdR):Int :=
  bif q.ask==2 then 3
  else bif q.ask==3 then bif (q.kind==4)||(q.kind==5) then -1 else 2
  else bif q.ask==4 then bif (q.kind==4)||(q.kind==5) then -1 else 0
  else bif q.ask==5 then bif !(q.kind==0) && !(q.kind==1) then -1 else 1
  else 0
def aAp (h:Nat) (os:List ObR) (q:QdR):Int :=
  bif !(aAS h q) || !(aAl (aAa os)) then 1 else bif aBF q == -1 then 8 else bif aBF q==0 then 0
  else bif decide (aAv (aAa os) q.id<0) then 11 else bif aDp os q.id==aBF q then 0 else 13
abbrev aZr (Z:Ending->World->Prop):=AtO Tryz.prog (aAw Tryz.f54) (aAL (bodyPost Tryz.prog Tryz.f54 Z)) [] 167
abbrev qY_ (q:QdR):Array Value:=#[vI q.ask,vI q.kind,vI q.wh.op,vS q.wh.key,vS q.wh.val,vI q.wh.n,vL q.wh.p q.wh.kids.length q.wh.cap,vS q.id,vI q.n,vI q.x,vI q.y,vS q.key,vS q.prof,vI q.min]
theorem aHJ {w:World}{B h:Nat}{q:QdR}(hq:QdIn w B h q) (hBw:B<=w.heap.size) (h5:¬ q.ask=5):Calls Tryz.prog 54 #[vA (qdL q)] w fun e w'=>e = .returned (vB (aAS h q)) /\ Fr nF_ w w':=by
  refine beg Tryz.func54 rfl rfl [(0,.agg (qY_ q))] rfl rfl fun Y hY=>?_;have hM:=Mm.nil nF_ w;refine aAu 0 0 1 [] (cs:=(qY_ q)) (T:=31) (v:=fun b=>vP b 0) f0 hM fun ab w1 hM=>seg 1 0 [] f0 ?_;cases h47:(decide (q.kind<0))
  rotate_left
  ·refine drc [(21,vB true)] hM (fun w5 hM=>(fc (ldm 3 0 1 hM rfl rfl) (fc (tv 8 h47) f0))) fun w5 hM=>rt1 2 (vB false) rfl f0 (hY _ _ ⟨by unfold aAS aIK;simp only [h47]<;>rfl,hM.fr⟩)
  cases h48:(decide (6<=q.kind))
  rotate_left
  ·refine drx [6] (fun Z=>[some (vL (slp (Z 0)) 6 6)]) _ (fun Z l=>[bk ab (qY_ q) 31]) (fun Z=>[(21,vB true)]) hM (fun Z=>rfl) (fun Z l w5 hM=>(fc (ldm 3 0 1 hM rfl rfl) (fc (tv 8 h47) (fc (ldm 3 0 1 hM rfl rfl) (fc (tv 14 h48) f0))))) ⟨aOU 0 6 12 (f:=102) (fun Z=>#[]) 6 6 (fun Z fr wm hM=>(aR0.mono fun e w9 ⟨q,h,f⟩=>⟨q,h,f⟩)),trivial⟩ fun ac w1 hM=>?_;replace hM:Mm nF_ w w1 [bk ab (qY_ q) 31]:=hM;exact rt1 2 (vB false) rfl f0 (hY _ _ ⟨by unfold aAS aIK;simp only [h47,h48]<;>rfl,hM.fr⟩)
  refine drx [6,13] (fun Z=>[some (vL (slp (Z 0)) 6 6),some (vB (aDh h q.wh))]) _ (fun Z l=>[bk ab (qY_ q) 31]) (fun Z=>[(21,vB (!(aDh h q.wh)))]) hM (fun Z=>rfl) (fun Z l w5 hM=>(fc (ldm 3 0 1 hM rfl rfl) (fc (tv 8 h47) (fc (ldm 3 0 1 hM rfl rfl) (fc (tv 14 h48) (fc (lam 27 0 2 5 hM rfl) f0)))))) ⟨aOU 0 6 12 (f:=102) (fun Z=>#[]) 6 6 (fun Z fr wm hM=>(aR0.mono fun e w9 ⟨q,h,f⟩=>⟨q,h,f⟩)),aAH 1 13 19 (f:=36) (fun Z=>#[.agg #[vI q.wh.op,vS q.wh.key,vS q.wh.val,vI q.wh.n,vL q.wh.p q.wh.kids.length q.wh.cap]]) (vB (aDh h q.wh)) (fun Z fr wm hM=>(aEE (hq.wh.g (fun _ h=>h.elim) hM.fr hBw) (Gn_ hBw hM.fr.size))),trivial⟩ fun ad w1 hM=>?_;replace hM:Mm nF_ w w1 [bk ab (qY_ q) 31]:=hM;cases h50:(aDh h q.wh)
  ·exact rt1 2 (vB false) rfl f0 (hY _ _ ⟨by unfold aAS aIK;simp only [h47,h48,h50]<;>rfl,hM.fr⟩)
  refine aBY 4 5 4 [(3,.func (.func 103) #[] #[]),(26,.agg #[vI q.ask,vI q.kind,vI 0,vS [],vS [],vI 0,vL none 0 0,vS [],vI 0,vI 0,vI 0,vS [],vS [],vI 0])] [] 31 (.agg #[vI q.ask,vI q.kind,vI 0,vS [],vS [],vI 0,vL none 0 0,vS [],vI 0,vI 0,vI 0,vS [],vS [],vI 0]) (fc (ldm 3 0 0 hM rfl rfl) (fc (ldm 3 0 1 hM rfl rfl) f0)) hM fun aa w1 hM=>seg 6 0 [(5,vB true)] f0 ?_
  have cu52:∀ (ok:Bool) (i1:Bys) (n1 x1 y1:Int) (k1 p1:Bys) (m1:Int) (w2:World),aAS h q=(ok&&((i1==q.id)&&(n1==q.n)&&((x1==q.x)&&(y1==q.y))&&(k1==q.key)&&(p1==q.prof)&&(m1==q.min)))->Mm nF_ w w2 [bk ab (qY_ q) 31,bk aa #[vI q.ask,vI q.kind,vI 0,vS [],vS [],vI 0,vL none 0 0,vS i1,vI n1,vI x1,vI y1,vS k1,vS p1,vI m1] 31]->aZr Y (some (19,0)) [(5,vB ok),(4,vP aa 0),(1,vP ab 0)] w2:=by
   intro ok i1 n1 x1 y1 k1 p1 m1 w2 hv hM;refine seg 19 2 [(125,vB ok)] f0 ?_
   cases h53:ok with
   | false =>
    exact rt1 2 (vB false) rfl f0 (hY _ _ ⟨by rw [hv];simp only [h53]<;>rfl,hM.fr⟩)
   | true =>
    refine seg 19 9 [(132,vB (i1==q.id))] (fc (ldm 9 1 7 hM rfl rfl) (fc (ldm 9 0 7 hM rfl rfl) (fc (seq 9 i1 q.id) f0))) ?_;cases h54:(i1==q.id)
    ·exact rt1 2 (vB false) rfl f0 (hY _ _ ⟨by rw [hv];simp only [h53,h54]<;>rfl,hM.fr⟩)
    refine seg 19 16 [(139,vB (n1==q.n))] (fc (ldm 3 1 8 hM rfl rfl) (fc (ldm 3 0 8 hM rfl rfl) f0)) ?_;cases h55:(n1==q.n)
    ·exact rt1 2 (vB false) rfl f0 (hY _ _ ⟨by rw [hv];simp only [h53,h54,h55]<;>rfl,hM.fr⟩)
    refine seg 19 23 [(146,vB ((x1==q.x)&&(y1==q.y)))] (fc (lam 29 1 9 2 hM rfl) (fc (lam 29 0 9 2 hM rfl) (fc (aRS x1 y1 q.x q.y) f0))) ?_;cases h56:((x1==q.x)&&(y1==q.y))
    ·exact rt1 2 (vB false) rfl f0 (hY _ _ ⟨by rw [hv];simp only [h53,h54,h55,h56]<;>rfl,hM.fr⟩)
    refine seg 19 30 [(153,vB (k1==q.key))] (fc (ldm 9 1 11 hM rfl rfl) (fc (ldm 9 0 11 hM rfl rfl) (fc (seq 9 k1 q.key) f0))) ?_;cases h57:(k1==q.key)
    ·exact rt1 2 (vB false) rfl f0 (hY _ _ ⟨by rw [hv];simp only [h53,h54,h55,h56,h57]<;>rfl,hM.fr⟩)
    refine seg 19 37 [(160,vB (p1==q.prof))] (fc (ldm 9 1 12 hM rfl rfl) (fc (ldm 9 0 12 hM rfl rfl) (fc (seq 9 p1 q.prof) f0))) ?_;cases h58:(p1==q.prof)
    ·exact rt1 2 (vB false) rfl f0 (hY _ _ ⟨by rw [hv];simp only [h53,h54,h55,h56,h57,h58]<;>rfl,hM.fr⟩)
    exact rt1 2 (vB (m1==q.min)) rfl (fc (ldm 3 1 13 hM rfl rfl) (fc (ldm 3 0 13 hM rfl rfl) f0)) (hY _ _ ⟨by rw [hv];simp only [h53,h54,h55,h56,h57,h58]<;>rfl,hM.fr⟩)
  refine seg 8 2 [(28,vI q.ask),(29,vB (q.ask==1))] (fc (ldm 3 0 0 hM rfl rfl) f0) ?_;cases h59:(q.ask==1)
  rotate_left
  ·refine seg 19 0 [] f0 (aAh _ (cu52 true [] 0 0 0 [] [] 0 _ (by unfold aAS aIK aCY;simp [h47,h48,h50,h59]) hM))
  refine seg 9 2 [(31,vB (q.ask==2))] f0 ?_;cases h60:(q.ask==2)
  rotate_left
  ·refine seg 10 0 [] f0 (drx [4,6] (fun Z=>[some (vB (aBg q.id)),none]) _ (fun Z l=>[bk ab (qY_ q) 31,bk aa #[vI q.ask,vI q.kind,vI 0,vS [],vS [],vI 0,vL none 0 0,(bif l.getD 1 false then vS q.id else vS []),vI 0,vI 0,vI 0,vS [],vS [],vI 0] 31]) (fun Z=>[(5,vB (aBg q.id))]) hM (fun Z=>rfl) (fun Z l w5 hM=>(fc (ldm 9 0 7 hM rfl rfl) (fc (ldm 9 0 7 hM rfl rfl) f0))) ⟨aAH 0 4 37 (f:=41) (fun Z=>#[vS q.id]) (vB (aBg q.id)) (fun Z fr wm hM=>(aA7 hq.id _)),aCz 1 6 9 1 7 (fun Z=>aa) (fun Z l=>#[vI q.ask,vI q.kind,vI 0,vS [],vS [],vI 0,vL none 0 0,(bif l.getD 1 false then vS q.id else vS []),vI 0,vI 0,vI 0,vS [],vS [],vI 0]) 31 (fun Z=>vS q.id),trivial⟩ fun ae w1 hM=>?_);replace hM:Mm nF_ w w1 [bk ab (qY_ q) 31,bk aa #[vI q.ask,vI q.kind,vI 0,vS [],vS [],vI 0,vL none 0 0,vS q.id,vI 0,vI 0,vI 0,vS [],vS [],vI 0] 31]:=hM;refine seg 19 0 [] f0 (aAh _ (cu52 (aBg q.id) q.id 0 0 0 [] [] 0 _ (by unfold aAS aIK aCY;simp [h47,h48,h50,h59,h60]) hM))
  refine seg 11 2 [(39,vB (q.ask==3))] f0 ?_;cases h61:(q.ask==3)
  rotate_left
  ·refine seg 12 0 [] f0 ?_;cases h71:(aBg q.id)
   ·refine drx [6,14,16] (fun Z=>[some (vB false),none,none]) _ (fun Z l=>[bk ab (qY_ q) 31,bk aa #[vI q.ask,vI q.kind,vI 0,vS [],vS [],vI 0,vL none 0 0,(bif l.getD 1 false then vS q.id else vS []),(bif l.getD 2 false then vI q.n else vI 0),vI 0,vI 0,vS [],vS [],vI 0] 31]) (fun Z=>[(5,vB false)]) hM (fun Z=>rfl) (fun Z l w5 hM=>(fc (ldm 9 0 7 hM rfl rfl) (fc (ldm 3 0 8 hM rfl rfl) (fc (ldm 9 0 7 hM rfl rfl) f0)))) ⟨aAH 0 6 47 (f:=41) (fun Z=>#[vS q.id]) (vB false) (fun Z fr wm hM=>(((aA7 hq.id _)).mono fun e w9 ⟨a9,b9⟩=>⟨by rw [a9,h71],b9⟩)),aCz 1 14 9 1 7 (fun Z=>aa) (fun Z l=>#[vI q.ask,vI q.kind,vI 0,vS [],vS [],vI 0,vL none 0 0,(bif l.getD 1 false then vS q.id else vS []),(bif l.getD 2 false then vI q.n else vI 0),vI 0,vI 0,vS [],vS [],vI 0]) 31 (fun Z=>vS q.id),aCz 2 16 3 1 8 (fun Z=>aa) (fun Z l=>#[vI q.ask,vI q.kind,vI 0,vS [],vS [],vI 0,vL none 0 0,(bif l.getD 1 false then vS q.id else vS []),(bif l.getD 2 false then vI q.n else vI 0),vI 0,vI 0,vS [],vS [],vI 0]) 31 (fun Z=>vI q.n),trivial⟩ fun af w1 hM=>?_;replace hM:Mm nF_ w w1 [bk ab (qY_ q) 31,bk aa #[vI q.ask,vI q.kind,vI 0,vS [],vS [],vI 0,vL none 0 0,vS q.id,vI q.n,vI 0,vI 0,vS [],vS [],vI 0] 31]:=hM;refine seg 19 0 [] f0 (aAh _ (cu52 false q.id q.n 0 0 [] [] 0 _ (by unfold aAS aIK aCY;simp [h47,h48,h50,h59,h60,h61,h71]) hM))
   refine drx [6,11,14,16] (fun Z=>[some (vB true),some (vB (decide (0<=q.n)&&decide (q.n<=1048576))),none,none]) _ (fun Z l=>[bk ab (qY_ q) 31,bk aa #[vI q.ask,vI q.kind,vI 0,vS [],vS [],vI 0,vL none 0 0,(bif l.getD 2 false then vS q.id else vS []),(bif l.getD 3 false then vI q.n else vI 0),vI 0,vI 0,vS [],vS [],vI 0] 31]) (fun Z=>[(5,vB (decide (0<=q.n)&&decide (q.n<=1048576)))]) hM (fun Z=>rfl) (fun Z l w5 hM=>(fc (ldm 9 0 7 hM rfl rfl) (fc (ldm 3 0 8 hM rfl rfl) (fc (ldm 9 0 7 hM rfl rfl) (fc (ldm 3 0 8 hM rfl rfl) f0))))) ⟨aAH 0 6 47 (f:=41) (fun Z=>#[vS q.id]) (vB true) (fun Z fr wm hM=>(((aA7 hq.id _)).mono fun e w9 ⟨a9,b9⟩=>⟨by rw [a9,h71],b9⟩)),aAH 1 11 52 (f:=103) (fun Z=>#[vI q.n,vI 0,vI 1048576]) (vB (decide (0<=q.n)&&decide (q.n<=1048576))) (fun Z fr wm hM=>(aAZ q.n 0 1048576)),aCz 2 14 9 1 7 (fun Z=>aa) (fun Z l=>#[vI q.ask,vI q.kind,vI 0,vS [],vS [],vI 0,vL none 0 0,(bif l.getD 2 false then vS q.id else vS []),(bif l.getD 3 false then vI q.n else vI 0),vI 0,vI 0,vS [],vS [],vI 0]) 31 (fun Z=>vS q.id),aCz 3 16 3 1 8 (fun Z=>aa) (fun Z l=>#[vI q.ask,vI q.kind,vI 0,vS [],vS [],vI 0,vL none 0 0,(bif l.getD 2 false then vS q.id else vS []),(bif l.getD 3 false then vI q.n else vI 0),vI 0,vI 0,vS [],vS [],vI 0]) 31 (fun Z=>vI q.n),trivial⟩ fun ag w1 hM=>?_;replace hM:Mm nF_ w w1 [bk ab (qY_ q) 31,bk aa #[vI q.ask,vI q.kind,vI 0,vS [],vS [],vI 0,vL none 0 0,vS q.id,vI q.n,vI 0,vI 0,vS [],vS [],vI 0] 31]:=hM;refine seg 19 0 [] f0 (aAh _ (cu52 (decide (0<=q.n)&&decide (q.n<=1048576)) q.id q.n 0 0 [] [] 0 _ (by unfold aAS aIK aCY;simp [h47,h48,h50,h59,h60,h61,h71]) hM))
  refine seg 13 2 [(56,vB (q.ask==4))] f0 ?_;cases h62:(q.ask==4)
  ·refine seg 15 2 [(82,vB (q.ask==5))] f0 ?_;cases h63:(q.ask==5)
   rotate_left
   ·exact absurd (et h63) h5
   refine seg 17 2 [(116,vB (q.ask==6))] f0 ?_;cases h64:(q.ask==6)
   ·exact rt1 2 (vB false) rfl f0 (hY _ _ ⟨by unfold aAS aIK;simp only [h47,h48,h50,h59,h60,h61,h62,h63,h64]<;>rfl,hM.fr⟩)
   refine seg 18 0 [] f0 (drx [4,6] (fun Z=>[some (vB (aBg q.key)),none]) _ (fun Z l=>[bk ab (qY_ q) 31,bk aa #[vI q.ask,vI q.kind,vI 0,vS [],vS [],vI 0,vL none 0 0,vS [],vI 0,vI 0,vI 0,(bif l.getD 1 false then vS q.key else vS []),vS [],vI 0] 31]) (fun Z=>[(5,vB (aBg q.key))]) hM (fun Z=>rfl) (fun Z l w5 hM=>(fc (ldm 9 0 11 hM rfl rfl) (fc (ldm 9 0 11 hM rfl rfl) f0))) ⟨aAH 0 4 122 (f:=41) (fun Z=>#[vS q.key]) (vB (aBg q.key)) (fun Z fr wm hM=>(aA7 hq.key _)),aCz 1 6 9 1 11 (fun Z=>aa) (fun Z l=>#[vI q.ask,vI q.kind,vI 0,vS [],vS [],vI 0,vL none 0 0,vS [],vI 0,vI 0,vI 0,(bif l.getD 1 false then vS q.key else vS []),vS [],vI 0]) 31 (fun Z=>vS q.key),trivial⟩ fun ah w1 hM=>?_);replace hM:Mm nF_ w w1 [bk ab (qY_ q) 31,bk aa #[vI q.ask,vI q.kind,vI 0,vS [],vS [],vI 0,vL none 0 0,vS [],vI 0,vI 0,vI 0,vS q.key,vS [],vI 0] 31]:=hM;refine seg 19 0 [] f0 (aAh _ (cu52 (aBg q.key) [] 0 0 0 q.key [] 0 _ (by unfold aAS aIK aCY;simp [h47,h48,h50,h59,h60,h61,h62,h63,h64]) hM))
  refine seg 14 0 [] f0 ?_;cases h66:(decide (1<=q.n)&&decide (q.n<=10000))
  ·refine drx [7,23,25] (fun Z=>[some (vB false),none,none]) _ (fun Z l=>[bk ab (qY_ q) 31,bk aa #[vI q.ask,vI q.kind,vI 0,vS [],vS [],vI 0,vL none 0 0,vS [],(bif l.getD 1 false then vI q.n else vI 0),(bif l.getD 2 false then vI q.x else vI 0),(bif l.getD 2 false then vI q.y else vI 0),vS [],vS [],vI 0] 31]) (fun Z=>[(5,vB false)]) hM (fun Z=>rfl) (fun Z l w5 hM=>(fc (ldm 3 0 8 hM rfl rfl) (fc (lam 29 0 9 2 hM rfl) (fc (ldm 3 0 8 hM rfl rfl) f0)))) ⟨aAH 0 7 65 (f:=103) (fun Z=>#[vI q.n,vI 1,vI 10000]) (vB false) (fun Z fr wm hM=>(((aAZ q.n 1 10000)).mono fun e w9 ⟨a9,b9⟩=>⟨by rw [a9,h66],b9⟩)),aCz 1 23 3 1 8 (fun Z=>aa) (fun Z l=>#[vI q.ask,vI q.kind,vI 0,vS [],vS [],vI 0,vL none 0 0,vS [],(bif l.getD 1 false then vI q.n else vI 0),(bif l.getD 2 false then vI q.x else vI 0),(bif l.getD 2 false then vI q.y else vI 0),vS [],vS [],vI 0]) 31 (fun Z=>vI q.n),aCz 2 25 29 1 9 (fun Z=>aa) (fun Z l=>#[vI q.ask,vI q.kind,vI 0,vS [],vS [],vI 0,vL none 0 0,vS [],(bif l.getD 1 false then vI q.n else vI 0),(bif l.getD 2 false then vI q.x else vI 0),(bif l.getD 2 false then vI q.y else vI 0),vS [],vS [],vI 0]) 31 (fun Z => .agg #[vI q.x,vI q.y]),trivial⟩ fun ai w1 hM=>?_;replace hM:Mm nF_ w w1 [bk ab (qY_ q) 31,bk aa #[vI q.ask,vI q.kind,vI 0,vS [],vS [],vI 0,vL none 0 0,vS [],vI q.n,vI q.x,vI q.y,vS [],vS [],vI 0] 31]:=hM;refine seg 19 0 [] f0 (aAh _ (cu52 false [] q.n q.x q.y [] [] 0 _ (by unfold aAS aIK aCY;simp [h47,h48,h50,h59,h60,h61,h62,h66]) hM))
  cases h68:(decide (0<=q.x)&&decide (q.x<=1048575))
  ·refine drx [7,13,23,25] (fun Z=>[some (vB true),some (vB false),none,none]) _ (fun Z l=>[bk ab (qY_ q) 31,bk aa #[vI q.ask,vI q.kind,vI 0,vS [],vS [],vI 0,vL none 0 0,vS [],(bif l.getD 2 false then vI q.n else vI 0),(bif l.getD 3 false then vI q.x else vI 0),(bif l.getD 3 false then vI q.y else vI 0),vS [],vS [],vI 0] 31]) (fun Z=>[(5,vB false)]) hM (fun Z=>rfl) (fun Z l w5 hM=>(fc (ldm 3 0 8 hM rfl rfl) (fc (lam 29 0 9 2 hM rfl) (fc (ldm 3 0 8 hM rfl rfl) (fc (ldm 3 0 9 hM rfl rfl) f0))))) ⟨aAH 0 7 65 (f:=103) (fun Z=>#[vI q.n,vI 1,vI 10000]) (vB true) (fun Z fr wm hM=>(((aAZ q.n 1 10000)).mono fun e w9 ⟨a9,b9⟩=>⟨by rw [a9,h66],b9⟩)),aAH 1 13 71 (f:=103) (fun Z=>#[vI q.x,vI 0,vI 1048575]) (vB false) (fun Z fr wm hM=>(((aAZ q.x 0 1048575)).mono fun e w9 ⟨a9,b9⟩=>⟨by rw [a9,h68],b9⟩)),aCz 2 23 3 1 8 (fun Z=>aa) (fun Z l=>#[vI q.ask,vI q.kind,vI 0,vS [],vS [],vI 0,vL none 0 0,vS [],(bif l.getD 2 false then vI q.n else vI 0),(bif l.getD 3 false then vI q.x else vI 0),(bif l.getD 3 false then vI q.y else vI 0),vS [],vS [],vI 0]) 31 (fun Z=>vI q.n),aCz 3 25 29 1 9 (fun Z=>aa) (fun Z l=>#[vI q.ask,vI q.kind,vI 0,vS [],vS [],vI 0,vL none 0 0,vS [],(bif l.getD 2 false then vI q.n else vI 0),(bif l.getD 3 false then vI q.x else vI 0),(bif l.getD 3 false then vI q.y else vI 0),vS [],vS [],vI 0]) 31 (fun Z => .agg #[vI q.x,vI q.y]),trivial⟩ fun aj w1 hM=>?_;replace hM:Mm nF_ w w1 [bk ab (qY_ q) 31,bk aa #[vI q.ask,vI q.kind,vI 0,vS [],vS [],vI 0,vL none 0 0,vS [],vI q.n,vI q.x,vI q.y,vS [],vS [],vI 0] 31]:=hM;refine seg 19 0 [] f0 (aAh _ (cu52 false [] q.n q.x q.y [] [] 0 _ (by unfold aAS aIK aCY;simp [h47,h48,h50,h59,h60,h61,h62,h66,h68]) hM))
  refine drx [7,13,20,23,25] (fun Z=>[some (vB true),some (vB true),some (vB (decide (0<=q.y)&&decide (q.y<=1048575))),none,none]) _ (fun Z l=>[bk ab (qY_ q) 31,bk aa #[vI q.ask,vI q.kind,vI 0,vS [],vS [],vI 0,vL none 0 0,vS [],(bif l.getD 3 false then vI q.n else vI 0),(bif l.getD 4 false then vI q.x else vI 0),(bif l.getD 4 false then vI q.y else vI 0),vS [],vS [],vI 0] 31]) (fun Z=>[(5,vB (decide (0<=q.y)&&decide (q.y<=1048575)))]) hM (fun Z=>rfl) (fun Z l w5 hM=>(fc (ldm 3 0 8 hM rfl rfl) (fc (lam 29 0 9 2 hM rfl) (fc (ldm 3 0 8 hM rfl rfl) (fc (ldm 3 0 9 hM rfl rfl) (fc (ldm 3 0 10 hM rfl rfl) f0)))))) ⟨aAH 0 7 65 (f:=103) (fun Z=>#[vI q.n,vI 1,vI 10000]) (vB true) (fun Z fr wm hM=>(((aAZ q.n 1 10000)).mono fun e w9 ⟨a9,b9⟩=>⟨by rw [a9,h66],b9⟩)),aAH 1 13 71 (f:=103) (fun Z=>#[vI q.x,vI 0,vI 1048575]) (vB true) (fun Z fr wm hM=>(((aAZ q.x 0 1048575)).mono fun e w9 ⟨a9,b9⟩=>⟨by rw [a9,h68],b9⟩)),aAH 2 20 78 (f:=103) (fun Z=>#[vI q.y,vI 0,vI 1048575]) (vB (decide (0<=q.y)&&decide (q.y<=1048575))) (fun Z fr wm hM=>(aAZ q.y 0 1048575)),aCz 3 23 3 1 8 (fun Z=>aa) (fun Z l=>#[vI q.ask,vI q.kind,vI 0,vS [],vS [],vI 0,vL none 0 0,vS [],(bif l.getD 3 false then vI q.n else vI 0),(bif l.getD 4 false then vI q.x else vI 0),(bif l.getD 4 false then vI q.y else vI 0),vS [],vS [],vI 0]) 31 (fun Z=>vI q.n),aCz 4 25 29 1 9 (fun Z=>aa) (fun Z l=>#[vI q.ask,vI q.kind,vI 0,vS [],vS [],vI 0,vL none 0 0,vS [],(bif l.getD 3 false then vI q.n else vI 0),(bif l.getD 4 false then vI q.x else vI 0),(bif l.getD 4 false then vI q.y else vI 0),vS [],vS [],vI 0]) 31 (fun Z => .agg #[vI q.x,vI q.y]),trivial⟩ fun ak w1 hM=>?_;replace hM:Mm nF_ w w1 [bk ab (qY_ q) 31,bk aa #[vI q.ask,vI q.kind,vI 0,vS [],vS [],vI 0,vL none 0 0,vS [],vI q.n,vI q.x,vI q.y,vS [],vS [],vI 0] 31]:=hM;refine seg 19 0 [] f0 (aAh _ (cu52 (decide (0<=q.y)&&decide (q.y<=1048575)) [] q.n q.x q.y [] [] 0 _ (by unfold aAS aIK aCY;simp [h47,h48,h50,h59,h60,h61,h62,h66,h68]) hM))
theorem aI8 {w:World}{v:Value}{os:List ObR}(hm:aC0 w v os) {B h:Nat}{q:QdR}(hq:QdIn w B h q) (hBw:B<=w.heap.size) (h5:¬ q.ask=5):Calls Tryz.prog 27 #[vA (qdL q),.agg #[v]] w fun e w'=>e = .returned (vI (aAp h os q)) /\ Fr nF_ w w':=by
  have hm0:=hm;obtain ⟨hs0,hob⟩:=hm0;obtain ⟨p0,cp0,hp0,sp0⟩:=hs0.op;subst hp0;refine beg Tryz.func27 rfl rfl [(0,.agg (qY_ q)),(1,.agg #[vL p0 os.length cp0])] rfl rfl fun Z hZ=>?_;have hM:=Mm.nil nF_ w;refine aAu 0 0 2 [] (cs:=(qY_ q)) (T:=31) (v:=fun b=>vP b 0) f0 hM fun ae w1 hM=>aAu 0 1 3 [] (cs:=#[vL p0 os.length cp0]) (T:=24) (v:=fun b=>vP b 0) f0 hM fun af w1 hM=>aAx 1 1 8 [(7,.agg (qY_ q))] (fc (lam 31 0 0 14 hM rfl) f0) hM (aHJ (hq.fr hM.fr hBw) (Gn_ hBw hM.fr.size) h5) fun w1 hM=>seg 1 4 [(10,vB (!(aAS h q)))] f0 ?_;cases h78:(aAS h q)
  ·exact rt1 4 (vI 1) rfl f0 (hZ _ _ ⟨by unfold aAp aBF;simp [h78],hM.fr⟩)
  refine aAx 1 5 12 [(11,.agg #[vL p0 os.length cp0])] (fc (lam 24 1 0 1 hM rfl) f0) hM (aC6 (hm.fr hM.fr)) fun w1 hM=>seg 1 8 [(14,vB (!(aAl (aAa os))))] f0 ?_;cases h79:(aAl (aAa os))
  ·exact rt1 4 (vI 1) rfl f0 (hZ _ _ ⟨by unfold aAp aBF;simp [h78,h79],hM.fr⟩)
  refine seg 5 2 [(5,vI 0),(16,vI q.ask),(17,vB (q.ask==2))] (fc (ldm 3 0 0 hM rfl rfl) f0) ?_;cases h80:(q.ask==2)
  rotate_left
  ·refine aAx 17 3 46 [(5,vI 3),(43,.agg #[vL p0 os.length cp0]),(45,vS q.id)] (fc (lam 24 1 0 1 hM rfl) (fc (ldm 9 0 7 hM rfl rfl) f0)) hM (aD4 (hm.fr hM.fr) q.id) fun w1 hM=>seg 20 3 [(6,vI (aAv (aAa os) q.id)),(50,vB (decide ((aAv (aAa os) q.id)<0)))] f0 ?_;cases h91:(decide ((aAv (aAa os) q.id)<0))
   rotate_left
   ·exact rt1 4 (vI 11) rfl f0 (hZ _ _ ⟨by unfold aAp aBF;simp [h78,h79,h80,h91],hM.fr⟩)
   obtain ⟨k,o9,hk,hk2,hk3⟩:=aBC (df h91);have hkl:k<os.length:=by rw [←aAQ];exact gl hk2
   obtain ⟨y92,aa,ag,ah,q92,ac⟩:=sp0.el (i:=k) (by omega);refine seg 22 9 [(53,vB (!(y92.o.kind==3)))] (fc (ldm 22 1 0 hM rfl rfl) (fc (ix 22 cp0 q92 (gl aa) (z:=(aAv (aAa os) q.id)) (hz:=hk)) (fc (ld0 3 hM (ac 1 _ rfl)) f0))) ?_;cases h93:(y92.o.kind==3)
   ·have hkk:aDp os q.id=y92.o.kind:=by unfold aDp;rw [hk];simp only [Int.toNat_natCast,aa]
    exact rt1 4 (vI 13) rfl f0 (hZ _ _ ⟨by unfold aAp aBF;simp [hkk,h78,h79,h80,h91,h93],hM.fr⟩)
   have hkk:aDp os q.id=y92.o.kind:=by unfold aDp;rw [hk];simp only [Int.toNat_natCast,aa]
   exact rt1 4 (vI 0) rfl f0 (hZ _ _ ⟨by unfold aAp aBF;simp [hkk,h78,h79,h80,h91,h93],hM.fr⟩)
  refine seg 7 2 [(19,vB (q.ask==3))] f0 ?_;cases h81:(q.ask==3)
  ·refine seg 8 2 [(19,vB (q.ask==4))] f0 ?_;cases h82:(q.ask==4)
   ·refine seg 13 2 [(33,vB (q.ask==5))] f0 ?_;cases h83:(q.ask==5)
    ·refine aAx 17 3 46 [(43,.agg #[vL p0 os.length cp0]),(45,vS q.id)] (fc (lam 24 1 0 1 hM rfl) (fc (ldm 9 0 7 hM rfl rfl) f0)) hM (aD4 (hm.fr hM.fr) q.id) fun w1 hM=>rt1 4 (vI 0) rfl f0 (hZ _ _ ⟨by unfold aAp aBF;simp [h78,h79,h80,h81,h82,h83],hM.fr⟩)
    exact absurd (et h83) h5
   refine seg 9 4 [(25,vB (q.kind==4))] (fc (ldm 3 0 1 hM rfl rfl) f0) ?_;cases h84:(q.kind==4)
   rotate_left
   ·exact rt1 4 (vI 8) rfl f0 (hZ _ _ ⟨by unfold aAp aBF;simp [h78,h79,h80,h81,h82,h84],hM.fr⟩)
   refine seg 9 8 [(29,vB (q.kind==5))] (fc (ldm 3 0 1 hM rfl rfl) f0) ?_;cases h85:(q.kind==5)
   ·refine aAx 17 3 46 [(43,.agg #[vL p0 os.length cp0]),(45,vS q.id)] (fc (ldm 3 0 0 hM rfl rfl) (fc (tv 32 h81) (fc (lam 24 1 0 1 hM rfl) (fc (ldm 9 0 7 hM rfl rfl) f0)))) hM (aD4 (hm.fr hM.fr) q.id) fun w1 hM=>rt1 4 (vI 0) rfl f0 (hZ _ _ ⟨by unfold aAp aBF;simp [h78,h79,h80,h81,h82,h84,h85],hM.fr⟩)
   exact rt1 4 (vI 8) rfl f0 (hZ _ _ ⟨by unfold aAp aBF;simp [h78,h79,h80,h81,h82,h84,h85],hM.fr⟩)
  refine seg 9 4 [(25,vB (q.kind==4))] (fc (ldm 3 0 1 hM rfl rfl) f0) ?_;cases h86:(q.kind==4)
  rotate_left
  ·exact rt1 4 (vI 8) rfl f0 (hZ _ _ ⟨by unfold aAp aBF;simp [h78,h79,h80,h81,h86],hM.fr⟩)
  refine seg 9 8 [(29,vB (q.kind==5))] (fc (ldm 3 0 1 hM rfl rfl) f0) ?_;cases h87:(q.kind==5)
  rotate_left
  ·exact rt1 4 (vI 8) rfl f0 (hZ _ _ ⟨by unfold aAp aBF;simp [h78,h79,h80,h81,h86,h87],hM.fr⟩)
  refine aAx 17 3 46 [(5,vI 2),(43,.agg #[vL p0 os.length cp0]),(45,vS q.id)] (fc (ldm 3 0 0 hM rfl rfl) (fc (tv 32 h81) (fc (lam 24 1 0 1 hM rfl) (fc (ldm 9 0 7 hM rfl rfl) f0)))) hM (aD4 (hm.fr hM.fr) q.id) fun w1 hM=>seg 20 3 [(6,vI (aAv (aAa os) q.id)),(50,vB (decide ((aAv (aAa os) q.id)<0)))] f0 ?_;cases h88:(decide ((aAv (aAa os) q.id)<0))
  rotate_left
  ·exact rt1 4 (vI 11) rfl f0 (hZ _ _ ⟨by unfold aAp aBF;simp [h78,h79,h80,h81,h86,h87,h88],hM.fr⟩)
  obtain ⟨k,o9,hk,hk2,hk3⟩:=aBC (df h88);have hkl:k<os.length:=by rw [←aAQ];exact gl hk2
  obtain ⟨y89,ab,ai,aj,q89,ad⟩:=sp0.el (i:=k) (by omega);refine seg 22 9 [(53,vB (!(y89.o.kind==2)))] (fc (ldm 22 1 0 hM rfl rfl) (fc (ix 22 cp0 q89 (gl ab) (z:=(aAv (aAa os) q.id)) (hz:=hk)) (fc (ld0 3 hM (ad 1 _ rfl)) f0))) ?_;cases h90:(y89.o.kind==2)
  ·have hkk:aDp os q.id=y89.o.kind:=by unfold aDp;rw [hk];simp only [Int.toNat_natCast,ab]
   exact rt1 4 (vI 13) rfl f0 (hZ _ _ ⟨by unfold aAp aBF;simp [hkk,h78,h79,h80,h81,h86,h87,h88,h90],hM.fr⟩)
  have hkk:aDp os q.id=y89.o.kind:=by unfold aDp;rw [hk];simp only [Int.toNat_natCast,ab]
  exact rt1 4 (vI 0) rfl f0 (hZ _ _ ⟨by unfold aAp aBF;simp [hkk,h78,h79,h80,h81,h86,h87,h88,h90],hM.fr⟩)
theorem aTg {w:World}{G:Nat->Prop}{ix mb n:Nat}{m:Bys->Option (Pt×Pt)}{pk:Bool}(hM0:Mm G w w [ixG ix mb (.pointer none) pk n m]) {s:Bys}(hs:B63 s) {b:Pt×Pt}(hb:([b.1.1,b.1.2,b.2.1,b.2.2].any aMx)=false /\ (decide (b.2.1<b.1.1))=false /\ (decide (b.2.2<b.1.2))=false) (hms:(m s).isSome=false) (hn:n<1000000):Calls Tryz.prog 76 #[vP ix 0,vS s,bxV b] w fun e w'=>∃ u e',e = .returned u /\ (u=vI 0 /\ e'=ixG ix mb (.pointer none) false (n+1) (aHC m s b)) /\ Mm G w w' [e'] :=
  (aIn (Mm.ung (A:=[]) (C:=[]) hM0) hs hb.1 hb.2.1 hb.2.2 hms hn).mono fun e w' ⟨h1,h4⟩=>⟨_,_,h1,⟨rfl,rfl⟩,aCW (A:=[]) h4⟩
theorem aNT {k:Int}{P:List Pt}{i:Nat}{p q:Pt}(h:(decide (0<(((i:Int)+1)%(P.length:Int))) || !(k==2))=true) (hp:P[i]?=some p) (hq:P[(i+1)%P.length]?=some q):aHq k P i=[(p,q)]:=by
  unfold aHq;rw [h,cond_true,List.getD_eq_getElem?_getD,List.getD_eq_getElem?_getD,hp,hq];rfl
theorem aQ5 {k:Int}{P:List Pt}{i:Nat}(h:(decide (0<(((i:Int)+1)%(P.length:Int))) || !(k==2))=false):aHq k P i=[]:=by
  unfold aHq;rw [h];rfl
theorem aKu {f:Nat->List (Pt×Pt)}{SL X:List (Pt×Pt)}{k:Nat}(h:SL=(List.range k).flatMap f) (hx:f k=X):SL++X=(List.range (k+1)).flatMap f:=by
  rw [List.range_succ,List.flatMap_append,←h];simp [hx]
abbrev aX6 (Z:Ending->World->Prop):=AtO Tryz.prog (aAw Tryz.f34) (aAL (bodyPost Tryz.prog Tryz.f34 Z)) [] 93
abbrev fY_ (a:Value) (q:QdR) (b c:Value):Array Value:=#[a,vI q.ask,vI q.kind,vI q.wh.op,vS q.wh.key,vS q.wh.val,vI q.wh.n,vL q.wh.p q.wh.kids.length q.wh.cap,vS q.id,vI q.n,vI q.x,vI q.y,vS q.key,vS q.prof,vI q.min,b,c]
theorem aIu {w:World}{v:Value}{os:List ObR}(hm:aC0 w v os) (hlen:os.length<=100000) (hvm:aAl (aAa os)=true) (q:QdR):Calls Tryz.prog 34 #[.agg #[v],vA (qdL q)] w fun e w'=>∃ fb bs xi mb S ns,e = .returned (vP fb 0) /\ ns=S.length /\ aEt (aAa os) os S /\ Mm nF_ w w' [bk fb #[v,vI q.ask,vI q.kind,vI q.wh.op,vS q.wh.key,vS q.wh.val,vI q.wh.n,vL q.wh.p q.wh.kids.length q.wh.cap,vS q.id,vI q.n,vI q.x,vI q.y,vS q.key,vS q.prof,vI q.min,.map (some bs),vP xi 0] 93,mp Tryz.prog 9 bs ns (shF S),ixG xi mb (.pointer none) false ns (bxS (aAa os) S),aBL (S.map (shE (aAa os)))]:=by
  have hmv:=hm;have hm0:=hm;obtain ⟨hs0,hob⟩:=hm0;obtain ⟨p0,cp0,hp0,sp0⟩:=hs0.op;subst hp0;refine beg Tryz.func34 rfl rfl [(0,.agg #[vL p0 os.length cp0]),(1,.agg (qY_ q))] rfl rfl fun Y hY=>?_;have hM:=Mm.nil nF_ w;refine aAu 0 0 2 [] (cs:=#[vL p0 os.length cp0]) (T:=24) (v:=fun b=>vP b 0) f0 hM fun aa w1 hM=>aAu 0 1 3 [] (cs:=(qY_ q)) (T:=31) (v:=fun b=>vP b 0) f0 hM fun ac w1 hM=>seg 1 0 [] f0 ?_;have hM:=hM.nl;have hM:=hM.nl;have hM:=hM.nl;refine drx [2,3,5] (fun Z=>[some (.map (some (bn (Z 0)))),some (vP (bn (Z 1)) 0),some (vP (bn (Z 2)) 0)]) _ (fun Z l=>[bk aa #[vL p0 os.length cp0] 24,bk ac (qY_ q) 31,(bif l.getD 0 false then mp Tryz.prog 9 (bn (Z 0)) 0 (fun _=>none) else aEK),(bif l.getD 1 false then pfE (aWf (bn (Z 1))) (Z.e 1) else aEK),(bif l.getD 2 false then bk (bn (Z 2)) #[vL p0 os.length cp0,vI q.ask,vI q.kind,vI q.wh.op,vS q.wh.key,vS q.wh.val,vI q.wh.n,vL q.wh.p q.wh.kids.length q.wh.cap,vS q.id,vI q.n,vI q.x,vI q.y,vS q.key,vS q.prof,vI q.min,.map (some (bn (Z 0))),vP (bn (Z 1)) 0] 93 else aEK)]) (fun Z=>[(5,vP (bn (Z 2)) 0)]) hM (fun Z=>rfl) (fun Z l w5 hM=>(fc (lam 24 0 0 1 hM rfl) (fc (lam 31 1 0 14 hM rfl) f0))) ⟨aVM 0 2 2 16 9,aOV 1 3 3 17 (f:=74) (fun Z=>#[]) aWf (fun Z fr wm hM=>aVk),aDx 2 5 4 19 (fun Z=>#[vL p0 os.length cp0,vI q.ask,vI q.kind,vI q.wh.op,vS q.wh.key,vS q.wh.val,vI q.wh.n,vL q.wh.p q.wh.kids.length q.wh.cap,vS q.id,vI q.n,vI q.x,vI q.y,vS q.key,vS q.prof,vI q.min,.map (some (bn (Z 0))),vP (bn (Z 1)) 0]) 93 (fun b=>vP b 0),trivial⟩ fun ae w1 hM=>?_;replace hM:Mm nF_ w w1 [bk aa #[vL p0 os.length cp0] 24,bk ac (qY_ q) 31,_,pfE (aWf (bn (ae 1))) (ae.e 1),bk (bn (ae 2)) #[vL p0 os.length cp0,vI q.ask,vI q.kind,vI q.wh.op,vS q.wh.key,vS q.wh.val,vI q.wh.n,vL q.wh.p q.wh.kids.length q.wh.cap,vS q.id,vI q.n,vI q.x,vI q.y,vS q.key,vS q.prof,vI q.min,.map (some (bn (ae 0))),vP (bn (ae 1)) 0] 93]:=hM;obtain ⟨⟨mb,hge⟩,hM⟩:=hM.unpf (j:=3) rfl;rw [hge] at hM;obtain ⟨fb,hfb⟩:∃ z,z=(bn (ae 2)):=⟨_,rfl⟩;obtain ⟨bs,hbs⟩:∃ z,z=(bn (ae 0)):=⟨_,rfl⟩;obtain ⟨xi,hxi⟩:∃ z,z=(bn (ae 1)):=⟨_,rfl⟩;rw [←hxi,←hfb,←hbs] at hM;rw [←hfb];replace hM:Mm nF_ w _ [bk aa #[vL p0 os.length cp0] 24,bk ac (qY_ q) 31,_,_,bk fb (fY_ (vL p0 os.length cp0) q (.map (some bs)) (vP xi 0)) 93]:=hM;have hM:=hM.pick [0,1,4,2,3];have hM:=aCW (Ms:=[]) (by rw [List.append_nil];exact hM);replace hM:Mm nF_ w _ [bk aa #[vL p0 os.length cp0] 24,bk ac (qY_ q) 31,bk fb (fY_ (vL p0 os.length cp0) q (.map (some bs)) (vP xi 0)) 93,_,_,_]:=hM;refine seg 3 0 [(21,vL p0 os.length cp0),(22,vI (os.length:Int)),(23,vI 0)] (fc (ldm 22 0 0 hM rfl rfl) f0) ?_
  have av:∀ (ak:Nat) (i:Nat) (ns:Nat) (nb:Nat) (S:List ShR) (w2:World),i<=os.length->ns=S.length->nb=S.length->aEt (aAa os) (os.take i) S->Mm nF_ w w2 [bk aa #[vL p0 os.length cp0] 24,bk ac (qY_ q) 31,bk fb (fY_ (vL p0 os.length cp0) q (.map (some bs)) (vP xi 0)) 93,mp Tryz.prog 9 bs ns (shF S),ixG xi mb (.pointer none) false nb (bxS (aAa os) S),aBL (S.map (shE (aAa os)))]->ak=os.length-i->aX6 Y (some (3,0)) [(23,vI (i:Int)),(22,vI (os.length:Int)),(21,vL p0 os.length cp0),(5,vP fb 0),(2,vP aa 0)] w2:=by
   refine aCx fun ak al i ns nb S w2 hi hns hnb hS hM a2=>?_;have hSn:S.length<=i:=by have:=congrArg List.length hS;rw [Go_] at this;have h2:=List.length_filter_le (fun b:ObR=>(aAf (aAa os) b.o.id).1==0) (os.take i);rw [Gp_] at h2;omega
   refine seg 3 1 [(24,vB (decide ((i:Int)<(os.length:Int))))] f0 ?_;cases am:(decide ((i:Int)<(os.length:Int)))
   ·have aw:=df am;exact rt1 4 (vP fb 0) rfl f0 (hY _ _ ⟨fb,bs,xi,mb,S,ns,rfl,hns,by rw [Gc_ (by omega)] at hS;exact hS,by subst hnb;subst hns;exact hM.pick [2,3,4,5]⟩)
   have aw:=dt am;obtain ⟨y,hy,a3,a4,ax,ay⟩:=sp0.el (i:=i) (by omega);refine aBY 4 2 7 [(26,.agg (oY_ y))] [] 48 (.agg (oY_ y)) (fc (ix 22 cp0 ax (gl hy)) (fc (la0 48 hM ay) f0)) hM fun ad w1 hM=>aOI 5 3 31 [(28,.agg #[vL p0 os.length cp0]),(30,vS y.o.id)] (K:=fun u Mn=>∃ v,u = .tuple #[v,vI (aAf (aAa os) y.o.id).1] /\ Mn=[rw_ ptL 2 29 v (aAf (aAa os) y.o.id).2]) [0,1,2,3,4,5,6] [] (fc (lam 24 0 0 1 hM rfl) (fc (ldm 9 6 0 hM rfl rfl) f0)) hM rfl rfl (by decide) (fun hm=>((aIe (hmv.fr hM.fr) (Gn_ hlen (by decide)) y.o.id).mono fun e w9 ⟨u,h1,h2⟩=>⟨_,_,h1,⟨u,rfl,rfl⟩,aIH h2 fun _ h=>h.elim⟩)) fun u Mn w1 hK hM=>?_;obtain ⟨v8,rfl,rfl⟩:=hK;obtain ⟨qp,cp9,e9,-⟩:=(hM.src (j:=7) rfl ptT.len).op;subst e9;refine seg 6 2 [(8,vL qp (aAf (aAa os) y.o.id).2.length cp9),(35,vB (!((aAf (aAa os) y.o.id).1==0)))] f0 ?_;cases af:((aAf (aAa os) y.o.id).1==0)
   ·have az:=ef af;refine seg 3 0 [(23,vI ((i:Int)+1))] (fc (aAI (i:Int) 1 u3_) f0) ?_;have hM:=hM.pick [0,1,2,3,4,5];exact aAh _ (al _ (by have:=gl hy;omega) (i+1) ns nb S _ (gl hy) hns hnb (aS1 hS hy af) hM rfl)
   have az:=et af;have hlp:0<(aAf (aAa os) y.o.id).2.length:=aNr hvm (et af);have hpb:=aUM (s:=y.o.id) hvm;refine aAu 7 3 39 [(38,.agg #[vS y.o.id,vI y.o.kind,vI y.o.x,vI y.o.y,vL y.pr y.o.refs.length y.cr,vL y.pt y.o.tags.length y.ct,vL none 0 0,vL qp (aAf (aAa os) y.o.id).2.length cp9])] (cs:=#[vS y.o.id,vI y.o.kind,vI y.o.x,vI y.o.y,vL y.pr y.o.refs.length y.cr,vL y.pt y.o.tags.length y.ct,vL none 0 0,vL qp (aAf (aAa os) y.o.id).2.length cp9]) (T:=102) (v:=fun b=>vP b 0) (fc (lam 48 6 0 6 hM rfl) f0) hM fun ab w1 hM=>?_;have hM:=hM.row (f:=sgL) (c:=4) (E:=126);refine seg 9 0 [(10,vP ab 0),(40,vL qp (aAf (aAa os) y.o.id).2.length cp9),(41,vI ((aAf (aAa os) y.o.id).2.length:Int)),(42,vI 0)] f0 ?_
   have a0:∀ (an:Nat) (k:Nat) (vl:Value) (SL:List (Pt×Pt)) (w2:World),k<=(aAf (aAa os) y.o.id).2.length->SL.length<=k->SL=(List.range k).flatMap (aHq y.o.kind (aAf (aAa os) y.o.id).2)->Mm nF_ w w2 [bk aa #[vL p0 os.length cp0] 24,bk ac (qY_ q) 31,bk fb (fY_ (vL p0 os.length cp0) q (.map (some bs)) (vP xi 0)) 93,mp Tryz.prog 9 bs ns (shF S),ixG xi mb (.pointer none) false nb (bxS (aAa os) S),aBL (S.map (shE (aAa os))),bk ad (oY_ y) 48,rw_ ptL 2 29 (vL qp (aAf (aAa os) y.o.id).2.length cp9) ((aAf (aAa os) y.o.id).2),bk ab #[vS y.o.id,vI y.o.kind,vI y.o.x,vI y.o.y,vL y.pr y.o.refs.length y.cr,vL y.pt y.o.tags.length y.ct,vl,vL qp (aAf (aAa os) y.o.id).2.length cp9] 102,rw_ sgL 4 126 vl SL]->an=(aAf (aAa os) y.o.id).2.length-k->aX6 Y (some (9,0)) [(42,vI (k:Int)),(41,vI ((aAf (aAa os) y.o.id).2.length:Int)),(40,vL qp (aAf (aAa os) y.o.id).2.length cp9),(10,vP ab 0),(8,vL qp (aAf (aAa os) y.o.id).2.length cp9),(7,vP ad 0),(23,vI (i:Int)),(22,vI (os.length:Int)),(21,vL p0 os.length cp0),(5,vP fb 0),(2,vP aa 0)] w2:=by
    refine aCx fun an ao k vl SL w2 hk hSk hS2 hM a5=>seg 9 1 [(43,vB (decide ((k:Int)<((aAf (aAa os) y.o.id).2.length:Int))))] f0 ?_;cases ap:(decide ((k:Int)<((aAf (aAa os) y.o.id).2.length:Int)))
    ·have a1:=df ap;refine seg 15 0 [] f0 (drx [7] (fun Z=>[none]) _ (fun Z l=>[bk aa #[vL p0 os.length cp0] 24,bk ac (qY_ q) 31,bk fb (fY_ (vL p0 os.length cp0) q (.map (some bs)) (vP xi 0)) 93,(bif l.getD 0 false then mp Tryz.prog 9 bs (ns+1) (upd (shF S) (vS y.o.id) (vP ab 0)) else mp Tryz.prog 9 bs ns (shF S)),ixG xi mb (.pointer none) false nb (bxS (aAa os) S),aBL (S.map (shE (aAa os))),bk ad (oY_ y) 48,rw_ ptL 2 29 (vL qp (aAf (aAa os) y.o.id).2.length cp9) ((aAf (aAa os) y.o.id).2),bk ab #[vS y.o.id,vI y.o.kind,vI y.o.x,vI y.o.y,vL y.pr y.o.refs.length y.cr,vL y.pt y.o.tags.length y.ct,vl,vL qp (aAf (aAa os) y.o.id).2.length cp9] 102,rw_ sgL 4 126 vl SL]) (fun Z=>[]) hM (fun Z=>rfl) (fun Z l w5 hM=>(fc (ldm 90 2 15 hM rfl rfl) (fc (ldm 9 6 0 hM rfl rfl) f0))) ⟨aOS 0 7 90 3 (fun Z=>bs) ns (shF S) (fun Z=>vS y.o.id) (fun Z=>vP ab 0) aEe u90_ (fun Z=>(aEu (hob _ (gm hy)).bnd.id)),trivial⟩ fun a6 w1 hM=>?_);replace hM:Mm nF_ w w1 [bk aa #[vL p0 os.length cp0] 24,bk ac (qY_ q) 31,bk fb (fY_ (vL p0 os.length cp0) q (.map (some bs)) (vP xi 0)) 93,_,_,_,bk ad (oY_ y) 48,_,bk ab #[vS y.o.id,vI y.o.kind,vI y.o.x,vI y.o.y,vL y.pr y.o.refs.length y.cr,vL y.pt y.o.tags.length y.ct,vl,vL qp (aAf (aAa os) y.o.id).2.length cp9] 102,_]:=hM;refine seg 16 0 [] f0 (drx [8] (fun Z=>[some ((Z 0))]) _ (fun Z l=>[bk aa #[vL p0 os.length cp0] 24,bk ac (qY_ q) 31,bk fb (fY_ (vL p0 os.length cp0) q (.map (some bs)) (vP xi 0)) 93,mp Tryz.prog 9 bs (ns+1) (upd (shF S) (vS y.o.id) (vP ab 0)),(bif l.getD 0 false then pfE ((fun u e=>u=vI 0 /\ e=ixG xi mb (.pointer none) false (nb+1) (aHC (bxS (aAa os) S) y.o.id (aAc (aAf (aAa os) y.o.id).2))) (Z 0)) (Z.e 0) else ixG xi mb (.pointer none) false nb (bxS (aAa os) S)),aBL (S.map (shE (aAa os))),bk ad (oY_ y) 48,rw_ ptL 2 29 (vL qp (aAf (aAa os) y.o.id).2.length cp9) ((aAf (aAa os) y.o.id).2),bk ab #[vS y.o.id,vI y.o.kind,vI y.o.x,vI y.o.y,vL y.pr y.o.refs.length y.cr,vL y.pt y.o.tags.length y.ct,vl,vL qp (aAf (aAa os) y.o.id).2.length cp9] 102,rw_ sgL 4 126 vl SL]) (fun Z=>[]) hM (fun Z=>rfl) (fun Z l w5 hM=>(fc (ldm 91 2 16 hM rfl rfl) (fc (ldm 9 6 0 hM rfl rfl) (fc (tcl (aEP ((hM.src (j:=7) rfl ptT.len).p).2 hlp)) f0)))) ⟨aOW 0 8 4 90 (f:=76) (fun Z=>#[vP xi 0,vS y.o.id,.agg #[vI (aAc (aAf (aAa os) y.o.id).2).1.1,vI (aAc (aAf (aAa os) y.o.id).2).1.2,vI (aAc (aAf (aAa os) y.o.id).2).2.1,vI (aAc (aAf (aAa os) y.o.id).2).2.2]]) (fun Z=>ixG xi mb (.pointer none) false nb (bxS (aAa os) S)) (fun u e=>u=vI 0 /\ e=ixG xi mb (.pointer none) false (nb+1) (aHC (bxS (aAa os) S) y.o.id (aAc (aAf (aAa os) y.o.id).2))) (fun Z fr wm hM hm=>aTg hm (hob _ (gm hy)).bnd.id (aON hlp (aNs hvm)) (aRg (aPA (aAM hvm) hS hy)) (by omega)),trivial⟩ fun ag w1 hM=>?_);replace hM:Mm nF_ w w1 [bk aa #[vL p0 os.length cp0] 24,bk ac (qY_ q) 31,bk fb (fY_ (vL p0 os.length cp0) q (.map (some bs)) (vP xi 0)) 93,_,pfE ((fun u e=>u=vI 0 /\ e=ixG xi mb (.pointer none) false (nb+1) (aHC (bxS (aAa os) S) y.o.id (aAc (aAf (aAa os) y.o.id).2))) (ag 0)) (ag.e 0),_,bk ad (oY_ y) 48,_,bk ab #[vS y.o.id,vI y.o.kind,vI y.o.x,vI y.o.y,vL y.pr y.o.refs.length y.cr,vL y.pt y.o.tags.length y.ct,vl,vL qp (aAf (aAa os) y.o.id).2.length cp9] 102,_]:=hM;refine seg 3 0 [(23,vI ((i:Int)+1))] (fc (aAI (i:Int) 1 u3_) f0) ?_;have hU:=hM.unpf (Q:=(fun u e=>u=vI 0 /\ e=ixG xi mb (.pointer none) false (nb+1) (aHC (bxS (aAa os) S) y.o.id (aAc (aAf (aAa os) y.o.id).2))) (ag 0)) (e:=ag.e 0) (j:=4) rfl;have hge:ag.e 0=ixG xi mb (.pointer none) false (nb+1) (aHC (bxS (aAa os) S) y.o.id (aAc (aAf (aAa os) y.o.id).2)):=hU.1.2;have hM:=hU.2;clear hU;rw [hge] at hM;replace hM:Mm nF_ w _ [bk aa #[vL p0 os.length cp0] 24,bk ac (qY_ q) 31,bk fb (fY_ (vL p0 os.length cp0) q (.map (some bs)) (vP xi 0)) 93,_,_,_,bk ad (oY_ y) 48,_,bk ab #[vS y.o.id,vI y.o.kind,vI y.o.x,vI y.o.y,vL y.pr y.o.refs.length y.cr,vL y.pt y.o.tags.length y.ct,vl,vL qp (aAf (aAa os) y.o.id).2.length cp9] 102,_]:=hM;obtain ⟨ql,cl9,el9,-⟩:=(hM.src (j:=9) rfl sgT.len).op;subst el9;obtain rfl:SL=aG3 y.o.kind (aAf (aAa os) y.o.id).2:=by rw [hS2,show k=(aAf (aAa os) y.o.id).2.length by omega];rfl
     have hM:=hM.pick [0,1,2,3,4,5,8,9,7];obtain ⟨s9,hs9⟩:∃ z:ShR,z=⟨ab,y,ql,cl9,qp,cp9⟩:=⟨_,rfl⟩;replace hM:Mm nF_ w w1 [bk aa #[vL p0 os.length cp0] 24,bk ac (qY_ q) 31,bk fb (fY_ (vL p0 os.length cp0) q (.map (some bs)) (vP xi 0)) 93,mp Tryz.prog 9 bs (ns+1) (shF (S++[s9])),ixG xi mb (.pointer none) false (nb+1) (bxS (aAa os) (S++[s9])),aBL ((S++[s9]).map (shE (aAa os)))]:=by rw [aPB,aRf,List.map_append];subst hs9;exact aTH (A:=[bk aa #[vL p0 os.length cp0] 24,bk ac (qY_ q) 31,bk fb (fY_ (vL p0 os.length cp0) q (.map (some bs)) (vP xi 0)) 93,mp Tryz.prog 9 bs _ _,_]) hM
     exact aAh _ (al _ (by have:=gl hy;omega) (i+1) (ns+1) (nb+1) (S++[s9]) _ (gl hy) (by rw [Gi_,hns];rfl) (by rw [Gi_,hnb];rfl) (aP9 hS hy af (by rw [hs9])) hM rfl)
    have a1:=dt ap;obtain ⟨pk9,hpk9⟩:=geb (l:=(aAf (aAa os) y.o.id).2) (i:=k) (by omega);obtain ⟨a7,aq,-⟩:=hM.el ptT (j:=7) rfl hpk9;refine aAu 10 3 12 [(44,vI (k:Int)),(46,.agg #[vI pk9.1,vI pk9.2])] (cs:=#[vI 0,vI 0]) (T:=29) (v:=fun b=>vP b 0) (fc (ix 100 cp9 aq (gl hpk9)) (fc (lar 29 7 0 2 ptT hM rfl aq hpk9) f0)) hM fun ai w1 hM=>stm 10 5 [(11,vI (k:Int))] 29 10 0 (.agg #[vI pk9.1,vI pk9.2]) f0 hM rfl fun w1 hM=>seg 12 0 [(13,vI (((k:Int)+1)%((aAf (aAa os) y.o.id).2.length:Int)))] (fc (aAI (k:Int) 1 u3_) (fc (aXA ((k:Int)+1) ((aAf (aAa os) y.o.id).2.length:Int) u3_) f0)) ?_
    have cu193:∀ (w2:World),(decide (0<(((k:Int)+1)%((aAf (aAa os) y.o.id).2.length:Int))) || !(y.o.kind==2))=true->Mm nF_ w w2 [bk aa #[vL p0 os.length cp0] 24,bk ac (qY_ q) 31,bk fb (fY_ (vL p0 os.length cp0) q (.map (some bs)) (vP xi 0)) 93,mp Tryz.prog 9 bs ns (shF S),ixG xi mb (.pointer none) false nb (bxS (aAa os) S),aBL (S.map (shE (aAa os))),bk ad (oY_ y) 48,rw_ ptL 2 29 (vL qp (aAf (aAa os) y.o.id).2.length cp9) ((aAf (aAa os) y.o.id).2),bk ab #[vS y.o.id,vI y.o.kind,vI y.o.x,vI y.o.y,vL y.pr y.o.refs.length y.cr,vL y.pt y.o.tags.length y.ct,vl,vL qp (aAf (aAa os) y.o.id).2.length cp9] 102,rw_ sgL 4 126 vl SL,bk ai #[vI pk9.1,vI pk9.2] 29]->aX6 Y (some (13,0)) [(13,vI (((k:Int)+1)%((aAf (aAa os) y.o.id).2.length:Int))),(12,vP ai 0),(42,vI (k:Int)),(41,vI ((aAf (aAa os) y.o.id).2.length:Int)),(40,vL qp (aAf (aAa os) y.o.id).2.length cp9),(10,vP ab 0),(8,vL qp (aAf (aAa os) y.o.id).2.length cp9),(7,vP ad 0),(23,vI (i:Int)),(22,vI (os.length:Int)),(21,vL p0 os.length cp0),(5,vP fb 0),(2,vP aa 0)] w2:=by
     intro w2 hcv hM;have hnx:(k+1)%(aAf (aAa os) y.o.id).2.length<(aAf (aAa os) y.o.id).2.length:=Nat.mod_lt _ hlp;obtain ⟨pq9,hpq9⟩:=geb (l:=(aAf (aAa os) y.o.id).2) (i:=((k+1)%(aAf (aAa os) y.o.id).2.length)) (by omega);obtain ⟨a8,ar,-⟩:=hM.el ptT (j:=7) rfl hpq9;have hM:=hM.nl;refine drx [4,11,12,15] (fun Z=>[some (vl),some (vL (some ⟨(bn (Z 1)),0,none⟩) 1 1),some (vL (slp (Z 2)) (SL++[(((pk9.1,pk9.2),(pq9.1,pq9.2)):Pt×Pt)]).length (slc (Z 2))),none]) _ (fun Z l=>[bk aa #[vL p0 os.length cp0] 24,bk ac (qY_ q) 31,bk fb (fY_ (vL p0 os.length cp0) q (.map (some bs)) (vP xi 0)) 93,mp Tryz.prog 9 bs ns (shF S),ixG xi mb (.pointer none) false nb (bxS (aAa os) S),aBL (S.map (shE (aAa os))),bk ad (oY_ y) 48,rw_ ptL 2 29 (vL qp (aAf (aAa os) y.o.id).2.length cp9) ((aAf (aAa os) y.o.id).2),bk ab #[vS y.o.id,vI y.o.kind,vI y.o.x,vI y.o.y,vL y.pr y.o.refs.length y.cr,vL y.pt y.o.tags.length y.ct,(bif l.getD 3 false then vL (slp (Z 2)) (SL++[(((pk9.1,pk9.2),(pq9.1,pq9.2)):Pt×Pt)]).length (slc (Z 2)) else vl),vL qp (aAf (aAa os) y.o.id).2.length cp9] 102,(bif l.getD 2 false then rw_ sgL 4 126 (vL (slp (Z 2)) (SL++[(((pk9.1,pk9.2),(pq9.1,pq9.2)):Pt×Pt)]).length (slc (Z 2))) (SL++[(((pk9.1,pk9.2),(pq9.1,pq9.2)):Pt×Pt)]) else rw_ sgL 4 126 vl SL),bk ai #[vI pk9.1,vI pk9.2] 29,(bif l.getD 1 false then bk (bn (Z 1)) #[vI pk9.1,vI pk9.2,vI pq9.1,vI pq9.2] 126 else aEK)]) (fun Z=>[]) hM (fun Z=>rfl) (fun Z l w5 hM=>(fc (lam 29 10 0 2 hM rfl) (fc (ix 100 cp9 ar (gl hpq9) (z:=(((k:Int)+1)%((aAf (aAa os) y.o.id).2.length:Int))) (hz:=(by rw [Int.natCast_emod];rfl))) (fc (lar 29 7 0 2 ptT hM rfl ar hpq9) f0)))) ⟨aTK 0 4 99 8 6 63 (fun Z=>ab) (fun Z l=>#[vS y.o.id,vI y.o.kind,vI y.o.x,vI y.o.y,vL y.pr y.o.refs.length y.cr,vL y.pt y.o.tags.length y.ct,(bif l.getD 3 false then vL (slp (Z 2)) (SL++[(((pk9.1,pk9.2),(pq9.1,pq9.2)):Pt×Pt)]).length (slc (Z 2)) else vl),vL qp (aAf (aAa os) y.o.id).2.length cp9]) 102 (fun Z=>vl),aDx 1 11 11 70 (fun Z=>#[vI pk9.1,vI pk9.2,vI pq9.1,vI pq9.2]) 126 (fun b=>vL (some ⟨b,0,none⟩) 1 1),aH9 2 12 9 71 99 126 0 (fun Z=>vl) SL [(((pk9.1,pk9.2),(pq9.1,pq9.2)):Pt×Pt)] (fun Z=>(bn (Z 1))) 1 sgT (by simp only [Gf_,Gm_];omega) (fun Z fr wm hM=>aCq (f:=sgL) (x:=(((pk9.1,pk9.2),(pq9.1,pq9.2)):Pt×Pt)) (hM.get 11 (e:=bk ((bn (Z 1))) (sgL (((pk9.1,pk9.2),(pq9.1,pq9.2)):Pt×Pt)).toArray 126) (by kernel_rfl)) (Nat.lt_succ_self _)),aCz 3 15 99 8 6 (fun Z=>ab) (fun Z l=>#[vS y.o.id,vI y.o.kind,vI y.o.x,vI y.o.y,vL y.pr y.o.refs.length y.cr,vL y.pt y.o.tags.length y.ct,(bif l.getD 3 false then vL (slp (Z 2)) (SL++[(((pk9.1,pk9.2),(pq9.1,pq9.2)):Pt×Pt)]).length (slc (Z 2)) else vl),vL qp (aAf (aAa os) y.o.id).2.length cp9]) 102 (fun Z=>vL (slp (Z 2)) (SL++[(((pk9.1,pk9.2),(pq9.1,pq9.2)):Pt×Pt)]).length (slc (Z 2))),trivial⟩ fun ah w1 hM=>?_;replace hM:Mm nF_ w w1 [bk aa #[vL p0 os.length cp0] 24,bk ac (qY_ q) 31,bk fb (fY_ (vL p0 os.length cp0) q (.map (some bs)) (vP xi 0)) 93,_,_,_,bk ad (oY_ y) 48,_,bk ab #[vS y.o.id,vI y.o.kind,vI y.o.x,vI y.o.y,vL y.pr y.o.refs.length y.cr,vL y.pt y.o.tags.length y.ct,vL (slp (ah 2)) (SL++[(((pk9.1,pk9.2),(pq9.1,pq9.2)):Pt×Pt)]).length (slc (ah 2)),vL qp (aAf (aAa os) y.o.id).2.length cp9] 102,_,bk ai #[vI pk9.1,vI pk9.2] 29,bk (bn (ah 1)) #[vI pk9.1,vI pk9.2,vI pq9.1,vI pq9.2] 126]:=hM;refine seg 9 0 [(42,vI ((k:Int)+1))] (fc (aAI (k:Int) 1 u3_) f0) ?_;have hM:=hM.pick [0,1,2,3,4,5,6,7,8,9];exact aAh _ (ao _ (by omega) (k+1) (vL (slp (ah 2)) (SL++[(((pk9.1,pk9.2),(pq9.1,pq9.2)):Pt×Pt)]).length (slc (ah 2))) (SL++[(((pk9.1,pk9.2),(pq9.1,pq9.2)):Pt×Pt)]) _ (by omega) (by simp only [Gi_,Gf_,Gm_];omega) (aKu hS2 (aNT hcv hpk9 hpq9)) hM rfl)
    refine seg 12 3 [(54,vB (decide (0<(((k:Int)+1)%((aAf (aAa os) y.o.id).2.length:Int)))))] f0 ?_;cases aj:(decide (0<(((k:Int)+1)%((aAf (aAa os) y.o.id).2.length:Int))))
    rotate_left
    ·refine seg 13 0 [] f0 (aAh _ (cu193 _ (by rw [aj];rfl) hM))
    refine seg 12 7 [(58,vB (!(y.o.kind==2)))] (fc (ldm 3 6 1 hM rfl rfl) f0) ?_;cases au:(y.o.kind==2)
    ·refine seg 13 0 [] f0 (aAh _ (cu193 _ (by rw [aj,au];rfl) hM))
    refine seg 9 0 [(42,vI ((k:Int)+1))] (fc (aAI (k:Int) 1 u3_) f0) ?_;have hM:=hM.pick [0,1,2,3,4,5,6,7,8,9];exact aAh _ (ao _ (by omega) (k+1) vl SL _ (by omega) (by omega) (by rw [←List.append_nil SL];exact aKu hS2 (aQ5 (by rw [aj,au];rfl))) hM rfl)
   exact aAh _ (a0 _ 0 (vL none 0 0) [] _ (Gg_ _) (Gj_ _) rfl hM rfl)
  exact aAh _ (av _ 0 0 0 [] _ (Gg_ _) rfl rfl rfl hM rfl)
abbrev Bx:=Pt×Pt
abbrev ptC (p:Pt):Array Value:=#[.int .i64 p.1,.int .i64 p.2]
abbrev bxC (b:Bx):Array Value:=#[.int .i64 b.1.1,.int .i64 b.1.2,.int .i64 b.2.1,.int .i64 b.2.2]
section
variable {o:Oper}{w:World}{ρ:Operand->Value}{x y z:Operand}{g off k n cap i:Nat}{p:Option Addr}
theorem aBh (ho:o.op = .fieldAddr 29 x 0) (hx:ρ x = .pointer (some ⟨g,off,none⟩)):(execOp ρ o).run Tryz.prog w = .ok (.value (.pointer (some ⟨g,off+0,none⟩))) w:=by simp [execOp,ho,hx,go_sem]
theorem aAV (ho:o.op = .fieldAddr 29 x 1) (hx:ρ x = .pointer (some ⟨g,off,none⟩)):(execOp ρ o).run Tryz.prog w = .ok (.value (.pointer (some ⟨g,off+1,none⟩))) w:=by simp [execOp,ho,hx,go_sem]
theorem aBr (ho:o.op = .fieldAddr 97 x 0) (hx:ρ x = .pointer (some ⟨g,off,none⟩)):(execOp ρ o).run Tryz.prog w = .ok (.value (.pointer (some ⟨g,off+0,none⟩))) w:=by simp [execOp,ho,hx,go_sem]
theorem aBq (ho:o.op = .fieldAddr 97 x 1) (hx:ρ x = .pointer (some ⟨g,off,none⟩)):(execOp ρ o).run Tryz.prog w = .ok (.value (.pointer (some ⟨g,off+2,none⟩))) w:=by simp [execOp,ho,hx,go_sem]
theorem aOo (ho:o.op = .fieldAddr 182 x 0) (hx:ρ x = .pointer (some ⟨g,off,none⟩)):(execOp ρ o).run Tryz.prog w = .ok (.value (.pointer (some ⟨g,off+0,none⟩))) w:=by simp [execOp,ho,hx,go_sem]
theorem aKR (ho:o.op = .fieldAddr 182 x 1) (hx:ρ x = .pointer (some ⟨g,off,none⟩)):(execOp ρ o).run Tryz.prog w = .ok (.value (.pointer (some ⟨g,off+1,none⟩))) w:=by simp [execOp,ho,hx,go_sem]
theorem aOn (ho:o.op = .fieldAddr 182 x 2) (hx:ρ x = .pointer (some ⟨g,off,none⟩)):(execOp ρ o).run Tryz.prog w = .ok (.value (.pointer (some ⟨g,off+2,none⟩))) w:=by simp [execOp,ho,hx,go_sem]
theorem aB7 (ho:o.op = .fieldAddr 161 x 0) (hx:ρ x = .pointer (some ⟨g,off,none⟩)):(execOp ρ o).run Tryz.prog w = .ok (.value (.pointer (some ⟨g,off+0,none⟩))) w:=by simp [execOp,ho,hx,go_sem]
theorem aKQ (ho:o.op = .fieldAddr 161 x 1) (hx:ρ x = .pointer (some ⟨g,off,none⟩)):(execOp ρ o).run Tryz.prog w = .ok (.value (.pointer (some ⟨g,off+4,none⟩))) w:=by simp [execOp,ho,hx,go_sem]
theorem aDG (ho:o.op = .fieldAddr 161 x 2) (hx:ρ x = .pointer (some ⟨g,off,none⟩)):(execOp ρ o).run Tryz.prog w = .ok (.value (.pointer (some ⟨g,off+5,none⟩))) w:=by simp [execOp,ho,hx,go_sem]
theorem aEj (ho:o.op = .fieldAddr 170 x 0) (hx:ρ x = .pointer (some ⟨g,off,none⟩)):(execOp ρ o).run Tryz.prog w = .ok (.value (.pointer (some ⟨g,off+0,none⟩))) w:=by simp [execOp,ho,hx,go_sem]
theorem aKP (ho:o.op = .fieldAddr 170 x 1) (hx:ρ x = .pointer (some ⟨g,off,none⟩)):(execOp ρ o).run Tryz.prog w = .ok (.value (.pointer (some ⟨g,off+1,none⟩))) w:=by simp [execOp,ho,hx,go_sem]
theorem aC1 (ho:o.op = .fieldAddr 174 x 0) (hx:ρ x = .pointer (some ⟨g,off,none⟩)):(execOp ρ o).run Tryz.prog w = .ok (.value (.pointer (some ⟨g,off+0,none⟩))) w:=by simp [execOp,ho,hx,go_sem]
theorem aV2 (ho:o.op = .fieldAddr 174 x 1) (hx:ρ x = .pointer (some ⟨g,off,none⟩)):(execOp ρ o).run Tryz.prog w = .ok (.value (.pointer (some ⟨g,off+1,none⟩))) w:=by simp [execOp,ho,hx,go_sem]
theorem aVt:(Tryz.prog.info? 29).map (·.size)=some 2:=by kernel_rfl
theorem aK2 {s:Pt}(ho:o.op = .load 29 x) (hx:ρ x = .pointer (some ⟨g,off,none⟩)) (h:w.rangeAt g off (ptC s).toList):(execOp ρ o).run Tryz.prog w = .ok (.value (.agg (ptC s))) w:=by
 have:=run_loadAt_mid (P:=Tryz.prog) w g off 29 (ptC s).toList _ h u29_ rfl aVt;simp only [execOp,ho,hx,Sem.run_bind,this,Result.andThen_ok,Sem.run_pure]
theorem aNm {s:Pt}(ho:o.op = .box 29 x) (hx:ρ x = .agg (ptC s)):(execOp ρ o).run Tryz.prog w = .ok (.value (.pointer (some ⟨w.heap.size,0,none⟩))) (w.alloc (.cells (ptC s) 29)):=by
 simp [execOp,ho,hx,go_sem]
theorem aOf:(Tryz.prog.info? 97).map (·.size)=some 4:=by kernel_rfl
theorem aBi {s:Bx}(ho:o.op = .load 97 x) (hx:ρ x = .pointer (some ⟨g,off,none⟩)) (h:w.rangeAt g off (bxC s).toList):(execOp ρ o).run Tryz.prog w = .ok (.value (.agg (bxC s))) w:=by
 have:=run_loadAt_mid (P:=Tryz.prog) w g off 97 (bxC s).toList _ h u97_ rfl aOf;simp only [execOp,ho,hx,Sem.run_bind,this,Result.andThen_ok,Sem.run_pure]
theorem aNl {s:Bx}(ho:o.op = .box 97 x) (hx:ρ x = .agg (bxC s)):(execOp ρ o).run Tryz.prog w = .ok (.value (.pointer (some ⟨w.heap.size,0,none⟩))) (w.alloc (.cells (bxC s) 97)):=by
 simp [execOp,ho,hx,go_sem]
theorem aGU {s:ByteArray}(ho:o.op = .load 9 x) (hx:ρ x = .pointer (some ⟨g,off,none⟩)) (hc:w.cell? ⟨g,off,none⟩=some (.string s)):(execOp ρ o).run Tryz.prog w = .ok (.value (.string s)) w:=by
 simp [execOp,ho,hx,go_sem,hc]
theorem aNd {b:Bool}(ho:o.op = .load 4 x) (hx:ρ x = .pointer (some ⟨g,off,none⟩)) (hc:w.cell? ⟨g,off,none⟩=some (.bool b)):(execOp ρ o).run Tryz.prog w = .ok (.value (.bool b)) w:=by
 simp [execOp,ho,hx,go_sem,hc]
theorem aGW {v:Value}(ho:o.op = .load 45 x) (hx:ρ x = .pointer (some ⟨g,off,none⟩)) (hc:w.cell? ⟨g,off,none⟩=some v):(execOp ρ o).run Tryz.prog w = .ok (.value v) w:=by
 simp [execOp,ho,hx,go_sem,hc]
theorem aAY {v:Value}(ho:o.op = .load 159 x) (hx:ρ x = .pointer (some ⟨g,off,none⟩)) (hc:w.cell? ⟨g,off,none⟩=some v):(execOp ρ o).run Tryz.prog w = .ok (.value v) w:=by
 simp [execOp,ho,hx,go_sem,hc]
theorem aB1 {v:Value}(ho:o.op = .load 172 x) (hx:ρ x = .pointer (some ⟨g,off,none⟩)) (hc:w.cell? ⟨g,off,none⟩=some v):(execOp ρ o).run Tryz.prog w = .ok (.value v) w:=by
 simp [execOp,ho,hx,go_sem,hc]
theorem aAN {v:Value}(ho:o.op = .load 157 x) (hx:ρ x = .pointer (some ⟨g,off,none⟩)) (hc:w.cell? ⟨g,off,none⟩=some v):(execOp ρ o).run Tryz.prog w = .ok (.value v) w:=by
 simp [execOp,ho,hx,go_sem,hc]
theorem aGV {v:Value}(ho:o.op = .load 180 x) (hx:ρ x = .pointer (some ⟨g,off,none⟩)) (hc:w.cell? ⟨g,off,none⟩=some v):(execOp ρ o).run Tryz.prog w = .ok (.value v) w:=by
 simp [execOp,ho,hx,go_sem,hc]
theorem aNc (ho:o.op = .call ⟨.builtin .len,#[x],#[45]⟩) (hx:ρ x = .slice p n cap):(execOp ρ o).run Tryz.prog w = .ok (.value (.int .i64 n)) w:=by
 simp [execOp,ho,hx,resolve,invoke,go_sem]
theorem aBw (ho:o.op = .call ⟨.builtin .len,#[x],#[159]⟩) (hx:ρ x = .slice p n cap):(execOp ρ o).run Tryz.prog w = .ok (.value (.int .i64 n)) w:=by
 simp [execOp,ho,hx,resolve,invoke,go_sem]
theorem aCr (ho:o.op = .indexAddr 159 x y) (hx:ρ x = .slice (some ⟨g,off,none⟩) n cap) (hy:ρ y = .int .i64 i) (hi:i<n):(execOp ρ o).run Tryz.prog w = .ok (.value (.pointer (some ⟨g,off+i,none⟩))) w:=by
 have h1:(i:Int)<n:=by omega
 simp [execOp,ho,hx,hy,go_sem,h1]
theorem aF2 (ho:o.op = .call ⟨.builtin .len,#[x],#[172]⟩) (hx:ρ x = .slice p n cap):(execOp ρ o).run Tryz.prog w = .ok (.value (.int .i64 n)) w:=by
 simp [execOp,ho,hx,resolve,invoke,go_sem]
theorem aB2 (ho:o.op = .indexAddr 172 x y) (hx:ρ x = .slice (some ⟨g,off,none⟩) n cap) (hy:ρ y = .int .i64 i) (hi:i<n):(execOp ρ o).run Tryz.prog w = .ok (.value (.pointer (some ⟨g,off+i*2,none⟩))) w:=by
 have h1:(i:Int)<n:=by omega
 simp [execOp,ho,hx,hy,go_sem,h1]
theorem aNb (ho:o.op = .call ⟨.builtin .len,#[x],#[167]⟩) (hx:ρ x = .slice p n cap):(execOp ρ o).run Tryz.prog w = .ok (.value (.int .i64 n)) w:=by
 simp [execOp,ho,hx,resolve,invoke,go_sem]
theorem aJe (ho:o.op = .indexAddr 167 x y) (hx:ρ x = .slice (some ⟨g,off,none⟩) n cap) (hy:ρ y = .int .i64 i) (hi:i<n):(execOp ρ o).run Tryz.prog w = .ok (.value (.pointer (some ⟨g,off+i,none⟩))) w:=by
 have h1:(i:Int)<n:=by omega
 simp [execOp,ho,hx,hy,go_sem,h1]
theorem aK0 {a b c:Int}(ho:o.op = .call ⟨.builtin .max,#[x,y,z],#[3,3,3]⟩) (hx:ρ x = .int .i64 a) (hy:ρ y = .int .i64 b) (hz:ρ z = .int .i64 c):(execOp ρ o).run Tryz.prog w = .ok (.value (.int .i64 (max (max a b) c))) w:=by
 simp [execOp,ho,hx,hy,hz,resolve,invoke,go_sem]
 try simp only [aNN]
 try omega
theorem aJd {m n:Int}(ho:o.op = .call ⟨.builtin .min,#[x,y],#[3,3]⟩) (hx:ρ x = .int .i64 m) (hy:ρ y = .int .i64 n):(execOp ρ o).run Tryz.prog w = .ok (.value (.int .i64 (min m n))) w:=by
 simp [execOp,ho,hx,hy,resolve,invoke,go_sem]
 try omega
theorem aNa {m n:Int}(ho:o.op = .call ⟨.builtin .max,#[x,y],#[3,3]⟩) (hx:ρ x = .int .i64 m) (hy:ρ y = .int .i64 n):(execOp ρ o).run Tryz.prog w = .ok (.value (.int .i64 (max m n))) w:=by
 simp [execOp,ho,hx,hy,resolve,invoke,go_sem]
 try omega
end
section
variable {w:World}{b k:Nat}{cs:Array Value}{T:TypeId}
theorem aUL (h:w.heap[b]?=some (.cells cs T (0,0))) (k:Nat) {p:Pt}(h0:cs[k]?=some (.int .i64 p.1)) (h1:cs[k+1]?=some (.int .i64 p.2)):w.rangeAt b k (ptC p).toList:=by
 intro j v hv;rw [aAk h]
 match j,hv with
 | 0,hv=>rw [←Gh_ hv];exact h0
 | 1,hv=>rw [←Gh_ hv];exact h1
 | j+2,hv=>simp at hv
theorem aPZ (h:w.heap[b]?=some (.cells cs T (0,0))) (k:Nat) {p:Bx}(h0:cs[k]?=some (.int .i64 p.1.1)) (h1:cs[k+1]?=some (.int .i64 p.1.2)) (h2:cs[k+2]?=some (.int .i64 p.2.1)) (h3:cs[k+3]?=some (.int .i64 p.2.2)):w.rangeAt b k (bxC p).toList:=by
 intro j v hv;rw [aAk h]
 match j,hv with
 | 0,hv=>rw [←Gh_ hv];exact h0
 | 1,hv=>rw [←Gh_ hv];exact h1
 | 2,hv=>rw [←Gh_ hv];exact h2
 | 3,hv=>rw [←Gh_ hv];exact h3
 | j+4,hv=>simp at hv
end
section
variable {O:Array Oper}{Q:Exit->Act->World->Prop}{rest:List Oper}{o:Oper}{a:Act}{w:World}{n d:Nat}{L:List (Nat×Value)}{x y:Operand}{b:Nat}
theorem aIy {s:Pt}(En:Env n L a) (hd:o.dst=some d) (hn:d<n) (hf:(L.map (·.1)).contains d=false) (hw:Region.wanted o (yielded O a.tmps)=true) (ho:o.op = .box 29 x) (hx:a.eval x = .agg (ptC s))
  (k:∀ a' w' b,w.heap.size=b->w'.heap[b]?=some (.cells (ptC s) 29 (0,0))->Fr nF_ w w'->Env n ((d,.pointer (some ⟨b,0,none⟩))::L) a'->wpList Tryz.prog O Q rest a' w'):wpList Tryz.prog O Q (o::rest) a w :=
 aB4 En hd hn hf hw (aNm ho hx) fun a' E'=>k a' _ _ rfl (aAj _ _) ((Fr.refl _ _).alloc _) E'
theorem aCK {s:Bx}(En:Env n L a) (hd:o.dst=some d) (hn:d<n) (hf:(L.map (·.1)).contains d=false) (hw:Region.wanted o (yielded O a.tmps)=true) (ho:o.op = .box 97 x) (hx:a.eval x = .agg (bxC s))
  (k:∀ a' w' b,w.heap.size=b->w'.heap[b]?=some (.cells (bxC s) 97 (0,0))->Fr nF_ w w'->Env n ((d,.pointer (some ⟨b,0,none⟩))::L) a'->wpList Tryz.prog O Q rest a' w'):wpList Tryz.prog O Q (o::rest) a w :=
 aB4 En hd hn hf hw (aNl ho hx) fun a' E'=>k a' _ _ rfl (aAj _ _) ((Fr.refl _ _).alloc _) E'
end
def isI (n:Int):Prop := -2097152<=n /\ n<=2097152
instance (n:Int):Decidable (isI n):=by unfold isI;infer_instance
def isP (p:Pt):Prop:=isI p.1 /\ isI p.2
instance (p:Pt):Decidable (isP p):=by unfold isP;infer_instance
def okB (b:Bx):Prop:=isP b.1 /\ isP b.2 /\ b.1.1<=b.2.1 /\ b.1.2<=b.2.2
instance (b:Bx):Decidable (okB b):=by unfold okB;infer_instance
def mtB (a b:Bx):Prop:=a.1.1<=b.2.1 /\ b.1.1<=a.2.1 /\ a.1.2<=b.2.2 /\ b.1.2<=a.2.2
instance (a b:Bx):Decidable (mtB a b):=by unfold mtB;infer_instance
set_option maxRecDepth 100000 in
set_option maxHeartbeats 4000000 in
theorem aF9 (p q:Bx) (w:World):Calls Tryz.prog 108 #[.agg (bxC p),.agg (bxC q)] w fun e w'=>e = .returned (.bool (decide (mtB p q))) /\ Fr nF_ w w':=by
 refine aAR Tryz.func108 rfl rfl (n:=39) (by decide) fun a E=>?_;have hf:Fr nF_ w w:=Fr.refl _ _;refine s_ (r_ (aCK (d:=2) E rfl (by decide) rfl (aAb rfl _) rfl E.g0 fun a w1 aa ac hb13 f1 E=>?_));have hf:=hf.trans f1;clear f1;refine aCK (d:=3) E rfl (by decide) rfl (aAb rfl _) rfl E.g2 fun a w1 ab ad hb14 f1 E=>?_;have hb13:=f1.obj hb13 id;have hf:=hf.trans f1;clear f1;refine ep (v := .bool false) E rfl (a_ rfl rfl) fun a E=>n_ (t_ (s_ (r_ (ep (v := .pointer (some ⟨aa,0,none⟩)) E rfl (aBr rfl E.g2) fun a E=>ep (v := .pointer (some ⟨aa,0,none⟩)) E rfl (aBh rfl E.g0) fun a E=>ep (v := .int .i64 p.1.1) E rfl (aAn rfl E.g0 (bx hb13 0 rfl)) fun a E=>ep (v := .pointer (some ⟨ab,2,none⟩)) E rfl (aBq rfl E.g4) fun a E=>ep (v := .pointer (some ⟨ab,2,none⟩)) E rfl (aBh rfl E.g0) fun a E=>ep (v := .int .i64 q.2.1) E rfl (aAn rfl E.g0 (bx hb14 2 rfl)) fun a E=>ep (v := .bool (decide (p.1.1<=q.2.1))) E rfl (aFc E.g3 E.g0 u3_ rfl) fun a E=>ep E rfl (m_ rfl E.g0) fun a E=>?_))));cases hq15:(decide (p.1.1<=q.2.1))
 ·rw [hq15] at E;refine ek E rfl rfl E.g0 fun a E=>ek E rfl rfl E.g1 fun a E=>ek E rfl rfl E.g2 fun a E=>ek E rfl rfl E.g3 fun a E=>ek E rfl rfl E.g4 fun a E=>ek E rfl rfl E.g5 fun a E=>ek E rfl rfl E.g6 fun a E=>ep (v := .bool false) E rfl (aAt rfl E.g7 rfl) fun a E=>ep E rfl (m_ rfl E.g0) fun a E=>ek E rfl rfl E.g0 fun a E=>ek E rfl rfl E.g1 fun a E=>ek E rfl rfl E.g2 fun a E=>ek E rfl rfl E.g3 fun a E=>ek E rfl rfl E.g4 fun a E=>ek E rfl rfl E.g5 fun a E=>ek E rfl rfl E.g6 fun a E=>ep (v := .bool false) E rfl (aAt rfl E.g7 rfl) fun a E=>ep E rfl (m_ rfl E.g0) fun a E=>ek E rfl rfl E.g0 fun a E=>ek E rfl rfl E.g1 fun a E=>ek E rfl rfl E.g2 fun a E=>ek E rfl rfl E.g3 fun a E=>ek E rfl rfl E.g4 fun a E=>ek E rfl rfl E.g5 fun a E=>ek E rfl rfl E.g6 fun a E=>ep (v := .bool false) E rfl (aAt rfl E.g7 rfl) fun a E=>es_ E rfl (a_ rfl E.g0) fun a E=>n_ (t_ (wr_ (aAr (t:=4) rfl E E.g0 ⟨?_,hf⟩)));congr 2;have khq15:=of_decide_eq_false hq15;exact (decide_eq_false (by unfold mtB;first | omega | (simp only [*];omega) | simp [*])).symm
 rw [hq15] at E;refine eg (v := .pointer (some ⟨ab,0,none⟩)) E rfl (wy_ E E.g0) (aBr rfl E.g9) fun a E=>eg (v := .pointer (some ⟨ab,0,none⟩)) E rfl (wy_ E E.g1) (aBh rfl E.g0) fun a E=>eg (v := .int .i64 q.1.1) E rfl (wy_ E E.g2) (aAn rfl E.g0 (bx hb14 0 rfl)) fun a E=>eg (v := .pointer (some ⟨aa,2,none⟩)) E rfl (wy_ E E.g3) (aBq rfl (E.get 13 rfl)) fun a E=>eg (v := .pointer (some ⟨aa,2,none⟩)) E rfl (wy_ E E.g4) (aBh rfl E.g0) fun a E=>eg (v := .int .i64 p.2.1) E rfl (wy_ E E.g5) (aAn rfl E.g0 (bx hb13 2 rfl)) fun a E=>eg (v := .bool (decide (q.1.1<=p.2.1))) E rfl (wy_ E E.g6) (aFc E.g3 E.g0 u3_ rfl) fun a E=>ep (v := .bool (decide (q.1.1<=p.2.1))) E rfl (aAB rfl E.g7 E.g0) fun a E=>ep E rfl (m_ rfl E.g0) fun a E=>?_;cases hq16:(decide (q.1.1<=p.2.1))
 ·rw [hq16] at E;refine ek E rfl rfl E.g0 fun a E=>ek E rfl rfl E.g1 fun a E=>ek E rfl rfl E.g2 fun a E=>ek E rfl rfl E.g3 fun a E=>ek E rfl rfl E.g4 fun a E=>ek E rfl rfl E.g5 fun a E=>ek E rfl rfl E.g6 fun a E=>ep (v := .bool false) E rfl (aAt rfl E.g7 rfl) fun a E=>ep E rfl (m_ rfl E.g0) fun a E=>ek E rfl rfl E.g0 fun a E=>ek E rfl rfl E.g1 fun a E=>ek E rfl rfl E.g2 fun a E=>ek E rfl rfl E.g3 fun a E=>ek E rfl rfl E.g4 fun a E=>ek E rfl rfl E.g5 fun a E=>ek E rfl rfl E.g6 fun a E=>ep (v := .bool false) E rfl (aAt rfl E.g7 rfl) fun a E=>es_ E rfl (a_ rfl E.g0) fun a E=>n_ (t_ (wr_ (aAr (t:=4) rfl E E.g0 ⟨?_,hf⟩)));congr 2;have khq15:=of_decide_eq_true hq15;have khq16:=of_decide_eq_false hq16;exact (decide_eq_false (by unfold mtB;first | omega | (simp only [*];omega) | simp [*])).symm
 rw [hq16] at E;refine eg (v := .pointer (some ⟨aa,0,none⟩)) E rfl (wy_ E E.g0) (aBr rfl (E.get 19 rfl)) fun a E=>eg (v := .pointer (some ⟨aa,1,none⟩)) E rfl (wy_ E E.g1) (aAV rfl E.g0) fun a E=>eg (v := .int .i64 p.1.2) E rfl (wy_ E E.g2) (aAn rfl E.g0 (bx hb13 1 rfl)) fun a E=>eg (v := .pointer (some ⟨ab,2,none⟩)) E rfl (wy_ E E.g3) (aBq rfl (E.get 21 rfl)) fun a E=>eg (v := .pointer (some ⟨ab,3,none⟩)) E rfl (wy_ E E.g4) (aAV rfl E.g0) fun a E=>eg (v := .int .i64 q.2.2) E rfl (wy_ E E.g5) (aAn rfl E.g0 (bx hb14 3 rfl)) fun a E=>eg (v := .bool (decide (p.1.2<=q.2.2))) E rfl (wy_ E E.g6) (aFc E.g3 E.g0 u3_ rfl) fun a E=>ep (v := .bool (decide (p.1.2<=q.2.2))) E rfl (aAB rfl E.g7 E.g0) fun a E=>ep E rfl (m_ rfl E.g0) fun a E=>?_;cases hq17:(decide (p.1.2<=q.2.2))
 ·rw [hq17] at E;refine ek E rfl rfl E.g0 fun a E=>ek E rfl rfl E.g1 fun a E=>ek E rfl rfl E.g2 fun a E=>ek E rfl rfl E.g3 fun a E=>ek E rfl rfl E.g4 fun a E=>ek E rfl rfl E.g5 fun a E=>ek E rfl rfl E.g6 fun a E=>ep (v := .bool false) E rfl (aAt rfl E.g7 rfl) fun a E=>es_ E rfl (a_ rfl E.g0) fun a E=>n_ (t_ (wr_ (aAr (t:=4) rfl E E.g0 ⟨?_,hf⟩)));congr 2;have khq15:=of_decide_eq_true hq15;have khq16:=of_decide_eq_true hq16;have khq17:=of_decide_eq_false hq17;exact (decide_eq_false (by unfold mtB;first | omega | (simp only [*];omega) | simp [*])).symm
 rw [hq17] at E;refine eg (v := .pointer (some ⟨ab,0,none⟩)) E rfl (wy_ E E.g0) (aBr rfl (E.get 27 rfl)) fun a E=>eg (v := .pointer (some ⟨ab,1,none⟩)) E rfl (wy_ E E.g1) (aAV rfl E.g0) fun a E=>eg (v := .int .i64 q.1.2) E rfl (wy_ E E.g2) (aAn rfl E.g0 (bx hb14 1 rfl)) fun a E=>eg (v := .pointer (some ⟨aa,2,none⟩)) E rfl (wy_ E E.g3) (aBq rfl (E.get 31 rfl)) fun a E=>eg (v := .pointer (some ⟨aa,3,none⟩)) E rfl (wy_ E E.g4) (aAV rfl E.g0) fun a E=>eg (v := .int .i64 p.2.2) E rfl (wy_ E E.g5) (aAn rfl E.g0 (bx hb13 3 rfl)) fun a E=>eg (v := .bool (decide (q.1.2<=p.2.2))) E rfl (wy_ E E.g6) (aFc E.g3 E.g0 u3_ rfl) fun a E=>ep (v := .bool (decide (q.1.2<=p.2.2))) E rfl (aAB rfl E.g7 E.g0) fun a E=>es_ E rfl (a_ rfl E.g0) fun a E=>n_ (t_ (wr_ (aAr (t:=4) rfl E E.g0 ⟨?_,hf⟩)));have khq15:=of_decide_eq_true hq15;have khq16:=of_decide_eq_true hq16;have khq17:=of_decide_eq_true hq17;congr 2;exact decide_eq_decide.2 (by unfold mtB;first | omega | (simp only [*];omega) | simp [*])
def dx (lo hi p:Int):Int:=max (max (lo-p) (p-hi)) 0
def dsB (b:Bx) (p:Pt):Int:=dx b.1.1 b.2.1 p.1*dx b.1.1 b.2.1 p.1+dx b.1.2 b.2.2 p.2*dx b.1.2 b.2.2 p.2
theorem aV6 {lo hi p:Int}(h1:isI lo) (h2:isI hi) (h3:isI p):0<=dx lo hi p /\ dx lo hi p<=4194304:=by unfold isI at *;unfold dx;omega
theorem aUE {x:Int}(h0:0<=x) (h1:x<=4194304):0<=x*x /\ x*x<=17592186044416:=by
 refine ⟨Int.mul_nonneg h0 h0,?_⟩;have:=Int.mul_le_mul h1 h1 h0 (by omega:(0:Int)<=4194304);omega
theorem okB.isI {b:Bx}(h:okB b):(YtngjlnhojicjeaaGreatDoor.isI b.1.1 /\ YtngjlnhojicjeaaGreatDoor.isI b.1.2) /\ YtngjlnhojicjeaaGreatDoor.isI b.2.1 /\ YtngjlnhojicjeaaGreatDoor.isI b.2.2:=⟨h.1,h.2.1⟩
set_option maxRecDepth 100000 in
set_option maxHeartbeats 4000000 in
theorem aFB (b:Bx) (p:Pt) (w:World) (hb:okB b) (hp:isP p):Calls Tryz.prog 116 #[.agg (bxC b),.agg (ptC p)] w fun e w'=>e = .returned (.int .i64 (dsB b p)) /\ Fr nF_ w w':=by
 refine aAR Tryz.func116 rfl rfl (n:=40) (by decide) fun a E=>?_;have hf:Fr nF_ w w:=Fr.refl _ _;obtain ⟨⟨i1,i2⟩,i3,i4⟩:=hb.isI;obtain ⟨i5,i6⟩:=hp;have s1:=aV6 i1 i3 i5;have s2:=aV6 i2 i4 i6;have q1:=aUE s1.1 s1.2;have q2:=aUE s2.1 s2.2;have n1:(-2097152<=b.1.1 /\ b.1.1<=2097152) /\ (-2097152<=b.1.2 /\ b.1.2<=2097152):=⟨i1,i2⟩;have n2:(-2097152<=b.2.1 /\ b.2.1<=2097152) /\ (-2097152<=b.2.2 /\ b.2.2<=2097152):=⟨i3,i4⟩;have n3:(-2097152<=p.1 /\ p.1<=2097152) /\ (-2097152<=p.2 /\ p.2<=2097152):=⟨i5,i6⟩;clear i1 i2 i3 i4 i5 i6;refine s_ (r_ (aCK (d:=2) E rfl (by decide) rfl (aAb rfl _) rfl E.g0 fun a w1 b3 eb3 hb3 f1 E=>?_));have hf:=hf.trans f1;clear f1;refine aIy (d:=3) E rfl (by decide) rfl (aAb rfl _) rfl E.g2 fun a w1 b4 eb4 hb4 f1 E=>?_;have hb3:=f1.obj hb3 id;have hf:=hf.trans f1;clear f1;refine ep (v := .int .i64 0) E rfl (a_ rfl rfl) fun a E=>n_ (t_ (s_ (aB9 (n:=40) (base:=[(4,.int .i64 0),(3,.pointer (some ⟨b4,0,none⟩)),(2,.pointer (some ⟨b3,0,none⟩)),(0,.agg (bxC b)),(1,.agg (ptC p))]) (T:=[some (7,.pointer (some ⟨b3,0,none⟩)),some (8,.pointer (some ⟨b3,0,none⟩)),some (9,.int .i64 b.1.1),some (10,.pointer (some ⟨b4,0,none⟩)),some (11,.int .i64 p.1),some (12,.int .i64 (b.1.1-p.1)),some (13,.pointer (some ⟨b4,0,none⟩)),some (14,.int .i64 p.1),some (15,.pointer (some ⟨b3,2,none⟩)),some (16,.pointer (some ⟨b3,2,none⟩)),some (17,.int .i64 b.2.1),some (18,.int .i64 (p.1-b.2.1)),some (19,.int .i64 (max (max (b.1.1-p.1) (p.1-b.2.1)) 0)),some (20,.pointer (some ⟨b3,0,none⟩)),some (21,.pointer (some ⟨b3,1,none⟩)),some (22,.int .i64 b.1.2),some (23,.pointer (some ⟨b4,1,none⟩)),some (24,.int .i64 p.2),some (25,.int .i64 (b.1.2-p.2)),some (26,.pointer (some ⟨b4,1,none⟩)),some (27,.int .i64 p.2),some (28,.pointer (some ⟨b3,2,none⟩)),some (29,.pointer (some ⟨b3,3,none⟩)),some (30,.int .i64 b.2.2),some (31,.int .i64 (p.2-b.2.2)),some (32,.int .i64 (max (max (b.1.2-p.2) (p.2-b.2.2)) 0)),some (5,.int .i64 (max (max (b.1.1-p.1) (p.1-b.2.1)) 0)),some (6,.int .i64 (max (max (b.1.2-p.2) (p.2-b.2.2)) 0))]) (M:=fun _ wm=>Fr nF_ w1 wm) (by kernel_rfl) (by kernel_rfl) (by kernel_rfl) (E.of ⟨E.g0,E.g1,E.g2,E.g3,E.g4,trivial⟩) (Fr.refl _ _).drew ?_ ?_)))
 ·intro j9 o9 t9 ls9 a w5 ho hT0 hl E D DL hM;have hb3:=hM.obj hb3 id;have hb4:=hM.obj hb4 id
  match j9,ho,hT0,hl,D,DL with
  | 0,ho,hT0,hl,D,DL=>exact y9_ ho hT0 (aAd (aBr rfl E.g2) rfl hM)
  | 1,ho,hT0,hl,D,DL=>exact y9_ ho hT0 (aAd (aBh rfl (D 0 _ rfl rfl)) rfl hM)
  | 2,ho,hT0,hl,D,DL=>exact y9_ ho hT0 (aAd (aAn rfl (D 1 _ rfl rfl) (bx hb3 0 rfl)) rfl hM)
  | 3,ho,hT0,hl,D,DL=>exact y9_ ho hT0 (aAd (aBh rfl E.g1) rfl hM)
  | 4,ho,hT0,hl,D,DL=>exact y9_ ho hT0 (aAd (aAn rfl (D 3 _ rfl rfl) (bx hb4 0 rfl)) rfl hM)
  | 5,ho,hT0,hl,D,DL=>exact y9_ ho hT0 (aAd (aBO u3_ (D 2 _ rfl rfl) (D 4 _ rfl rfl) (by omega) (by omega) rfl) rfl hM)
  | 6,ho,hT0,hl,D,DL=>exact y9_ ho hT0 (aAd (aBh rfl E.g1) rfl hM)
  | 7,ho,hT0,hl,D,DL=>exact y9_ ho hT0 (aAd (aAn rfl (D 6 _ rfl rfl) (bx hb4 0 rfl)) rfl hM)
  | 8,ho,hT0,hl,D,DL=>exact y9_ ho hT0 (aAd (aBq rfl E.g2) rfl hM)
  | 9,ho,hT0,hl,D,DL=>exact y9_ ho hT0 (aAd (aBh rfl (D 8 _ rfl rfl)) rfl hM)
  | 10,ho,hT0,hl,D,DL=>exact y9_ ho hT0 (aAd (aAn rfl (D 9 _ rfl rfl) (bx hb3 2 rfl)) rfl hM)
  | 11,ho,hT0,hl,D,DL=>exact y9_ ho hT0 (aAd (aBO u3_ (D 7 _ rfl rfl) (D 10 _ rfl rfl) (by omega) (by omega) rfl) rfl hM)
  | 12,ho,hT0,hl,D,DL=>exact y9_ ho hT0 (aAd (aK0 rfl (D 5 _ rfl rfl) (D 11 _ rfl rfl) rfl) rfl hM)
  | 13,ho,hT0,hl,D,DL=>exact y9_ ho hT0 (aAd (aBr rfl E.g2) rfl hM)
  | 14,ho,hT0,hl,D,DL=>exact y9_ ho hT0 (aAd (aAV rfl (D 13 _ rfl rfl)) rfl hM)
  | 15,ho,hT0,hl,D,DL=>exact y9_ ho hT0 (aAd (aAn rfl (D 14 _ rfl rfl) (bx hb3 1 rfl)) rfl hM)
  | 16,ho,hT0,hl,D,DL=>exact y9_ ho hT0 (aAd (aAV rfl E.g1) rfl hM)
  | 17,ho,hT0,hl,D,DL=>exact y9_ ho hT0 (aAd (aAn rfl (D 16 _ rfl rfl) (bx hb4 1 rfl)) rfl hM)
  | 18,ho,hT0,hl,D,DL=>exact y9_ ho hT0 (aAd (aBO u3_ (D 15 _ rfl rfl) (D 17 _ rfl rfl) (by omega) (by omega) rfl) rfl hM)
  | 19,ho,hT0,hl,D,DL=>exact y9_ ho hT0 (aAd (aAV rfl E.g1) rfl hM)
  | 20,ho,hT0,hl,D,DL=>exact y9_ ho hT0 (aAd (aAn rfl (D 19 _ rfl rfl) (bx hb4 1 rfl)) rfl hM)
  | 21,ho,hT0,hl,D,DL=>exact y9_ ho hT0 (aAd (aBq rfl E.g2) rfl hM)
  | 22,ho,hT0,hl,D,DL=>exact y9_ ho hT0 (aAd (aAV rfl (D 21 _ rfl rfl)) rfl hM)
  | 23,ho,hT0,hl,D,DL=>exact y9_ ho hT0 (aAd (aAn rfl (D 22 _ rfl rfl) (bx hb3 3 rfl)) rfl hM)
  | 24,ho,hT0,hl,D,DL=>exact y9_ ho hT0 (aAd (aBO u3_ (D 20 _ rfl rfl) (D 23 _ rfl rfl) (by omega) (by omega) rfl) rfl hM)
  | 25,ho,hT0,hl,D,DL=>exact y9_ ho hT0 (aAd (aK0 rfl (D 18 _ rfl rfl) (D 24 _ rfl rfl) rfl) rfl hM)
  | 26,ho,hT0,hl,D,DL=>exact y9_ ho hT0 (aAd (a_ rfl (D 12 _ rfl rfl)) rfl hM)
  | 27,ho,hT0,hl,D,DL=>exact y9_ ho hT0 (aAd (a_ rfl (D 25 _ rfl rfl)) rfl hM)
  | j9+28,ho,hT0,hl,D,DL=>exact absurd hT0 (by simp)
 ·intro a w5 E V hM;have E:=E.add (V 26 _ rfl);have E:=E.add (V 27 _ rfl);clear V;have hb3:=hM.obj hb3 id;have hb4:=hM.obj hb4 id;have hf:=hf.trans hM;clear hM;refine t_ (s_ (r_ (ep E rfl (m_ rfl E.g1) fun a E=>ep E rfl (m_ rfl E.g2) fun a E=>ep (v := .int .i64 ((max (max (b.1.1-p.1) (p.1-b.2.1)) 0)*(max (max (b.1.1-p.1) (p.1-b.2.1)) 0))) E rfl (aD0 u3_ E.g1 E.g0 (Int.le_trans (by decide) q1.1) (Int.le_trans q1.2 (by decide)) rfl) fun a E=>ep E rfl (m_ rfl E.g3) fun a E=>ep E rfl (m_ rfl E.g4) fun a E=>ep (v := .int .i64 ((max (max (b.1.2-p.2) (p.2-b.2.2)) 0)*(max (max (b.1.2-p.2) (p.2-b.2.2)) 0))) E rfl (aD0 u3_ E.g1 E.g0 (Int.le_trans (by decide) q2.1) (Int.le_trans q2.2 (by decide)) rfl) fun a E=>ep (v := .int .i64 (((max (max (b.1.1-p.1) (p.1-b.2.1)) 0)*(max (max (b.1.1-p.1) (p.1-b.2.1)) 0))+((max (max (b.1.2-p.2) (p.2-b.2.2)) 0)*(max (max (b.1.2-p.2) (p.2-b.2.2)) 0)))) E rfl (aAJ u3_ E.g3 E.g0 (Int.le_trans (by decide) (Int.add_nonneg q1.1 q2.1)) (Int.le_trans (Int.add_le_add q1.2 q2.2) (by decide)) rfl) fun a E=>es_ E rfl (a_ rfl E.g0) fun a E=>n_ (t_ (wr_ (aAr (t:=4) rfl E E.g0 ⟨rfl,hf⟩))))))
abbrev aUf (s:ByteArray):List Value:=[.string s]
abbrev inC (n:Int):List Value:=[.int .i64 n]
theorem aVp {w:World}{g off i:Nat}{y:Int}(h:w.rangeAt g (off+i*1) (inC y)):w.cell? ⟨g,off+i,none⟩=some (.int .i64 y):=by have:=h 0 _ rfl;rwa [Nat.mul_one] at this
theorem aBA:∀ s,(aUf s).length=1:=fun _=>rfl
abbrev bxL (b:Bx):List Value:=[.int .i64 b.1.1,.int .i64 b.1.2,.int .i64 b.2.1,.int .i64 b.2.2]
abbrev aEc (w:World) (B:Nat) (v:Value) (L:List ByteArray):Prop:=ow aUf 1 9 w B v L
section
variable {w W w':World}{r:Nat}{σ:Nat->Prop}{I:List ByteArray}{J:List Bx}{iv bv:Value}
theorem aAX {α:Type}{f:α->List Value}{c:Nat}{w:World}{B E r:Nat}{v:Value}{xs:List α}{cs:Array Value}{T:TypeId}(hE:E≠T) (h:ow f c E w B v xs) (hr:w.heap[r]?=some (.cells cs T (0,0))):v.ownBlock≠some r:=fun e=>by
 rcases h.2 with ⟨h1,_⟩ | ⟨g,cap,cur,h1,_,h3,_⟩
 ·rw [h1] at e;simp [Value.ownBlock] at e
 ·rw [h1] at e;simp only [Value.ownBlock,Gk_] at e;subst e;rw [hr] at h3;simp at h3;exact hE h3.2.symm
theorem aNx {α:Type}{f:α->List Value}{c:Nat}{E:TypeId}{w w':World}{B:Nat}{v:Value}{L:List α}(h:ow f c E w B v L) (hk:∀ k,v.ownBlock=some k->w'.heap[k]?=w.heap[k]?):ow f c E w' B v L:=by
 refine ⟨h.1,?_⟩;rcases h.2 with h1 | ⟨g,cap,cur,h1,h2,h3,h4⟩
 ·exact .inl h1
 ·exact .inr ⟨g,cap,cur,h1,h2,by rw [hk g (by rw [h1];rfl)];exact h3,h4⟩
end
section
variable {o:Oper}{w:World}{ρ:Operand->Value}{x y:Operand}{g off i n cap:Nat}{p:Option Addr}
theorem aPI {v u:Value}{n c:Nat}(hv:v = .slice p n c) (ho:o.op = .store 45 x y) (hx:ρ x = .pointer (some ⟨g,off,none⟩)) (hy:ρ y=v) (hc:w.cell? ⟨g,off,none⟩=some u) (hz:w.frozen? ⟨g,off,none⟩=false):(execOp ρ o).run Tryz.prog w = .ok .skip (w.setCell ⟨g,off,none⟩ v):=by
 subst hv;simp [execOp,ho,hx,hy,go_sem,hc,hz]
theorem aHY {a:ByteArray}(ho:o.op = .buildSlice 45 1 #[(0,x)]) (hx:ρ x = .string a):(execOp ρ o).run Tryz.prog w = .ok (.value (.slice (some ⟨w.heap.size,0,none⟩) 1 1)) (w.alloc (.cells #[.string a] 9)):=by
 simp [execOp,ho,hx,go_sem]
theorem aVq:(Tryz.prog.info? 9).map (fun i=>(i.zero,i.size,i.bytes))=some (some (.string ByteArray.empty),1,16):=by kernel_rfl
theorem aE3 {t n b:Nat}{z:Value}(h:(Tryz.prog.info? t).map (fun i=>(i.zero,i.size,i.bytes))=some (some z,n,b)):∃ i,Tryz.prog.info? t=some i /\ i.zero=some z /\ i.size=n /\ i.bytes=b:=by
 cases hi:Tryz.prog.info? t with
 | none=>rw [hi] at h;cases h
 | some i =>
  rw [hi] at h;simp only [Option.map_some,Gk_,Prod.mk.injEq] at h;exact ⟨i,rfl,h.1,h.2.1,h.2.2⟩
end
theorem aVP {α:Type}{f:α->List Value}{c:Nat}{E T:TypeId}{bytes:Nat}{z:Value}(hf:∀ x,(f x).length=c) (hc:0<c) (h1:∀ x,∀ u∈f x,u.oneCell'=true) (hT:Tryz.prog.underlying T=some (.slice E)) (hinf:(Tryz.prog.info? E).map (fun i=>(i.zero,i.size,i.bytes))=some (some z,c,bytes)) (hzs:z.cells.size=c) (hby:bytes<=64)
  {o:Oper}{ρ:Operand->Value}{x y:Operand}{w:World}{B G:Nat}{v:Value}{A S:List α}{p:Option Addr}{cap:Nat}(ho:o.op = .call { callee := .builtin .append,args:=#[x,y],argTypes:=#[T,T] }) (hx:ρ x=v) (hy:ρ y = .slice p S.length cap) (hv:ow f c E w B v A) (hsrc:aBd f c w G p S) (hcp:p=none->cap=0) (hl:A.length+S.length<=400000000) (hB:B<=w.heap.size) :
  ∃ v' w',(execOp ρ o).run Tryz.prog w = .ok (.value v') w' /\ ow f c E w' B v' (A++S) /\ Fr (fun k=>v.ownBlock=some k) w w' /\ (v'.ownBlock=v.ownBlock∨v'.ownBlock=some w.heap.size):=by
 obtain ⟨i,hi,hz,hs,hb⟩:=aE3 hinf;rcases p with _ | ad
 ·have hS:S=[]:=by
   rcases hsrc with h | ⟨g,off,h,_⟩
   ·exact h
   ·cases h
  subst hS;obtain rfl:=hcp rfl;refine ⟨v,w,?_,by rw [List.append_nil];exact hv,Fr.refl _ _,.inl rfl⟩;have hrun:=run_append_owned_none (P:=Tryz.prog) (w:=w) B T o.type E i c hT hi v A.length _ hv;simp [execOp,ho,resolve,invoke,builtin,hx,hy,hrun,Result.andThen]
 ·obtain ⟨v',w',c0,c1,c2,_,c4⟩:=run_append_own_at (P:=Tryz.prog) (w:=w) B T o.type E i z c bytes hT hi hz hs hb hzs hc v A.length _ hv ad S.length cap (S.flatMap f) (aAK hf S) (fun j u hu=>by
   have hj:=(List.getElem?_eq_some_iff.1 hu).1;rw [aAK hf] at hj;rcases hsrc with rfl | ⟨g,off,h2,_,h3⟩
   ·simp at hj
   ·obtain rfl:=Gh_ h2;have hm:j%c<c:=Nat.mod_lt _ hc;have hdv:j / c<S.length:=(Nat.div_lt_iff_lt_mul hc).2 hj;have e:j / c*c+j%c=j:=by rw [Nat.mul_comm];exact Nat.div_add_mod j c
    obtain ⟨s,hs⟩:∃ s,S[j / c]?=some s:=⟨_,Gb_ hdv⟩;have hfl:=aBM hf S (j / c) s hs (j%c) hm;rw [e,hu] at hfl;have:=h3 _ s hs (j%c) u hfl.symm;rw [Addr.add_mid,←e,←Nat.add_assoc];exact this) (fun u hu=>by
   obtain ⟨s,_,hs⟩:=List.mem_flatMap.1 hu;exact h1 s u hs) (by unfold maxLen;omega) (by have:=Nat.mul_le_mul (Gj_ (A.length+S.length)) hby;omega) hB
  refine ⟨v',w',?_,?_,(Fr.refl _ _).grown c2 fun k hk _=>hk,c4⟩
  ·unfold execOp;simp only [ho,resolve,invoke,builtin,Sem.run_bind,Sem.run_pure,Result.andThen_ok,List.map_toArray,List.map_cons,List.map_nil,hx,hy,c0]
  ·unfold ow;rw [Gi_,List.flatMap_append];exact c1
theorem aXt {o:Oper}{ρ:Operand->Value}{x y:Operand}{w:World}{B G:Nat}{v:Value}{A S:List ByteArray}{p:Option Addr}{cap:Nat}(ho:o.op = .call { callee := .builtin .append,args:=#[x,y],argTypes:=#[45,45] }) (hx:ρ x=v) (hy:ρ y = .slice p S.length cap) (hv:aEc w B v A) (hsrc:aBd aUf 1 w G p S) (hcp:p=none->cap=0) (hl:A.length+S.length<=400000000) (hB:B<=w.heap.size) :
  ∃ v' w',(execOp ρ o).run Tryz.prog w = .ok (.value v') w' /\ aEc w' B v' (A++S) /\ Fr (fun k=>v.ownBlock=some k) w w' /\ (v'.ownBlock=v.ownBlock∨v'.ownBlock=some w.heap.size) :=
 aVP aBA (by omega) (fun s u hu=>by simp at hu;subst hu;rfl) u45_ aVq rfl (by decide) ho hx hy hv hsrc hcp hl hB
theorem aK8 {w:World}{b B:Nat}{s:ByteArray}(hb:w.heap[b]?=some (.cells #[.string s] 9 (0,0))) (hB:B<=b):aEc w B (.slice (some ⟨b,0,none⟩) 1 1) [s] :=
 ⟨rfl,.inr ⟨b,1,_,rfl,hB,hb,Gj_ _,by unfold maxLen;omega,rfl,rfl⟩⟩
section
variable {O:Array Oper}{Q:Exit->Act->World->Prop}{rest:List Oper}{o:Oper}{a:Act}{w:World}{n d:Nat}{L:List (Nat×Value)}{x y:Operand}
theorem aOy {B G:Nat}{v:Value}{A S:List ByteArray}{p:Option Addr}{cap:Nat}(En:Env n L a) (hd:o.dst=some d) (hn:d<n) (hfr:(L.map (·.1)).contains d=false) (hg:o.guard=none) (ho:o.op = .call { callee := .builtin .append,args:=#[x,y],argTypes:=#[45,45] }) (hx:a.eval x=v) (hv:aEc w B v A) (hy:a.eval y = .slice p S.length cap) (hsrc:aBd aUf 1 w G p S) (hcp:p=none->cap=0) (hl:A.length+S.length<=400000000) (hB:B<=w.heap.size)
  (k:∀ a' w' v',aEc w' B v' (A++S)->Fr (fun k=>v.ownBlock=some k) w w'->(v'.ownBlock=v.ownBlock∨v'.ownBlock=some w.heap.size)->Env n ((d,v')::L) a'->wpList Tryz.prog O Q rest a' w'):wpList Tryz.prog O Q (o::rest) a w:=by
 obtain ⟨i0,hi0,hz0,hz1,hz2⟩:=aE3 aVq;exact aKX aBA (by omega) (fun s u hu=>by simp at hu;subst hu;rfl) u45_ hi0 hz0 hz1 hz2 rfl (by decide) En hd hn hfr hg ho hx hv hy hsrc hcp hl hB k
theorem aOw {s:ByteArray}{B:Nat}(En:Env n L a) (hd:o.dst=some d) (hn:d<n) (hf:(L.map (·.1)).contains d=false) (hw:Region.wanted o (yielded O a.tmps)=true) (ho:o.op = .buildSlice 45 1 #[(0,x)]) (hx:a.eval x = .string s) (hB:B<=w.heap.size)
  (k:∀ a' w' b,w.heap.size=b->aEc w' B (.slice (some ⟨b,0,none⟩) 1 1) [s]->Fr nF_ w w'->Env n ((d,.slice (some ⟨b,0,none⟩) 1 1)::L) a'->wpList Tryz.prog O Q rest a' w'):wpList Tryz.prog O Q (o::rest) a w :=
 aB4 En hd hn hf hw (aHY ho hx) fun a' E'=>k a' _ _ rfl (aK8 (aAj _ _) hB) ((Fr.refl _ _).alloc _) E'
end
theorem aNv {α:Type}{f:α->List Value}{c:Nat}{E:TypeId}(hf:∀ x,(f x).length=c) {w:World}{B:Nat}{p:Option Addr}{n cap:Nat}{L:List α}(h:ow f c E w B (.slice p n cap) L):aBd f c w w.heap.size p L /\ (p=none->cap=0):=by
 obtain ⟨p',cap',h1,_,_,h2,h3⟩:=h.src hf;cases h1;exact ⟨h2,h3⟩
def tkB (w:World) (b n:Nat) (t:Nat->Bool):Prop:=∃ cs,w.heap[b]?=some (.cells cs 4 (0,0)) /\ cs.size=n /\ ∀ i,i<n->cs[i]?=some (.bool (t i))
theorem tkB.at {w:World}{b n:Nat}{t:Nat->Bool}(h:tkB w b n t) {i:Nat}(hi:i<n):w.cell? ⟨b,0+i,none⟩=some (.bool (t i)):=by
 obtain ⟨cs,h1,_,h3⟩:=h;rw [aAk h1,Nat.zero_add];exact h3 i hi
section
variable {o:Oper}{w:World}{ρ:Operand->Value}{x y:Operand}{g off:Nat}
theorem aS3 {u:Value}{b:Bool}(ho:o.op = .store 4 x y) (hx:ρ x = .pointer (some ⟨g,off,none⟩)) (hy:ρ y = .bool b) (hc:w.cell? ⟨g,off,none⟩=some u) (hz:w.frozen? ⟨g,off,none⟩=false):(execOp ρ o).run Tryz.prog w = .ok .skip (w.setCell ⟨g,off,none⟩ (.bool b)):=by
 simp [execOp,ho,hx,hy,go_sem,hc,hz]
end
section
variable {O:Array Oper}{Q:Exit->Act->World->Prop}{rest:List Oper}{o:Oper}{a:Act}{w:World}{n d:Nat}{L:List (Nat×Value)}{x y:Operand}{b:Nat}
end
theorem aFp {P:Program}{f:FuncId}{fn:Func}{c:Code}{R:Ending->World->Prop}{n:Nat}{w:World}{v0 v1 v2 v3:Value}(hf:P.funcs[f]?=some fn) (hb:fn.body=some c) (hn:fn.ntmps=n) (h2:4<=n) (k:∀ a,Env n [(0,v0),(1,v1),(2,v2),(3,v3)] a->c.wp P (bodyPost P fn R) a w):Calls P f #[v0,v1,v2,v3] w R:=by
 refine calls_of_wp hf hb (k _ ⟨?_,?_,rfl⟩)
 ·simp [hn];omega
 ·intro x hx;simp only [List.mem_cons,List.not_mem_nil,or_false] at hx;rcases hx with rfl | rfl | rfl | rfl
  ·show (#[v0,v1,v2,v3]++Array.replicate (fn.ntmps-4) undef).getD 0 undef=v0;rw [Array.getD_eq_getD_getElem?,Array.getElem?_append_left (by simp)];rfl
  ·show (#[v0,v1,v2,v3]++Array.replicate (fn.ntmps-4) undef).getD 1 undef=v1;rw [Array.getD_eq_getD_getElem?,Array.getElem?_append_left (by simp)];rfl
  ·show (#[v0,v1,v2,v3]++Array.replicate (fn.ntmps-4) undef).getD 2 undef=v2;rw [Array.getD_eq_getD_getElem?,Array.getElem?_append_left (by simp)];rfl
  ·show (#[v0,v1,v2,v3]++Array.replicate (fn.ntmps-4) undef).getD 3 undef=v3;rw [Array.getD_eq_getD_getElem?,Array.getElem?_append_left (by simp)];rfl
abbrev bxB (w:World) (g:Nat) (s:Bx):Prop:=w.heap[g]?=some (.cells (bxC s) 97 (0,0))
theorem bxB.set {w:World}{g:Nat}{s:Bx}(h:bxB w g s) (t:Bx):bxB ((((w.setCell ⟨g,0,none⟩ (.int .i64 t.1.1)).setCell ⟨g,1,none⟩ (.int .i64 t.1.2)).setCell ⟨g,2,none⟩ (.int .i64 t.2.1)).setCell ⟨g,3,none⟩ (.int .i64 t.2.2)) g t:=by
 have h1:=aAi (off:=0) h (.int .i64 t.1.1);have h2:=aAi (off:=1) h1 (.int .i64 t.1.2);have h3:=aAi (off:=2) h2 (.int .i64 t.2.1);have h4:=aAi (off:=3) h3 (.int .i64 t.2.2);exact h4
theorem Fr.one4 (b:Nat) (w:World) (v0 v1 v2 v3:Value):Fr (fun k=>k=b) w ((((w.setCell ⟨b,0,none⟩ v0).setCell ⟨b,1,none⟩ v1).setCell ⟨b,2,none⟩ v2).setCell ⟨b,3,none⟩ v3) :=
 ((((Fr.refl (fun k=>k=b) w).setCell (p:=⟨b,0,none⟩) (fun _=>rfl) v0).setCell (p:=⟨b,1,none⟩) (fun _=>rfl) v1).setCell (p:=⟨b,2,none⟩) (fun _=>rfl) v2).setCell (p:=⟨b,3,none⟩) (fun _=>rfl) v3
section
variable {o:Oper}{w:World}{ρ:Operand->Value}{x y:Operand}{b off:Nat}
theorem aPJ {s t:Bx}(ho:o.op = .store 97 x y) (hx:ρ x = .pointer (some ⟨b,0,none⟩)) (hy:ρ y = .agg (bxC t)) (h:bxB w b s) :
  (execOp ρ o).run Tryz.prog w = .ok .skip ((((w.setCell ⟨b,0,none⟩ (.int .i64 t.1.1)).setCell ⟨b,1,none⟩ (.int .i64 t.1.2)).setCell ⟨b,2,none⟩ (.int .i64 t.2.1)).setCell ⟨b,3,none⟩ (.int .i64 t.2.2)):=by
 have c0:w.cell? ⟨b,0,none⟩=some (.int .i64 s.1.1):=bx h 0 rfl;have c1:w.cell? ⟨b,1,none⟩=some (.int .i64 s.1.2):=bx h 1 rfl;have c2:w.cell? ⟨b,2,none⟩=some (.int .i64 s.2.1):=bx h 2 rfl;have c3:w.cell? ⟨b,3,none⟩=some (.int .i64 s.2.2):=bx h 3 rfl;have z0:=aAm h 0;have z1:=aAm h 1;have z2:=aAm h 2;have z3:=aAm h 3;simp [execOp,ho,hx,hy,go_sem,c0,c1,c2,c3,z0,z1,z2,z3]
theorem aGS {u:Value}{n:Int}(ho:o.op = .store 3 x y) (hx:ρ x = .pointer (some ⟨b,off,none⟩)) (hy:ρ y = .int .i64 n) (hc:w.cell? ⟨b,off,none⟩=some u) (hz:w.frozen? ⟨b,off,none⟩=false) :
  (execOp ρ o).run Tryz.prog w = .ok .skip (w.setCell ⟨b,off,none⟩ (.int .i64 n)):=by
 simp [execOp,ho,hx,hy,go_sem,hc,hz]
theorem aJl (ho:o.op = .alloc 97):(execOp ρ o).run Tryz.prog w = .ok (.value (.pointer (some ⟨w.heap.size,0,none⟩))) (w.alloc (.cells (bxC ((0,0),(0,0))) 97)):=by
 simp [execOp,ho,go_sem]
end
section
variable {O:Array Oper}{Q:Exit->Act->World->Prop}{rest:List Oper}{o:Oper}{a:Act}{w:World}{n d:Nat}{L:List (Nat×Value)}{x y:Operand}{b:Nat}
theorem aD5 {s t:Bx}(E:Env n L a) (hd:o.dst=none) (hw:Region.wanted o (yielded O a.tmps)=true) (ho:o.op = .store 97 x y) (hx:a.eval x = .pointer (some ⟨b,0,none⟩)) (hy:a.eval y = .agg (bxC t)) (h:bxB w b s)
  (k:∀ w',bxB w' b t->Fr (fun k=>k=b) w w'->Env n L a->wpList Tryz.prog O Q rest a w'):wpList Tryz.prog O Q (o::rest) a w :=
 aCJ E hd hw (aPJ ho hx hy h) fun E=>k _ (h.set t) (Fr.one4 _ _ _ _ _ _) E
theorem aCt (E:Env n L a) (hd:o.dst=some d) (hn:d<n) (hf:(L.map (·.1)).contains d=false) (hw:Region.wanted o (yielded O a.tmps)=true) (ho:o.op = .alloc 97)
  (k:∀ a' w' b,w.heap.size=b->bxB w' b ((0,0),(0,0))->Fr nF_ w w'->Env n ((d,.pointer (some ⟨b,0,none⟩))::L) a'->wpList Tryz.prog O Q rest a' w'):wpList Tryz.prog O Q (o::rest) a w :=
 aB4 E hd hn hf hw (aJl ho) fun a' E'=>k a' _ _ rfl (aAj _ _) ((Fr.refl _ _).alloc _) E'
end
section
variable {fn:Func}{R:Ending->World->Prop}{n:Nat}{L:List (Nat×Value)}{a:Act}{w:World}{t u:Tmp}{g:Nat}{s:Bx}{x:Value}
theorem aQe (hr:fn.results=#[.cell t 97]) (E:Env n L a) (hv:a.eval (.tmp t) = .pointer (some ⟨g,0,none⟩)) (h:bxB w g s) (hR:R (.returned (.agg (bxC s))) w):bodyPost Tryz.prog fn R .ret a w:=by
 refine ⟨E.df,.agg (bxC s),?_,hR⟩;exact results_cell_row hr a.tmps w g 97 (bxC s) (0,0) _ hv h u97_ rfl aOf
theorem aIb (hr:fn.results=#[.cell t 97,.tmp u]) (E:Env n L a) (hv:a.eval (.tmp t) = .pointer (some ⟨g,0,none⟩)) (hu:a.eval (.tmp u)=x) (h:bxB w g s) (hR:R (.returned (.tuple #[.agg (bxC s),x])) w):bodyPost Tryz.prog fn R .ret a w:=by
 refine ⟨E.df,.tuple #[.agg (bxC s),x],?_,hR⟩;rw [results_cell_tmp hr];have h1:a.tmps.getD t undef = .pointer (some ⟨g,0,none⟩):=hv;have h2:a.tmps.getD u undef=x:=hu;have:=run_loadVar_row (P:=Tryz.prog) w g 97 97 (bxC s) (0,0) _ h u97_ rfl aOf;rw [h1,h2];simp [asAddr,Result.andThen,this]
end
end Go.Proofs.YtngjlnhojicjeaaGreatDoor
namespace Go.Proofs.YtngjlnhojicjeaaGreatDoor
open Go.RowKit Go.Pl
def arB (a0 c0:Bx):Bx:=((min a0.1.1 c0.1.1,min a0.1.2 c0.1.2),(max a0.2.1 c0.2.1,max a0.2.2 c0.2.2))
set_option maxRecDepth 100000 in
set_option maxHeartbeats 4000000 in
theorem aIF (a0 c0:Bx) (w:World):Calls Tryz.prog 200 #[.agg (bxC a0),.agg (bxC c0)] w fun e w'=>e = .returned (.agg (bxC (arB a0 c0))) /\ Fr nF_ w w':=by
 refine aAR Tryz.func200 rfl rfl (n:=42) (by decide) fun a E=>?_;have hf:Fr nF_ w w:=Fr.refl _ _;refine s_ (r_ ?_);have hfz:=hf.size;refine aCK (d:=2) E rfl (by decide) rfl (aAb rfl _) rfl E.g0 fun a w1 aa ad hb26 f1 E=>?_;have hf:=hf.trans f1;clear f1;have hnb26:w.heap.size<=aa:=by omega
 clear hfz ad;have hlb26:=aAe hb26;have hfz:=hf.size;refine aCK (d:=3) E rfl (by decide) rfl (aAb rfl _) rfl E.g2 fun a w1 ab ae hb27 f1 E=>?_;have hb26:=f1.obj hb26 id;have hf:=hf.trans f1;clear f1;have hneb26b27:aa<ab:=by omega
 clear hlb26;have hnb27:w.heap.size<=ab:=by omega
 clear hfz ae;have hlb26:=aAe hb26;have hlb27:=aAe hb27;have hfz:=hf.size;refine aCt (d:=4) E rfl (by decide) rfl (aAb rfl _) rfl fun a w1 ac af hb28 f1 E=>?_;have hb26:=f1.obj hb26 id;have hb27:=f1.obj hb27 id;have hf:=hf.trans f1;clear f1;have hneb26b28:aa<ac:=by omega
 clear hlb26;have hneb27b28:ab<ac:=by omega
 clear hlb27;have hnb28:w.heap.size<=ac:=by omega
 clear hfz af;refine n_ (t_ (s_ (aAs (G:=Unit) () (n:=42) (base:=[(4,.pointer (some ⟨ac,0,none⟩)),(3,.pointer (some ⟨ab,0,none⟩)),(2,.pointer (some ⟨aa,0,none⟩)),(0,.agg (bxC a0)),(1,.agg (bxC c0))]) (U:=[]) (T:=fun Z=>[some (5,.pointer (some ⟨aa,0,none⟩)),some (6,.pointer (some ⟨aa,0,none⟩)),some (7,.int .i64 a0.1.1),some (8,.pointer (some ⟨ab,0,none⟩)),some (9,.pointer (some ⟨ab,0,none⟩)),some (10,.int .i64 c0.1.1),some (11,.int .i64 (min a0.1.1 c0.1.1)),some (12,.pointer (some ⟨aa,0,none⟩)),some (13,.pointer (some ⟨aa,1,none⟩)),some (14,.int .i64 a0.1.2),some (15,.pointer (some ⟨ab,0,none⟩)),some (16,.pointer (some ⟨ab,1,none⟩)),some (17,.int .i64 c0.1.2),some (18,.int .i64 (min a0.1.2 c0.1.2)),some (19,.pointer (some ⟨aa,0,none⟩)),some (20,.pointer (some ⟨aa,0,none⟩)),none,some (21,.pointer (some ⟨aa,0,none⟩)),some (22,.pointer (some ⟨aa,1,none⟩)),none]) (M:=fun Z ls9 wm=>Fr (fun k=>k=aa) w1 wm /\ (bxB wm aa (((bif ls9 16 then (min a0.1.1 c0.1.1) else a0.1.1),(bif ls9 19 then (min a0.1.2 c0.1.2) else a0.1.2)),(a0.2.1,a0.2.2)))) (by kernel_rfl) (by kernel_rfl) (fun _=>by kernel_rfl) (E.of ⟨E.g0,E.g1,E.g2,E.g3,E.g4,trivial⟩) (fun x hx=>by cases hx) ⟨(Fr.refl _ _).drew,((Fr.refl nF_ _).drew.obj hb26 id)⟩ ?_ ?_)))
 ·intro j9 o9 Z ls9 a w5 ho hl E D DL DL2 hB hM;have hb27:=hM.1.obj hb27 (fun e=>by omega);have hb28:=hM.1.obj hb28 (fun e=>by omega)
  match j9,ho,hl,D,DL,hB with
  | 0,ho,hl,D,DL,hB=>exact z0_ ho (aAq rfl (aBr rfl E.g2) rfl hM)
  | 1,ho,hl,D,DL,hB=>exact z0_ ho (aAq rfl (aBh rfl (D 0 _ rfl rfl)) rfl hM)
  | 2,ho,hl,D,DL,hB=>exact z0_ ho (aAq rfl (aAn rfl (D 1 _ rfl rfl) (by have h9:ls9 16=false:=(by cases h8:ls9 16 with | false=>rfl | true=>exact absurd (hl.symm.trans (DL2 6 2 rfl (DL2 16 6 rfl h8))) (by decide));have h7:=bx hM.2 0 rfl;rw [h9] at h7;exact h7)) rfl hM)
  | 3,ho,hl,D,DL,hB=>exact z0_ ho (aAq rfl (aBr rfl E.g1) rfl hM)
  | 4,ho,hl,D,DL,hB=>exact z0_ ho (aAq rfl (aBh rfl (D 3 _ rfl rfl)) rfl hM)
  | 5,ho,hl,D,DL,hB=>exact z0_ ho (aAq rfl (aAn rfl (D 4 _ rfl rfl) (bx hb27 0 rfl)) rfl hM)
  | 6,ho,hl,D,DL,hB=>exact z0_ ho (aAq rfl (aJd rfl (D 2 _ rfl rfl) (D 5 _ rfl rfl)) rfl hM)
  | 7,ho,hl,D,DL,hB=>exact z0_ ho (aAq rfl (aBr rfl E.g2) rfl hM)
  | 8,ho,hl,D,DL,hB=>exact z0_ ho (aAq rfl (aAV rfl (D 7 _ rfl rfl)) rfl hM)
  | 9,ho,hl,D,DL,hB=>exact z0_ ho (aAq rfl (aAn rfl (D 8 _ rfl rfl) (by have h9:ls9 19=false:=(by cases h8:ls9 19 with | false=>rfl | true=>exact absurd (hl.symm.trans (DL2 13 9 rfl (DL2 19 13 rfl h8))) (by decide));have h7:=bx hM.2 1 rfl;rw [h9] at h7;exact h7)) rfl hM)
  | 10,ho,hl,D,DL,hB=>exact z0_ ho (aAq rfl (aBr rfl E.g1) rfl hM)
  | 11,ho,hl,D,DL,hB=>exact z0_ ho (aAq rfl (aAV rfl (D 10 _ rfl rfl)) rfl hM)
  | 12,ho,hl,D,DL,hB=>exact z0_ ho (aAq rfl (aAn rfl (D 11 _ rfl rfl) (bx hb27 1 rfl)) rfl hM)
  | 13,ho,hl,D,DL,hB=>exact z0_ ho (aAq rfl (aJd rfl (D 9 _ rfl rfl) (D 12 _ rfl rfl)) rfl hM)
  | 14,ho,hl,D,DL,hB=>exact z0_ ho (aAq rfl (aBr rfl E.g2) rfl hM)
  | 15,ho,hl,D,DL,hB=>exact z0_ ho (aAq rfl (aBh rfl (D 14 _ rfl rfl)) rfl hM)
  | 16,ho,hl,D,DL,hB =>
   have hB9:=hM.2;obtain rfl:=Gh_ ho;exact ⟨fun _=>aDi rfl (aGS rfl (D 15 _ rfl rfl) (D 6 _ rfl rfl) (bx hB9 0 rfl) (aAm hB9 0)) rfl ⟨hM.1.trans' ((Fr.refl (fun k=>k=aa) _).setCell (p:=⟨aa,0,none⟩) (fun _=>rfl) _) (fun r hr e=>e),aAi (off:=0) hB9 _⟩,fun h=>by rw [aAb rfl] at h;cases h⟩
  | 17,ho,hl,D,DL,hB=>exact z0_ ho (aAq rfl (aBr rfl E.g2) rfl hM)
  | 18,ho,hl,D,DL,hB=>exact z0_ ho (aAq rfl (aAV rfl (D 17 _ rfl rfl)) rfl hM)
  | 19,ho,hl,D,DL,hB =>
   have hB9:=hM.2;obtain rfl:=Gh_ ho;exact ⟨fun _=>aDi rfl (aGS rfl (D 18 _ rfl rfl) (D 13 _ rfl rfl) (bx hB9 1 rfl) (aAm hB9 1)) rfl ⟨hM.1.trans' ((Fr.refl (fun k=>k=aa) _).setCell (p:=⟨aa,1,none⟩) (fun _=>rfl) _) (fun r hr e=>e),aAi (off:=1) hB9 _⟩,fun h=>by rw [aAb rfl] at h;cases h⟩
  | j9+20,ho,hl,D,DL,hB=>exact absurd ho (by simp)
 ·rintro _ a w5 E V hM;clear V;have hb27:=hM.1.obj hb27 (fun e=>by omega);have hb28:=hM.1.obj hb28 (fun e=>by omega);have hb26:bxB w5 aa (((min a0.1.1 c0.1.1),(min a0.1.2 c0.1.2)),(a0.2.1,a0.2.2)):=hM.2;have hf:=hf.trans' hM.1 (fun r hr e=>by omega);clear hM;refine t_ (s_ (aAs (G:=Unit) () (n:=42) (base:=[(4,.pointer (some ⟨ac,0,none⟩)),(3,.pointer (some ⟨ab,0,none⟩)),(2,.pointer (some ⟨aa,0,none⟩)),(0,.agg (bxC a0)),(1,.agg (bxC c0))]) (U:=[]) (T:=fun Z=>[some (23,.pointer (some ⟨aa,2,none⟩)),some (24,.pointer (some ⟨aa,2,none⟩)),some (25,.int .i64 a0.2.1),some (26,.pointer (some ⟨ab,2,none⟩)),some (27,.pointer (some ⟨ab,2,none⟩)),some (28,.int .i64 c0.2.1),some (29,.int .i64 (max a0.2.1 c0.2.1)),some (30,.pointer (some ⟨aa,2,none⟩)),some (31,.pointer (some ⟨aa,3,none⟩)),some (32,.int .i64 a0.2.2),some (33,.pointer (some ⟨ab,2,none⟩)),some (34,.pointer (some ⟨ab,3,none⟩)),some (35,.int .i64 c0.2.2),some (36,.int .i64 (max a0.2.2 c0.2.2)),some (37,.pointer (some ⟨aa,2,none⟩)),some (38,.pointer (some ⟨aa,2,none⟩)),none,some (39,.pointer (some ⟨aa,2,none⟩)),some (40,.pointer (some ⟨aa,3,none⟩)),none]) (M:=fun Z ls9 wm=>Fr (fun k=>k=aa) w5 wm /\ (bxB wm aa (((min a0.1.1 c0.1.1),(min a0.1.2 c0.1.2)),((bif ls9 16 then (max a0.2.1 c0.2.1) else a0.2.1),(bif ls9 19 then (max a0.2.2 c0.2.2) else a0.2.2))))) (by kernel_rfl) (by kernel_rfl) (fun _=>by kernel_rfl) (E.of ⟨E.g0,E.g1,E.g2,E.g3,E.g4,trivial⟩) (fun x hx=>by cases hx) ⟨(Fr.refl _ _).drew,((Fr.refl nF_ _).drew.obj hb26 id)⟩ ?_ ?_))
  ·intro j9 o9 Z ls9 a w5 ho hl E D DL DL2 hB hM;have hb27:=hM.1.obj hb27 (fun e=>by omega);have hb28:=hM.1.obj hb28 (fun e=>by omega)
   match j9,ho,hl,D,DL,hB with
   | 0,ho,hl,D,DL,hB=>exact z0_ ho (aAq rfl (aBq rfl E.g2) rfl hM)
   | 1,ho,hl,D,DL,hB=>exact z0_ ho (aAq rfl (aBh rfl (D 0 _ rfl rfl)) rfl hM)
   | 2,ho,hl,D,DL,hB=>exact z0_ ho (aAq rfl (aAn rfl (D 1 _ rfl rfl) (by have h9:ls9 16=false:=(by cases h8:ls9 16 with | false=>rfl | true=>exact absurd (hl.symm.trans (DL2 6 2 rfl (DL2 16 6 rfl h8))) (by decide));have h7:=bx hM.2 2 rfl;rw [h9] at h7;exact h7)) rfl hM)
   | 3,ho,hl,D,DL,hB=>exact z0_ ho (aAq rfl (aBq rfl E.g1) rfl hM)
   | 4,ho,hl,D,DL,hB=>exact z0_ ho (aAq rfl (aBh rfl (D 3 _ rfl rfl)) rfl hM)
   | 5,ho,hl,D,DL,hB=>exact z0_ ho (aAq rfl (aAn rfl (D 4 _ rfl rfl) (bx hb27 2 rfl)) rfl hM)
   | 6,ho,hl,D,DL,hB=>exact z0_ ho (aAq rfl (aNa rfl (D 2 _ rfl rfl) (D 5 _ rfl rfl)) rfl hM)
   | 7,ho,hl,D,DL,hB=>exact z0_ ho (aAq rfl (aBq rfl E.g2) rfl hM)
   | 8,ho,hl,D,DL,hB=>exact z0_ ho (aAq rfl (aAV rfl (D 7 _ rfl rfl)) rfl hM)
   | 9,ho,hl,D,DL,hB=>exact z0_ ho (aAq rfl (aAn rfl (D 8 _ rfl rfl) (by have h9:ls9 19=false:=(by cases h8:ls9 19 with | false=>rfl | true=>exact absurd (hl.symm.trans (DL2 13 9 rfl (DL2 19 13 rfl h8))) (by decide));have h7:=bx hM.2 3 rfl;rw [h9] at h7;exact h7)) rfl hM)
   | 10,ho,hl,D,DL,hB=>exact z0_ ho (aAq rfl (aBq rfl E.g1) rfl hM)
   | 11,ho,hl,D,DL,hB=>exact z0_ ho (aAq rfl (aAV rfl (D 10 _ rfl rfl)) rfl hM)
   | 12,ho,hl,D,DL,hB=>exact z0_ ho (aAq rfl (aAn rfl (D 11 _ rfl rfl) (bx hb27 3 rfl)) rfl hM)
   | 13,ho,hl,D,DL,hB=>exact z0_ ho (aAq rfl (aNa rfl (D 9 _ rfl rfl) (D 12 _ rfl rfl)) rfl hM)
   | 14,ho,hl,D,DL,hB=>exact z0_ ho (aAq rfl (aBq rfl E.g2) rfl hM)
   | 15,ho,hl,D,DL,hB=>exact z0_ ho (aAq rfl (aBh rfl (D 14 _ rfl rfl)) rfl hM)
   | 16,ho,hl,D,DL,hB =>
    have hB9:=hM.2;obtain rfl:=Gh_ ho;exact ⟨fun _=>aDi rfl (aGS rfl (D 15 _ rfl rfl) (D 6 _ rfl rfl) (bx hB9 2 rfl) (aAm hB9 2)) rfl ⟨hM.1.trans' ((Fr.refl (fun k=>k=aa) _).setCell (p:=⟨aa,2,none⟩) (fun _=>rfl) _) (fun r hr e=>e),aAi (off:=2) hB9 _⟩,fun h=>by rw [aAb rfl] at h;cases h⟩
   | 17,ho,hl,D,DL,hB=>exact z0_ ho (aAq rfl (aBq rfl E.g2) rfl hM)
   | 18,ho,hl,D,DL,hB=>exact z0_ ho (aAq rfl (aAV rfl (D 17 _ rfl rfl)) rfl hM)
   | 19,ho,hl,D,DL,hB =>
    have hB9:=hM.2;obtain rfl:=Gh_ ho;exact ⟨fun _=>aDi rfl (aGS rfl (D 18 _ rfl rfl) (D 13 _ rfl rfl) (bx hB9 3 rfl) (aAm hB9 3)) rfl ⟨hM.1.trans' ((Fr.refl (fun k=>k=aa) _).setCell (p:=⟨aa,3,none⟩) (fun _=>rfl) _) (fun r hr e=>e),aAi (off:=3) hB9 _⟩,fun h=>by rw [aAb rfl] at h;cases h⟩
   | j9+20,ho,hl,D,DL,hB=>exact absurd ho (by simp)
  ·rintro _ a w5 E V hM;clear V;have hb27:=hM.1.obj hb27 (fun e=>by omega);have hb28:=hM.1.obj hb28 (fun e=>by omega);have hb26:bxB w5 aa (((min a0.1.1 c0.1.1),(min a0.1.2 c0.1.2)),((max a0.2.1 c0.2.1),(max a0.2.2 c0.2.2))):=hM.2;have hf:=hf.trans' hM.1 (fun r hr e=>by omega);clear hM;refine t_ (s_ (r_ (ep (v := .agg (bxC (((min a0.1.1 c0.1.1),(min a0.1.2 c0.1.2)),((max a0.2.1 c0.2.1),(max a0.2.2 c0.2.2))))) E rfl (aBi rfl E.g2 (aPZ (p:=(((min a0.1.1 c0.1.1),(min a0.1.2 c0.1.2)),((max a0.2.1 c0.2.1),(max a0.2.2 c0.2.2)))) hb26 0 rfl rfl rfl rfl)) fun a E=>aD5 E rfl (aAb rfl _) rfl E.g1 E.g0 hb28 fun w1 hb28 f1 E=>?_)));have hb27:=f1.obj hb27 (fun e=>by omega);have hb26:=f1.obj hb26 (fun e=>by omega);have hf:=hf.trans' f1 (fun r hr e=>by omega);clear f1;refine n_ (t_ (wr_ (aQe (t:=4) rfl E E.g1 hb28 ⟨rfl,hf⟩)))
theorem aJf {P:Program}{o:Oper}{w:World}{ρ:Operand->Value}{f:FuncId}{ts:Array TypeId}{x y:Operand}{v:Value}(eg:∀ args w,(callFunc f args).run P w = .ok (.enter f args) w) (ho:o.op = .call ⟨.value y,#[x],ts⟩) (hf:ρ y = .func (.func f) #[] #[]) (hx:ρ x=v):(execOp ρ o).run P w = .ok (.enter f #[v]) w:=by
 simp [execOp,ho,hf,hx,eg,resolve,Deferred.ofValue,invoke,go_sem]
def ixF (ns:List Int):Int:=if ns.all fun n=>decide (isI n) then -1 else ((ns.takeWhile fun n=>decide (isI n)).length:Int)
theorem aQB {ns:List Int}(h:∀ (t:Nat) n,t<ns.length->ns[t]?=some n->isI n):ixF ns = -1:=by
 unfold ixF;rw [if_pos];rw [List.all_eq_true];intro n hn;obtain ⟨t,ht⟩:=List.mem_iff_getElem?.1 hn;exact decide_eq_true (h t n (List.getElem?_eq_some_iff.1 ht).1 ht)
theorem aWx {ns:List Int}{i:Nat}{m:Int}(h:∀ (t:Nat) n,t<i->ns[t]?=some n->isI n) (hm:ns[i]?=some m) (h2:¬ isI m):(ns.takeWhile fun n=>decide (isI n)).length=i:=by
 induction ns generalizing i with
 | nil=>simp at hm
 | cons y ns ih =>
  cases i with
  | zero=>simp at hm;subst hm;simp [h2]
  | succ i =>
   have hy:=h 0 y (by omega) rfl;rw [List.takeWhile_cons,if_pos (decide_eq_true hy),Gf_,ih (i:=i) (fun t x ht hx=>h (t+1) x (by omega) (by simpa using hx)) (by simpa using hm)]
theorem aQA {ns:List Int}{i:Nat}{m:Int}(h:∀ (t:Nat) n,t<i->ns[t]?=some n->isI n) (hm:ns[i]?=some m) (h2:¬ isI m):ixF ns=i:=by
 unfold ixF;rw [if_neg,aWx h hm h2];rw [List.all_eq_true];intro h3;exact h2 (of_decide_eq_true (h3 m (Ge_ hm)))
theorem aVm (ns:List Int):decide ((0:Int)<=ixF ns) = !(ns.all fun n=>decide (isI n)):=by
 unfold ixF
 cases h:ns.all fun n=>decide (isI n) with
 | true=>simp
 | false=>simp
set_option maxRecDepth 100000 in
set_option maxHeartbeats 4000000 in
theorem aOQ (n:Int) (w:World):Calls Tryz.prog 149 #[.int .i64 n] w fun e w'=>e = .returned (.bool (decide (¬ isI n))) /\ Fr nF_ w w':=by
 refine aBQ Tryz.func149 rfl rfl (n:=9) (by decide) fun a E=>?_;have hf:Fr nF_ w w:=Fr.refl _ _;refine s_ (r_ (ep (v := .bool false) E rfl (a_ rfl rfl) fun a E=>n_ (t_ (s_ (r_ (ep E rfl (m_ rfl E.g1) fun a E=>ep (v := .bool (decide (n<(-2097152)))) E rfl (aBj E.g0 rfl u3_ rfl) fun a E=>ep E rfl (m_ rfl E.g0) fun a E=>?_))))));cases hq31:(decide (n<(-2097152)))
 ·rw [hq31] at E;refine eg E rfl (wy_ E E.g0) (m_ rfl E.g4) fun a E=>eg (v := .bool (decide (2097152<n))) E rfl (wy_ E E.g1) (aCf E.g0 rfl u3_ rfl) fun a E=>ep (v := .bool (decide (2097152<n))) E rfl (aAt rfl E.g2 E.g0) fun a E=>es_ E rfl (a_ rfl E.g0) fun a E=>n_ (t_ (wr_ (aAr (t:=2) rfl E E.g0 ⟨?_,hf⟩)));have khq31:=of_decide_eq_false hq31;congr 2;exact decide_eq_decide.2 (by unfold isI;omega)
 rw [hq31] at E;refine ek E rfl rfl E.g0 fun a E=>ek E rfl rfl E.g1 fun a E=>ep (v := .bool true) E rfl (aAB rfl E.g2 rfl) fun a E=>es_ E rfl (a_ rfl E.g0) fun a E=>n_ (t_ (wr_ (aAr (t:=2) rfl E E.g0 ⟨?_,hf⟩)));have khq31:=of_decide_eq_true hq31;congr 2;exact (decide_eq_true (by unfold isI;omega)).symm
set_option maxRecDepth 100000 in
set_option maxHeartbeats 4000000 in
theorem aOb {w:World}{G cap:Nat}{p:Option Addr}{ns:List Int}(hs:aBd inC 1 w G p ns) (hb:ns.length<=100000):Calls Tryz.prog 193 #[.slice p ns.length cap,.func (.func 149) #[] #[]] w fun e w'=>e = .returned (.int .i64 (ixF ns)) /\ Fr nF_ w w':=by
 refine aAR Tryz.func193 rfl rfl (n:=19) (by decide) fun a E=>?_;have hf:Fr nF_ w w:=Fr.refl _ _;refine s_ (r_ (ep (v := .int .i64 0) E rfl (a_ rfl rfl) fun a E=>n_ (t_ (s_ (s_ (r_ (ep E rfl (m_ rfl E.g1) fun a E=>ep (v := .int .i64 (ns.length:Int)) E rfl (aNb rfl E.g0) fun a E=>ep (v := .int .i64 0) E rfl (m_ rfl rfl) fun a E=>n_ (t_ (bk_ (wp_loop (fun a w2=>∃ (i:Nat),Env 19 [(8,.int .i64 (i:Int)),(7,.int .i64 (ns.length:Int)),(0,.slice (p) ns.length cap),(1,(.func (.func 149) #[] #[]))] a /\ i<=ns.length /\ Hid (∀ (t:Nat) (z:Int),t<i->ns[t]?=some z->isI z) /\ aBd inC 1 w2 G p ns /\ Fr nF_ w w2) (fun a _=>ns.length-(intOf (a.eval (.tmp 8))).toNat) ?_ ?_))))))))))
 ·exact ⟨0,E.of ⟨E.g0,E.g1,E.g4,E.g5,trivial⟩,Gg_ _,fun t z h=>absurd h (Nat.not_lt_zero _),hs,hf⟩
 clear E;rintro a w2 ⟨i,E,hi,hpre,hs,hf⟩;have hmu:ns.length-(intOf (a.eval (.tmp 8))).toNat=ns.length-i:=by rw [E.g0];first | (simp [intOf];done) | (simp only [intOf];omega)
 rw [hmu];clear hmu;refine s_ (r_ (ep (v := .bool (decide ((i:Int)<(ns.length:Int)))) E rfl (aBj E.g0 E.g1 u3_ rfl) fun a E=>n_ (t_ (s_ ?_))));cases hq33:(decide ((i:Int)<(ns.length:Int)))
 ·rw [hq33] at E;refine c_f E.g0 (x_ (te_ (te_ (be_ (t_ (s_ (r_ (ep (v := .int .i64 (-1)) E rfl (a_ rfl rfl) fun a E=>n_ (t_ (wr_ ?_))))))))));have hr:=aQB (ns:=ns) fun t n ht hn=>hpre.out t n (by have:=of_decide_eq_false hq33;omega) hn;exact aAr (t:=4) rfl E E.g0 ⟨by rw [hr],hf⟩
 rw [hq33] at E;have hlt:i<ns.length:=by have:=of_decide_eq_true hq33;omega
 obtain ⟨y,hy⟩:∃ y,ns[i]?=some y:=⟨_,Gb_ hlt⟩;obtain ⟨g,off,hpe,hgl,hrow⟩:=hs.at hlt;replace hrow:=hrow i y hy;refine c_t E.g0 (k_ (t_ (s_ (bk_ (s_ (r_ (ep E rfl (m_ rfl E.g1) fun a E=>ep E rfl (a_ rfl E.g0) fun a E=>n_ (t_ (s_ (r_ (ep E rfl (m_ rfl E.g6) fun a E=>ep E rfl (m_ rfl E.g6) fun a E=>ep E rfl (m_ rfl E.g2) fun a E=>ep (v := .pointer (some ⟨g,(off+i),none⟩)) E rfl (aJe (i:=i) rfl (E.g1.trans (by rw [hpe])) E.g0 hlt) fun a E=>ep (v := .int .i64 y) E rfl (aAn rfl E.g0 (aVp hrow)) fun a E=>ec_ (v := .bool (decide (¬ isI y))) E rfl (aJf (enters_of Tryz.func149 (by kernel_rfl) rfl) rfl E.g4 E.g0) (aOQ _ _) fun a w1 f1 E=>?_)))))))))));have hs:=hs.fr f1 (fun _ _ h=>h);have hf:=hf.trans f1;clear f1;refine n_ (t_ ?_);cases hq34:(decide (¬ isI y))
 rotate_left
 ·rw [hq34] at E;refine c_t E.g0 (s_ (r_ (ep E rfl (m_ rfl E.g6) fun a E=>ep E rfl (a_ rfl E.g0) fun a E=>n_ (t_ (wr_ (br_ (tr_ (tr_ (br_ (tr_ ?_))))))))));have hr:=aQA (ns:=ns) hpre.out hy (of_decide_eq_true hq34);exact aAr (t:=4) rfl E E.g0 ⟨by rw [hr],hf⟩
 rw [hq34] at E;refine c_f E.g0 (k_ (b_ (t_ (r_ (ep (v := .int .i64 ((i:Int)+1)) E rfl (aAJ u3_ E.g9 rfl (by omega) (by omega) rfl) fun a E=>es_ E rfl (m_ rfl E.g0) fun a E=>n_ (t_ ?_))))));refine ⟨⟨i+1,E.of ⟨E.g0,E.g11,E.get 12 rfl,E.get 13 rfl,trivial⟩,hlt,fun t z ht hz1=>?_,hs,hf⟩,?_⟩
 ·by_cases hti:t<i
  ·exact hpre.out t z hti hz1
  ·obtain rfl:t=i:=by omega
   rw [hy] at hz1;obtain rfl:=Gh_ hz1;exact Decidable.not_not.1 (of_decide_eq_false hq34)
 ·rw [E.g0];simp only [intOf];omega
set_option maxRecDepth 100000 in
set_option maxHeartbeats 4000000 in
theorem aRc {w:World}{G cap:Nat}{p:Option Addr}{ns:List Int}(hs:aBd inC 1 w G p ns) (hb:ns.length<=100000):Calls Tryz.prog 148 #[.slice p ns.length cap,.func (.func 149) #[] #[]] w fun e w'=>e = .returned (.bool (!(ns.all fun n=>decide (isI n)))) /\ Fr nF_ w w':=by
 refine aAR Tryz.func148 rfl rfl (n:=9) (by decide) fun a E=>?_;have hf:Fr nF_ w w:=Fr.refl _ _;refine s_ (r_ (ep (v := .bool false) E rfl (a_ rfl rfl) fun a E=>n_ (t_ (s_ (r_ (ep E rfl (m_ rfl E.g1) fun a E=>ep E rfl (m_ rfl E.g3) fun a E=>ec_ (v := .int .i64 (ixF ns)) E rfl (aA4 (enters_of Tryz.func193 (by kernel_rfl) rfl) rfl rfl E.g1 E.g0) (aOb hs hb) fun a w1 f1 E=>?_))))));have hs:=hs.fr f1 (fun _ _ h=>h);have hf:=hf.trans f1;clear f1;refine ep (v := .bool (decide (0<=(ixF ns)))) E rfl (aK3 E.g0 rfl u3_ rfl) fun a E=>es_ E rfl (a_ rfl E.g0) fun a E=>n_ (t_ (wr_ (aAr (t:=4) rfl E E.g0 ⟨by rw [aVm],hf⟩)))
set_option maxRecDepth 100000 in
set_option maxHeartbeats 4000000 in
theorem aHL {w:World}{G cap:Nat}{p:Option Addr}{ns:List Int}(hs:aBd inC 1 w G p ns) (hb:ns.length<=100000):Calls Tryz.prog 106 #[.slice p ns.length cap] w fun e w'=>e = .returned (.bool (ns.all fun n=>decide (isI n))) /\ Fr nF_ w w':=by
 refine aBQ Tryz.func106 rfl rfl (n:=6) (by decide) fun a E=>?_;have hf:Fr nF_ w w:=Fr.refl _ _;refine s_ (r_ (ep (v := .bool false) E rfl (a_ rfl rfl) fun a E=>n_ (t_ (s_ (r_ (ep E rfl (m_ rfl E.g1) fun a E=>ec_ (v := .bool (!(ns.all fun n=>decide (isI n)))) E rfl (aA4 (enters_of Tryz.func148 (by kernel_rfl) rfl) rfl rfl E.g0 rfl) (aRc hs hb) fun a w1 f1 E=>?_))))));have hs:=hs.fr f1 (fun _ _ h=>h);have hf:=hf.trans f1;clear f1;refine ep (v := .bool (!(!(ns.all fun n=>decide (isI n))))) E rfl (aBI rfl E.g0) fun a E=>es_ E rfl (a_ rfl E.g0) fun a E=>n_ (t_ (wr_ (aAr (t:=2) rfl E E.g0 ⟨by rw [Bool.not_not],hf⟩)))
abbrev En:=ByteArray×Bx
def aGd (x b:Bx):Prop:=b.1.1<=x.1.1 /\ b.1.2<=x.1.2 /\ x.2.1<=b.2.1 /\ x.2.2<=b.2.2
theorem aGd.meets {x b q:Bx}(h:aGd x b) (hm:mtB x q):mtB b q:=by unfold aGd at h;unfold mtB at *;omega
def aHD (w:World) (S:Nat->Prop):Nat->Nat->Bx->List En->Prop
 | 0,p,b,L=>(S p /\ okB b) /\ ∃ id,w.heap[p]?=some (.cells #[.int .i64 b.1.1,.int .i64 b.1.2,.int .i64 b.2.1,.int .i64 b.2.2,.string id,.slice none 0 0] 161 (0,0)) /\ L=[(id,b)]
 | n+1,p,b,L=>(S p /\ okB b) /\ ∃ g off cap,∃ C:List (Nat×Bx×List En),w.heap[p]?=some (.cells #[.int .i64 b.1.1,.int .i64 b.1.2,.int .i64 b.2.1,.int .i64 b.2.2,.string ByteArray.empty,.slice (some ⟨g,off,none⟩) C.length cap] 161 (0,0)) /\ S g /\ C≠[] /\ C.length<=8 /\
   (∀ (i:Nat) c,C[i]?=some c->w.cell? ⟨g,off+i,none⟩=some (.pointer (some ⟨c.1,0,none⟩)) /\ aHD w S n c.1 c.2.1 c.2.2) /\ L=C.flatMap (·.2.2) /\ ∀ x∈L,aGd x.2 b
theorem aHD.fr {w w':World}{S F:Nat->Prop}(hf:Fr F w w') (hS:∀ k,S k->¬ F k):∀ {n p b L},aHD w S n p b L->aHD w' S n p b L:=by
 intro n
 induction n with
 | zero =>
  rintro p b L ⟨h1,id,h2,h3⟩;exact ⟨h1,id,hf.obj h2 (hS p h1.1),h3⟩
 | succ n ih =>
  rintro p b L ⟨h1,g,off,cap,C,h2,h3,h4,h8,h5,h6⟩;exact ⟨h1,g,off,cap,C,hf.obj h2 (hS p h1.1),h3,h4,h8,fun i c hc=>⟨hf.cell (h5 i c hc).1 (hS g h3),ih (h5 i c hc).2⟩,h6⟩
theorem aHD.mono {w:World}{S S':Nat->Prop}(hS:∀ k,S k->S' k):∀ {n p b L},aHD w S n p b L->aHD w S' n p b L:=by
 intro n
 induction n with
 | zero=>rintro p b L ⟨h1,id,h2,h3⟩;exact ⟨⟨hS p h1.1,h1.2⟩,id,h2,h3⟩
 | succ n ih =>
  rintro p b L ⟨h1,g,off,cap,C,h2,h3,h4,h8,h5,h6⟩;exact ⟨⟨hS p h1.1,h1.2⟩,g,off,cap,C,h2,hS g h3,h4,h8,fun i c hc=>⟨(h5 i c hc).1,ih (h5 i c hc).2⟩,h6⟩
theorem aHD.ok {w:World}{S:Nat->Prop}:∀ {n p b L},aHD w S n p b L->okB b:=by
 intro n
 cases n with
 | zero=>rintro p b L ⟨h1,_⟩;exact h1.2
 | succ n=>rintro p b L ⟨h1,_⟩;exact h1.2
theorem aHD.mem {w:World}{S:Nat->Prop}:∀ {n p b L},aHD w S n p b L->S p:=by
 intro n
 cases n with
 | zero=>rintro p b L ⟨h1,_⟩;exact h1.1
 | succ n=>rintro p b L ⟨h1,_⟩;exact h1.1
theorem aHD.in_ {w:World}{S:Nat->Prop}:∀ {n p b L},aHD w S n p b L->∀ x∈L,aGd x.2 b:=by
 intro n
 cases n with
 | zero =>
  rintro p b L ⟨h1,id,h2,rfl⟩ x hx;simp at hx;subst hx;simp [aGd]
 | succ n=>rintro p b L ⟨h1,g,off,cap,C,h2,h3,h4,h8,h5,h6,h7⟩;exact h7
theorem aHD.ne {w:World}{S:Nat->Prop}:∀ {n p b L},aHD w S n p b L->L≠[]:=by
 intro n
 induction n with
 | zero=>rintro p b L ⟨h1,id,h2,rfl⟩;simp
 | succ n ih =>
  rintro p b L ⟨h1,g,off,cap,C,h2,h3,h4,h8,h5,rfl,h7⟩;intro e;obtain ⟨c,hc⟩:=List.exists_mem_of_ne_nil C h4;obtain ⟨i,hi⟩:=List.mem_iff_getElem?.1 hc;have h9:=ih (h5 i c hi).2;rw [List.flatMap_eq_nil_iff] at e;exact h9 (e c hc)
def aCl (L:List En) (q:Bx):List ByteArray:=(L.filter fun x=>decide (mtB x.2 q)).map (·.1)
theorem aIk (L K:List En) (q:Bx):aCl (L++K) q=aCl L q++aCl K q:=by simp [aCl]
theorem aG2 {L:List En}{b q:Bx}(h:∀ x∈L,aGd x.2 b) (hm:¬ mtB b q):aCl L q=[]:=by
 unfold aCl;rw [List.map_eq_nil_iff,List.filter_eq_nil_iff];intro x hx;simp only [decide_eq_true_eq];exact fun h2=>hm ((h x hx).meets h2)
theorem aNM {id:ByteArray}{b q:Bx}(hm:mtB b q):aCl [(id,b)] q=[id]:=by simp [aCl,hm]
theorem aLP (C:List (Nat×Bx×List En)) (q:Bx) (i:Nat) {c:Nat×Bx×List En}(h:C[i]?=some c):aCl ((C.take (i+1)).flatMap (·.2.2)) q=aCl ((C.take i).flatMap (·.2.2)) q++aCl c.2.2 q:=by
 rw [List.take_add_one,h,List.flatMap_append,aIk];simp
theorem aOz {lo hi lo' hi' p:Int}(h1:lo'<=lo) (h2:hi<=hi'):dx lo' hi' p<=dx lo hi p /\ 0<=dx lo' hi' p:=by unfold dx;omega
theorem aGd.far {x b:Bx}(h:aGd x b) (q:Pt):dsB b q<=dsB x q:=by
 obtain ⟨h1,h2⟩:=aOz (p:=q.1) h.1 h.2.2.1;obtain ⟨h3,h4⟩:=aOz (p:=q.2) h.2.1 h.2.2.2;unfold dsB;have h5:=Int.mul_le_mul h1 h1 h2 (Int.le_trans h2 h1);have h6:=Int.mul_le_mul h3 h3 h4 (Int.le_trans h4 h3);omega
section
variable {o:Oper}{w:World}{ρ:Operand->Value}{x y:Operand}{g off:Nat}
theorem aF3 {f:FuncId}{ts:Array TypeId}{v c1 c2 c3:Value}(eg:∀ args w,(callFunc f args).run Tryz.prog w = .ok (.enter f args) w) (ho:o.op = .call ⟨.value y,#[x],ts⟩) (hf:ρ y = .func (.func f) #[] #[c1,c2,c3]) (hx:ρ x=v):(execOp ρ o).run Tryz.prog w = .ok (.enter f #[v,c1,c2,c3]) w:=by
 simp [execOp,ho,hf,hx,eg,resolve,Deferred.ofValue,invoke,go_sem]
theorem aK1 {v:Value}(ho:o.op = .load 156 x) (hx:ρ x = .pointer (some ⟨g,off,none⟩)) (hc:w.cell? ⟨g,off,none⟩=some v):(execOp ρ o).run Tryz.prog w = .ok (.value v) w:=by
 simp [execOp,ho,hx,go_sem,hc]
theorem aKy {a:Addr}(ho:o.op = .binOp .eql 157 x y 157) (hx:ρ x = .pointer (some a)) (hy:ρ y = .pointer none):(execOp ρ o).run Tryz.prog w = .ok (.value (.bool false)) w:=by
 simp [execOp,ho,hx,hy,go_sem]
theorem aL0 {n cap:Nat}(ho:o.op = .binOp .eql 159 x y 159) (hx:ρ x = .slice none n cap) (hy:ρ y = .slice none 0 0):(execOp ρ o).run Tryz.prog w = .ok (.value (.bool true)) w:=by
 have:=Lib.run_eql_slice_nil (P:=Tryz.prog) w 159 157 none n cap 0 0 u159_;simp [execOp,ho,hx,hy,go_sem,this]
theorem aHX {a:Addr}{n cap:Nat}(ho:o.op = .binOp .eql 159 x y 159) (hx:ρ x = .slice (some a) n cap) (hy:ρ y = .slice none 0 0):(execOp ρ o).run Tryz.prog w = .ok (.value (.bool false)) w:=by
 have:=Lib.run_eql_slice_nil (P:=Tryz.prog) w 159 157 (some a) n cap 0 0 u159_;simp [execOp,ho,hx,hy,go_sem,this]
end
theorem aKG (L:List En) (q:Bx):(aCl L q).length<=L.length:=by unfold aCl;rw [Go_];exact List.length_filter_le _ _
theorem aVd {C:List (Nat×Bx×List En)}{i:Nat}{c:Nat×Bx×List En}{A:List ByteArray}{q:Bx}(hl:A.length+(C.flatMap (·.2.2)).length<=100000) (hc:C[i]?=some c):(A++aCl ((C.take i).flatMap (·.2.2)) q).length+c.2.2.length<=100000:=by
 have e:C=C.take i++c::C.drop (i+1):=by
  have h:=(List.getElem?_eq_some_iff.1 hc).2;rw [←h,List.getElem_cons_drop,List.take_append_drop]
 have h2:=congrArg (fun l:List (Nat×Bx×List En)=>(l.flatMap (·.2.2)).length) e;simp only [List.flatMap_append,Gi_,List.flatMap_cons] at h2;have h3:=aKG ((C.take i).flatMap (·.2.2)) q;rw [Gi_];omega
def WkP (w:World) (bo B:Nat) (A:List ByteArray) (L:List En) (q:Bx) (e:Ending) (w':World):Prop :=
 e = .returned (.tuple #[]) /\ ∃ v',w'.heap[bo]?=some (.cells #[v'] 45 (0,0)) /\ aEc w' B v' (A++aCl L q) /\ Fr (fun k=>k=bo∨B<=k) w w'
set_option maxRecDepth 100000 in
set_option maxHeartbeats 4000000 in
theorem aIO {S:Nat->Prop}{B bq bo bw:Nat}{q:Bx}(hbo:bo<B) (hbq:bq<B) (hbw:bw<B) (nq:bq≠bo) (nw:bw≠bo) (hS:∀ k,S k->k<B /\ k≠bo):∀ (n:Nat) {w:World}{p:Nat}{b:Bx}{L:List En}(hN:aHD w S n p b L) {v:Value}{A:List ByteArray}(hq:bxB w bq q) (hu:w.heap[bo]?=some (.cells #[v] 45 (0,0))) (hO:aEc w B v A) (hw:w.heap[bw]?=some (.cells #[(.func (.func 107) #[] #[.pointer (some ⟨bq,0,none⟩),.pointer (some ⟨bo,0,none⟩),.pointer (some ⟨bw,0,none⟩)])] 156 (0,0))) (hBs:B<=w.heap.size) (hl:A.length+L.length<=100000),Calls Tryz.prog 107 #[.pointer (some ⟨p,0,none⟩),.pointer (some ⟨bq,0,none⟩),.pointer (some ⟨bo,0,none⟩),.pointer (some ⟨bw,0,none⟩)] w (WkP w bo B A L q):=by
 intro n
 induction n with
 | zero =>
  intro w p b L hN v A hq hu hO hw hBs hl;obtain ⟨hSp,id1,hp,hL⟩:=hN;subst hL;have hp0:=hS p hSp.1;have hT:Fr (fun k=>k=bo∨B<=k) w w:=Fr.refl _ _;have hl9:A.length<=100000:=by omega
  clear hl;refine aFp Tryz.func107 rfl rfl (n:=43) (by decide) fun a E=>s_ (s_ (aC4 (n:=43) (base:=[(0,.pointer (some ⟨p,0,none⟩)),(1,.pointer (some ⟨bq,0,none⟩)),(2,.pointer (some ⟨bo,0,none⟩)),(3,.pointer (some ⟨bw,0,none⟩))]) (T:=[some (7,.pointer (some ⟨p,0,none⟩)),some (8,.bool false),some (9,.bool false),some (10,.pointer (some ⟨p,0,none⟩)),some (11,.pointer (some ⟨p,0,none⟩)),some (12,.pointer (some ⟨p,0,none⟩)),some (13,.agg (bxC b)),some (14,.agg (bxC q)),some (15,.bool (decide (mtB b q))),some (16,.bool (!(decide (mtB b q)))),some (17,.bool (!(decide (mtB b q))))]) (M:=fun _ wm=>Fr nF_ w wm) (by kernel_rfl) (by kernel_rfl) (by kernel_rfl) (E.of ⟨E.g0,E.g1,E.g2,E.g3,trivial⟩) (Fr.refl _ _).drew ?_ ?_))
  ·intro j9 o9 t9 ls9 a w5 ho hT0 hl E D DL hM;have hp:=hM.obj hp id;have hq:=hM.obj hq id;have hu:=hM.obj hu id;have hw:=hM.obj hw id;have hO:=ow.fr hO hM (fun _ _ h=>h);have hBs:=Gn_ hBs hM.size;have hT:=hT.trans' hM (fun _ _ h=>h.elim)
   match j9,ho,hT0,hl,D,DL with
   | 0,ho,hT0,hl,D,DL=>exact y0_ ho hT0 (aAd (m_ rfl E.g0) rfl hM)
   | 1,ho,hT0,hl,D,DL=>exact y0_ ho hT0 (aAd (aKy rfl (D 0 _ rfl rfl) rfl) rfl hM)
   | 2,ho,hT0,hl,D,DL=>exact y0_ ho hT0 (aAd (m_ rfl (D 1 _ rfl rfl)) rfl hM)
   | 3,ho,hT0,hl,D,DL=>exact y1_ ho hT0 E (D 2 _ rfl rfl) (aAd (m_ rfl E.g0) rfl hM)
   | 4,ho,hT0,hl,D,DL=>exact y1_ ho hT0 E (D 2 _ rfl rfl) (aAd (i_ rfl (D 3 _ rfl rfl)) rfl hM)
   | 5,ho,hT0,hl,D,DL=>exact y1_ ho hT0 E (D 2 _ rfl rfl) (aAd (aB7 rfl (D 4 _ rfl rfl)) rfl hM)
   | 6,ho,hT0,hl,D,DL=>exact y1_ ho hT0 E (D 2 _ rfl rfl) (aAd (aBi rfl (D 5 _ rfl rfl) (aPZ (p:=b) hp 0 rfl rfl rfl rfl)) rfl hM)
   | 7,ho,hT0,hl,D,DL=>exact y1_ ho hT0 E (D 2 _ rfl rfl) (aAd (aBi rfl E.g1 (aPZ (p:=q) hq 0 rfl rfl rfl rfl)) rfl hM)
   | 8,ho,hT0,hl,D,DL=>exact y1_ ho hT0 E (D 2 _ rfl rfl) (aE9 (aA4 (enters_of Tryz.func108 (by kernel_rfl) rfl) rfl rfl (D 6 _ rfl rfl) (D 7 _ rfl rfl)) (aF9 _ _ _) rfl fun w9 f1=>(hM.trans f1))
   | 9,ho,hT0,hl,D,DL=>exact y1_ ho hT0 E (D 2 _ rfl rfl) (aAd (aBI rfl (D 8 _ rfl rfl)) rfl hM)
   | 10,ho,hT0,hl,D,DL=>exact y0_ ho hT0 (aAd (aAt rfl (D 2 _ rfl rfl) (D 9 _ rfl rfl)) rfl hM)
   | j9+11,ho,hT0,hl,D,DL=>exact absurd hT0 (by simp)
  ·intro a w5 E V hM;have E:=E.add (V 10 _ rfl);clear V;have hp:=hM.obj hp id;have hq:=hM.obj hq id;have hu:=hM.obj hu id;have hw:=hM.obj hw id;have hO:=ow.fr hO hM (fun _ _ h=>h);have hBs:=Gn_ hBs hM.size;have hT:=hT.trans' hM (fun _ _ h=>h.elim);clear hM;refine t_ ?_;cases hq32:(decide (mtB b q))
   ·rw [hq32] at E;refine c_t E.g0 (wr_ (tr_ ((aCa rfl E ⟨rfl,v,hu,?_,hT⟩).1)));rw [aG2 (b:=b) (fun x hx=>by simp at hx;subst hx;simp [aGd]) (of_decide_eq_false hq32),List.append_nil];exact hO
   rw [hq32] at E;refine c_f E.g0 (k_ (t_ (s_ (s_ (r_ (ep E rfl (m_ rfl E.g1) fun a E=>ep E rfl (i_ rfl E.g0) fun a E=>ep (v := .pointer (some ⟨p,5,none⟩)) E rfl (aDG rfl E.g0) fun a E=>ep (v := .slice none 0 0) E rfl (aAY rfl E.g0 (bx hp 5 rfl)) fun a E=>ep (v := .bool true) E rfl (aL0 rfl E.g0 rfl) fun a E=>n_ (t_ (c_t E.g0 ?_))))))));have hOlt:∀ k,v.ownBlock=some k->k<w5.heap.size:=fun k hk=>(hO.lt hk).2;refine aAs (G:=Nat×Value) (0,undef) (n:=43) (base:=[(22,.bool true),(21,.slice none 0 0),(20,.pointer (some ⟨p,5,none⟩)),(19,.pointer (some ⟨p,0,none⟩)),(18,.pointer (some ⟨p,0,none⟩)),(17,.bool false),(0,.pointer (some ⟨p,0,none⟩)),(1,.pointer (some ⟨bq,0,none⟩)),(2,.pointer (some ⟨bo,0,none⟩)),(3,.pointer (some ⟨bw,0,none⟩))]) (U:=[]) (T:=fun γ=>[some (23,v),some (24,.pointer (some ⟨p,0,none⟩)),some (25,.pointer (some ⟨p,0,none⟩)),some (26,.pointer (some ⟨p,4,none⟩)),some (27,.string id1),some (28,.slice (some ⟨γ.1,0,none⟩) 1 1),some (29,γ.2),none]) (M:=fun γ ls9 wm=>(ls9 7=false->Fr (fun k=>B<=k) w5 wm /\ (ls9 5=true->w5.heap.size<=γ.1 /\ wm.heap[γ.1]?=some (.cells #[.string id1] 9 (0,0))) /\ (ls9 6=false->aEc wm B (v) A) /\ (ls9 6=true->aEc wm B γ.2 (A++[id1]))) /\ (ls9 7=true->∃ v9,wm.heap[bo]?=some (.cells #[v9] 45 (0,0)) /\ aEc wm B v9 (A++[id1]) /\ Fr (fun k=>k=bo∨B<=k) w5 wm)) (by kernel_rfl) (by kernel_rfl) (fun _=>by kernel_rfl) (E.of ⟨E.g0,E.g1,E.g2,E.g3,E.g4,E.g5,E.g6,E.g7,E.g8,E.g9,trivial⟩) (fun x hx=>by cases hx) ⟨fun _=>⟨(Fr.refl _ _).drew,fun h=>absurd h Bool.false_ne_true,fun _=>ow.fr hO ((Fr.refl nF_ _).drew) (fun _ _ h=>h),fun h=>absurd h Bool.false_ne_true⟩,fun h=>absurd h Bool.false_ne_true⟩ ?_ ?_
   ·intro j9 o9 γ ls9 a w5 ho hl E D DL DL2 hB hMM
    match j9,ho,hl,D,DL,hB with
    | 0,ho,hl,D,DL,hB =>
     have h7:ls9 7=false:=by
      cases h9:ls9 7 with
      | false=>rfl
      | true=>exact absurd (hl.symm.trans (DL2 6 0 rfl (DL2 7 6 rfl h9))) (by decide)
     have hM:=hMM.1 h7;have hp:=hM.1.obj hp (fun e=>by omega);have hu:=hM.1.obj hu (fun e=>by omega);obtain rfl:=Gh_ ho;exact ⟨fun _=>aAq rfl (aGW rfl E.g8 (bx hu 0 rfl)) rfl ⟨fun _=>hM,fun h=>absurd (h7.symm.trans h) (by decide)⟩,fun h=>by rw [aAb rfl] at h;cases h⟩
    | 1,ho,hl,D,DL,hB =>
     have h7:ls9 7=false:=by
      cases h9:ls9 7 with
      | false=>rfl
      | true=>exact absurd (hl.symm.trans (DL2 2 1 rfl (DL2 3 2 rfl (DL2 4 3 rfl (DL2 5 4 rfl (DL2 6 5 rfl (DL2 7 6 rfl h9))))))) (by decide)
     have hM:=hMM.1 h7;have hp:=hM.1.obj hp (fun e=>by omega);have hu:=hM.1.obj hu (fun e=>by omega);obtain rfl:=Gh_ ho;exact ⟨fun _=>aAq rfl (m_ rfl E.g6) rfl ⟨fun _=>hM,fun h=>absurd (h7.symm.trans h) (by decide)⟩,fun h=>by rw [aAb rfl] at h;cases h⟩
    | 2,ho,hl,D,DL,hB =>
     have h7:ls9 7=false:=by
      cases h9:ls9 7 with
      | false=>rfl
      | true=>exact absurd (hl.symm.trans (DL2 3 2 rfl (DL2 4 3 rfl (DL2 5 4 rfl (DL2 6 5 rfl (DL2 7 6 rfl h9)))))) (by decide)
     have hM:=hMM.1 h7;have hp:=hM.1.obj hp (fun e=>by omega);have hu:=hM.1.obj hu (fun e=>by omega);obtain rfl:=Gh_ ho;exact ⟨fun _=>aAq rfl (i_ rfl (D 1 _ rfl rfl)) rfl ⟨fun _=>hM,fun h=>absurd (h7.symm.trans h) (by decide)⟩,fun h=>by rw [aAb rfl] at h;cases h⟩
    | 3,ho,hl,D,DL,hB =>
     have h7:ls9 7=false:=by
      cases h9:ls9 7 with
      | false=>rfl
      | true=>exact absurd (hl.symm.trans (DL2 4 3 rfl (DL2 5 4 rfl (DL2 6 5 rfl (DL2 7 6 rfl h9))))) (by decide)
     have hM:=hMM.1 h7;have hp:=hM.1.obj hp (fun e=>by omega);have hu:=hM.1.obj hu (fun e=>by omega);obtain rfl:=Gh_ ho;exact ⟨fun _=>aAq rfl (aKQ rfl (D 2 _ rfl rfl)) rfl ⟨fun _=>hM,fun h=>absurd (h7.symm.trans h) (by decide)⟩,fun h=>by rw [aAb rfl] at h;cases h⟩
    | 4,ho,hl,D,DL,hB =>
     have h7:ls9 7=false:=by
      cases h9:ls9 7 with
      | false=>rfl
      | true=>exact absurd (hl.symm.trans (DL2 5 4 rfl (DL2 6 5 rfl (DL2 7 6 rfl h9)))) (by decide)
     have hM:=hMM.1 h7;have hp:=hM.1.obj hp (fun e=>by omega);have hu:=hM.1.obj hu (fun e=>by omega);obtain rfl:=Gh_ ho;exact ⟨fun _=>aAq rfl (aGU rfl (D 3 _ rfl rfl) (bx hp 4 rfl)) rfl ⟨fun _=>hM,fun h=>absurd (h7.symm.trans h) (by decide)⟩,fun h=>by rw [aAb rfl] at h;cases h⟩
    | 5,ho,hl,D,DL,hB =>
     have h7:ls9 7=false:=by
      cases h9:ls9 7 with
      | false=>rfl
      | true=>exact absurd (hl.symm.trans (DL2 6 5 rfl (DL2 7 6 rfl h9))) (by decide)
     have hM:=hMM.1 h7;have hp:=hM.1.obj hp (fun e=>by omega);have hu:=hM.1.obj hu (fun e=>by omega);obtain rfl:=Gh_ ho;exact ⟨fun _=>aLs (w5.heap.size,γ.2) rfl (aHY rfl (D 4 _ rfl rfl)) rfl (fun j hj=>match j,hj with | 0,_=>rfl | 1,_=>rfl | 2,_=>rfl | 3,_=>rfl | 4,_=>rfl | 5,hj=>absurd (hl.symm.trans hj) (by decide) | 6,_=>rfl | 7,_=>rfl | e9+8,_=>rfl) (⟨fun _=>⟨hM.1.trans' ((Fr.refl nF_ w5).alloc _) (fun _ _ h=>h.elim),fun _=>⟨hM.1.size,aAj _ _⟩,fun h=>ow.fr (hM.2.2.1 h) ((Fr.refl nF_ w5).alloc _) (fun _ _ h=>h),fun h=>ow.fr (hM.2.2.2 h) ((Fr.refl nF_ w5).alloc _) (fun _ _ h=>h)⟩,fun h=>absurd (h7.symm.trans h) (by decide)⟩),fun h=>by rw [aAb rfl] at h;cases h⟩
    | 6,ho,hl,D,DL,hB =>
     have h7:ls9 7=false:=by
      cases h9:ls9 7 with
      | false=>rfl
      | true=>exact absurd (hl.symm.trans (DL2 7 6 rfl h9)) (by decide)
     have hM:=hMM.1 h7;have hp:=hM.1.obj hp (fun e=>by omega);have hu:=hM.1.obj hu (fun e=>by omega);have hs8:=aNv aBA (aK8 (B:=0) ((hM.2.1 (DL 5 rfl)).2) (Gg_ _));obtain ⟨v9,w9,c0,c1,c2,c3⟩:=aXt (o:=o9) (ρ:=a.eval) (congrArg Oper.op (Gh_ ho)).symm (D 0 _ rfl rfl) (D 5 _ rfl rfl) (hM.2.2.1 hl) hs8.1 hs8.2 (by simp only [Gf_,Gm_];omega) (Gn_ hBs hM.1.size);obtain rfl:=Gh_ ho;exact ⟨fun _=>aLs (γ.1,v9) rfl c0 rfl (fun j hj=>match j,hj with | 0,_=>rfl | 1,_=>rfl | 2,_=>rfl | 3,_=>rfl | 4,_=>rfl | 5,_=>rfl | 6,hj=>absurd (hl.symm.trans hj) (by decide) | 7,_=>rfl | e9+8,_=>rfl) (⟨fun _=>⟨hM.1.trans' c2 (fun r _ e=>((hM.2.2.1 hl).lt e).1),fun h=>⟨(hM.2.1 h).1,c2.obj (hM.2.1 h).2 (fun e=>by have h8:=(hM.2.1 h).1;have h9:=hOlt _ e;omega)⟩,fun h=>by simp at h,fun _=>c1⟩,fun h=>absurd (h7.symm.trans h) (by decide)⟩),fun h=>by rw [aAb rfl] at h;cases h⟩
    | 7,ho,hl,D,DL,hB =>
     have hM:=hMM.1 hl;have hp:=hM.1.obj hp (fun e=>by omega);have hu:=hM.1.obj hu (fun e=>by omega);have hO9:=hM.2.2.2 (DL 6 rfl);obtain ⟨pn,cn,hvv,_⟩:=hO9.src aBA;obtain rfl:=Gh_ ho;exact ⟨fun _=>aDi rfl (aPI hvv rfl E.g8 (D 6 _ rfl rfl) (bx hu 0 rfl) (aAm hu 0)) rfl ⟨fun h=>by simp at h,fun _=>⟨_,aAi (off:=0) hu _,aNx hO9 (fun k hk=>aJS (fun e=>by have:=(hO9.lt hk).1;simp only at e;omega) _),(hM.1.mono (fun k _ hk => .inr hk)).setCell (fun _ => .inl rfl) _⟩⟩,fun h=>by rw [aAb rfl] at h;cases h⟩
    | j9+8,ho,hl,D,DL,hB=>exact absurd ho (by simp)
   ·rintro ⟨γ33a,γ33b⟩ a we E V hM;clear V;obtain ⟨v9,hu,hO,f2⟩:=hM.2 rfl;have hT:=hT.trans' f2 (fun _ _ h=>h);have hp:=f2.obj hp (fun e=>by omega);clear hM f2;refine t_ (s_ (r_ (ep E rfl (m_ rfl E.g6) fun a E=>ep E rfl (i_ rfl E.g0) fun a E=>ep (v := .pointer (some ⟨p,5,none⟩)) E rfl (aDG rfl E.g0) fun a E=>ep (v := .slice none 0 0) E rfl (aAY rfl E.g0 (bx hp 5 rfl)) fun a E=>ep (v := .int .i64 0) E rfl (aBw rfl E.g0) fun a E=>ep (v := .int .i64 0) E rfl (m_ rfl rfl) fun a E=>n_ (t_ (bk_ (wp_loop (fun a w2=>Env 43 [(35,.int .i64 0),(34,.int .i64 0),(0,.pointer (some ⟨p,0,none⟩)),(1,.pointer (some ⟨bq,0,none⟩)),(2,.pointer (some ⟨bo,0,none⟩)),(3,.pointer (some ⟨bw,0,none⟩))] a /\ w2.heap[bo]?=some (.cells #[v9] 45 (0,0)) /\ aEc w2 B v9 (A++[id1]) /\ Fr (fun k=>k=bo∨B<=k) w w2) (fun a _=>(intOf (a.eval (.tmp 35))).toNat) ?_ ?_))))))
    ·exact ⟨E.of ⟨E.g0,E.g1,E.get 12 rfl,E.get 13 rfl,E.get 14 rfl,E.get 15 rfl,trivial⟩,hu,hO,hT⟩
    clear E;rintro a w2 ⟨E,hu,hO,hT⟩;have hmu:(intOf (a.eval (.tmp 35))).toNat=0:=by rw [E.g0];first | (simp [intOf];done) | (simp only [intOf];omega)
    rw [hmu];clear hmu;refine s_ (r_ (ep (v := .bool false) E rfl (aBj (m:=0) (n:=0) E.g0 E.g1 u3_ rfl) fun a E=>n_ (t_ (s_ (c_f E.g0 (x_ (te_ (te_ (be_ ((aCa rfl E ⟨rfl,v9,hu,?_,hT⟩).1))))))))));rw [aNM (of_decide_eq_true hq32)];exact hO
 | succ n ih =>
  intro w p b L hN v A hq hu hO hw hBs hl;obtain ⟨hSp,g,off,cap,C,hp,hSg,hne,h8,hC,hL,hin⟩:=hN;subst hL;have hp0:=hS p hSp.1;have hg0:=hS g hSg;have hT:Fr (fun k=>k=bo∨B<=k) w w:=Fr.refl _ _;refine aFp Tryz.func107 rfl rfl (n:=43) (by decide) fun a E=>s_ (s_ (aC4 (n:=43) (base:=[(0,.pointer (some ⟨p,0,none⟩)),(1,.pointer (some ⟨bq,0,none⟩)),(2,.pointer (some ⟨bo,0,none⟩)),(3,.pointer (some ⟨bw,0,none⟩))]) (T:=[some (7,.pointer (some ⟨p,0,none⟩)),some (8,.bool false),some (9,.bool false),some (10,.pointer (some ⟨p,0,none⟩)),some (11,.pointer (some ⟨p,0,none⟩)),some (12,.pointer (some ⟨p,0,none⟩)),some (13,.agg (bxC b)),some (14,.agg (bxC q)),some (15,.bool (decide (mtB b q))),some (16,.bool (!(decide (mtB b q)))),some (17,.bool (!(decide (mtB b q))))]) (M:=fun _ wm=>Fr nF_ w wm) (by kernel_rfl) (by kernel_rfl) (by kernel_rfl) (E.of ⟨E.g0,E.g1,E.g2,E.g3,trivial⟩) (Fr.refl _ _).drew ?_ ?_))
  ·intro j9 o9 t9 ls9 a w5 ho hT0 hl E D DL hM;have hp:=hM.obj hp id;have hq:=hM.obj hq id;have hu:=hM.obj hu id;have hw:=hM.obj hw id;have hO:=ow.fr hO hM (fun _ _ h=>h);have hBs:=Gn_ hBs hM.size;have hT:=hT.trans' hM (fun _ _ h=>h.elim);have hC:=fun j c hc=>(⟨hM.cell (hC j c hc).1 id,aHD.fr hM (fun _ _ h=>h) (hC j c hc).2⟩:_ /\ _)
   match j9,ho,hT0,hl,D,DL with
   | 0,ho,hT0,hl,D,DL=>exact y0_ ho hT0 (aAd (m_ rfl E.g0) rfl hM)
   | 1,ho,hT0,hl,D,DL=>exact y0_ ho hT0 (aAd (aKy rfl (D 0 _ rfl rfl) rfl) rfl hM)
   | 2,ho,hT0,hl,D,DL=>exact y0_ ho hT0 (aAd (m_ rfl (D 1 _ rfl rfl)) rfl hM)
   | 3,ho,hT0,hl,D,DL=>exact y1_ ho hT0 E (D 2 _ rfl rfl) (aAd (m_ rfl E.g0) rfl hM)
   | 4,ho,hT0,hl,D,DL=>exact y1_ ho hT0 E (D 2 _ rfl rfl) (aAd (i_ rfl (D 3 _ rfl rfl)) rfl hM)
   | 5,ho,hT0,hl,D,DL=>exact y1_ ho hT0 E (D 2 _ rfl rfl) (aAd (aB7 rfl (D 4 _ rfl rfl)) rfl hM)
   | 6,ho,hT0,hl,D,DL=>exact y1_ ho hT0 E (D 2 _ rfl rfl) (aAd (aBi rfl (D 5 _ rfl rfl) (aPZ (p:=b) hp 0 rfl rfl rfl rfl)) rfl hM)
   | 7,ho,hT0,hl,D,DL=>exact y1_ ho hT0 E (D 2 _ rfl rfl) (aAd (aBi rfl E.g1 (aPZ (p:=q) hq 0 rfl rfl rfl rfl)) rfl hM)
   | 8,ho,hT0,hl,D,DL=>exact y1_ ho hT0 E (D 2 _ rfl rfl) (aE9 (aA4 (enters_of Tryz.func108 (by kernel_rfl) rfl) rfl rfl (D 6 _ rfl rfl) (D 7 _ rfl rfl)) (aF9 _ _ _) rfl fun w9 f1=>(hM.trans f1))
   | 9,ho,hT0,hl,D,DL=>exact y1_ ho hT0 E (D 2 _ rfl rfl) (aAd (aBI rfl (D 8 _ rfl rfl)) rfl hM)
   | 10,ho,hT0,hl,D,DL=>exact y0_ ho hT0 (aAd (aAt rfl (D 2 _ rfl rfl) (D 9 _ rfl rfl)) rfl hM)
   | j9+11,ho,hT0,hl,D,DL=>exact absurd hT0 (by simp)
  ·intro a w5 E V hM;have E:=E.add (V 10 _ rfl);clear V;have hp:=hM.obj hp id;have hq:=hM.obj hq id;have hu:=hM.obj hu id;have hw:=hM.obj hw id;have hO:=ow.fr hO hM (fun _ _ h=>h);have hBs:=Gn_ hBs hM.size;have hT:=hT.trans' hM (fun _ _ h=>h.elim);have hC:=fun j c hc=>(⟨hM.cell (hC j c hc).1 id,aHD.fr hM (fun _ _ h=>h) (hC j c hc).2⟩:_ /\ _);clear hM;refine t_ ?_;cases hq36:(decide (mtB b q))
   ·rw [hq36] at E;refine c_t E.g0 (wr_ (tr_ ((aCa rfl E ⟨rfl,v,hu,?_,hT⟩).1)));rw [aG2 (b:=b) hin (of_decide_eq_false hq36),List.append_nil];exact hO
   rw [hq36] at E;refine c_f E.g0 (k_ (t_ (s_ (s_ (r_ (ep E rfl (m_ rfl E.g1) fun a E=>ep E rfl (i_ rfl E.g0) fun a E=>ep (v := .pointer (some ⟨p,5,none⟩)) E rfl (aDG rfl E.g0) fun a E=>ep (v := .slice (some ⟨g,off,none⟩) C.length cap) E rfl (aAY rfl E.g0 (bx hp 5 rfl)) fun a E=>ep (v := .bool false) E rfl (aHX rfl E.g0 rfl) fun a E=>n_ (t_ (c_f E.g0 (k_ (t_ (s_ (r_ (ep E rfl (m_ rfl E.g6) fun a E=>ep E rfl (i_ rfl E.g0) fun a E=>ep (v := .pointer (some ⟨p,5,none⟩)) E rfl (aDG rfl E.g0) fun a E=>ep (v := .slice (some ⟨g,off,none⟩) C.length cap) E rfl (aAY rfl E.g0 (bx hp 5 rfl)) fun a E=>ep (v := .int .i64 (C.length:Int)) E rfl (aBw rfl E.g0) fun a E=>ep (v := .int .i64 0) E rfl (m_ rfl rfl) fun a E=>n_ (t_ (bk_ (wp_loop (fun a w2=>∃ (i:Nat) (v:Value),Env 43 [(35,.int .i64 (i:Int)),(34,.int .i64 (C.length:Int)),(33,.slice (some ⟨g,off,none⟩) C.length cap),(0,.pointer (some ⟨p,0,none⟩)),(1,.pointer (some ⟨bq,0,none⟩)),(2,.pointer (some ⟨bo,0,none⟩)),(3,.pointer (some ⟨bw,0,none⟩))] a /\ i<=C.length /\ bxB w2 bq q /\ w2.heap[bo]?=some (.cells #[v] 45 (0,0)) /\ w2.heap[bw]?=some (.cells #[(.func (.func 107) #[] #[.pointer (some ⟨bq,0,none⟩),.pointer (some ⟨bo,0,none⟩),.pointer (some ⟨bw,0,none⟩)])] 156 (0,0)) /\ aEc w2 B v (A++aCl ((C.take i).flatMap (·.2.2)) q) /\ (∀ (j:Nat) c,C[j]?=some c->w2.cell? ⟨g,off+j,none⟩=some (.pointer (some ⟨c.1,0,none⟩)) /\ aHD w2 S n c.1 c.2.1 c.2.2) /\ B<=w2.heap.size /\ Fr (fun k=>k=bo∨B<=k) w w2) (fun a _=>C.length-(intOf (a.eval (.tmp 35))).toNat) ?_ ?_))))))))))))))))
   ·exact ⟨0,v,E.of ⟨E.g0,E.g1,E.g2,E.get 12 rfl,E.get 13 rfl,E.get 14 rfl,E.get 15 rfl,trivial⟩,Gg_ _,hq,hu,hw,by simpa [aCl] using hO,hC,hBs,hT⟩
   clear E;rintro a w2 ⟨i,v,E,hi,hq,hu,hw,hO,hC,hBs,hT⟩;have hmu:C.length-(intOf (a.eval (.tmp 35))).toNat=C.length-i:=by rw [E.g0];first | (simp [intOf];done) | (simp only [intOf];omega)
   rw [hmu];clear hmu;refine s_ (r_ (ep (v := .bool (decide ((i:Int)<(C.length:Int)))) E rfl (aBj E.g0 E.g1 u3_ rfl) fun a E=>n_ (t_ (s_ ?_))));cases hq38:(decide ((i:Int)<(C.length:Int)))
   ·rw [hq38] at E;have hie:i=C.length:=by have:=of_decide_eq_false hq38;omega
    rw [hie,List.take_length] at hO;refine c_f E.g0 (x_ (te_ (te_ (be_ ((aCa rfl E ⟨rfl,v,hu,hO,hT⟩).1)))))
   rw [hq38] at E;have hlt:i<C.length:=by have:=of_decide_eq_true hq38;omega
   obtain ⟨c,hc⟩:∃ c,C[i]?=some c:=⟨_,Gb_ hlt⟩;have hlen:=aVd (q:=q) hl hc;have hrow:=(hC i c hc).1;refine c_t E.g0 (k_ (t_ (s_ (bk_ (s_ (r_ (ep (v := .pointer (some ⟨g,(off+i),none⟩)) E rfl (aCr (i:=i) rfl E.g3 E.g1 hlt) fun a E=>ep (v := .pointer (some ⟨c.1,0,none⟩)) E rfl (aAN rfl E.g0 hrow) fun a E=>ep E rfl (a_ rfl E.g0) fun a E=>n_ (t_ (r_ (ep (v:=(.func (.func 107) #[] #[.pointer (some ⟨bq,0,none⟩),.pointer (some ⟨bo,0,none⟩),.pointer (some ⟨bw,0,none⟩)])) E rfl (aK1 rfl E.g10 (bx hw 0 rfl)) fun a E=>ep E rfl (m_ rfl E.g1) fun a E=>aBy (d:=41) (R:=fun u w8=>∃ v9,w8.heap[bo]?=some (.cells #[v9] 45 (0,0)) /\ aEc w8 B v9 ((A++aCl ((C.take i).flatMap (·.2.2)) q)++aCl c.2.2 q) /\ Fr (fun k=>k=bo∨B<=k) w2 w8) E rfl (by decide) rfl (aAb rfl _) (aF3 (enters_of Tryz.func107 (by kernel_rfl) rfl) rfl E.g1 E.g0) ((ih (hC i c hc).2 hq hu hO hw hBs hlen).mono fun e w8 h=>⟨_,h.1,h.2⟩) fun a w1 u9 hR E=>?_))))))))));obtain ⟨v9,hu,hO,f1⟩:=hR;have hq:=f1.obj hq (fun e=>by omega);have hw:=f1.obj hw (fun e=>by omega);have hC:=fun j c hc=>(⟨f1.cell (hC j c hc).1 (fun (e:g=bo∨B<=g)=>by omega),aHD.fr f1 (fun k hk e=>by have:=hS k hk;omega) (hC j c hc).2⟩:_ /\ _);have hBs:=Gn_ hBs f1.size;have hT:=hT.trans' f1 (fun _ _ h=>h);clear f1;refine n_ (b_ (t_ (r_ (ep (v := .int .i64 ((i:Int)+1)) E rfl (aAJ u3_ E.g7 rfl (by omega) (by omega) rfl) fun a E=>es_ E rfl (m_ rfl E.g0) fun a E=>n_ (t_ ?_)))));refine ⟨⟨i+1,v9,E.of ⟨E.g0,E.g9,E.g10,E.g11,E.get 12 rfl,E.get 13 rfl,E.get 14 rfl,trivial⟩,hlt,hq,hu,hw,?_,hC,hBs,hT⟩,?_⟩
   ·rw [aLP C q i hc];rw [Gl_] at hO;exact hO
   ·rw [E.g0];simp only [intOf];omega
def bxM (m:ByteArray->Option Bx):Value->Option Value
 | .string s=>(m s).map fun b => .agg (bxC b)
 | _=>none
def aPu (L:List En) (m:ByteArray->Option Bx):Prop:=(L.map (·.1)).Nodup /\ ∀ s b,(s,b)∈L↔m s=some b
def aLn (w:World) (S:Nat->Prop) (rv:Value) (m:ByteArray->Option Bx):Prop :=
 (rv = .pointer none /\ ∀ s,m s=none)∨∃ n p b L,rv = .pointer (some ⟨p,0,none⟩) /\ aHD w S n p b L /\ aPu L m
theorem aLn.fr {w w':World}{S F:Nat->Prop}{rv:Value}{m}(h:aLn w S rv m) (hf:Fr F w w') (hS:∀ k,S k->¬ F k):aLn w' S rv m:=by
 rcases h with h | ⟨n,p,b,L,h1,h2,h3⟩
 ·exact .inl h
 ·exact .inr ⟨n,p,b,L,h1,h2.fr hf hS,h3⟩
structure IxAt (w:World) (p mb N:Nat) (S:Nat->Prop) (m:ByteArray->Option Bx) (rv:Value) (pk:Bool):Prop where
 hp:w.heap[p]?=some (.cells #[.map (some mb),rv,.bool pk] 182 (0,0))
 hm:aDP Tryz.prog 9 w mb N (bxM m)
 ne:p≠mb
 np:¬ S p
 nm:¬ S mb
 lt:∀ k,S k->k<w.heap.size
 ok:∀ s b,m s=some b->okB b
 rp:∃ a,rv = .pointer a
 tree:pk=true->aLn w S rv m
theorem IxAt.fr {w w':World}{p mb N:Nat}{S F:Nat->Prop}{m rv pk}(h:IxAt w p mb N S m rv pk) (hf:Fr F w w') (h1:¬ F p) (h2:¬ F mb) (h3:∀ k,S k->¬ F k):IxAt w' p mb N S m rv pk :=
 ⟨hf.obj h.hp h1,h.hm.fr hf h2,h.ne,h.np,h.nm,fun k hk=>Nat.lt_of_lt_of_le (h.lt k hk) hf.size,h.ok,h.rp,fun hk=>(h.tree hk).fr hf h3⟩
end Go.Proofs.YtngjlnhojicjeaaGreatDoor
namespace Go.Proofs.YtngjlnhojicjeaaGreatDoor
open Go.RowKit Go.Pl Go.WideMaps
section maps3
open Classical
variable {P:Program}{K:TypeId}
end maps3
theorem aWU {s:ByteArray}(h:s.size<=maxLen):∃ l,keyOf Tryz.prog 9 (.string s)=some l:=⟨_,keyOf_string_mk u9_ h⟩
theorem aTe {k:Value}{l:Lit}(h:keyOf Tryz.prog 9 k=some l):∃ s:ByteArray,k = .string s /\ s.size<=maxLen:=by
 obtain ⟨x,rfl,_,h2⟩:=Maps.keyOf_str u9_ h;exact ⟨⟨x.toArray⟩,rfl,by show (x.toArray).size<=_;simpa using h2⟩
theorem aUs (w:World):(zeroValue 97).run Tryz.prog w = .ok (.agg (bxC ((0,0),(0,0)))) w:=by kernel_rfl
theorem aH6 (m:ByteArray->Option Bx) (s:ByteArray):bxM m (.string s)=(m s).map fun b => .agg (bxC b):=rfl
section
variable {o:Oper}{w:World}{ρ:Operand->Value}{x y z:Operand}{mb N:Nat}{m:ByteArray->Option Bx}{s:ByteArray}
theorem aGw (h:aDP Tryz.prog 9 w mb N (bxM m)) (hs:s.size<=maxLen) (ho:o.op = .lookup 180 x y true) (hx:ρ x = .map (some mb)) (hy:ρ y = .string s) :
  (execOp ρ o).run Tryz.prog w = .ok (.value (.tuple #[.agg (bxC ((m s).getD ((0,0),(0,0)))),.bool (m s).isSome])) w:=by
 obtain ⟨l,hk⟩:=aWU hs;have:=h.at.look_ok aEe u180_ hk (aUs w);simp only [execOp,ho,hx,hy,Sem.run_bind,this,Result.andThen_ok,Sem.run_pure,aH6];cases m s<;>rfl
end
theorem aGT {o:Oper}{w:World}{ρ:Operand->Value}{x y:Operand}{a:Addr}(ho:o.op = .binOp .eql 91 x y 91) (hx:ρ x = .pointer (some a)) (hy:ρ y = .pointer none):(execOp ρ o).run Tryz.prog w = .ok (.value (.bool false)) w:=by
 simp [execOp,ho,hx,hy,go_sem]
set_option maxRecDepth 100000 in
set_option maxHeartbeats 4000000 in
theorem aJR {w:World}{p mb N:Nat}{S:Nat->Prop}{m:ByteArray->Option Bx}{rv:Value}{pk:Bool}(h:IxAt w p mb N S m rv pk) (s0:ByteArray) (hsz:s0.size<=maxLen):Calls Tryz.prog 65 #[.pointer (some ⟨p,0,none⟩),.string s0] w fun e w'=>e = .returned (.tuple #[.agg (bxC ((m s0).getD ((0,0),(0,0)))),.bool (m s0).isSome]) /\ Fr nF_ w w':=by
 refine aAR Tryz.func65 rfl rfl (n:=22) (by decide) fun a E=>?_;have hf:Fr nF_ w w:=Fr.refl _ _;have hpl:p<w.heap.size:=aAe h.hp;have hml:mb<w.heap.size:=h.hm.lt;have hσ:∀ k,S k->k<w.heap.size:=h.lt;refine s_ (r_ ?_);have hfz:=hf.size;refine aCt (d:=4) E rfl (by decide) rfl (aAb rfl _) rfl fun a w1 aa ad hb31 f1 E=>?_;have h:=IxAt.fr h f1 id id (fun _ _ h=>h);have hf:=hf.trans f1;clear f1;have hnb31:w.heap.size<=aa:=by omega
 clear hfz ad;refine ep (v := .bool false) E rfl (a_ rfl rfl) fun a E=>n_ (t_ (s_ (s_ (r_ (ep E rfl (m_ rfl E.g2) fun a E=>ep (v := .bool false) E rfl (aGT rfl E.g0 rfl) fun a E=>n_ (t_ (c_f E.g0 (k_ (t_ (s_ ?_))))))))))
 cases hms:m s0 with
 | none =>
  refine r_ (ep E rfl (m_ rfl E.g4) fun a E=>ep E rfl (i_ rfl E.g0) fun a E=>ep (v := .pointer (some ⟨p,0,none⟩)) E rfl (aOo rfl E.g0) fun a E=>ep (v := .map (some mb)) E rfl (aGV rfl E.g0 (bx h.hp 0 rfl)) fun a E=>ep E rfl (m_ rfl E.g9) fun a E=>ep (v := .tuple #[.agg (bxC ((0,0),(0,0))),.bool false]) E rfl ((aGw h.hm hsz rfl E.g1 E.g0).trans (by rw [hms]<;>rfl)) fun a E=>ep E rfl (m_ rfl E.g0) fun a E=>ep (v := .agg (bxC ((0,0),(0,0)))) E rfl (aFf rfl E.g0) fun a E=>ep (v := .bool false) E rfl (aFe rfl E.g1) fun a E=>?_);have hlb31:=aAe hb31;have hfz:=hf.size;refine aCt (d:=6) E rfl (by decide) rfl (aAb rfl _) rfl fun a w1 ab ae hb32 f1 E=>?_;have h:=IxAt.fr h f1 id id (fun _ _ h=>h);have hb31:=f1.obj hb31 id;have hf:=hf.trans f1;clear f1;have hneb31b32:aa<ab:=by omega
  clear hlb31;have hnb32:w.heap.size<=ab:=by omega
  clear hfz ae;refine aD5 E rfl (aAb rfl _) rfl E.g0 E.g2 hb32 fun w1 hb32 f1 E=>?_;have h:=IxAt.fr h f1 (by omega) (by omega) (fun k hk=>by have:=hσ k hk;omega);have hb31:=f1.obj hb31 (fun e=>by omega);have hf:=hf.trans' f1 (fun r hr e=>by omega);clear f1;refine ep E rfl (a_ rfl E.g1) fun a E=>n_ (t_ (s_ (r_ (ep (v := .agg (bxC ((0,0),(0,0)))) E rfl (aBi rfl E.g1 (aPZ (p:=((0,0),(0,0))) hb32 0 rfl rfl rfl rfl)) fun a E=>ep E rfl (m_ rfl E.g1) fun a E=>aD5 E rfl (aAb rfl _) rfl (E.get 16 rfl) E.g1 hb31 fun w1 hb31 f1 E=>?_))));have h:=IxAt.fr h f1 (by omega) (by omega) (fun k hk=>by have:=hσ k hk;omega);have hb32:=f1.obj hb32 (fun e=>by omega);have hf:=hf.trans' f1 (fun r hr e=>by omega);clear f1;refine es_ E rfl (a_ rfl E.g0) fun a E=>n_ (t_ (wr_ (aIb (t:=4) (u:=5) rfl E (E.get 16 rfl) E.g0 hb31 ⟨by simp [hms],hf⟩)))
 | some bb =>
  refine r_ (ep E rfl (m_ rfl E.g4) fun a E=>ep E rfl (i_ rfl E.g0) fun a E=>ep (v := .pointer (some ⟨p,0,none⟩)) E rfl (aOo rfl E.g0) fun a E=>ep (v := .map (some mb)) E rfl (aGV rfl E.g0 (bx h.hp 0 rfl)) fun a E=>ep E rfl (m_ rfl E.g9) fun a E=>ep (v := .tuple #[.agg (bxC bb),.bool true]) E rfl ((aGw h.hm hsz rfl E.g1 E.g0).trans (by rw [hms]<;>rfl)) fun a E=>ep E rfl (m_ rfl E.g0) fun a E=>ep (v := .agg (bxC bb)) E rfl (aFf rfl E.g0) fun a E=>ep (v := .bool true) E rfl (aFe rfl E.g1) fun a E=>?_);have hlb31:=aAe hb31;have hfz:=hf.size;refine aCt (d:=6) E rfl (by decide) rfl (aAb rfl _) rfl fun a w1 ac af hb33 f1 E=>?_;have h:=IxAt.fr h f1 id id (fun _ _ h=>h);have hb31:=f1.obj hb31 id;have hf:=hf.trans f1;clear f1;have hneb31b33:aa<ac:=by omega
  clear hlb31;have hnb33:w.heap.size<=ac:=by omega
  clear hfz af;refine aD5 E rfl (aAb rfl _) rfl E.g0 E.g2 hb33 fun w1 hb33 f1 E=>?_;have h:=IxAt.fr h f1 (by omega) (by omega) (fun k hk=>by have:=hσ k hk;omega);have hb31:=f1.obj hb31 (fun e=>by omega);have hf:=hf.trans' f1 (fun r hr e=>by omega);clear f1;refine ep E rfl (a_ rfl E.g1) fun a E=>n_ (t_ (s_ (r_ (ep (v := .agg (bxC bb)) E rfl (aBi rfl E.g1 (aPZ (p:=bb) hb33 0 rfl rfl rfl rfl)) fun a E=>ep E rfl (m_ rfl E.g1) fun a E=>aD5 E rfl (aAb rfl _) rfl (E.get 16 rfl) E.g1 hb31 fun w1 hb31 f1 E=>?_))));have h:=IxAt.fr h f1 (by omega) (by omega) (fun k hk=>by have:=hσ k hk;omega);have hb33:=f1.obj hb33 (fun e=>by omega);have hf:=hf.trans' f1 (fun r hr e=>by omega);clear f1;refine es_ E rfl (a_ rfl E.g0) fun a E=>n_ (t_ (wr_ (aIb (t:=4) (u:=5) rfl E (E.get 16 rfl) E.g0 hb31 ⟨by simp [hms],hf⟩)))
section
variable {P:Program}{O:Array Oper}{Q:Exit->Act->World->Prop}{rest:List Oper}{o:Oper}{a:Act}{w w':World}{n:Nat}{L:List (Nat×Value)}{v:Value}
end
section
variable {w W:World}{p mb N:Nat}{S:Nat->Prop}{m:ByteArray->Option Bx}{rv:Value}{pk:Bool}
end
end Go.Proofs.YtngjlnhojicjeaaGreatDoor
namespace Go.Proofs.YtngjlnhojicjeaaGreatDoor
open Go.RowKit Go.Pl Go.WideMaps
section
variable {O:Array Oper}{Q:Exit->Act->World->Prop}{rest:List Oper}{o:Oper}{a:Act}{w W:World}{n d:Nat}{L:List (Nat×Value)}{x y z t:Operand}{ρ:Operand->Value}
theorem aL4 {n0 n1 n2 n3:Int}(ho:o.op = .buildSlice 167 4 #[(0,x),(1,y),(2,z),(3,t)]) (h0:ρ x = .int .i64 n0) (h1:ρ y = .int .i64 n1) (h2:ρ z = .int .i64 n2) (h3:ρ t = .int .i64 n3):(execOp ρ o).run Tryz.prog w = .ok (.value (.slice (some ⟨w.heap.size,0,none⟩) 4 4)) (w.alloc (.cells #[.int .i64 n0,.int .i64 n1,.int .i64 n2,.int .i64 n3] 3)):=by
 simp [execOp,ho,h0,h1,h2,h3,go_sem]
theorem aKn {w:World}{b G:Nat}{ns:List Int}(hb:w.heap[b]?=some (.cells (ns.map fun n=>(.int .i64 n:Value)).toArray 3 (0,0))) (hG:b<G):aBd inC 1 w G (some ⟨b,0,none⟩) ns:=by
 refine .inr ⟨b,0,rfl,hG,fun i y hy j u hu=>?_⟩
 have hj:j=0:=by
  have:=(List.getElem?_eq_some_iff.1 hu).1;simpa using this
 subst hj;simp at hu;rw [aAk hb];simp [hy,hu]
theorem aP6 {w:World}{b G:Nat}{n0 n1 n2 n3:Int}(hb:w.heap[b]?=some (.cells #[.int .i64 n0,.int .i64 n1,.int .i64 n2,.int .i64 n3] 3 (0,0))) (hG:b<G):aBd inC 1 w G (some ⟨b,0,none⟩) [n0,n1,n2,n3]:=aKn hb hG
theorem aMh {n0 n1 n2 n3:Int}(En:Env n L a) (hd:o.dst=some d) (hn:d<n) (hf:(L.map (·.1)).contains d=false) (hw:Region.wanted o (yielded O a.tmps)=true) (ho:o.op = .buildSlice 167 4 #[(0,x),(1,y),(2,z),(3,t)]) (h0:a.eval x = .int .i64 n0) (h1:a.eval y = .int .i64 n1) (h2:a.eval z = .int .i64 n2) (h3:a.eval t = .int .i64 n3)
  (k:∀ a' w' b,aBd inC 1 w' w'.heap.size (some ⟨b,0,none⟩) [n0,n1,n2,n3]->Fr nF_ w w'->Env n ((d,.slice (some ⟨b,0,none⟩) 4 4)::L) a'->wpList Tryz.prog O Q rest a' w'):wpList Tryz.prog O Q (o::rest) a w :=
 aB4 En hd hn hf hw (aL4 ho h0 h1 h2 h3) fun a' E'=>k a' _ _ (aP6 (aAj _ _) (by simp)) ((Fr.refl _ _).alloc _) E'
end
theorem aJu {b:Bx}(h:okB b):(List.all [b.1.1,b.1.2,b.2.1,b.2.2] fun n9=>decide (isI n9))=true:=by
 obtain ⟨⟨h1,h2⟩,⟨h3,h4⟩,_⟩:=h;simp [h1,h2,h3,h4]
theorem aUR {b:Bx}(h:(List.all [b.1.1,b.1.2,b.2.1,b.2.2] fun n9=>decide (isI n9))=true) (h1:b.1.1<=b.2.1) (h2:b.1.2<=b.2.2):okB b:=by
 simp at h;exact ⟨⟨h.1,h.2.1⟩,⟨h.2.2.1,h.2.2.2⟩,h1,h2⟩
open Go.Sort
def aBW (a b:Int):Int:=if a<b then -1 else if b<a then 1 else 0
def orI (x y:Int):Int:=if x≠0 then x else y
def cfB (x y:Bx):Int:=aBW (x.1.2+x.2.2) (y.1.2+y.2.2)
def cfA (x y:Bx):Int:=orI (aBW (x.1.1+x.2.1) (y.1.1+y.2.1)) (cfB x y)
set_option maxHeartbeats 1000000 in
theorem aIj (x:Int) (w:World):Calls Tryz.prog 234 #[.int .i64 x] w fun e w'=>e = .returned (.bool false) /\ w=w':=by
 have hb:(x != x)=false:=by simp
 go_enter Tryz.func234,Tryz.ntmps234
 go_wp2
 go_ret
 exact ⟨rfl,rfl⟩
set_option maxHeartbeats 1000000 in
theorem aEl (x y:Int) (w:World):Calls Tryz.prog 196 #[.int .i64 x,.int .i64 y] w fun e w'=>e = .returned (.int .i64 (aBW x y)) /\ w=w':=by
 have n1:=aIj x w;have n2:=aIj y w
 by_cases h1:x<y
 ·have hE:Hid (aBW x y = -1):=by unfold aBW;rw [Hid,if_pos h1]
  have t1:decide (x<y)=true:=decide_eq_true h1;clear h1
  go_enter Tryz.func196,Tryz.ntmps196
  go_wp2_with fail
  refine n1.mono ?_;rintro e w' ⟨rfl,rfl⟩
  go_wp2_with fail
  refine n2.mono ?_;rintro e w' ⟨rfl,rfl⟩
  go_wp2
  go_ret
  exact ⟨by rw [hE.out];rfl,rfl⟩
 ·by_cases h2:y<x
  ·have hE:Hid (aBW x y=1):=by unfold aBW;rw [Hid,if_neg h1,if_pos h2]
   have t1:decide (x<y)=false:=decide_eq_false h1;have t2:decide (y<x)=true:=decide_eq_true h2;clear h1 h2
   go_enter Tryz.func196,Tryz.ntmps196
   go_wp2_with fail
   refine n1.mono ?_;rintro e w' ⟨rfl,rfl⟩
   go_wp2_with fail
   refine n2.mono ?_;rintro e w' ⟨rfl,rfl⟩
   go_wp2
   go_ret
   exact ⟨by rw [hE.out];rfl,rfl⟩
  ·have hE:Hid (aBW x y=0):=by unfold aBW;rw [Hid,if_neg h1,if_neg h2]
   have t1:decide (x<y)=false:=decide_eq_false h1;have t2:decide (y<x)=false:=decide_eq_false h2;clear h1 h2
   go_enter Tryz.func196,Tryz.ntmps196
   go_wp2_with fail
   refine n1.mono ?_;rintro e w' ⟨rfl,rfl⟩
   go_wp2_with fail
   refine n2.mono ?_;rintro e w' ⟨rfl,rfl⟩
   go_wp2
   go_ret
   exact ⟨by rw [hE.out];rfl,rfl⟩
set_option maxHeartbeats 1000000 in
theorem aQm (x y:Int) (g:Nat) (w:World) (h0:w.cell? ⟨g,0,none⟩=some (.int .i64 x)) (h1:w.cell? ⟨g,1,none⟩=some (.int .i64 y)) :
  Calls Tryz.prog 63 #[.slice (some ⟨g,0,none⟩) 2 2] w fun e w'=>e = .returned (.int .i64 (orI x y)) /\ w=w':=by
 have H0:=Lib.hid h0;have H1:=Lib.hid h1;clear h0 h1
 go_enter Tryz.func63,Tryz.ntmps63
 go_wp2
 go_loop [8] (fun i=>∃ k:Nat,k<=2 /\ i = .int .i64 k /\ Hid (0<k->x=0) /\ Hid (1<k->y=0)) (fun i=>2-(intOf i).toNat)
 case atStart=>exact ⟨0,by omega,rfl,fun h=>by omega,fun h=>by omega⟩
 case round =>
  obtain ⟨k,hk,rfl,h1,h2⟩:=hrel;have hcase:k=0∨k=1∨k=2:=by omega
  rcases hcase with rfl | rfl | rfl
  ·have d0:=H0.out
   by_cases hz:x=0
   ·have hE:Hid (0<1->x=0):=fun _=>hz;subst hz
    go_wp2
    go_round
    case rel=>exact ⟨1,by omega,by go_num,fun _=>trivial,fun h=>by omega⟩
    case measure=>simp [intOf]
   ·have t1:(x != 0)=true:=by simpa using hz
    have hE:Hid (orI x y=x):=by unfold orI;rw [Hid,if_pos hz]
    clear hz
    go_wp2
    go_ret
    exact ⟨by rw [hE.out];rfl,rfl⟩
  ·have d1:=H1.out;have hx:=h1.out (by omega)
   by_cases hz:y=0
   ·have hE:Hid (1<2->y=0):=fun _=>hz;have hE1:Hid (0<2->x=0):=fun _=>hx;subst hz
    go_wp2
    go_round
    case rel=>exact ⟨2,by omega,by go_num,hE1,fun _=>trivial⟩
    case measure=>simp [intOf]
   ·have t1:(y != 0)=true:=by simpa using hz
    have hE:Hid (orI x y=y):=by unfold orI;rw [Hid,if_neg (by simpa using hx)]
    clear hz hx
    go_wp2
    go_ret
    exact ⟨by rw [hE.out];rfl,rfl⟩
  ·have hE:Hid (orI x y=0):=by
    have hx:=h1.out (by omega);have hy:=h2.out (by omega);unfold orI;rw [Hid,if_neg (by simpa using hx)];exact hy
   go_wp2
   go_ret
   exact ⟨by rw [hE.out];rfl,rfl⟩
def nb (w:World) (p:Nat) (b:Bx):Prop:=w.rangeAt p 0 (bxL b)
theorem nb.fr {w w':World}{p:Nat}{b:Bx}(h:nb w p b) {F:Nat->Prop}(hf:Fr F w w') (hp:¬ F p):nb w' p b:=fun j u hu=>hf.cell (h j u hu) hp
theorem nb.gw {w w':World}{p:Nat}{b:Bx}(h:nb w p b) (hg:Gw w w'):nb w' p b:=h.fr hg.fr id
theorem aHW {o:Oper}{w:World}{ρ:Operand->Value}{x y:Operand}{n0 n1:Int}(ho:o.op = .buildSlice 167 2 #[(0,x),(1,y)]) (h0:ρ x = .int .i64 n0) (h1:ρ y = .int .i64 n1):(execOp ρ o).run Tryz.prog w = .ok (.value (.slice (some ⟨w.heap.size,0,none⟩) 2 2)) (w.alloc (.cells #[.int .i64 n0,.int .i64 n1] 3)):=by
 simp [execOp,ho,h0,h1,go_sem]
set_option maxRecDepth 100000 in
set_option maxHeartbeats 4000000 in
theorem aMl {p q:Nat}{x y:Bx}{w:World}(hX:nb w p x) (hY:nb w q y) (hx:okB x) (hy:okB y):Calls Tryz.prog 195 #[.pointer (some ⟨p,0,none⟩),.pointer (some ⟨q,0,none⟩)] w fun e w'=>e = .returned (.int .i64 (cfA x y)) /\ Gw w w':=by
 obtain ⟨⟨⟨x1,x2⟩,x3,x4⟩,⟨⟨x5,x6⟩,x7,x8⟩,x9,x10⟩:=hx;obtain ⟨⟨⟨y1,y2⟩,y3,y4⟩,⟨⟨y5,y6⟩,y7,y8⟩,y9,y10⟩:=hy;refine aAR Tryz.func195 rfl rfl (n:=61) (by decide) fun a E=>s_ (r_ (ep (v := .int .i64 0) E rfl (a_ rfl rfl) fun a E=>n_ (t_ (s_ ?_))));obtain ⟨G,hG⟩:∃ G,w.heap.size=G:=⟨_,rfl⟩;refine aB9 (n:=61) (base:=[(1,.pointer (some ⟨q,0,none⟩)),(0,.pointer (some ⟨p,0,none⟩))]) (T:=[some (5,.pointer (some ⟨p,0,none⟩)),some (6,.pointer (some ⟨p,0,none⟩)),some (7,.pointer (some ⟨p,0,none⟩)),some (8,.pointer (some ⟨p,0,none⟩)),some (9,.pointer (some ⟨p,0,none⟩)),some (10,.int .i64 (x.1.1)),some (11,.pointer (some ⟨p,0,none⟩)),some (12,.pointer (some ⟨p,0,none⟩)),some (13,.pointer (some ⟨p,0,none⟩)),some (14,.pointer (some ⟨p,2,none⟩)),some (15,.pointer (some ⟨p,2,none⟩)),some (16,.int .i64 (x.2.1)),some (17,.int .i64 ((x.1.1)+(x.2.1))),some (18,.pointer (some ⟨q,0,none⟩)),some (19,.pointer (some ⟨q,0,none⟩)),some (20,.pointer (some ⟨q,0,none⟩)),some (21,.pointer (some ⟨q,0,none⟩)),some (22,.pointer (some ⟨q,0,none⟩)),some (23,.int .i64 (y.1.1)),some (24,.pointer (some ⟨q,0,none⟩)),some (25,.pointer (some ⟨q,0,none⟩)),some (26,.pointer (some ⟨q,0,none⟩)),some (27,.pointer (some ⟨q,2,none⟩)),some (28,.pointer (some ⟨q,2,none⟩)),some (29,.int .i64 (y.2.1)),some (30,.int .i64 ((y.1.1)+(y.2.1))),some (31,.int .i64 (aBW ((x.1.1)+(x.2.1)) ((y.1.1)+(y.2.1)))),some (32,.pointer (some ⟨p,0,none⟩)),some (33,.pointer (some ⟨p,0,none⟩)),some (34,.pointer (some ⟨p,0,none⟩)),some (35,.pointer (some ⟨p,0,none⟩)),some (36,.pointer (some ⟨p,1,none⟩)),some (37,.int .i64 (x.1.2)),some (38,.pointer (some ⟨p,0,none⟩)),some (39,.pointer (some ⟨p,0,none⟩)),some (40,.pointer (some ⟨p,0,none⟩)),some (41,.pointer (some ⟨p,2,none⟩)),some (42,.pointer (some ⟨p,3,none⟩)),some (43,.int .i64 (x.2.2)),some (44,.int .i64 ((x.1.2)+(x.2.2))),some (45,.pointer (some ⟨q,0,none⟩)),some (46,.pointer (some ⟨q,0,none⟩)),some (47,.pointer (some ⟨q,0,none⟩)),some (48,.pointer (some ⟨q,0,none⟩)),some (49,.pointer (some ⟨q,1,none⟩)),some (50,.int .i64 (y.1.2)),some (51,.pointer (some ⟨q,0,none⟩)),some (52,.pointer (some ⟨q,0,none⟩)),some (53,.pointer (some ⟨q,0,none⟩)),some (54,.pointer (some ⟨q,2,none⟩)),some (55,.pointer (some ⟨q,3,none⟩)),some (56,.int .i64 (y.2.2)),some (57,.int .i64 ((y.1.2)+(y.2.2))),some (58,.int .i64 (aBW ((x.1.2)+(x.2.2)) ((y.1.2)+(y.2.2)))),some (59,.slice (some ⟨G,0,none⟩) 2 2),some (60,.int .i64 (cfA x y)),some (4,.int .i64 (cfA x y))]) (M:=fun lst w'=>Gw w w' /\ (lst 54=false->w'.heap.size=G) /\ (lst 54=true->w'.heap[G]?=some (.cells #[.int .i64 (aBW ((x.1.1)+(x.2.1)) ((y.1.1)+(y.2.1))),.int .i64 (aBW ((x.1.2)+(x.2.2)) ((y.1.2)+(y.2.2)))] 3 (0,0)))) (by kernel_rfl) (by kernel_rfl) (by kernel_rfl) (E.of ⟨E.g2,E.g1,trivial⟩) ⟨(Gw.refl w).drew,fun _=>hG,fun h=>by cases h⟩ ?_ ?_
 ·intro i o tt lst a w2 ho hT0 hl E D DL hM
  match i,ho,hT0,hl,D,DL with
  | 0,ho,hT0,hl,D,DL=>exact y9_ ho hT0 (aAd (m_ rfl E.g1) rfl hM)
  | 1,ho,hT0,hl,D,DL=>exact y9_ ho hT0 (aAd (i_ rfl (D 0 _ rfl rfl)) rfl hM)
  | 2,ho,hT0,hl,D,DL=>exact y9_ ho hT0 (aAd (aB7 rfl (D 1 _ rfl rfl)) rfl hM)
  | 3,ho,hT0,hl,D,DL=>exact y9_ ho hT0 (aAd (aBr rfl (D 2 _ rfl rfl)) rfl hM)
  | 4,ho,hT0,hl,D,DL=>exact y9_ ho hT0 (aAd (aBh rfl (D 3 _ rfl rfl)) rfl hM)
  | 5,ho,hT0,hl,D,DL=>exact y9_ ho hT0 (aAd (aAn rfl (D 4 _ rfl rfl) ((nb.gw hX hM.1) 0 _ rfl)) rfl hM)
  | 6,ho,hT0,hl,D,DL=>exact y9_ ho hT0 (aAd (m_ rfl E.g1) rfl hM)
  | 7,ho,hT0,hl,D,DL=>exact y9_ ho hT0 (aAd (i_ rfl (D 6 _ rfl rfl)) rfl hM)
  | 8,ho,hT0,hl,D,DL=>exact y9_ ho hT0 (aAd (aB7 rfl (D 7 _ rfl rfl)) rfl hM)
  | 9,ho,hT0,hl,D,DL=>exact y9_ ho hT0 (aAd (aBq rfl (D 8 _ rfl rfl)) rfl hM)
  | 10,ho,hT0,hl,D,DL=>exact y9_ ho hT0 (aAd (aBh rfl (D 9 _ rfl rfl)) rfl hM)
  | 11,ho,hT0,hl,D,DL=>exact y9_ ho hT0 (aAd (aAn rfl (D 10 _ rfl rfl) ((nb.gw hX hM.1) 2 _ rfl)) rfl hM)
  | 12,ho,hT0,hl,D,DL=>exact y9_ ho hT0 (aAd (aAJ u3_ (D 5 _ rfl rfl) (D 11 _ rfl rfl) (by omega) (by omega) rfl) rfl hM)
  | 13,ho,hT0,hl,D,DL=>exact y9_ ho hT0 (aAd (m_ rfl E.g0) rfl hM)
  | 14,ho,hT0,hl,D,DL=>exact y9_ ho hT0 (aAd (i_ rfl (D 13 _ rfl rfl)) rfl hM)
  | 15,ho,hT0,hl,D,DL=>exact y9_ ho hT0 (aAd (aB7 rfl (D 14 _ rfl rfl)) rfl hM)
  | 16,ho,hT0,hl,D,DL=>exact y9_ ho hT0 (aAd (aBr rfl (D 15 _ rfl rfl)) rfl hM)
  | 17,ho,hT0,hl,D,DL=>exact y9_ ho hT0 (aAd (aBh rfl (D 16 _ rfl rfl)) rfl hM)
  | 18,ho,hT0,hl,D,DL=>exact y9_ ho hT0 (aAd (aAn rfl (D 17 _ rfl rfl) ((nb.gw hY hM.1) 0 _ rfl)) rfl hM)
  | 19,ho,hT0,hl,D,DL=>exact y9_ ho hT0 (aAd (m_ rfl E.g0) rfl hM)
  | 20,ho,hT0,hl,D,DL=>exact y9_ ho hT0 (aAd (i_ rfl (D 19 _ rfl rfl)) rfl hM)
  | 21,ho,hT0,hl,D,DL=>exact y9_ ho hT0 (aAd (aB7 rfl (D 20 _ rfl rfl)) rfl hM)
  | 22,ho,hT0,hl,D,DL=>exact y9_ ho hT0 (aAd (aBq rfl (D 21 _ rfl rfl)) rfl hM)
  | 23,ho,hT0,hl,D,DL=>exact y9_ ho hT0 (aAd (aBh rfl (D 22 _ rfl rfl)) rfl hM)
  | 24,ho,hT0,hl,D,DL=>exact y9_ ho hT0 (aAd (aAn rfl (D 23 _ rfl rfl) ((nb.gw hY hM.1) 2 _ rfl)) rfl hM)
  | 25,ho,hT0,hl,D,DL=>exact y9_ ho hT0 (aAd (aAJ u3_ (D 18 _ rfl rfl) (D 24 _ rfl rfl) (by omega) (by omega) rfl) rfl hM)
  | 26,ho,hT0,hl,D,DL=>exact y9_ ho hT0 (aE9 (F:=fun w'=>w2=w') (aA4 (enters_of Tryz.func196 (by kernel_rfl) rfl) rfl rfl (D 12 _ rfl rfl) (D 25 _ rfl rfl)) (aEl _ _ _) rfl fun w3 f=>by subst f;exact ⟨hM.1,hM.2.1,hM.2.2⟩)
  | 27,ho,hT0,hl,D,DL=>exact y9_ ho hT0 (aAd (m_ rfl E.g1) rfl hM)
  | 28,ho,hT0,hl,D,DL=>exact y9_ ho hT0 (aAd (i_ rfl (D 27 _ rfl rfl)) rfl hM)
  | 29,ho,hT0,hl,D,DL=>exact y9_ ho hT0 (aAd (aB7 rfl (D 28 _ rfl rfl)) rfl hM)
  | 30,ho,hT0,hl,D,DL=>exact y9_ ho hT0 (aAd (aBr rfl (D 29 _ rfl rfl)) rfl hM)
  | 31,ho,hT0,hl,D,DL=>exact y9_ ho hT0 (aAd (aAV rfl (D 30 _ rfl rfl)) rfl hM)
  | 32,ho,hT0,hl,D,DL=>exact y9_ ho hT0 (aAd (aAn rfl (D 31 _ rfl rfl) ((nb.gw hX hM.1) 1 _ rfl)) rfl hM)
  | 33,ho,hT0,hl,D,DL=>exact y9_ ho hT0 (aAd (m_ rfl E.g1) rfl hM)
  | 34,ho,hT0,hl,D,DL=>exact y9_ ho hT0 (aAd (i_ rfl (D 33 _ rfl rfl)) rfl hM)
  | 35,ho,hT0,hl,D,DL=>exact y9_ ho hT0 (aAd (aB7 rfl (D 34 _ rfl rfl)) rfl hM)
  | 36,ho,hT0,hl,D,DL=>exact y9_ ho hT0 (aAd (aBq rfl (D 35 _ rfl rfl)) rfl hM)
  | 37,ho,hT0,hl,D,DL=>exact y9_ ho hT0 (aAd (aAV rfl (D 36 _ rfl rfl)) rfl hM)
  | 38,ho,hT0,hl,D,DL=>exact y9_ ho hT0 (aAd (aAn rfl (D 37 _ rfl rfl) ((nb.gw hX hM.1) 3 _ rfl)) rfl hM)
  | 39,ho,hT0,hl,D,DL=>exact y9_ ho hT0 (aAd (aAJ u3_ (D 32 _ rfl rfl) (D 38 _ rfl rfl) (by omega) (by omega) rfl) rfl hM)
  | 40,ho,hT0,hl,D,DL=>exact y9_ ho hT0 (aAd (m_ rfl E.g0) rfl hM)
  | 41,ho,hT0,hl,D,DL=>exact y9_ ho hT0 (aAd (i_ rfl (D 40 _ rfl rfl)) rfl hM)
  | 42,ho,hT0,hl,D,DL=>exact y9_ ho hT0 (aAd (aB7 rfl (D 41 _ rfl rfl)) rfl hM)
  | 43,ho,hT0,hl,D,DL=>exact y9_ ho hT0 (aAd (aBr rfl (D 42 _ rfl rfl)) rfl hM)
  | 44,ho,hT0,hl,D,DL=>exact y9_ ho hT0 (aAd (aAV rfl (D 43 _ rfl rfl)) rfl hM)
  | 45,ho,hT0,hl,D,DL=>exact y9_ ho hT0 (aAd (aAn rfl (D 44 _ rfl rfl) ((nb.gw hY hM.1) 1 _ rfl)) rfl hM)
  | 46,ho,hT0,hl,D,DL=>exact y9_ ho hT0 (aAd (m_ rfl E.g0) rfl hM)
  | 47,ho,hT0,hl,D,DL=>exact y9_ ho hT0 (aAd (i_ rfl (D 46 _ rfl rfl)) rfl hM)
  | 48,ho,hT0,hl,D,DL=>exact y9_ ho hT0 (aAd (aB7 rfl (D 47 _ rfl rfl)) rfl hM)
  | 49,ho,hT0,hl,D,DL=>exact y9_ ho hT0 (aAd (aBq rfl (D 48 _ rfl rfl)) rfl hM)
  | 50,ho,hT0,hl,D,DL=>exact y9_ ho hT0 (aAd (aAV rfl (D 49 _ rfl rfl)) rfl hM)
  | 51,ho,hT0,hl,D,DL=>exact y9_ ho hT0 (aAd (aAn rfl (D 50 _ rfl rfl) ((nb.gw hY hM.1) 3 _ rfl)) rfl hM)
  | 52,ho,hT0,hl,D,DL=>exact y9_ ho hT0 (aAd (aAJ u3_ (D 45 _ rfl rfl) (D 51 _ rfl rfl) (by omega) (by omega) rfl) rfl hM)
  | 53,ho,hT0,hl,D,DL=>exact y9_ ho hT0 (aE9 (F:=fun w'=>w2=w') (aA4 (enters_of Tryz.func196 (by kernel_rfl) rfl) rfl rfl (D 39 _ rfl rfl) (D 52 _ rfl rfl)) (aEl _ _ _) rfl fun w3 f=>by subst f;exact ⟨hM.1,hM.2.1,hM.2.2⟩)
  | 54,ho,hT0,hl,D,DL=>exact y9_ ho hT0 (aSq ((aHW rfl (D 26 _ rfl rfl) (D 53 _ rfl rfl)).trans (by rw [hM.2.1 hl])) rfl ⟨hM.1.alloc _,fun h=>(by simp at h),fun _=>aC3 (hM.2.1 hl).symm _⟩)
  | 55,ho,hT0,hl,D,DL =>
   obtain rfl:=Gh_ ho;obtain rfl:=Gh_ hT0;clear ho hT0;have hd:=DL 54 rfl;have hb:=hM.2.2 hd;exact aE9 (F:=fun w'=>w2=w') (aBb (enters_of Tryz.func63 (by kernel_rfl) rfl) rfl rfl (D 54 _ rfl rfl)) (aQm (aBW ((x.1.1)+(x.2.1)) ((y.1.1)+(y.2.1))) (aBW ((x.1.2)+(x.2.2)) ((y.1.2)+(y.2.2))) G w2 (by rw [aAk hb];rfl) (by rw [aAk hb];rfl)) rfl fun w3 f=>by subst f;exact ⟨hM.1,hM.2.1,hM.2.2⟩
  | 56,ho,hT0,hl,D,DL=>exact y9_ ho hT0 (aAd (a_ rfl (D 55 _ rfl rfl)) rfl hM)
  | i+57,ho,hT0,hl,D,DL=>exact absurd hT0 (by simp)
 ·intro a w2 E V hM;refine t_ (wr_ (aAr (E:=⟨E.size,aUa.mem (L:=[]) trivial,E.df⟩) (t:=4) rfl (V 56 _ rfl) ⟨rfl,hM.1⟩))
set_option maxRecDepth 100000 in
set_option maxHeartbeats 4000000 in
theorem aMk {p q:Nat}{x y:Bx}{w:World}(hX:nb w p x) (hY:nb w q y) (hx:okB x) (hy:okB y):Calls Tryz.prog 198 #[.pointer (some ⟨p,0,none⟩),.pointer (some ⟨q,0,none⟩)] w fun e w'=>e = .returned (.int .i64 (cfB x y)) /\ Gw w w':=by
 obtain ⟨⟨⟨x1,x2⟩,x3,x4⟩,⟨⟨x5,x6⟩,x7,x8⟩,x9,x10⟩:=hx;obtain ⟨⟨⟨y1,y2⟩,y3,y4⟩,⟨⟨y5,y6⟩,y7,y8⟩,y9,y10⟩:=hy;refine aAR Tryz.func198 rfl rfl (n:=32) (by decide) fun a E=>s_ (r_ (ep (v := .int .i64 0) E rfl (a_ rfl rfl) fun a E=>n_ (t_ (s_ (aB9 (n:=32) (base:=[(1,.pointer (some ⟨q,0,none⟩)),(0,.pointer (some ⟨p,0,none⟩))]) (T:=[some (5,.pointer (some ⟨p,0,none⟩)),some (6,.pointer (some ⟨p,0,none⟩)),some (7,.pointer (some ⟨p,0,none⟩)),some (8,.pointer (some ⟨p,0,none⟩)),some (9,.pointer (some ⟨p,1,none⟩)),some (10,.int .i64 (x.1.2)),some (11,.pointer (some ⟨p,0,none⟩)),some (12,.pointer (some ⟨p,0,none⟩)),some (13,.pointer (some ⟨p,0,none⟩)),some (14,.pointer (some ⟨p,2,none⟩)),some (15,.pointer (some ⟨p,3,none⟩)),some (16,.int .i64 (x.2.2)),some (17,.int .i64 ((x.1.2)+(x.2.2))),some (18,.pointer (some ⟨q,0,none⟩)),some (19,.pointer (some ⟨q,0,none⟩)),some (20,.pointer (some ⟨q,0,none⟩)),some (21,.pointer (some ⟨q,0,none⟩)),some (22,.pointer (some ⟨q,1,none⟩)),some (23,.int .i64 (y.1.2)),some (24,.pointer (some ⟨q,0,none⟩)),some (25,.pointer (some ⟨q,0,none⟩)),some (26,.pointer (some ⟨q,0,none⟩)),some (27,.pointer (some ⟨q,2,none⟩)),some (28,.pointer (some ⟨q,3,none⟩)),some (29,.int .i64 (y.2.2)),some (30,.int .i64 ((y.1.2)+(y.2.2))),some (31,.int .i64 (aBW ((x.1.2)+(x.2.2)) ((y.1.2)+(y.2.2)))),some (4,.int .i64 (aBW ((x.1.2)+(x.2.2)) ((y.1.2)+(y.2.2))))]) (M:=fun _ w'=>Gw w w' /\ True) (by kernel_rfl) (by kernel_rfl) (by kernel_rfl) (E.of ⟨E.g2,E.g1,trivial⟩) ⟨(Gw.refl w).drew,trivial⟩ ?_ ?_)))))
 ·intro i o tt lst a w2 ho hT0 hl E D DL hM
  match i,ho,hT0,hl,D,DL with
  | 0,ho,hT0,hl,D,DL=>exact y9_ ho hT0 (aAd (m_ rfl E.g1) rfl hM)
  | 1,ho,hT0,hl,D,DL=>exact y9_ ho hT0 (aAd (i_ rfl (D 0 _ rfl rfl)) rfl hM)
  | 2,ho,hT0,hl,D,DL=>exact y9_ ho hT0 (aAd (aB7 rfl (D 1 _ rfl rfl)) rfl hM)
  | 3,ho,hT0,hl,D,DL=>exact y9_ ho hT0 (aAd (aBr rfl (D 2 _ rfl rfl)) rfl hM)
  | 4,ho,hT0,hl,D,DL=>exact y9_ ho hT0 (aAd (aAV rfl (D 3 _ rfl rfl)) rfl hM)
  | 5,ho,hT0,hl,D,DL=>exact y9_ ho hT0 (aAd (aAn rfl (D 4 _ rfl rfl) ((nb.gw hX hM.1) 1 _ rfl)) rfl hM)
  | 6,ho,hT0,hl,D,DL=>exact y9_ ho hT0 (aAd (m_ rfl E.g1) rfl hM)
  | 7,ho,hT0,hl,D,DL=>exact y9_ ho hT0 (aAd (i_ rfl (D 6 _ rfl rfl)) rfl hM)
  | 8,ho,hT0,hl,D,DL=>exact y9_ ho hT0 (aAd (aB7 rfl (D 7 _ rfl rfl)) rfl hM)
  | 9,ho,hT0,hl,D,DL=>exact y9_ ho hT0 (aAd (aBq rfl (D 8 _ rfl rfl)) rfl hM)
  | 10,ho,hT0,hl,D,DL=>exact y9_ ho hT0 (aAd (aAV rfl (D 9 _ rfl rfl)) rfl hM)
  | 11,ho,hT0,hl,D,DL=>exact y9_ ho hT0 (aAd (aAn rfl (D 10 _ rfl rfl) ((nb.gw hX hM.1) 3 _ rfl)) rfl hM)
  | 12,ho,hT0,hl,D,DL=>exact y9_ ho hT0 (aAd (aAJ u3_ (D 5 _ rfl rfl) (D 11 _ rfl rfl) (by omega) (by omega) rfl) rfl hM)
  | 13,ho,hT0,hl,D,DL=>exact y9_ ho hT0 (aAd (m_ rfl E.g0) rfl hM)
  | 14,ho,hT0,hl,D,DL=>exact y9_ ho hT0 (aAd (i_ rfl (D 13 _ rfl rfl)) rfl hM)
  | 15,ho,hT0,hl,D,DL=>exact y9_ ho hT0 (aAd (aB7 rfl (D 14 _ rfl rfl)) rfl hM)
  | 16,ho,hT0,hl,D,DL=>exact y9_ ho hT0 (aAd (aBr rfl (D 15 _ rfl rfl)) rfl hM)
  | 17,ho,hT0,hl,D,DL=>exact y9_ ho hT0 (aAd (aAV rfl (D 16 _ rfl rfl)) rfl hM)
  | 18,ho,hT0,hl,D,DL=>exact y9_ ho hT0 (aAd (aAn rfl (D 17 _ rfl rfl) ((nb.gw hY hM.1) 1 _ rfl)) rfl hM)
  | 19,ho,hT0,hl,D,DL=>exact y9_ ho hT0 (aAd (m_ rfl E.g0) rfl hM)
  | 20,ho,hT0,hl,D,DL=>exact y9_ ho hT0 (aAd (i_ rfl (D 19 _ rfl rfl)) rfl hM)
  | 21,ho,hT0,hl,D,DL=>exact y9_ ho hT0 (aAd (aB7 rfl (D 20 _ rfl rfl)) rfl hM)
  | 22,ho,hT0,hl,D,DL=>exact y9_ ho hT0 (aAd (aBq rfl (D 21 _ rfl rfl)) rfl hM)
  | 23,ho,hT0,hl,D,DL=>exact y9_ ho hT0 (aAd (aAV rfl (D 22 _ rfl rfl)) rfl hM)
  | 24,ho,hT0,hl,D,DL=>exact y9_ ho hT0 (aAd (aAn rfl (D 23 _ rfl rfl) ((nb.gw hY hM.1) 3 _ rfl)) rfl hM)
  | 25,ho,hT0,hl,D,DL=>exact y9_ ho hT0 (aAd (aAJ u3_ (D 18 _ rfl rfl) (D 24 _ rfl rfl) (by omega) (by omega) rfl) rfl hM)
  | 26,ho,hT0,hl,D,DL=>exact y9_ ho hT0 (aE9 (F:=fun w'=>w2=w') (aA4 (enters_of Tryz.func196 (by kernel_rfl) rfl) rfl rfl (D 12 _ rfl rfl) (D 25 _ rfl rfl)) (aEl _ _ _) rfl fun w3 f=>by subst f;exact ⟨hM.1,trivial⟩)
  | 27,ho,hT0,hl,D,DL=>exact y9_ ho hT0 (aAd (a_ rfl (D 26 _ rfl rfl)) rfl hM)
  | i+28,ho,hT0,hl,D,DL=>exact absurd hT0 (by simp)
 ·intro a w2 E V hM;refine t_ (wr_ (aAr (E:=⟨E.size,aUa.mem (L:=[]) trivial,E.df⟩) (t:=4) rfl (V 27 _ rfl) ⟨rfl,hM.1⟩))
theorem aCs {x y:Int}(h1 : -4194304<=x) (h2:x<=4194304) (h3 : -4194304<=y) (h4:y<=4194304) : -17592186044416<=x*y /\ x*y<=17592186044416:=by
  have key:∀ {a b:Int},0<=a->a<=4194304->0<=b->b<=4194304->0<=a*b /\ a*b<=17592186044416:=fun {a b} h1 h2 h3 h4=>by
    have:=Int.mul_le_mul h2 h4 h3 (by omega);exact ⟨Int.mul_nonneg h1 h3,by omega⟩
  rcases Int.le_total 0 x with hx | hx<;>rcases Int.le_total 0 y with hy | hy
  · have:=key hx h2 hy h4;omega
  · have:=key hx h2 (b := -y) (by omega) (by omega);rw [Int.mul_neg] at this;omega
  · have:=key (a := -x) (by omega) (by omega) hy h4;rw [Int.neg_mul] at this;omega
  · have:=key (a := -x) (b := -y) (by omega) (by omega) (by omega) (by omega);rw [Int.neg_mul_neg] at this;omega
theorem aGA (x y:Int) (w:World):Calls Tryz.prog 196 #[vI x,vI y] w fun e w'=>e = .returned (vI (aBW x y)) /\ Fr nF_ w w':=(aEl x y w).mono fun e w' ⟨h1,h2⟩=>⟨h1,by rw [←h2];exact Fr.refl _ _⟩
def aBz (a b c:Pt):Int:=(b.1-a.1)*(c.2-a.2)-(b.2-a.2)*(c.1-a.1)
def orP (a b c:Pt):Int:=bif [a,b,c].all aA0 then aBW (aBz a b c) 0 else 0
def aCe:List (Int×Int)->Int
  | []=>0
  | p::l=>bif !(aBW p.1 p.2==0) then aBW p.1 p.2 else aCe l
def aCc (a b:Pt):Int:=aCe [(a.1,b.1),(a.2,b.2)]
theorem aD7 {w:World}{x y u v:Int}(hx : -4194304<=x /\ x<=4194304) (hy : -4194304<=y /\ y<=4194304) (hu : -4194304<=u /\ u<=4194304) (hv : -4194304<=v /\ v<=4194304):Calls Tryz.prog 158 #[.agg #[vI x,vI y],.agg #[vI u,vI v]] w fun e w'=>e = .returned (vI (x*u+y*v)) /\ Fr nF_ w w':=by
  have b1:=aCs hx.1 hx.2 hu.1 hu.2;have b2:=aCs hy.1 hy.2 hv.1 hv.2;refine beg Tryz.func158 rfl rfl [(0,.agg #[vI x,vI y]),(1,.agg #[vI u,vI v])] rfl rfl fun Z hZ=>?_;have hM:=Mm.nil nF_ w;refine aAu 0 0 2 [] (cs:=#[vI x,vI y]) (T:=240) (v:=fun b=>vP b 0) f0 hM fun aa w1 hM=>aAu 0 1 3 [] (cs:=#[vI u,vI v]) (T:=240) (v:=fun b=>vP b 0) f0 hM fun ab w1 hM=>rt1 4 (vI ((x*u)+(y*v))) rfl (fc (ldm 3 0 0 hM rfl rfl) (fc (ldm 3 1 0 hM rfl rfl) (fc (aHN x u u3_) (fc (ldm 3 0 1 hM rfl rfl) (fc (ldm 3 1 1 hM rfl rfl) (fc (aHN y v u3_) (fc (aAI (x*u) (y*v) u3_) f0))))))) (hZ _ _ ⟨rfl,hM.fr⟩)
theorem aFS {w:World}{x y u v:Int}(hx : -4194304<=x /\ x<=4194304) (hy : -4194304<=y /\ y<=4194304) (hu : -4194304<=u /\ u<=4194304) (hv : -4194304<=v /\ v<=4194304):Calls Tryz.prog 160 #[.agg #[vI x,vI y],.agg #[vI u,vI v]] w fun e w'=>e = .returned (vI (x*v-y*u)) /\ Fr nF_ w w':=by
  have b1:=aCs hx.1 hx.2 hv.1 hv.2;have b2:=aCs hy.1 hy.2 hu.1 hu.2;refine beg Tryz.func160 rfl rfl [(0,.agg #[vI x,vI y]),(1,.agg #[vI u,vI v])] rfl rfl fun Z hZ=>?_;have hM:=Mm.nil nF_ w;refine aAu 0 0 2 [] (cs:=#[vI x,vI y]) (T:=240) (v:=fun b=>vP b 0) f0 hM fun aa w1 hM=>aAu 0 1 3 [] (cs:=#[vI u,vI v]) (T:=240) (v:=fun b=>vP b 0) f0 hM fun ab w1 hM=>rt1 4 (vI ((x*v)-(y*u))) rfl (fc (ldm 3 0 0 hM rfl rfl) (fc (ldm 3 1 1 hM rfl rfl) (fc (aHN x v u3_) (fc (ldm 3 0 1 hM rfl rfl) (fc (ldm 3 1 0 hM rfl rfl) (fc (aHN y u u3_) (fc (aGb (x*v) (y*u) u3_) f0))))))) (hZ _ _ ⟨rfl,hM.fr⟩)
theorem aBf (a b c:Pt) (w:World):Calls Tryz.prog 155 #[.agg #[vI a.1,vI a.2],.agg #[vI b.1,vI b.2],.agg #[vI c.1,vI c.2]] w fun e w'=>e = .returned (vI (orP a b c)) /\ Fr nF_ w w':=by
  refine beg Tryz.func155 rfl rfl [(0,.agg #[vI a.1,vI a.2]),(1,.agg #[vI b.1,vI b.2]),(2,.agg #[vI c.1,vI c.2])] rfl rfl fun Z hZ=>?_;have hM:=Mm.nil nF_ w;refine aAu 0 0 3 [] (cs:=#[vI a.1,vI a.2]) (T:=29) (v:=fun b=>vP b 0) f0 hM fun ac w1 hM=>aAu 0 1 4 [] (cs:=#[vI b.1,vI b.2]) (T:=29) (v:=fun b=>vP b 0) f0 hM fun ad w1 hM=>aAu 0 2 5 [] (cs:=#[vI c.1,vI c.2]) (T:=29) (v:=fun b=>vP b 0) f0 hM fun ae w1 hM=>aAu 1 3 11 [(8,.agg #[vI a.1,vI a.2]),(9,.agg #[vI b.1,vI b.2]),(10,.agg #[vI c.1,vI c.2])] (cs:=#[vI a.1,vI a.2,vI b.1,vI b.2,vI c.1,vI c.2]) (T:=29) (v:=fun b=>vL (some ⟨b,0,none⟩) 3 3) (fc (lam 29 0 0 2 hM rfl) (fc (lam 29 1 0 2 hM rfl) (fc (lam 29 2 0 2 hM rfl) f0))) hM fun ab w1 hM=>aAx 1 4 12 [] f0 hM (aCF (L:=[a,b,c]) (aBH (f:=ptL) (c:=2) (b:=ab) (hM.get 3 rfl) [a,b,c] 3 (fun _=>rfl) rfl rfl)) fun w1 hM=>seg 1 6 [(13,vB (!([a,b,c].all aA0)))] f0 ?_;cases aa:([a,b,c].all aA0)
  ·exact rt1 6 (vI 0) rfl f0 (hZ _ _ ⟨by unfold orP;rw [aa];rfl,hM.fr⟩)
  have ha:aA0 a=true:=List.all_eq_true.1 aa a (.head _);have ba:=aBa ha;have hb:aA0 b=true:=List.all_eq_true.1 aa b (.tail _ (.head _));have bb:=aBa hb;have hc:aA0 c=true:=List.all_eq_true.1 aa c (.tail _ (.tail _ (.head _)));have bc:=aBa hc;refine aAx 3 2 16 [(14,.agg #[vI a.1,vI a.2]),(15,.agg #[vI b.1,vI b.2])] (fc (lam 29 0 0 2 hM rfl) (fc (lam 29 1 0 2 hM rfl) f0)) hM (aDX ha hb _) fun w1 hM=>aAx 4 3 21 [(18,.func (.func 160) #[.agg #[vI (b.1-a.1),vI (b.2-a.2)]] #[]),(19,.agg #[vI a.1,vI a.2]),(20,.agg #[vI c.1,vI c.2])] (fc (lam 29 0 0 2 hM rfl) (fc (lam 29 2 0 2 hM rfl) f0)) hM (aDX ha hc _) fun w1 hM=>aAx 4 4 22 [] f0 hM (aFS (x:=(b.1-a.1)) (y:=(b.2-a.2)) (u:=(c.1-a.1)) (v:=(c.2-a.2)) ⟨by omega,by omega⟩ ⟨by omega,by omega⟩ ⟨by omega,by omega⟩ ⟨by omega,by omega⟩) fun w1 hM=>aAx 4 5 23 [] f0 hM (aGA (aBz a b c) 0 _) fun w1 hM=>rt1 6 (vI (aBW (aBz a b c) 0)) rfl f0 (hZ _ _ ⟨by unfold orP;rw [aa];rfl,hM.fr⟩)
abbrev aX3 (Z:Ending->World->Prop):=AtO Tryz.prog (aAw Tryz.f242) (aAL (bodyPost Tryz.prog Tryz.f242 Z)) [] 21
theorem aJ8 {w:World}{p:Option Addr}{cap:Nat}{L:List (Int×Int)}(hs:SrcP ptL 2 w p cap L):Calls Tryz.prog 242 #[vL p L.length cap] w fun e w'=>e = .returned (vI (aCe L)) /\ Fr nF_ w w':=by
  have bb:=hs.bnd;refine beg Tryz.func242 rfl rfl [(0,vL p L.length cap)] rfl rfl fun Z hZ=>?_;have hM:=Mm.nil nF_ w;refine seg 2 0 [(6,vL p L.length cap),(7,vI (L.length:Int)),(8,vI 0)] f0 ?_
  have ae:∀ (aa:Nat) (i:Nat) (w2:World),i<=L.length->aCe L=aCe (L.drop i)->Mm nF_ w w2 []->aa=L.length-i->aX3 Z (some (2,0)) [(8,vI (i:Int)),(7,vI (L.length:Int)),(6,vL p L.length cap)] w2:=by
   refine aCx fun aa af i w2 hi hr hM aj=>seg 2 1 [(9,vB (decide ((i:Int)<(L.length:Int))))] f0 ?_;cases ab:(decide ((i:Int)<(L.length:Int)))
   ·have ag:=df ab;exact rt1 2 (vI 0) rfl f0 (hZ _ _ ⟨by rw [hr,List.drop_of_length_le (by omega)];rfl,hM.fr⟩)
   have ag:=dt ab;obtain ⟨y,hy,ak,al,ah,ai⟩:=hs.el (i:=i) (by omega);refine aBY 3 2 4 [(11,.agg #[vI y.1,vI y.2])] [] 341 (.agg #[vI y.1,vI y.2]) (fc (ix 378 cap ah (gl hy)) (fc (la0 341 hM ai) f0)) hM fun ac w1 hM=>aAx 4 4 16 [(13,vI y.1),(15,vI y.2)] (fc (aLU 341 2 .i64 ac 0 0 (by decide)) (fc (ldm 3 0 0 hM rfl rfl) (fc (aLU 341 2 .i64 ac 0 1 (by decide)) (fc (ldm 3 0 1 hM rfl rfl) f0)))) hM (aGA y.1 y.2 _) fun w1 hM=>seg 5 2 [(5,vI (aBW y.1 y.2)),(18,vB (!((aBW y.1 y.2)==0)))] f0 ?_;cases ad:((aBW y.1 y.2)==0)
   ·exact rt1 2 (vI (aBW y.1 y.2)) rfl f0 (hZ _ _ ⟨by rw [hr,gd hy,aCe,ad];rfl,hM.fr⟩)
   refine seg 2 0 [(8,vI ((i:Int)+1))] (fc (aAI (i:Int) 1 u3_) f0) (aAh _ (af _ (by have:=gl hy;omega) (i+1) _ (gl hy) (by rw [hr,gd hy,aCe,ad];rfl) (hM.pick []) rfl))
  exact aAh _ (ae _ 0 _ (Gg_ _) rfl hM rfl)
theorem aBn (a b:Pt) (w:World):Calls Tryz.prog 212 #[.agg #[vI a.1,vI a.2],.agg #[vI b.1,vI b.2]] w fun e w'=>e = .returned (vI (aCc a b)) /\ Fr nF_ w w':=by
  refine beg Tryz.func212 rfl rfl [(0,.agg #[vI a.1,vI a.2]),(1,.agg #[vI b.1,vI b.2])] rfl rfl fun Z hZ=>?_;have hM:=Mm.nil nF_ w;refine aAu 0 0 2 [] (cs:=#[vI a.1,vI a.2]) (T:=29) (v:=fun b=>vP b 0) f0 hM fun ab w1 hM=>aAu 0 1 3 [] (cs:=#[vI b.1,vI b.2]) (T:=29) (v:=fun b=>vP b 0) f0 hM fun ac w1 hM=>aAu 1 10 15 [(9,.agg #[vI a.1,vI b.1]),(14,.agg #[vI a.2,vI b.2])] (cs:=#[vI a.1,vI b.1,vI a.2,vI b.2]) (T:=341) (v:=fun b=>vL (some ⟨b,0,none⟩) 2 2) (fc (ldm 3 0 0 hM rfl rfl) (fc (ldm 3 1 0 hM rfl rfl) (fc (ldm 3 0 1 hM rfl rfl) (fc (ldm 3 1 1 hM rfl rfl) f0)))) hM fun aa w1 hM=>aAx 1 11 16 [] f0 hM (aJ8 (L:=[(a.1,b.1),(a.2,b.2)]) (aBH (f:=ptL) (c:=2) (b:=aa) (hM.get 2 rfl) [(a.1,b.1),(a.2,b.2)] 2 (fun _=>rfl) rfl rfl)) fun w1 hM=>rt1 4 (vI (aCc a b)) rfl f0 (hZ _ _ ⟨rfl,hM.fr⟩)
def aBm (a b:Pt):Bool:=(a.1==b.1)&&(a.2==b.2)
def aFN (s t:Pt×Pt):Bool:=aBm s.1 t.1&&aBm s.2 t.2
theorem aQy (a b c d:Int) (w:World):(Go.binOp .neq 29 (.agg #[vI a,vI b]) (.agg #[vI c,vI d])).run Tryz.prog w = .ok (.bool (!((a==c)&&(b==d)))) w:=by
  have u3:=u3_;have hS:Tryz.prog.underlying 29=some (.struct (Tryz.prog.fieldsOf 29)):=by kernel_rfl
  have hp:Tryz.prog.stoodInHeld 29=false:=by kernel_rfl
  rw [run_neq_struct,show (10000:Nat)=9999+1 from rfl,run_equalIn_agg w 9999 29 _ _ hS hp];simp only [Program.fieldsOf,u29_]
  go_simp
  by_cases h1:a=c<;>by_cases h2:b=d<;>simp [h1,h2]
theorem aY4 (a b c d:Int) {w:World}:Ft.ok Tryz.prog w (.g2 (fun x y => .binOp .neq 29 x y 29) (.agg #[vI a,vI b]) (.agg #[vI c,vI d]) (vB (!((a==c)&&(b==d))))):=fun o ρ x y ho hx hy=>by
  have hm:Tryz.prog.eqGuardType Tryz.prog.depth 29=false:=by kernel_rfl
  simp only [execOp,ho,hx,hy,Sem.run_bind,run_eqGuard_agg w _ 29 _ _ _ _ hm,Result.andThen_ok,aQy,Sem.run_pure]
theorem aRT (d:Nat) (p q:Pt) (w:World):(Op.equalIn (d+2) 29 (.agg #[vI p.1,vI p.2]) (.agg #[vI q.1,vI q.2])).run Tryz.prog w = .ok (decide (p=q)) w:=by
  have u3:=u3_;have hS:Tryz.prog.underlying 29=some (.struct (Tryz.prog.fieldsOf 29)):=by kernel_rfl
  have hp:Tryz.prog.stoodInHeld 29=false:=by kernel_rfl
  rw [run_equalIn_agg w (d+1) 29 _ _ hS hp];simp only [Program.fieldsOf,u29_]
  go_simp
  obtain ⟨a,b⟩:=p;obtain ⟨c,d⟩:=q
  by_cases h1:a=c<;>by_cases h2:b=d<;>simp [h1,h2]
theorem aV5 (d:Nat) (p q:Pt×Pt) (w:World):(Op.equalIn (d+3) 126 (.agg #[vI p.1.1,vI p.1.2,vI p.2.1,vI p.2.2]) (.agg #[vI q.1.1,vI q.1.2,vI q.2.1,vI q.2.2])).run Tryz.prog w = .ok (decide (p=q)) w:=by
  have hS:Tryz.prog.underlying 126=some (.struct (Tryz.prog.fieldsOf 126)):=by kernel_rfl
  have hp:Tryz.prog.stoodInHeld 126=false:=by kernel_rfl
  have a32:=Tryz.isAgg29;have z32:=Tryz.sizeOf29;rw [run_equalIn_agg w (d+2) 126 _ _ hS hp];simp only [Program.fieldsOf,Tryz.underlying126,Op.eqFields,Go.part,Sem.run_bind,a32,z32,Result.andThen_ok];have h1:=aRT d p.1 q.1 w;have h2:=aRT d p.2 q.2 w;obtain ⟨p1,p2⟩:=p;obtain ⟨q1,q2⟩:=q;simp only at h1 h2;have e1:∀ u v:Pt,(#[vI u.1,vI u.2,vI v.1,vI v.2]:Array Value).extract 0 (0+2)=#[vI u.1,vI u.2]:=fun _ _=>rfl;have e2:∀ u v:Pt,(#[vI u.1,vI u.2,vI v.1,vI v.2]:Array Value).extract 2 (2+2)=#[vI v.1,vI v.2]:=fun _ _=>rfl;have n1:("A" ≠ "_")=True:=by decide
  have n2:("B" ≠ "_")=True:=by decide
  simp only [n1,n2,if_true,Sem.run_bind,a32,z32,Result.andThen_ok,Sem.run_pure,e1,e2,h1]
  by_cases k1:p1=q1
  · simp only [k1,decide_true,Bool.not_true,Bool.false_eq_true,if_false,Sem.run_bind,a32,z32,Result.andThen_ok,if_true,Sem.run_pure,e2,h2]
    by_cases k2:p2=q2<;>simp [k2]
  · simp [k1]
theorem aOu (p q:Pt×Pt):decide (p=q)=aFN p q:=by
  obtain ⟨⟨a,b⟩,c,d⟩:=p;obtain ⟨⟨x,y⟩,u,v⟩:=q;unfold aFN aBm
  by_cases h1:a=x<;>by_cases h2:b=y<;>by_cases h3:c=u<;>by_cases h4:d=v<;>simp [h1,h2,h3,h4]
theorem aQR (s t:Pt×Pt) (w:World):(Go.binOp .eql 126 (.agg #[vI s.1.1,vI s.1.2,vI s.2.1,vI s.2.2]) (.agg #[vI t.1.1,vI t.1.2,vI t.2.1,vI t.2.2])).run Tryz.prog w = .ok (.bool (aFN s t)) w:=by
  rw [run_eql_struct,show (10000:Nat)=9997+3 from rfl,aV5,aOu];rfl
theorem aZf (s t:Pt×Pt) {w:World}:Ft.ok Tryz.prog w (.g2 (fun x y => .binOp .eql 126 x y 126) (.agg #[vI s.1.1,vI s.1.2,vI s.2.1,vI s.2.2]) (.agg #[vI t.1.1,vI t.1.2,vI t.2.1,vI t.2.2]) (vB (aFN s t))):=fun o ρ x y ho hx hy=>by
  have hm:Tryz.prog.eqGuardType Tryz.prog.depth 126=false:=by kernel_rfl
  simp only [execOp,ho,hx,hy,Sem.run_bind,run_eqGuard_agg w _ 126 _ _ _ _ hm,Result.andThen_ok,aQR,Sem.run_pure]
def aAg (s:Pt×Pt):Pt×Pt:=bif decide (0<aCc s.1 s.2) then (s.2,s.1) else s
def onS (s:Pt×Pt) (p:Pt):Bool:=(orP s.1 s.2 p==0)&&decide (aCc s.1 p<=0)&&decide (aCc p s.2<=0)&&(!(aBm s.1 s.2)||aBm p s.1)
def onP (s:Pt×Pt) (p:Pt):Bool:=[s.1,s.2,p].all aA0&&onS (aAg s) p
def aQ3 (s t:Pt×Pt):Pt:=bif decide (0<aCc t.1 s.1) then t.1 else s.1
def aHw (s t:Pt×Pt):Pt:=bif decide (aCc t.2 s.2<0) then t.2 else s.2
def aMv (s t:Pt×Pt):Int :=
  bif aBm s.1 s.2 then bif !(onP t s.1) then 0 else bif aBm s.1 t.1||aBm s.1 t.2 then 1 else 2
  else bif aCc (aQ3 s t) (aHw s t) == -1 then 5 else bif aCc (aQ3 s t) (aHw s t)==0 then 1 else 0
def aQq (s t:Pt×Pt):Int:=bif aBm t.1 t.2 then aMv t s else aMv s t
def aE2 (s t:Pt×Pt):Int :=
  bif aFN s t then 4
  else bif aBm s.1 s.2||aBm t.1 t.2||((orP s.1 s.2 t.1==0)&&(orP s.1 s.2 t.2==0)) then aQq s t
  else bif decide (0<orP s.1 s.2 t.1*orP s.1 s.2 t.2)||decide (0<orP t.1 t.2 s.1*orP t.1 t.2 s.2) then 0
  else bif decide (orP s.1 s.2 t.1*orP s.1 s.2 t.2<0)&&decide (orP t.1 t.2 s.1*orP t.1 t.2 s.2<0) then 3
  else bif (orP s.1 s.2 t.1*orP s.1 s.2 t.2==0)&&(orP t.1 t.2 s.1*orP t.1 t.2 s.2==0) then 1 else 2
def aB3 (s t:Pt×Pt):Int:=bif !([s.1,s.2,t.1,t.2].all aA0) then 0 else aE2 (aAg s) (aAg t)
theorem aRb (x y:Int) : -1<=aBW x y /\ aBW x y<=1:=by unfold aBW;split<;>first | omega | (split<;>omega)
theorem aNz (a b c:Pt) : -1<=orP a b c /\ orP a b c<=1:=by
  unfold orP
  cases [a,b,c].all aA0 with
  | true=>exact aRb _ _
  | false=>simp
theorem aN0 (a b c d e f:Pt) : -17592186044416<=orP a b c*orP d e f /\ orP a b c*orP d e f<=17592186044416:=by
  have h1:=aNz a b c;have h2:=aNz d e f;exact aCs (by omega) (by omega) (by omega) (by omega)
theorem aCM (s:Pt×Pt) (w:World):Calls Tryz.prog 154 #[.agg #[vI s.1.1,vI s.1.2,vI s.2.1,vI s.2.2]] w fun e w'=>e = .returned (vA (sgL (aAg s))) /\ Fr nF_ w w':=by
  refine beg Tryz.func154 rfl rfl [(0,.agg #[vI s.1.1,vI s.1.2,vI s.2.1,vI s.2.2])] rfl rfl fun Z hZ=>?_;have hM:=Mm.nil nF_ w;refine aAu 0 0 1 [] (cs:=#[vI s.1.1,vI s.1.2,vI s.2.1,vI s.2.2]) (T:=126) (v:=fun b=>vP b 0) f0 hM fun aa w1 hM=>aAu 0 1 2 [] (cs:=#[vI 0,vI 0,vI 0,vI 0]) (T:=126) (v:=fun b=>vP b 0) f0 hM fun ab w1 hM=>aAx 1 4 7 [(4,.agg #[vI s.1.1,vI s.1.2]),(6,.agg #[vI s.2.1,vI s.2.2])] (fc (lam 29 0 0 2 hM rfl) (fc (lam 29 0 2 2 hM rfl) f0)) hM (aBn s.1 s.2 _) fun w1 hM=>seg 1 6 [(8,vB (decide (0<(aCc s.1 s.2))))] f0 ?_;cases h94:(decide (0<(aCc s.1 s.2)))
  ·refine stm 3 1 [(15,.agg #[vI s.1.1,vI s.1.2,vI s.2.1,vI s.2.2])] 126 1 0 (.agg #[vI s.1.1,vI s.1.2,vI s.2.1,vI s.2.2]) (fc (lam 126 0 0 4 hM rfl) f0) hM rfl fun w1 hM=>?_;have hl9:=aBT 126 1 (P:=Tryz.prog) (n:=4) hM rfl rfl;exact aWH 2 126 (vA (sgL (aAg s))) rfl (by unfold aAg;rw [h94];exact hl9) f0 (hZ _ _ ⟨rfl,hM.fr⟩)
  refine stm 2 5 [(10,.agg #[vI s.2.1,vI s.2.2]),(12,.agg #[vI s.1.1,vI s.1.2]),(13,vP aa 0)] 29 0 0 (.agg #[vI s.2.1,vI s.2.2]) (fc (lam 29 0 2 2 hM rfl) (fc (lam 29 0 0 2 hM rfl) f0)) hM rfl fun w1 hM=>stm 2 7 [(14,vP aa 2)] 29 0 2 (.agg #[vI s.1.1,vI s.1.2]) f0 hM rfl fun w1 hM=>stm 3 1 [(15,.agg #[vI s.2.1,vI s.2.2,vI s.1.1,vI s.1.2])] 126 1 0 (.agg #[vI s.2.1,vI s.2.2,vI s.1.1,vI s.1.2]) (fc (lam 126 0 0 4 hM rfl) f0) hM rfl fun w1 hM=>?_;have hl9:=aBT 126 1 (P:=Tryz.prog) (n:=4) hM rfl rfl;exact aWH 2 126 (vA (sgL (aAg s))) rfl (by unfold aAg;rw [h94];exact hl9) f0 (hZ _ _ ⟨rfl,hM.fr⟩)
theorem aJt (s:Pt×Pt) (p:Pt) (w:World):Calls Tryz.prog 213 #[.agg #[vI s.1.1,vI s.1.2,vI s.2.1,vI s.2.2],.agg #[vI p.1,vI p.2]] w fun e w'=>e = .returned (vB (onP s p)) /\ Fr nF_ w w':=by
  refine beg Tryz.func213 rfl rfl [(0,.agg #[vI s.1.1,vI s.1.2,vI s.2.1,vI s.2.2]),(1,.agg #[vI p.1,vI p.2])] rfl rfl fun Z hZ=>?_;have hM:=Mm.nil nF_ w;refine aAu 0 0 2 [] (cs:=#[vI s.1.1,vI s.1.2,vI s.2.1,vI s.2.2]) (T:=126) (v:=fun b=>vP b 0) f0 hM fun ae w1 hM=>aAu 0 1 3 [] (cs:=#[vI p.1,vI p.2]) (T:=29) (v:=fun b=>vP b 0) f0 hM fun af w1 hM=>aAu 1 5 10 [(6,.agg #[vI s.1.1,vI s.1.2]),(8,.agg #[vI s.2.1,vI s.2.2]),(9,.agg #[vI p.1,vI p.2])] (cs:=#[vI s.1.1,vI s.1.2,vI s.2.1,vI s.2.2,vI p.1,vI p.2]) (T:=29) (v:=fun b=>vL (some ⟨b,0,none⟩) 3 3) (fc (lam 29 0 0 2 hM rfl) (fc (lam 29 0 2 2 hM rfl) (fc (lam 29 1 0 2 hM rfl) f0))) hM fun ad w1 hM=>aAx 1 6 11 [] f0 hM (aCF (L:=[s.1,s.2,p]) (aBH (f:=ptL) (c:=2) (b:=ad) (hM.get 2 rfl) [s.1,s.2,p] 3 (fun _=>rfl) rfl rfl)) fun w1 hM=>seg 1 8 [(12,vB (!([s.1,s.2,p].all aA0)))] f0 ?_;cases h98:([s.1,s.2,p].all aA0)
  ·exact rt1 4 (vB false) rfl f0 (hZ _ _ ⟨by unfold onP onS;simp only [h98]<;>rfl,hM.fr⟩)
  refine aAx 3 1 14 [(13,.agg #[vI s.1.1,vI s.1.2,vI s.2.1,vI s.2.2])] (fc (lam 126 0 0 4 hM rfl) f0) hM (aCM s _) fun w1 hM=>stm 3 2 [] 126 0 0 (.agg #[vI (aAg s).1.1,vI (aAg s).1.2,vI (aAg s).2.1,vI (aAg s).2.2]) f0 hM rfl fun w1 hM=>aAx 4 5 20 [(16,.agg #[vI (aAg s).1.1,vI (aAg s).1.2]),(18,.agg #[vI (aAg s).2.1,vI (aAg s).2.2]),(19,.agg #[vI p.1,vI p.2])] (fc (lam 29 0 0 2 hM rfl) (fc (lam 29 0 2 2 hM rfl) (fc (lam 29 1 0 2 hM rfl) f0))) hM (aBf (aAg s).1 (aAg s).2 p _) fun w1 hM=>seg 4 8 [(22,vB ((orP (aAg s).1 (aAg s).2 p)==0))] f0 ?_;cases h99:((orP (aAg s).1 (aAg s).2 p)==0)
  ·exact rt1 4 (vB false) rfl f0 (hZ _ _ ⟨by unfold onP onS;simp only [h98,h99]<;>rfl,hM.fr⟩)
  refine aAx 4 11 26 [(24,.agg #[vI (aAg s).1.1,vI (aAg s).1.2]),(25,.agg #[vI p.1,vI p.2])] (fc (lam 29 0 0 2 hM rfl) (fc (lam 29 1 0 2 hM rfl) f0)) hM (aBn (aAg s).1 p _) fun w1 hM=>seg 4 15 [(29,vB (decide ((aCc (aAg s).1 p)<=0)))] f0 ?_;cases aa:(decide ((aCc (aAg s).1 p)<=0))
  ·exact rt1 4 (vB false) rfl f0 (hZ _ _ ⟨by unfold onP onS;simp only [h98,h99,aa]<;>rfl,hM.fr⟩)
  refine aAx 4 18 33 [(30,.agg #[vI p.1,vI p.2]),(32,.agg #[vI (aAg s).2.1,vI (aAg s).2.2])] (fc (lam 29 1 0 2 hM rfl) (fc (lam 29 0 2 2 hM rfl) f0)) hM (aBn p (aAg s).2 _) fun w1 hM=>seg 4 22 [(36,vB (decide ((aCc p (aAg s).2)<=0)))] f0 ?_;cases ab:(decide ((aCc p (aAg s).2)<=0))
  ·exact rt1 4 (vB false) rfl f0 (hZ _ _ ⟨by unfold onP onS;simp only [h98,h99,aa,ab]<;>rfl,hM.fr⟩)
  refine seg 4 28 [(42,vB (!(aBm (aAg s).1 (aAg s).2)))] (fc (lam 29 0 0 2 hM rfl) (fc (lam 29 0 2 2 hM rfl) (fc (aY4 (aAg s).1.1 (aAg s).1.2 (aAg s).2.1 (aAg s).2.2) f0))) ?_;cases ac:(aBm (aAg s).1 (aAg s).2)
  ·exact rt1 4 (vB true) rfl f0 (hZ _ _ ⟨by unfold onP onS;simp only [h98,h99,aa,ab,ac]<;>rfl,hM.fr⟩)
  exact rt1 4 (vB (aBm p (aAg s).1)) rfl (fc (lam 29 1 0 2 hM rfl) (fc (lam 29 0 0 2 hM rfl) (fc (aRS p.1 p.2 (aAg s).1.1 (aAg s).1.2) f0))) (hZ _ _ ⟨by unfold onP onS;simp only [h98,h99,aa,ab,ac]<;>rfl,hM.fr⟩)
end Go.Proofs.YtngjlnhojicjeaaGreatDoor
namespace Go.Pl
open Go.RowKit Go.Proofs.YtngjlnhojicjeaaGreatDoor
section
variable {P:Program}{w w0:World}{rd:Option Nat}{B:Code}{r n:Nat}{L:Frm}{ef:List Nat}{V:Lts->List (Option Value)}{F:Lts->List Ft}{ds:List Deferred}{F0:Nat->Prop}{Mf:Lts->List Bool->List Ent}
end
section
variable {P:Program}{w w0:World}{rd:Option Nat}{B:Code}{r n:Nat}{L:Frm}{ef:List Nat}{V:Lts->List (Option Value)}{F:Lts->List Ft}{ds:List Deferred}{F0:Nat->Prop}{Mf:Lts->List Bool->List Ent}
theorem aSh (p i:Nat) (T:TypeId) (j k m d:Nat) (b:Lts->Nat) (cs:Lts->List Bool->Array Value) (T0:TypeId) (us:Lts->List Value)
  (hj:∀ γ fr,(Mf γ (flg B r ef i fr))[j]?=some (bk (b γ) (cs γ (flg B r ef i fr)) T0):=by intro γ fr;kernel_rfl) (hv:∀ γ fr,((cs γ (flg B r ef i fr)).toList.drop k).take m=us γ:=by intro γ fr;kernel_rfl)
  (hm:∀ γ fr,Mf γ (flg B r ef i fr)=Mf (aBN γ p undef) ((flg B r ef i fr).set p true):=by intro γ fr;kernel_rfl)
  (hV:∀ γ,((V (aBN γ p undef))[p]?).getD none=some (vA (us γ)):=by intro γ;rfl) (hT:∀ γ,agT P T (us γ).length=true:=by intro γ;kernel_rfl)
  (hs:∀ γ,aUB (aA5 B r) i (frX P w n B r L ef V F i γ)=aUA (aA5 B r) i (.load T) (vP (b γ) k) (some d):=by intro γ;kernel_rfl):Arm rd P w n B r L ef V F ds F0 w0 Mf p i:=by
 intro γ fr a wm Q o ho E hw hM;obtain ⟨x,h1,h2,h3⟩:=aMI ho E (hs γ)
 have hl:=aF0 (P:=P) (w:=wm) (T:=T) (g:=b γ) (off:=k) (l:=us γ) (hT γ) (fun e u hu=>by
  rw [←hv γ fr] at hu;rw [aAk (hM.get j (hj γ fr))];have hi:=(List.getElem?_eq_some_iff.1 hu).1;rw [Gp_] at hi;rw [List.getElem?_take_of_lt (by omega),List.getElem?_drop,Array.getElem?_toList] at hu;exact hu)
 rw [hm] at hM;refine aDy (v:=vA (us γ)) (w':=wm) ?_ ⟨undef,γ.e p,by rw [aAy,hV,h3];rfl,by rw [aAy];exact hM⟩;simp only [execOp,h1,h2,Sem.run_bind,hl,Result.andThen_ok,Sem.run_pure]
end
end Go.Pl
namespace Go.Proofs.YtngjlnhojicjeaaGreatDoor
open Go.RowKit Go.Pl
abbrev aUb (Z:Ending->World->Prop):=AtO Tryz.prog (aAw Tryz.f156) (aAL (bodyPost Tryz.prog Tryz.f156 Z)) [] 63
theorem bs_:(∀ (α:Type) (a b:α),cond true a b=a)/\(∀ (α:Type) (a b:α),cond false a b=b)/\(∀ b,(b||false)=b)/\(∀ b,(false||b)=b)/\(∀ b,(b||true)=true)/\(∀ b,(true||b)=true)/\(!true)=false/\(!false)=true/\(∀ b,(b&&true)=b)/\(∀ b,(b&&false)=false)/\(∀ b,(false&&b)=false)/\(∀ b,(true&&b)=b):=⟨fun _ _ _=>rfl,fun _ _ _=>rfl,Bool.or_false,Bool.false_or,Bool.or_true,Bool.true_or,rfl,rfl,Bool.and_true,Bool.and_false,Bool.false_and,Bool.true_and⟩
theorem aDm (s t:Pt×Pt) (w:World):Calls Tryz.prog 156 #[.agg #[vI s.1.1,vI s.1.2,vI s.2.1,vI s.2.2],.agg #[vI t.1.1,vI t.1.2,vI t.2.1,vI t.2.2]] w fun e w'=>e = .returned (vI (aQq s t)) /\ Fr nF_ w w':=by
  refine beg Tryz.func156 rfl rfl [(0,.agg #[vI s.1.1,vI s.1.2,vI s.2.1,vI s.2.2]),(1,.agg #[vI t.1.1,vI t.1.2,vI t.2.1,vI t.2.2])] rfl rfl fun Y hY=>?_;have hM:=Mm.nil nF_ w;refine aAu 0 0 2 [] (cs:=#[vI s.1.1,vI s.1.2,vI s.2.1,vI s.2.2]) (T:=126) (v:=fun b=>vP b 0) f0 hM fun ad w1 hM=>aAu 0 1 3 [] (cs:=#[vI t.1.1,vI t.1.2,vI t.2.1,vI t.2.2]) (T:=126) (v:=fun b=>vP b 0) f0 hM fun ac w1 hM=>seg 1 0 [] f0 ?_
  have cu105:∀ (s1 t1:Pt×Pt) (w2:World),aQq s t=aMv s1 t1->Mm nF_ w w2 [bk ad #[vI s1.1.1,vI s1.1.2,vI s1.2.1,vI s1.2.2] 126,bk ac #[vI t1.1.1,vI t1.1.2,vI t1.2.1,vI t1.2.2] 126]->aUb Y (some (3,0)) [(3,vP ac 0),(2,vP ad 0)] w2:=by
   intro s1 t1 w2 h0 hM;refine seg 3 5 [(18,vB (aBm s1.1 s1.2))] (fc (lam 29 0 0 2 hM rfl) (fc (lam 29 0 2 2 hM rfl) (fc (aRS s1.1.1 s1.1.2 s1.2.1 s1.2.2) f0))) ?_;cases aa:(aBm s1.1 s1.2)
   rotate_left
   ·refine aAx 4 3 23 [(20,.agg #[vI t1.1.1,vI t1.1.2,vI t1.2.1,vI t1.2.2]),(22,.agg #[vI s1.1.1,vI s1.1.2])] (fc (lam 126 1 0 4 hM rfl) (fc (lam 29 0 0 2 hM rfl) f0)) hM (aJt t1 s1.1 _) fun w1 hM=>seg 4 6 [(19,vB (!(onP t1 s1.1)))] f0 ?_;cases ae:(onP t1 s1.1)
    ·exact rt1 4 (vI 0) rfl f0 (hY _ _ ⟨by rw [h0];unfold aMv;simp only [aa,ae,bs_]<;>rfl,hM.fr⟩)
    refine seg 6 6 [(31,vB (aBm s1.1 t1.1))] (fc (lam 29 0 0 2 hM rfl) (fc (lam 29 1 0 2 hM rfl) (fc (aRS s1.1.1 s1.1.2 t1.1.1 t1.1.2) f0))) ?_;cases af:(aBm s1.1 t1.1)
    rotate_left
    ·exact rt1 4 (vI 1) rfl f0 (hY _ _ ⟨by rw [h0];unfold aMv;simp only [aa,ae,af,bs_]<;>rfl,hM.fr⟩)
    refine seg 6 13 [(25,vB (aBm s1.1 t1.2))] (fc (lam 29 0 0 2 hM rfl) (fc (lam 29 1 2 2 hM rfl) (fc (aRS s1.1.1 s1.1.2 t1.2.1 t1.2.2) f0))) ?_;cases ah:(aBm s1.1 t1.2)
    ·exact rt1 4 (vI 2) rfl f0 (hY _ _ ⟨by rw [h0];unfold aMv;simp only [aa,ae,af,ah,bs_]<;>rfl,hM.fr⟩)
    exact rt1 4 (vI 1) rfl f0 (hY _ _ ⟨by rw [h0];unfold aMv;simp only [aa,ae,af,ah,bs_]<;>rfl,hM.fr⟩)
   refine seg 9 0 [] f0 ?_;have hM:=hM.nl;have hM:=hM.nl;refine drx [4,5,6,7] (fun Z=>[some (vP (bn (Z 0)) 0),some (vP (bn (Z 1)) 0),none,none]) _ (fun Z l=>[bk ad #[vI s1.1.1,vI s1.1.2,vI s1.2.1,vI s1.2.2] 126,bk ac #[vI t1.1.1,vI t1.1.2,vI t1.2.1,vI t1.2.2] 126,(bif l.getD 2 false then bk (bn (Z 0)) #[vI s1.1.1,vI s1.1.2] 29 else (bif l.getD 0 false then bk (bn (Z 0)) #[vI 0,vI 0] 29 else aEK)),(bif l.getD 3 false then bk (bn (Z 1)) #[vI s1.2.1,vI s1.2.2] 29 else (bif l.getD 1 false then bk (bn (Z 1)) #[vI 0,vI 0] 29 else aEK))]) (fun Z=>[(5,vP (bn (Z 0)) 0),(6,vP (bn (Z 1)) 0)]) hM (fun Z=>rfl) (fun Z l w5 hM=>(fc (lam 29 0 0 2 hM rfl) (fc (lam 29 0 2 2 hM rfl) f0))) ⟨aDx 0 4 2 5 (fun Z=>#[vI 0,vI 0]) 29 (fun b=>vP b 0),aDx 1 5 3 6 (fun Z=>#[vI 0,vI 0]) 29 (fun b=>vP b 0),aCz 2 6 29 2 0 (fun Z=>(bn (Z 0))) (fun Z l=>#[vI 0,vI 0]) 29 (fun Z => .agg #[vI s1.1.1,vI s1.1.2]),aCz 3 7 29 3 0 (fun Z=>(bn (Z 1))) (fun Z l=>#[vI 0,vI 0]) 29 (fun Z => .agg #[vI s1.2.1,vI s1.2.2]),trivial⟩ fun ab w1 hM=>?_;replace hM:Mm nF_ w w1 [bk ad #[vI s1.1.1,vI s1.1.2,vI s1.2.1,vI s1.2.2] 126,bk ac #[vI t1.1.1,vI t1.1.2,vI t1.2.1,vI t1.2.2] 126,bk (bn (ab 0)) #[vI s1.1.1,vI s1.1.2] 29,bk (bn (ab 1)) #[vI s1.2.1,vI s1.2.2] 29]:=hM
   have cu108:∀ (lo:Pt) (w2:World),aQ3 s1 t1=lo->Mm nF_ w w2 [bk ad #[vI s1.1.1,vI s1.1.2,vI s1.2.1,vI s1.2.2] 126,bk ac #[vI t1.1.1,vI t1.1.2,vI t1.2.1,vI t1.2.2] 126,bk (bn (ab 0)) #[vI lo.1,vI lo.2] 29,bk (bn (ab 1)) #[vI s1.2.1,vI s1.2.2] 29]->aUb Y (some (12,0)) [(6,vP (bn (ab 1)) 0),(5,vP (bn (ab 0)) 0),(3,vP ac 0)] w2:=by
    intro lo w2 hlo hM
    have cu109:∀ (hi:Pt) (w2:World),aHw s1 t1=hi->Mm nF_ w w2 [bk ad #[vI s1.1.1,vI s1.1.2,vI s1.2.1,vI s1.2.2] 126,bk ac #[vI t1.1.1,vI t1.1.2,vI t1.2.1,vI t1.2.2] 126,bk (bn (ab 0)) #[vI lo.1,vI lo.2] 29,bk (bn (ab 1)) #[vI hi.1,vI hi.2] 29]->aUb Y (some (14,0)) [(6,vP (bn (ab 1)) 0),(5,vP (bn (ab 0)) 0)] w2:=by
     intro hi w2 hhi hM;refine aAx 14 2 58 [(56,.agg #[vI lo.1,vI lo.2]),(57,.agg #[vI hi.1,vI hi.2])] (fc (lam 29 2 0 2 hM rfl) (fc (lam 29 3 0 2 hM rfl) f0)) hM (aBn lo hi _) fun w1 hM=>seg 15 2 [(59,vB ((aCc lo hi)==(-1)))] f0 ?_;cases ag:((aCc lo hi)==(-1))
     rotate_left
     ·exact rt1 4 (vI 5) rfl f0 (hY _ _ ⟨by rw [h0];unfold aMv;simp only [hlo,hhi,aa,ag,bs_]<;>rfl,hM.fr⟩)
     refine seg 17 2 [(61,vB ((aCc lo hi)==0))] f0 ?_;cases ai:((aCc lo hi)==0)
     ·exact rt1 4 (vI 0) rfl f0 (hY _ _ ⟨by rw [h0];unfold aMv;simp only [hlo,hhi,aa,ag,ai,bs_]<;>rfl,hM.fr⟩)
     exact rt1 4 (vI 1) rfl f0 (hY _ _ ⟨by rw [h0];unfold aMv;simp only [hlo,hhi,aa,ag,ai,bs_]<;>rfl,hM.fr⟩)
    refine aAx 12 3 52 [(50,.agg #[vI t1.2.1,vI t1.2.2]),(51,.agg #[vI s1.2.1,vI s1.2.2])] (fc (lam 29 1 2 2 hM rfl) (fc (lam 29 3 0 2 hM rfl) f0)) hM (aBn t1.2 s1.2 _) fun w1 hM=>seg 12 5 [(53,vB (decide ((aCc t1.2 s1.2)<0)))] f0 ?_;cases aj:(decide ((aCc t1.2 s1.2)<0))
    ·refine seg 14 0 [] f0 (aAh _ (cu109 s1.2 _ (by unfold aHw;simp only [aa,aj]<;>rfl) hM))
    refine stm 13 2 [(55,.agg #[vI t1.2.1,vI t1.2.2])] 29 3 0 (.agg #[vI t1.2.1,vI t1.2.2]) (fc (lam 29 1 2 2 hM rfl) f0) hM rfl fun w1 hM=>seg 14 0 [] f0 (aAh _ (cu109 t1.2 _ (by unfold aHw;simp only [aa,aj]<;>rfl) hM))
   refine aAx 10 3 45 [(43,.agg #[vI t1.1.1,vI t1.1.2]),(44,.agg #[vI s1.1.1,vI s1.1.2])] (fc (lam 29 1 0 2 hM rfl) (fc (lam 29 2 0 2 hM rfl) f0)) hM (aBn t1.1 s1.1 _) fun w1 hM=>seg 10 5 [(46,vB (decide (0<(aCc t1.1 s1.1))))] f0 ?_;cases ak:(decide (0<(aCc t1.1 s1.1)))
   ·refine seg 12 0 [] f0 (aAh _ (cu108 s1.1 _ (by unfold aQ3;simp only [aa,ak]<;>rfl) hM))
   refine stm 11 2 [(48,.agg #[vI t1.1.1,vI t1.1.2])] 29 2 0 (.agg #[vI t1.1.1,vI t1.1.2]) (fc (lam 29 1 0 2 hM rfl) f0) hM rfl fun w1 hM=>seg 12 0 [] f0 (aAh _ (cu108 t1.1 _ (by unfold aQ3;simp only [aa,ak]<;>rfl) hM))
  refine seg 1 5 [(11,vB (aBm t.1 t.2))] (fc (lam 29 1 0 2 hM rfl) (fc (lam 29 1 2 2 hM rfl) (fc (aRS t.1.1 t.1.2 t.2.1 t.2.2) f0))) ?_;cases al:(aBm t.1 t.2)
  ·refine seg 3 0 [] f0 (aAh _ (cu105 s t _ (by unfold aQq;simp only [al]<;>rfl) hM))
  refine stm 2 2 [(12,.agg #[vI t.1.1,vI t.1.2,vI t.2.1,vI t.2.2]),(13,.agg #[vI s.1.1,vI s.1.2,vI s.2.1,vI s.2.2])] 126 0 0 (.agg #[vI t.1.1,vI t.1.2,vI t.2.1,vI t.2.2]) (fc (lam 126 1 0 4 hM rfl) (fc (lam 126 0 0 4 hM rfl) f0)) hM rfl fun w1 hM=>stm 2 3 [] 126 1 0 (.agg #[vI s.1.1,vI s.1.2,vI s.2.1,vI s.2.2]) f0 hM rfl fun w1 hM=>seg 3 0 [] f0 (aAh _ (cu105 t s _ (by unfold aQq;simp only [al]<;>rfl) hM))
abbrev aWa (Z:Ending->World->Prop):=AtO Tryz.prog (aAw Tryz.f112) (aAL (bodyPost Tryz.prog Tryz.f112 Z)) [] 125
theorem aFG (s t:Pt×Pt) (w:World):Calls Tryz.prog 112 #[.agg #[vI s.1.1,vI s.1.2,vI s.2.1,vI s.2.2],.agg #[vI t.1.1,vI t.1.2,vI t.2.1,vI t.2.2]] w fun e w'=>e = .returned (vI (aB3 s t)) /\ Fr nF_ w w':=by
  refine beg Tryz.func112 rfl rfl [(0,.agg #[vI s.1.1,vI s.1.2,vI s.2.1,vI s.2.2]),(1,.agg #[vI t.1.1,vI t.1.2,vI t.2.1,vI t.2.2])] rfl rfl fun Y hY=>?_;have hM:=Mm.nil nF_ w;refine aAu 0 0 2 [] (cs:=#[vI s.1.1,vI s.1.2,vI s.2.1,vI s.2.2]) (T:=126) (v:=fun b=>vP b 0) f0 hM fun ae w1 hM=>aAu 0 1 3 [] (cs:=#[vI t.1.1,vI t.1.2,vI t.2.1,vI t.2.2]) (T:=126) (v:=fun b=>vP b 0) f0 hM fun af w1 hM=>aAu 1 8 17 [(10,.agg #[vI s.1.1,vI s.1.2]),(12,.agg #[vI s.2.1,vI s.2.2]),(14,.agg #[vI t.1.1,vI t.1.2]),(16,.agg #[vI t.2.1,vI t.2.2])] (cs:=#[vI s.1.1,vI s.1.2,vI s.2.1,vI s.2.2,vI t.1.1,vI t.1.2,vI t.2.1,vI t.2.2]) (T:=29) (v:=fun b=>vL (some ⟨b,0,none⟩) 4 4) (fc (lam 29 0 0 2 hM rfl) (fc (lam 29 0 2 2 hM rfl) (fc (lam 29 1 0 2 hM rfl) (fc (lam 29 1 2 2 hM rfl) f0)))) hM fun ag w1 hM=>aAx 1 9 18 [] f0 hM (aCF (L:=[s.1,s.2,t.1,t.2]) (aBH (f:=ptL) (c:=2) (b:=ag) (hM.get 2 rfl) [s.1,s.2,t.1,t.2] 4 (fun _=>rfl) rfl rfl)) fun w1 hM=>seg 1 11 [(19,vB (!([s.1,s.2,t.1,t.2].all aA0)))] f0 ?_;cases aa:([s.1,s.2,t.1,t.2].all aA0)
  ·exact rt1 4 (vI 0) rfl f0 (hY _ _ ⟨by unfold aB3 aE2;simp only [aa,bs_]<;>rfl,hM.fr⟩)
  refine seg 3 0 [] f0 (drx [0,1,2,3,4,5] (fun Z=>[some (.agg #[vI s.1.1,vI s.1.2,vI s.2.1,vI s.2.2]),some (.agg #[vI (aAg s).1.1,vI (aAg s).1.2,vI (aAg s).2.1,vI (aAg s).2.2]),some (.agg #[vI t.1.1,vI t.1.2,vI t.2.1,vI t.2.2]),some (.agg #[vI (aAg t).1.1,vI (aAg t).1.2,vI (aAg t).2.1,vI (aAg t).2.2]),none,none]) _ (fun Z l=>[bk ae #[(bif l.getD 4 false then vI (aAg s).1.1 else vI s.1.1),(bif l.getD 4 false then vI (aAg s).1.2 else vI s.1.2),(bif l.getD 4 false then vI (aAg s).2.1 else vI s.2.1),(bif l.getD 4 false then vI (aAg s).2.2 else vI s.2.2)] 126,bk af #[(bif l.getD 5 false then vI (aAg t).1.1 else vI t.1.1),(bif l.getD 5 false then vI (aAg t).1.2 else vI t.1.2),(bif l.getD 5 false then vI (aAg t).2.1 else vI t.2.1),(bif l.getD 5 false then vI (aAg t).2.2 else vI t.2.2)] 126,bk ag #[vI s.1.1,vI s.1.2,vI s.2.1,vI s.2.2,vI t.1.1,vI t.1.2,vI t.2.1,vI t.2.2] 29]) (fun Z=>[]) hM (fun Z=>rfl) (fun Z l w5 hM=>f0) ⟨aSh 0 0 126 0 0 4 20 (fun Z=>ae) (fun Z l=>#[(bif l.getD 4 false then vI (aAg s).1.1 else vI s.1.1),(bif l.getD 4 false then vI (aAg s).1.2 else vI s.1.2),(bif l.getD 4 false then vI (aAg s).2.1 else vI s.2.1),(bif l.getD 4 false then vI (aAg s).2.2 else vI s.2.2)]) 126 (fun Z=>[vI s.1.1,vI s.1.2,vI s.2.1,vI s.2.2]),aAH 1 1 21 (f:=154) (fun Z=>#[.agg #[vI s.1.1,vI s.1.2,vI s.2.1,vI s.2.2]]) (.agg #[vI (aAg s).1.1,vI (aAg s).1.2,vI (aAg s).2.1,vI (aAg s).2.2]) (fun Z fr wm hM=>(aCM s _)),aSh 2 2 126 1 0 4 22 (fun Z=>af) (fun Z l=>#[(bif l.getD 5 false then vI (aAg t).1.1 else vI t.1.1),(bif l.getD 5 false then vI (aAg t).1.2 else vI t.1.2),(bif l.getD 5 false then vI (aAg t).2.1 else vI t.2.1),(bif l.getD 5 false then vI (aAg t).2.2 else vI t.2.2)]) 126 (fun Z=>[vI t.1.1,vI t.1.2,vI t.2.1,vI t.2.2]),aAH 3 3 23 (f:=154) (fun Z=>#[.agg #[vI t.1.1,vI t.1.2,vI t.2.1,vI t.2.2]]) (.agg #[vI (aAg t).1.1,vI (aAg t).1.2,vI (aAg t).2.1,vI (aAg t).2.2]) (fun Z fr wm hM=>(aCM t _)),aCz 4 4 126 0 0 (fun Z=>ae) (fun Z l=>#[(bif l.getD 4 false then vI (aAg s).1.1 else vI s.1.1),(bif l.getD 4 false then vI (aAg s).1.2 else vI s.1.2),(bif l.getD 4 false then vI (aAg s).2.1 else vI s.2.1),(bif l.getD 4 false then vI (aAg s).2.2 else vI s.2.2)]) 126 (fun Z => .agg #[vI (aAg s).1.1,vI (aAg s).1.2,vI (aAg s).2.1,vI (aAg s).2.2]),aCz 5 5 126 1 0 (fun Z=>af) (fun Z l=>#[(bif l.getD 5 false then vI (aAg t).1.1 else vI t.1.1),(bif l.getD 5 false then vI (aAg t).1.2 else vI t.1.2),(bif l.getD 5 false then vI (aAg t).2.1 else vI t.2.1),(bif l.getD 5 false then vI (aAg t).2.2 else vI t.2.2)]) 126 (fun Z => .agg #[vI (aAg t).1.1,vI (aAg t).1.2,vI (aAg t).2.1,vI (aAg t).2.2]),trivial⟩ fun ar w1 hM=>?_);replace hM:Mm nF_ w w1 [bk ae #[vI (aAg s).1.1,vI (aAg s).1.2,vI (aAg s).2.1,vI (aAg s).2.2] 126,bk af #[vI (aAg t).1.1,vI (aAg t).1.2,vI (aAg t).2.1,vI (aAg t).2.2] 126,bk ag #[vI s.1.1,vI s.1.2,vI s.2.1,vI s.2.2,vI t.1.1,vI t.1.2,vI t.2.1,vI t.2.2] 29]:=hM
  have cu123:∀ (w2:World),aFN (aAg s) (aAg t)=false->(aBm (aAg s).1 (aAg s).2||aBm (aAg t).1 (aAg t).2||((orP (aAg s).1 (aAg s).2 (aAg t).1==0)&&(orP (aAg s).1 (aAg s).2 (aAg t).2==0)))=false->Mm nF_ w w2 [bk ae #[vI (aAg s).1.1,vI (aAg s).1.2,vI (aAg s).2.1,vI (aAg s).2.2] 126,bk af #[vI (aAg t).1.1,vI (aAg t).1.2,vI (aAg t).2.1,vI (aAg t).2.2] 126,bk ag #[vI s.1.1,vI s.1.2,vI s.2.1,vI s.2.2,vI t.1.1,vI t.1.2,vI t.2.1,vI t.2.2] 29]->aWa Y (some (8,0)) [(3,vP af 0),(2,vP ae 0)] w2:=by
   intro w2 hc0 hc1 hM;refine drc [(5,vI (orP (aAg s).1 (aAg s).2 (aAg t).1)),(6,vI (orP (aAg s).1 (aAg s).2 (aAg t).2))] hM (fun w5 hM=>(fc (lam 29 0 0 2 hM rfl) (fc (lam 29 0 2 2 hM rfl) (fc (lam 29 1 0 2 hM rfl) (fc (tcl (aBf (aAg s).1 (aAg s).2 (aAg t).1 _)) (fc (lam 29 0 0 2 hM rfl) (fc (lam 29 0 2 2 hM rfl) (fc (lam 29 1 2 2 hM rfl) (fc (tcl (aBf (aAg s).1 (aAg s).2 (aAg t).2 _)) f0))))))))) fun w5 hM=>seg 9 0 [] f0 (drc [(7,vI (orP (aAg t).1 (aAg t).2 (aAg s).1)),(8,vI (orP (aAg t).1 (aAg t).2 (aAg s).2))] hM (fun w5 hM=>(fc (lam 29 1 0 2 hM rfl) (fc (lam 29 1 2 2 hM rfl) (fc (lam 29 0 0 2 hM rfl) (fc (tcl (aBf (aAg t).1 (aAg t).2 (aAg s).1 _)) (fc (lam 29 1 0 2 hM rfl) (fc (lam 29 1 2 2 hM rfl) (fc (lam 29 0 2 2 hM rfl) (fc (tcl (aBf (aAg t).1 (aAg t).2 (aAg s).2 _)) f0))))))))) fun w5 hM=>?_);have m1:=aN0 (aAg s).1 (aAg s).2 (aAg t).1 (aAg s).1 (aAg s).2 (aAg t).2;have m2:=aN0 (aAg t).1 (aAg t).2 (aAg s).1 (aAg t).1 (aAg t).2 (aAg s).2;refine seg 10 5 [(97,vB (decide (0<((orP (aAg s).1 (aAg s).2 (aAg t).1)*(orP (aAg s).1 (aAg s).2 (aAg t).2)))))] (fc (aHN (orP (aAg s).1 (aAg s).2 (aAg t).1) (orP (aAg s).1 (aAg s).2 (aAg t).2) u3_) f0) ?_;cases ab:(decide (0<((orP (aAg s).1 (aAg s).2 (aAg t).1)*(orP (aAg s).1 (aAg s).2 (aAg t).2))))
   rotate_left
   ·have ap:=dt ab;exact rt1 4 (vI 0) rfl f0 (hY _ _ ⟨by unfold aB3 aE2;simp only [hc0,hc1,aa,ab,bs_]<;>rfl,hM.fr⟩)
   have ap:=df ab;refine seg 10 11 [(92,vB (decide (0<((orP (aAg t).1 (aAg t).2 (aAg s).1)*(orP (aAg t).1 (aAg t).2 (aAg s).2)))))] (fc (aHN (orP (aAg t).1 (aAg t).2 (aAg s).1) (orP (aAg t).1 (aAg t).2 (aAg s).2) u3_) f0) ?_;cases ac:(decide (0<((orP (aAg t).1 (aAg t).2 (aAg s).1)*(orP (aAg t).1 (aAg t).2 (aAg s).2))))
   rotate_left
   ·have aq:=dt ac;exact rt1 4 (vI 0) rfl f0 (hY _ _ ⟨by unfold aB3 aE2;simp only [hc0,hc1,aa,ab,ac,bs_]<;>rfl,hM.fr⟩)
   have aq:=df ac
   have cu126:∀ (w2:World),(decide (orP (aAg s).1 (aAg s).2 (aAg t).1*orP (aAg s).1 (aAg s).2 (aAg t).2<0)&&decide (orP (aAg t).1 (aAg t).2 (aAg s).1*orP (aAg t).1 (aAg t).2 (aAg s).2<0))=false->Mm nF_ w w2 [bk ae #[vI (aAg s).1.1,vI (aAg s).1.2,vI (aAg s).2.1,vI (aAg s).2.2] 126,bk af #[vI (aAg t).1.1,vI (aAg t).1.2,vI (aAg t).2.1,vI (aAg t).2.2] 126,bk ag #[vI s.1.1,vI s.1.2,vI s.2.1,vI s.2.2,vI t.1.1,vI t.1.2,vI t.2.1,vI t.2.2] 29]->aWa Y (some (14,0)) [(8,vI (orP (aAg t).1 (aAg t).2 (aAg s).2)),(7,vI (orP (aAg t).1 (aAg t).2 (aAg s).1)),(6,vI (orP (aAg s).1 (aAg s).2 (aAg t).2)),(5,vI (orP (aAg s).1 (aAg s).2 (aAg t).1))] w2:=by
    intro w2 hc2 hM;refine seg 14 5 [(119,vB (((orP (aAg s).1 (aAg s).2 (aAg t).1)*(orP (aAg s).1 (aAg s).2 (aAg t).2))==0))] (fc (aHN (orP (aAg s).1 (aAg s).2 (aAg t).1) (orP (aAg s).1 (aAg s).2 (aAg t).2) u3_) f0) ?_;cases aj:(((orP (aAg s).1 (aAg s).2 (aAg t).1)*(orP (aAg s).1 (aAg s).2 (aAg t).2))==0)
    ·exact rt1 4 (vI 2) rfl f0 (hY _ _ ⟨by unfold aB3 aE2;simp only [hc0,hc1,hc2,aa,ab,ac,aj,bs_]<;>rfl,hM.fr⟩)
    refine seg 14 11 [(114,vB (((orP (aAg t).1 (aAg t).2 (aAg s).1)*(orP (aAg t).1 (aAg t).2 (aAg s).2))==0))] (fc (aHN (orP (aAg t).1 (aAg t).2 (aAg s).1) (orP (aAg t).1 (aAg t).2 (aAg s).2) u3_) f0) ?_;cases am:(((orP (aAg t).1 (aAg t).2 (aAg s).1)*(orP (aAg t).1 (aAg t).2 (aAg s).2))==0)
    ·exact rt1 4 (vI 2) rfl f0 (hY _ _ ⟨by unfold aB3 aE2;simp only [hc0,hc1,hc2,aa,ab,ac,aj,am,bs_]<;>rfl,hM.fr⟩)
    exact rt1 4 (vI 1) rfl f0 (hY _ _ ⟨by unfold aB3 aE2;simp only [hc0,hc1,hc2,aa,ab,ac,aj,am,bs_]<;>rfl,hM.fr⟩)
   refine seg 12 5 [(108,vB (decide (((orP (aAg s).1 (aAg s).2 (aAg t).1)*(orP (aAg s).1 (aAg s).2 (aAg t).2))<0)))] (fc (aHN (orP (aAg s).1 (aAg s).2 (aAg t).1) (orP (aAg s).1 (aAg s).2 (aAg t).2) u3_) f0) ?_;cases ak:(decide (((orP (aAg s).1 (aAg s).2 (aAg t).1)*(orP (aAg s).1 (aAg s).2 (aAg t).2))<0))
   ·refine seg 14 0 [] f0 (aAh _ (cu126 _ (by simp [aa,ab,ac,ak]) hM))
   refine seg 12 11 [(103,vB (decide (((orP (aAg t).1 (aAg t).2 (aAg s).1)*(orP (aAg t).1 (aAg t).2 (aAg s).2))<0)))] (fc (aHN (orP (aAg t).1 (aAg t).2 (aAg s).1) (orP (aAg t).1 (aAg t).2 (aAg s).2) u3_) f0) ?_;cases an:(decide (((orP (aAg t).1 (aAg t).2 (aAg s).1)*(orP (aAg t).1 (aAg t).2 (aAg s).2))<0))
   ·refine seg 14 0 [] f0 (aAh _ (cu126 _ (by simp [aa,ab,ac,ak,an]) hM))
   exact rt1 4 (vI 3) rfl f0 (hY _ _ ⟨by unfold aB3 aE2;simp only [hc0,hc1,aa,ab,ac,ak,an,bs_]<;>rfl,hM.fr⟩)
  refine seg 4 4 [(24,vB (aFN (aAg s) (aAg t)))] (fc (lam 126 0 0 4 hM rfl) (fc (lam 126 1 0 4 hM rfl) (fc (aZf (aAg s) (aAg t)) f0))) ?_;cases ad:(aFN (aAg s) (aAg t))
  rotate_left
  ·exact rt1 4 (vI 4) rfl f0 (hY _ _ ⟨by unfold aB3 aE2;simp only [aa,ad,bs_]<;>rfl,hM.fr⟩)
  refine seg 6 6 [(34,vB (aBm (aAg s).1 (aAg s).2))] (fc (lam 29 0 0 2 hM rfl) (fc (lam 29 0 2 2 hM rfl) (fc (aRS (aAg s).1.1 (aAg s).1.2 (aAg s).2.1 (aAg s).2.2) f0))) ?_;cases ah:(aBm (aAg s).1 (aAg s).2)
  rotate_left
  ·refine aAx 7 2 63 [(61,.agg #[vI (aAg s).1.1,vI (aAg s).1.2,vI (aAg s).2.1,vI (aAg s).2.2]),(62,.agg #[vI (aAg t).1.1,vI (aAg t).1.2,vI (aAg t).2.1,vI (aAg t).2.2])] (fc (lam 126 0 0 4 hM rfl) (fc (lam 126 1 0 4 hM rfl) f0)) hM (aDm (aAg s) (aAg t) _) fun w1 hM=>rt1 4 (vI (aQq (aAg s) (aAg t))) rfl f0 (hY _ _ ⟨by unfold aB3 aE2;simp only [aa,ad,ah,bs_]<;>rfl,hM.fr⟩)
  refine seg 6 13 [(41,vB (aBm (aAg t).1 (aAg t).2))] (fc (lam 29 1 0 2 hM rfl) (fc (lam 29 1 2 2 hM rfl) (fc (aRS (aAg t).1.1 (aAg t).1.2 (aAg t).2.1 (aAg t).2.2) f0))) ?_;cases ai:(aBm (aAg t).1 (aAg t).2)
  rotate_left
  ·refine aAx 7 2 63 [(61,.agg #[vI (aAg s).1.1,vI (aAg s).1.2,vI (aAg s).2.1,vI (aAg s).2.2]),(62,.agg #[vI (aAg t).1.1,vI (aAg t).1.2,vI (aAg t).2.1,vI (aAg t).2.2])] (fc (lam 126 0 0 4 hM rfl) (fc (lam 126 1 0 4 hM rfl) f0)) hM (aDm (aAg s) (aAg t) _) fun w1 hM=>rt1 4 (vI (aQq (aAg s) (aAg t))) rfl f0 (hY _ _ ⟨by unfold aB3 aE2;simp only [aa,ad,ah,ai,bs_]<;>rfl,hM.fr⟩)
  refine aAx 6 19 48 [(43,.agg #[vI (aAg s).1.1,vI (aAg s).1.2]),(45,.agg #[vI (aAg s).2.1,vI (aAg s).2.2]),(47,.agg #[vI (aAg t).1.1,vI (aAg t).1.2])] (fc (lam 29 0 0 2 hM rfl) (fc (lam 29 0 2 2 hM rfl) (fc (lam 29 1 0 2 hM rfl) f0))) hM (aBf (aAg s).1 (aAg s).2 (aAg t).1 _) fun w1 hM=>seg 6 22 [(50,vB ((orP (aAg s).1 (aAg s).2 (aAg t).1)==0))] f0 ?_;cases al:((orP (aAg s).1 (aAg s).2 (aAg t).1)==0)
  ·refine seg 8 0 [] f0 (aAh _ (cu123  _ ad (by simp [aa,ad,ah,ai,al]) hM))
  refine aAx 6 28 57 [(52,.agg #[vI (aAg s).1.1,vI (aAg s).1.2]),(54,.agg #[vI (aAg s).2.1,vI (aAg s).2.2]),(56,.agg #[vI (aAg t).2.1,vI (aAg t).2.2])] (fc (lam 29 0 0 2 hM rfl) (fc (lam 29 0 2 2 hM rfl) (fc (lam 29 1 2 2 hM rfl) f0))) hM (aBf (aAg s).1 (aAg s).2 (aAg t).2 _) fun w1 hM=>seg 6 33 [(28,vB ((orP (aAg s).1 (aAg s).2 (aAg t).2)==0))] f0 ?_;cases ao:((orP (aAg s).1 (aAg s).2 (aAg t).2)==0)
  ·refine seg 8 0 [] f0 (aAh _ (cu123  _ ad (by simp [aa,ad,ah,ai,al,ao]) hM))
  refine aAx 7 2 63 [(61,.agg #[vI (aAg s).1.1,vI (aAg s).1.2,vI (aAg s).2.1,vI (aAg s).2.2]),(62,.agg #[vI (aAg t).1.1,vI (aAg t).1.2,vI (aAg t).2.1,vI (aAg t).2.2])] (fc (lam 126 0 0 4 hM rfl) (fc (lam 126 1 0 4 hM rfl) f0)) hM (aDm (aAg s) (aAg t) _) fun w1 hM=>rt1 4 (vI (aQq (aAg s) (aAg t))) rfl f0 (hY _ _ ⟨by unfold aB3 aE2;simp only [aa,ad,ah,ai,al,ao,bs_]<;>rfl,hM.fr⟩)
theorem aGF (a:Nat):IntKind.u64.wrap (a:Int)=((a%18446744073709551616:Nat):Int):=by
 show (a:Int)%_=_;rw [show ((2:Int) ^ IntKind.u64.bits)=18446744073709551616 by decide];omega
section
variable {w:World}
theorem aWw (a b:Nat):Ft.ok Tryz.prog w (.g2 (fun x y => .binOp .add 164 x y 164) (v64 a) (v64 b) (v64 ((a+b)%18446744073709551616))):=fun o ρ x y ho hx hy=>by
 simp [execOp,ho,hx,hy,go_sem,u164_];rw [show (a:Int)+b=((a+b:Nat):Int) by omega,aGF];omega
theorem aWt (a b:Nat):Ft.ok Tryz.prog w (.g2 (fun x y => .binOp .mul 164 x y 164) (v64 a) (v64 b) (v64 (a*b%18446744073709551616))):=fun o ρ x y ho hx hy=>by
 simp [execOp,ho,hx,hy,go_sem,u164_];rw [show (a:Int)*b=((a*b:Nat):Int) by simp,aGF];simp
theorem aWl (a b:Nat) (hb:b<18446744073709551616):Ft.ok Tryz.prog w (.g2 (fun x y => .binOp .sub 164 x y 164) (v64 a) (v64 b) (v64 ((a+18446744073709551616-b)%18446744073709551616))):=fun o ρ x y ho hx hy=>by
 simp [execOp,ho,hx,hy,go_sem,u164_];have:=aGF (a+18446744073709551616-b)
 have e:IntKind.u64.wrap ((a:Int)-b)=IntKind.u64.wrap ((a+18446744073709551616-b:Nat):Int):=by
  show ((a:Int)-b)%_=((a+18446744073709551616-b:Nat):Int)%_;rw [show ((2:Int) ^ IntKind.u64.bits)=18446744073709551616 by decide];omega
 rw [e,this];omega
theorem aWp (a s:Nat) (hs:s<64):Ft.ok Tryz.prog w (.g2 (fun x y => .binOp .shl 164 x y 139) (v64 a) (v64 s) (v64 (a*2 ^ s%18446744073709551616))):=fun o ρ x y ho hx hy=>by
 simp [execOp,ho,hx,hy,go_sem];rw [show (a:Int)*2 ^ s=((a*2 ^ s:Nat):Int) by simp,aGF];simp
theorem aWo (a s:Nat) (hs:s<=64):Ft.ok Tryz.prog w (.g2 (fun x y => .binOp .shr 164 x y 139) (v64 a) (v64 s) (v64 (a / 2 ^ s))):=fun o ρ x y ho hx hy=>by
 simp [execOp,ho,hx,hy,go_sem,Nat.min_eq_left hs]
theorem aX8 (a b:Nat) (hb:0<b) (ha:a<18446744073709551616):Ft.ok Tryz.prog w (.g2 (fun x y => .binOp .quo 164 x y 164) (v64 a) (v64 b) (v64 (a / b))):=fun o ρ x y ho hx hy=>by
 have hb2:¬ (b=0):=by omega
 simp [execOp,ho,hx,hy,go_sem,u164_,hb2];have:=aDH (a:=a / b) (Nat.lt_of_le_of_lt (Nat.div_le_self _ _) ha);simpa using this
theorem aWu (a:Nat) (ha:a<18446744073709551616):Ft.ok Tryz.prog w (.g2 (fun x y => .binOp .and 164 x y 164) (v64 a) (.int .u64 4294967295) (v64 (a%4294967296))):=fun o ρ x y ho hx hy=>by
 have h:=aLg (a:=a) (b:=4294967295) ha (by omega);have e:a &&& 4294967295=a%4294967296:=Nat.and_two_pow_sub_one_eq_mod a 32;rw [e] at h;simp [execOp,ho,hx,hy,go_sem,u164_];simpa using h
end
end Go.Proofs.YtngjlnhojicjeaaGreatDoor
namespace Go.Pl
structure Kn (v1 v0 u1 u0 q r:Nat):Prop where
 eq:q*v1+r=u1
 ge:(u1*4294967296+u0) / (v1*4294967296+v0)<=q
 le:q<=4294967297
section
variable {v1 v0 u1 u0 q r:Nat}
theorem aNW (q:Nat):q*(v1*4294967296+v0)=q*v1*4294967296+q*v0:=by rw [Nat.mul_add,Nat.mul_assoc]
theorem aNX (h1:2147483648<=v1) (h0:v0<4294967296) (hu:u1<v1*4294967296+v0) (hu0:u0<4294967296):Kn v1 v0 u1 u0 (u1 / v1) (u1%v1):=by
 refine ⟨by rw [Nat.mul_comm];exact Nat.div_add_mod u1 v1,?_,?_⟩
 ·rw [Nat.le_div_iff_mul_le (by omega)];have hQ:(u1*4294967296+u0) / (v1*4294967296+v0)*(v1*4294967296+v0)<=u1*4294967296+u0:=Nat.div_mul_le_self _ _;rw [aNW] at hQ;omega
 ·have:u1 / v1<4294967298:=by
   rw [Nat.div_lt_iff_lt_mul (by omega)];omega
  omega
theorem aHr (hu:u1<v1*4294967296+v0) (hu0:u0<4294967296):(u1*4294967296+u0) / (v1*4294967296+v0)<4294967296:=by
 rw [Nat.div_lt_iff_lt_mul (by omega)];omega
theorem aJ1 (hV:0<v1) (h:Kn v1 v0 u1 u0 q r) (hq:q*v0<=4294967296*r+u0):q=(u1*4294967296+u0) / (v1*4294967296+v0):=by
 refine Nat.le_antisymm ?_ h.ge;rw [Nat.le_div_iff_mul_le (by omega),aNW];have:=h.eq;omega
theorem aFi (hV:0<v1) (h0:v0<4294967296) (h:Kn v1 v0 u1 u0 q r) (hq:q<=4294967296) (hr:4294967296<=r):q=(u1*4294967296+u0) / (v1*4294967296+v0):=by
 refine aJ1 hV h ?_;have h1:q*v0<=4294967296*v0:=Nat.mul_le_mul_right _ hq;omega
theorem aHs (hV:0<v1) (hu:u1<v1*4294967296+v0) (hu0:u0<4294967296) (h:Kn v1 v0 u1 u0 q r) (hc:4294967296<=q∨4294967296*r+u0<q*v0):1<=q /\ Kn v1 v0 u1 u0 (q-1) (r+v1) /\ q-1<=4294967296:=by
 have hlt:(u1*4294967296+u0) / (v1*4294967296+v0)<q:=by
  rcases hc with hc | hc
  ·have:=aHr hu hu0;omega
  ·rw [Nat.div_lt_iff_lt_mul (by omega),aNW];have:=h.eq;omega
 have hl:=h.le;have h1:1<=q:=Nat.lt_of_le_of_lt (Gg_ _) hlt;refine ⟨h1,⟨?_,Nat.le_sub_one_of_lt hlt,by omega⟩,by omega⟩;have:=h.eq;obtain ⟨p,rfl⟩:∃ p,q=p+1:=⟨q-1,by omega⟩;rw [Nat.add_mul,Nat.one_mul] at this;rw [Nat.add_sub_cancel];omega
set_option maxRecDepth 100000 in
theorem aVh {v u1 a b:Nat}(hv:0<v):(u1*18446744073709551616+(a*4294967296+b)) / v=(u1*4294967296+a) / v*4294967296+((u1*4294967296+a)%v*4294967296+b) / v:=by
 have h:=Nat.div_add_mod (u1*4294967296+a) v;obtain ⟨Q,hQ⟩:∃ Q,Q=(u1*4294967296+a) / v:=⟨_,rfl⟩;obtain ⟨R,hR⟩:∃ R,R=(u1*4294967296+a)%v:=⟨_,rfl⟩;rw [←hQ,←hR] at h;rw [←hQ,←hR]
 have e:u1*18446744073709551616+(a*4294967296+b)=(R*4294967296+b)+Q*4294967296*v:=by
  have:Q*4294967296*v=v*Q*4294967296:=by rw [Nat.mul_comm (Q*4294967296) v,Nat.mul_assoc]
  rw [this];omega
 rw [e,Nat.add_mul_div_right _ _ hv];omega
theorem aVi {a c d:Nat}(h:d<=a+c) (h2:a+c-d<18446744073709551616):(((a%18446744073709551616+c)%18446744073709551616)+18446744073709551616-d%18446744073709551616)%18446744073709551616=a+c-d:=by omega
theorem aQ7 {hi lo s:Nat}(hs:s<64) (hl:lo<18446744073709551616):(hi*18446744073709551616+lo)*2 ^ s=(hi*2 ^ s+lo / 2 ^ (64-s))*18446744073709551616+lo*2 ^ s%18446744073709551616:=by
 have e:(18446744073709551616:Nat)=2 ^ (64-s)*2 ^ s:=by rw [←Nat.pow_add,show 64-s+s=64 by omega]
 have h1:lo*2 ^ s / 18446744073709551616=lo / 2 ^ (64-s):=by
  rw [e,Nat.mul_div_mul_right _ _ (Nat.two_pow_pos s)]
 have h2:=Nat.div_add_mod (lo*2 ^ s) 18446744073709551616;rw [h1] at h2;rw [Nat.add_mul,Nat.mul_right_comm];rw [Nat.add_mul (hi*2 ^ s)];omega
end
end Go.Pl
namespace Go.Proofs.YtngjlnhojicjeaaGreatDoor
open Go.RowKit Go.Pl
theorem aGB:∀ (f y:Nat),0<y->y<2 ^ f->f<=64->∃ s,s<64 /\ Lib.bitLen y+s=64 /\ 9223372036854775808<=y*2 ^ s /\ y*2 ^ s<18446744073709551616
 | 0,y,h0,h,_=>by rw [Nat.pow_zero] at h;omega
 | f+1,y,h0,h,hf=>by
  have h64:y<2 ^ 64:=Nat.lt_of_lt_of_le h (Nat.pow_le_pow_right (by omega) hf);have hb:=Lib.bitLen_half y (by omega) h64;rcases Nat.eq_zero_or_pos (y / 2) with h2 | h2
  ·have h1:y=1:=by omega
   subst h1;exact ⟨63,by omega,by decide,by decide,by decide⟩
  ·obtain ⟨s,k1,k2,k3,k4⟩:=aGB f (y / 2) h2 (by rw [Nat.pow_succ] at h;omega) (by omega)
   have hs:1<=s:=by
    rcases Nat.eq_zero_or_pos s with e | e
    ·subst e;rw [Nat.pow_zero,Nat.mul_one] at k3;have:y<18446744073709551616:=h64;omega
    ·exact e
   obtain ⟨z,rfl⟩:∃ z,s=z+1:=⟨s-1,by omega⟩;rw [Nat.pow_succ] at k3 k4
   have e2:y / 2*(2 ^ z*2)+(y%2)*2 ^ z=y*2 ^ z:=by
    have:=Nat.div_add_mod y 2
    conv=>rhs;rw [←this]
    rw [Nat.add_mul,Nat.mul_comm 2 (y / 2),Nat.mul_assoc,Nat.mul_comm 2 (2 ^ z)]
   have hz2:2 ^ (z+1)<=2 ^ 63:=Nat.pow_le_pow_right (by omega) (by omega);have hp:=Nat.two_pow_pos z;have e3:y%2=0∨y%2=1:=by omega
   refine ⟨z,by omega,by omega,?_,?_⟩
   ·have:0<=(y%2)*2 ^ z:=Gg_ _;omega
   ·
    have k5:y / 2*(2 ^ z*2)+2 ^ z*2<=18446744073709551616:=by
     have hd:(y / 2+1)*(2 ^ z*2)=y / 2*(2 ^ z*2)+2 ^ z*2:=by rw [Nat.add_mul,Nat.one_mul]
     rw [←hd];have e4:(18446744073709551616:Nat)=2 ^ (64-(z+1))*(2 ^ z*2):=by rw [←Nat.pow_succ,←Nat.pow_add,show 64-(z+1)+(z+1)=64 by omega]
     rw [e4];refine Nat.mul_le_mul_right _ ?_;rw [e4] at k4;have:=Nat.lt_of_mul_lt_mul_right k4;omega
    have k6:(y%2)*2 ^ z<=2 ^ z:=by rcases e3 with e | e<;>rw [e]<;>omega
    omega
section
variable {w:World}
theorem aGM (a b r:Nat) {x y:Int}(h:(a+b)%18446744073709551616=r:=by omega) (hx:x=(a:Int):=by rfl) (hy:y=(b:Int):=by rfl):Ft.ok Tryz.prog w (.g2 (fun x y => .binOp .add 164 x y 164) (.int .u64 x) (.int .u64 y) (v64 r)):=by subst hx;subst hy;rw [←h];exact aWw a b
theorem aFq (a b r:Nat) {x y:Int}(h:a*b%18446744073709551616=r:=by omega) (hx:x=(a:Int):=by rfl) (hy:y=(b:Int):=by rfl):Ft.ok Tryz.prog w (.g2 (fun x y => .binOp .mul 164 x y 164) (.int .u64 x) (.int .u64 y) (v64 r)):=by subst hx;subst hy;rw [←h];exact aWt a b
theorem aHM (a b r:Nat) {x y:Int}(hb:b<18446744073709551616:=by omega) (h:(a+18446744073709551616-b)%18446744073709551616=r:=by omega) (hx:x=(a:Int):=by rfl) (hy:y=(b:Int):=by rfl):Ft.ok Tryz.prog w (.g2 (fun x y => .binOp .sub 164 x y 164) (.int .u64 x) (.int .u64 y) (v64 r)):=by subst hx;subst hy;rw [←h];exact aWl a b hb
theorem aWm (b:Nat) (hb:b<64):Ft.ok Tryz.prog w (.g2 (fun x y => .binOp .sub 139 x y 139) (.int .u64 64) (v64 b) (v64 (64-b))):=fun o ρ x y ho hx hy=>by
 have:=aDH (a:=64-b) (by omega);rw [show ((64-b:Nat):Int)=64-(b:Int) by omega] at this;simp [execOp,ho,hx,hy,go_sem,Tryz.underlying139,this];omega
theorem aSr (a s r:Nat) (hs:s<64) (h:a*2 ^ s%18446744073709551616=r):Ft.ok Tryz.prog w (.g2 (fun x y => .binOp .shl 164 x y 139) (v64 a) (v64 s) (v64 r)):=by rw [←h];exact aWp a s hs
theorem aP1 (a s r:Nat) {y:Int}(hs:s<=64) (h:a / 2 ^ s=r) (hy:y=(s:Int):=by rfl):Ft.ok Tryz.prog w (.g2 (fun x y => .binOp .shr 164 x y 139) (v64 a) (.int .u64 y) (v64 r)):=by subst hy;rw [←h];exact aWo a s hs
theorem aUx (a b r:Nat) (hb:0<b) (ha:a<18446744073709551616) (h:a / b=r):Ft.ok Tryz.prog w (.g2 (fun x y => .binOp .quo 164 x y 164) (v64 a) (v64 b) (v64 r)):=by rw [←h];exact aX8 a b hb ha
theorem aUy (a r:Nat) (ha:a<18446744073709551616) (h:a%4294967296=r):Ft.ok Tryz.prog w (.g2 (fun x y => .binOp .and 164 x y 164) (v64 a) (.int .u64 4294967295) (v64 r)):=by rw [←h];exact aWu a ha
theorem aYl (a s b r:Nat) (hb:b<2 ^ s) (h:a*2 ^ s+b=r) (hr:r<18446744073709551616):Ft.ok Tryz.prog w (.g2 (fun x y => .binOp .or 164 x y 164) (v64 (a*2 ^ s)) (v64 b) (v64 r)):=fun o ρ x y ho hx hy=>by
 have e:a*2 ^ s ||| b=r:=by rw [Nat.mul_comm a,←Nat.two_pow_add_eq_or_of_lt hb,←h,Nat.mul_comm a]
 have h2:=aJT (a:=a*2 ^ s) (b:=b) (by omega) (by omega);rw [e] at h2;simp only [execOp,ho,hx,hy]
 have h3:(Go.binOp .or 164 (v64 (a*2 ^ s)) (v64 b)).run Tryz.prog w = .ok (v64 r) w:=by
  simp [go_sem,u164_];simpa using h2
 simp [go_sem,u164_];simpa using h2
theorem aYk (a b:Nat) (hb:0<b) (ha:a<18446744073709551616):Ft.ok Tryz.prog w (.g2 (fun x y => .binOp .rem 164 x y 164) (v64 a) (v64 b) (v64 (a%b))):=fun o ρ x y ho hx hy=>by
 have hb2:¬ (b=0):=by omega
 simp [execOp,ho,hx,hy,go_sem,u164_,hb2];exact Int.tmod_eq_emod_of_nonneg (by omega)
theorem aYZ (s:Nat) (h:s<64):Ft.ok Tryz.prog w (.g1 (.convert 3 139) (vI (s:Int)) (v64 s)):=fun o ρ x ho hx=>by
 simp [execOp,ho,hx,go_sem,aDH (a:=s) (by omega)]
end
abbrev aRo (Z:Ending->World->Prop):=AtO Tryz.prog (aAw Tryz.f162) (aAL (bodyPost Tryz.prog Tryz.f162 Z)) [] 135
theorem aFR {w:World}{hi lo y:Nat}(hlt:hi<y) (hlo:lo<18446744073709551616) (hyW:y<18446744073709551616):Calls Tryz.prog 162 #[.int .u64 ((hi:Nat):Int),.int .u64 ((lo:Nat):Int),.int .u64 ((y:Nat):Int)] w fun e w'=>(∃ rem:Nat,e = .returned (.tuple #[v64 ((hi*18446744073709551616+lo) / y),v64 rem])) /\ Fr nF_ w w':=by
  obtain ⟨s,hs,hbl,hv1,hv2⟩:=aGB 64 y (by omega) hyW (by omega);obtain ⟨v,hv⟩:∃ z,z=y*2 ^ s:=⟨_,rfl⟩;rw [←hv] at hv1 hv2;obtain ⟨t,ht⟩:∃ z,z=lo*2 ^ s%18446744073709551616:=⟨_,rfl⟩;have ht2:t<18446744073709551616:=by rw [ht];exact Nat.mod_lt _ (by omega)
  obtain ⟨u,hu⟩:∃ z,z=hi*2 ^ s+lo / 2 ^ (64-s):=⟨_,rfl⟩;have hsh:=aQ7 (hi:=hi) (lo:=lo) hs hlo;rw [←hu,←ht] at hsh;have huv:u<v:=by have h1:(hi*18446744073709551616+lo)*2 ^ s<y*18446744073709551616*2 ^ s:=Nat.mul_lt_mul_of_pos_right (by omega) (Nat.two_pow_pos s);rw [hsh,Nat.mul_right_comm,←hv] at h1;omega
  obtain ⟨v1,hv1e⟩:∃ z,z=v / 4294967296:=⟨_,rfl⟩;obtain ⟨v0,hv0e⟩:∃ z,z=v%4294967296:=⟨_,rfl⟩;obtain ⟨a1,ha1⟩:∃ z,z=t / 4294967296:=⟨_,rfl⟩;obtain ⟨a0,ha0⟩:∃ z,z=t%4294967296:=⟨_,rfl⟩;have hvv:v=v1*4294967296+v0:=by omega
  have hb1:2147483648<=v1:=by omega
  have hb2:v1<4294967296:=by omega
  have hb0:v0<4294967296:=by omega
  have hA1:a1<4294967296:=by omega
  have hA0:a0<4294967296:=by omega
  obtain ⟨R1,hR1⟩:∃ z,z=(u*4294967296+a1)%v:=⟨_,rfl⟩;have hR1v:R1<v:=by rw [hR1];exact Nat.mod_lt _ (by omega)
  have huv2:u<v1*4294967296+v0:=by omega
  have hRv2:R1<v1*4294967296+v0:=by omega
  have hk1:=aNX hb1 hb0 huv2 hA1;have hk2:=aNX hb1 hb0 hRv2 hA0;have hfin:(hi*18446744073709551616+lo) / y=(u*4294967296+a1) / v*4294967296+(R1*4294967296+a0) / v:=by rw [hR1,←aVh (by omega),show u*18446744073709551616+(a1*4294967296+a0)=(hi*18446744073709551616+lo)*2 ^ s by rw [hsh];omega,hv,Nat.mul_div_mul_right _ _ (Nat.two_pow_pos s)]
  have hz1:u / v1*v1+u%v1=u:=by have:=Nat.div_add_mod u v1;rw [Nat.mul_comm] at this;exact this
  have hz2:R1 / v1*v1+R1%v1=R1:=by have:=Nat.div_add_mod R1 v1;rw [Nat.mul_comm] at this;exact this
  have hlos:lo / 2 ^ (64-s)<2 ^ s:=by rw [Nat.div_lt_iff_lt_mul (Nat.two_pow_pos _),←Nat.pow_add,show s+(64-s)=64 by omega];exact hlo
  have hhs:hi*2 ^ s<18446744073709551616:=by have:=Nat.mul_le_mul_right (2 ^ s) (Nat.le_of_lt hlt);rw [←hv] at this;omega
  refine beg Tryz.func162 rfl rfl [(0,.int .u64 ((hi:Nat):Int)),(1,.int .u64 ((lo:Nat):Int)),(2,.int .u64 ((y:Nat):Int))] rfl rfl fun Z hZ=>?_;have hM:=Mm.nil nF_ w;refine seg 1 2 [(20,vB (((y:Nat):Int)==0))] f0 ?_;cases h12:(((y:Nat):Int)==0)
  rotate_left
  ·have ae:=et h12;exact absurd (et h12) (by omega)
  have ae:=ef h12;refine seg 3 3 [(24,vB (decide (((y:Nat):Int)<=((hi:Nat):Int))))] f0 ?_;cases h13:(decide (((y:Nat):Int)<=((hi:Nat):Int)))
  rotate_left
  ·have af:=dt h13;exact absurd (dt h13) (by omega)
  have af:=df h13;refine seg 5 2 [(27,vB (((hi:Nat):Int)==0))] f0 ?_;cases h14:(((hi:Nat):Int)==0)
  rotate_left
  ·have ag:=et h14;refine seg 6 0 [] f0 ?_;have hM:=hM.q ((Fr.refl _ _).drew);refine drq [(6,.int .u64 ((lo / y:Nat):Int)),(7,.int .u64 ((lo%y:Nat):Int))] rfl (fc (aX8 lo y (by omega) hlo) (fc (aYk lo y (by omega) hlo) f0)) ?_;have hz9:hi=0:=by have:=et h14;omega
   exact rt2 6 7 (.int .u64 ((lo / y:Nat):Int)) (.int .u64 ((lo%y:Nat):Int)) rfl rfl f0 (hZ _ _ ⟨⟨_,by rw [hz9,Nat.zero_mul,Nat.zero_add]⟩,hM.fr⟩)
  have ag:=ef h14;refine aAx 7 1 35 [(34,.int .u64 ((y:Nat):Int))] f0 hM ((Tryz.bits_LeadingZeros64 (y:Int) _ (by omega) (by omega)).mono fun e w9 ⟨h1,h2⟩=>⟨by rw [h1,show (64-(Lib.bitLen ((y:Nat):Int).toNat:Int))=(s:Int) by rw [Int.toNat_natCast];omega],by rw [h2];exact Fr.refl _ _⟩) fun w1 hM=>seg 17 0 [(8,.int .u64 ((s:Nat):Int)),(2,.int .u64 ((v:Nat):Int)),(9,.int .u64 ((v1:Nat):Int)),(10,.int .u64 ((v0:Nat):Int)),(11,.int .u64 ((u:Nat):Int)),(13,.int .u64 ((a1:Nat):Int)),(14,.int .u64 ((a0:Nat):Int)),(15,.int .u64 ((u / v1:Nat):Int)),(16,.int .u64 ((u%v1:Nat):Int))] (fc (aYZ s hs) (fc (aSr y s v hs (by rw [←hv];omega)) (fc (aP1 v 32 v1 (by omega) (by omega)) (fc (aUy v v0 hv2 hv0e.symm) (fc (aSr hi s (hi*2 ^ s) hs (by omega)) (fc (aWm s hs) (fc (aP1 lo (64-s) (lo / 2 ^ (64-s)) (by omega) rfl) (fc (aYl hi s (lo / 2 ^ (64-s)) u hlos hu.symm (by omega)) (fc (aSr lo s t hs ht.symm) (fc (aP1 t 32 a1 (by omega) (by omega)) (fc (aUy t a0 ht2 ha0.symm) (fc (aUx u v1 (u / v1) (by omega) (by omega) rfl) (fc (aFq (u / v1) v1 (u / v1*v1)) (fc (aHM u (u / v1*v1) (u%v1)) f0)))))))))))))) ?_
  have cu15:∀ (qa:Nat) (w2:World),qa=(u*4294967296+a1) / (v1*4294967296+v0)->Mm nF_ w w2 []->aRo Z (some (21,0)) [(15,.int .u64 ((qa:Nat):Int)),(14,.int .u64 ((a0:Nat):Int)),(13,.int .u64 ((a1:Nat):Int)),(11,.int .u64 ((u:Nat):Int)),(10,.int .u64 ((v0:Nat):Int)),(9,.int .u64 ((v1:Nat):Int)),(2,.int .u64 ((v:Nat):Int)),(8,.int .u64 ((s:Nat):Int))] w2:=by
   intro qa w2 hqa hM;rw [←hvv] at hqa;have hqs:qa<4294967296:=by rw [hqa,hvv];exact aHr huv2 hA1
   have hdm:=Nat.div_add_mod (u*4294967296+a1) v;rw [←hqa,←hR1,Nat.mul_comm] at hdm;have hR1q:((u*4294967296%18446744073709551616+a1)%18446744073709551616+18446744073709551616-qa*v%18446744073709551616)%18446744073709551616=R1:=by rw [aVi (by omega) (by omega)];omega
   refine seg 24 0 [(17,.int .u64 ((R1:Nat):Int)),(18,.int .u64 ((R1 / v1:Nat):Int)),(16,.int .u64 ((R1%v1:Nat):Int))] (fc (aFq u 4294967296 (u*4294967296%18446744073709551616) rfl) (fc (aGM (u*4294967296%18446744073709551616) a1 ((u*4294967296%18446744073709551616+a1)%18446744073709551616) rfl) (fc (aFq qa v (qa*v%18446744073709551616) rfl) (fc (aHM ((u*4294967296%18446744073709551616+a1)%18446744073709551616) (qa*v%18446744073709551616) R1 (Nat.mod_lt _ (by omega)) hR1q) (fc (aUx R1 v1 (R1 / v1) (by omega) (by omega) rfl) (fc (aFq (R1 / v1) v1 (R1 / v1*v1)) (fc (aHM R1 (R1 / v1*v1) (R1%v1)) f0))))))) ?_
   have cu16:∀ (qb:Nat) (w2:World),qb=(R1*4294967296+a0) / (v1*4294967296+v0)->Mm nF_ w w2 []->aRo Z (some (28,0)) [(18,.int .u64 ((qb:Nat):Int)),(17,.int .u64 ((R1:Nat):Int)),(15,.int .u64 ((qa:Nat):Int)),(14,.int .u64 ((a0:Nat):Int)),(2,.int .u64 ((v:Nat):Int)),(8,.int .u64 ((s:Nat):Int))] w2:=by
    intro qb w2 hqb hM;rw [←hvv] at hqb;have hqs2:qb<4294967296:=by rw [hqb,hvv];exact aHr hRv2 hA0
    exact rt2 6 7 (.int .u64 ((qa*4294967296+qb:Nat):Int)) (.int .u64 ((((R1*4294967296%18446744073709551616+a0)%18446744073709551616+18446744073709551616-qb*v%18446744073709551616)%18446744073709551616 / 2 ^ s:Nat):Int)) rfl rfl (fc (aFq qa 4294967296 (qa*4294967296)) (fc (aGM (qa*4294967296) qb (qa*4294967296+qb)) (fc (aFq R1 4294967296 (R1*4294967296%18446744073709551616) rfl) (fc (aGM (R1*4294967296%18446744073709551616) a0 ((R1*4294967296%18446744073709551616+a0)%18446744073709551616) rfl) (fc (aFq qb v (qb*v%18446744073709551616) rfl) (fc (aHM ((R1*4294967296%18446744073709551616+a0)%18446744073709551616) (qb*v%18446744073709551616) (((R1*4294967296%18446744073709551616+a0)%18446744073709551616+18446744073709551616-qb*v%18446744073709551616)%18446744073709551616) (Nat.mod_lt _ (by omega)) rfl) (fc (aP1 (((R1*4294967296%18446744073709551616+a0)%18446744073709551616+18446744073709551616-qb*v%18446744073709551616)%18446744073709551616) s (((R1*4294967296%18446744073709551616+a0)%18446744073709551616+18446744073709551616-qb*v%18446744073709551616)%18446744073709551616 / 2 ^ s) (by omega) rfl) f0))))))) (hZ _ _ ⟨⟨_,by rw [hfin,←hqa,←hqb]⟩,hM.fr⟩)
   have ah:∀ (aa:Nat) (q2:Nat) (r2:Nat) (w2:World),Kn v1 v0 R1 a0 q2 r2->r2<4294967296->Mm nF_ w w2 []->aa=4294967296-r2->aRo Z (some (24,0)) [(16,.int .u64 ((r2:Nat):Int)),(18,.int .u64 ((q2:Nat):Int)),(17,.int .u64 ((R1:Nat):Int)),(15,.int .u64 ((qa:Nat):Int)),(14,.int .u64 ((a0:Nat):Int)),(10,.int .u64 ((v0:Nat):Int)),(9,.int .u64 ((v1:Nat):Int)),(2,.int .u64 ((v:Nat):Int)),(8,.int .u64 ((s:Nat):Int))] w2:=by
    refine aCx fun aa ab q2 r2 w2 hkq2 hrq2 hM ar=>?_;have hlq2:=hkq2.le;have hmq2:q2*v0<=18446744073709551615:=by have:=Nat.mul_le_mul hlq2 (show v0<=4294967295 by omega);omega
    refine seg 24 3 [(104,vB (decide (4294967296<=((q2:Nat):Int))))] f0 ?_;cases h20:(decide (4294967296<=((q2:Nat):Int)))
    rotate_left
    ·have ai:=dt h20;have q2d:=aHs (by omega) hRv2 hA0 hkq2 (.inl (by omega));refine seg 27 2 [(18,.int .u64 ((q2-1:Nat):Int)),(16,.int .u64 ((r2+v1:Nat):Int)),(120,vB (decide (4294967296<=((r2+v1:Nat):Int))))] (fc (aHM q2 1 (q2-1)) (fc (aGM r2 v1 (r2+v1)) f0)) ?_;cases h23:(decide (4294967296<=((r2+v1:Nat):Int)))
     ·have aj:=df h23;refine seg 24 0 [] f0 (aAh _ (ab _ (by omega) (q2-1) (r2+v1) _ q2d.2.1 (by omega) hM rfl))
     have aj:=dt h23;refine seg 28 0 [] f0 (aAh _ (cu16 (q2-1) _ (aFi (by omega) hb0 q2d.2.1 q2d.2.2 (by omega)) hM))
    have ai:=df h20;refine seg 24 12 [(113,vB (decide (((4294967296*r2+a0:Nat):Int)<((q2*v0:Nat):Int))))] (fc (aFq q2 v0 (q2*v0)) (fc (aFq 4294967296 r2 (4294967296*r2)) (fc (aGM (4294967296*r2) a0 (4294967296*r2+a0)) f0))) ?_;cases h21:(decide (((4294967296*r2+a0:Nat):Int)<((q2*v0:Nat):Int)))
    ·have ak:=df h21;refine seg 28 0 [] f0 (aAh _ (cu16 q2 _ (aJ1 (by omega) hkq2 (by omega)) hM))
    have ak:=dt h21;have q2d:=aHs (by omega) hRv2 hA0 hkq2 (.inr (by omega));refine seg 27 2 [(18,.int .u64 ((q2-1:Nat):Int)),(16,.int .u64 ((r2+v1:Nat):Int)),(120,vB (decide (4294967296<=((r2+v1:Nat):Int))))] (fc (aHM q2 1 (q2-1)) (fc (aGM r2 v1 (r2+v1)) f0)) ?_;cases h22:(decide (4294967296<=((r2+v1:Nat):Int)))
    ·have al:=df h22;refine seg 24 0 [] f0 (aAh _ (ab _ (by omega) (q2-1) (r2+v1) _ q2d.2.1 (by omega) hM rfl))
    have al:=dt h22;refine seg 28 0 [] f0 (aAh _ (cu16 (q2-1) _ (aFi (by omega) hb0 q2d.2.1 q2d.2.2 (by omega)) hM))
   exact aAh _ (ah _ (R1 / v1) (R1%v1) _ hk2 (by have:=Nat.mod_lt R1 (show 0<v1 by omega);omega) hM rfl)
  have am:∀ (ac:Nat) (q1:Nat) (r1:Nat) (w2:World),Kn v1 v0 u a1 q1 r1->r1<4294967296->Mm nF_ w w2 []->ac=4294967296-r1->aRo Z (some (17,0)) [(16,.int .u64 ((r1:Nat):Int)),(15,.int .u64 ((q1:Nat):Int)),(14,.int .u64 ((a0:Nat):Int)),(13,.int .u64 ((a1:Nat):Int)),(11,.int .u64 ((u:Nat):Int)),(10,.int .u64 ((v0:Nat):Int)),(9,.int .u64 ((v1:Nat):Int)),(2,.int .u64 ((v:Nat):Int)),(8,.int .u64 ((s:Nat):Int))] w2:=by
   refine aCx fun ac ad q1 r1 w2 hkq1 hrq1 hM au=>?_;have hlq1:=hkq1.le;have hmq1:q1*v0<=18446744073709551615:=by have:=Nat.mul_le_mul hlq1 (show v0<=4294967295 by omega);omega
   refine seg 17 3 [(69,vB (decide (4294967296<=((q1:Nat):Int))))] f0 ?_;cases h27:(decide (4294967296<=((q1:Nat):Int)))
   rotate_left
   ·have an:=dt h27;have q1d:=aHs (by omega) huv2 hA1 hkq1 (.inl (by omega));refine seg 20 2 [(15,.int .u64 ((q1-1:Nat):Int)),(16,.int .u64 ((r1+v1:Nat):Int)),(85,vB (decide (4294967296<=((r1+v1:Nat):Int))))] (fc (aHM q1 1 (q1-1)) (fc (aGM r1 v1 (r1+v1)) f0)) ?_;cases h30:(decide (4294967296<=((r1+v1:Nat):Int)))
    ·have ao:=df h30;refine seg 17 0 [] f0 (aAh _ (ad _ (by omega) (q1-1) (r1+v1) _ q1d.2.1 (by omega) hM rfl))
    have ao:=dt h30;refine seg 21 0 [] f0 (aAh _ (cu15 (q1-1) _ (aFi (by omega) hb0 q1d.2.1 q1d.2.2 (by omega)) hM))
   have an:=df h27;refine seg 17 12 [(78,vB (decide (((4294967296*r1+a1:Nat):Int)<((q1*v0:Nat):Int))))] (fc (aFq q1 v0 (q1*v0)) (fc (aFq 4294967296 r1 (4294967296*r1)) (fc (aGM (4294967296*r1) a1 (4294967296*r1+a1)) f0))) ?_;cases h28:(decide (((4294967296*r1+a1:Nat):Int)<((q1*v0:Nat):Int)))
   ·have ap:=df h28;refine seg 21 0 [] f0 (aAh _ (cu15 q1 _ (aJ1 (by omega) hkq1 (by omega)) hM))
   have ap:=dt h28;have q1d:=aHs (by omega) huv2 hA1 hkq1 (.inr (by omega));refine seg 20 2 [(15,.int .u64 ((q1-1:Nat):Int)),(16,.int .u64 ((r1+v1:Nat):Int)),(85,vB (decide (4294967296<=((r1+v1:Nat):Int))))] (fc (aHM q1 1 (q1-1)) (fc (aGM r1 v1 (r1+v1)) f0)) ?_;cases h29:(decide (4294967296<=((r1+v1:Nat):Int)))
   ·have aq:=df h29;refine seg 17 0 [] f0 (aAh _ (ad _ (by omega) (q1-1) (r1+v1) _ q1d.2.1 (by omega) hM rfl))
   have aq:=dt h29;refine seg 21 0 [] f0 (aAh _ (cu15 (q1-1) _ (aFi (by omega) hb0 q1d.2.1 q1d.2.2 (by omega)) hM))
  exact aAh _ (am _ (u / v1) (u%v1) _ hk1 (by have:=Nat.mod_lt u (show 0<v1 by omega);omega) hM rfl)
def aCu (a b c:Pt):Int:=(b.1-a.1)*(c.1-a.1)+(b.2-a.2)*(c.2-a.2)
def aA3 (s:Pt×Pt) (p:Pt):Int :=
  bif !([s.1,s.2,p].all aA0) then 0
  else bif decide (aCu s.1 s.2 p<=0) then aEX s.1 p
  else bif decide (aCu s.1 s.2 s.2<=aCu s.1 s.2 p) then aEX s.2 p
  else (((aBz s.1 s.2 p).natAbs*(aBz s.1 s.2 p).natAbs / (aCu s.1 s.2 s.2).toNat:Nat):Int)
theorem m4 (a b c d:Int):(a*b)*(c*d)=(a*c)*(b*d):=by rw [Int.mul_assoc,Int.mul_assoc,Int.mul_left_comm b]
theorem aYA (a b c d:Int):(a*d-b*c)*(a*d-b*c)+(a*c+b*d)*(a*c+b*d)=(a*a+b*b)*(c*c+d*d):=by
  have e1:(a*d)*(a*d)=(a*a)*(d*d):=m4 ..;have e2:(b*c)*(b*c)=(b*b)*(c*c):=m4 ..;have e3:(a*c)*(a*c)=(a*a)*(c*c):=m4 ..;have e4:(b*d)*(b*d)=(b*b)*(d*d):=m4 ..;have e5:(a*d)*(b*c)=(a*c)*(b*d):=by rw [m4 a d b c,m4 a c b d,Int.mul_comm d c]
  have e6:(b*c)*(a*d)=(a*c)*(b*d):=by rw [Int.mul_comm,e5]
  have e7:(b*d)*(a*c)=(a*c)*(b*d):=Int.mul_comm ..;rw [Int.sub_mul,Int.mul_sub,Int.mul_sub,Int.add_mul,Int.mul_add,Int.mul_add,Int.add_mul,Int.mul_add,Int.mul_add];omega
theorem aPh (z:Int):((z.natAbs*z.natAbs:Nat):Int)=z*z:=by
  rw [Int.natCast_mul];exact Int.natAbs_mul_self' z
theorem aRr {a b c:Pt}{d:Nat}(ha:aA0 a=true) (hb:aA0 b=true) (hc:aA0 c=true) (hd:aCu a b b=(d:Int)):(aBz a b c).natAbs*(aBz a b c).natAbs<=d*35184372088832:=by
  have ha:=aBa ha;have hb:=aBa hb;have hc:=aBa hc;have h1:=aYA (b.1-a.1) (b.2-a.2) (c.1-a.1) (c.2-a.2);have h2:=aEG (x:=c.1-a.1) (by omega) (by omega);have h3:=aEG (x:=c.2-a.2) (by omega) (by omega)
  have h4:0<=(aCu a b c)*(aCu a b c):=by
    rw [←aPh];exact Int.natCast_nonneg _
  have h5:aBz a b c*aBz a b c<=(d:Int)*35184372088832:=by
    have e:aBz a b c*aBz a b c+aCu a b c*aCu a b c=(d:Int)*((c.1-a.1)*(c.1-a.1)+(c.2-a.2)*(c.2-a.2)):=by
      rw [←hd];exact h1
    have h6:=Int.mul_le_mul_of_nonneg_left (c:=(d:Int)) (show (c.1-a.1)*(c.1-a.1)+(c.2-a.2)*(c.2-a.2)<=35184372088832 by omega) (by omega);omega
  rw [←aPh] at h5;omega
theorem aWz {P:Program}{w:World}{t:TypeId}(m:Int) (ht:P.underlying t=some (.int .i64)) (h : -9223372036854775808 <= -m /\ -m<=9223372036854775807:=by omega):Ft.ok P w (.g1 (fun x => .unOp .neg t x) (.int .i64 m) (.int .i64 (-m))):=fun o ρ x ho hx=>by
  simp [execOp,ho,hx,go_sem,ht,IntWalk.i64_in _ h]
theorem aLu {w:World}(a:Nat) {z:Int}(h:a<9223372036854775808) (hz:z=(a:Int)):Ft.ok Tryz.prog w (.g1 (.convert 3 164) (vI z) (v64 a)):=by subst hz;exact aX7 a h
theorem aBJ (s:Pt×Pt) (p:Pt) (w:World):Calls Tryz.prog 113 #[.agg #[vI s.1.1,vI s.1.2,vI s.2.1,vI s.2.2],.agg #[vI p.1,vI p.2]] w fun e w'=>e = .returned (vI (aA3 s p)) /\ Fr nF_ w w':=by
  refine beg Tryz.func113 rfl rfl [(0,.agg #[vI s.1.1,vI s.1.2,vI s.2.1,vI s.2.2]),(1,.agg #[vI p.1,vI p.2])] rfl rfl fun Y hY=>?_;have hM:=Mm.nil nF_ w;refine aAu 0 0 2 [] (cs:=#[vI s.1.1,vI s.1.2,vI s.2.1,vI s.2.2]) (T:=126) (v:=fun b=>vP b 0) f0 hM fun ae w1 hM=>aAu 0 1 3 [] (cs:=#[vI p.1,vI p.2]) (T:=29) (v:=fun b=>vP b 0) f0 hM fun af w1 hM=>aAu 1 5 18 [(14,.agg #[vI s.1.1,vI s.1.2]),(16,.agg #[vI s.2.1,vI s.2.2]),(17,.agg #[vI p.1,vI p.2])] (cs:=#[vI s.1.1,vI s.1.2,vI s.2.1,vI s.2.2,vI p.1,vI p.2]) (T:=29) (v:=fun b=>vL (some ⟨b,0,none⟩) 3 3) (fc (lam 29 0 0 2 hM rfl) (fc (lam 29 0 2 2 hM rfl) (fc (lam 29 1 0 2 hM rfl) f0))) hM fun ad w1 hM=>aAx 1 6 19 [] f0 hM (aCF (L:=[s.1,s.2,p]) (aBH (f:=ptL) (c:=2) (b:=ad) (hM.get 2 rfl) [s.1,s.2,p] 3 (fun _=>rfl) rfl rfl)) fun w1 hM=>seg 1 8 [(20,vB (!([s.1,s.2,p].all aA0)))] f0 ?_;cases aa:([s.1,s.2,p].all aA0)
  ·exact rt1 4 (vI 0) rfl f0 (hY _ _ ⟨by unfold aA3;simp only [aa]<;>rfl,hM.fr⟩)
  have ha:aA0 s.1=true:=List.all_eq_true.1 aa (s.1) (.head _);have ba:=aBa ha;have hb:aA0 s.2=true:=List.all_eq_true.1 aa (s.2) (.tail _ (.head _));have bb:=aBa hb;have hc:aA0 p=true:=List.all_eq_true.1 aa (p) (.tail _ (.tail _ (.head _)));have bc:=aBa hc;have ku:=aCs (x:=(s.2.1-s.1.1)) (y:=(p.2-s.1.2)) (by omega) (by omega) (by omega) (by omega);have kv:=aCs (x:=(s.2.2-s.1.2)) (y:=(p.1-s.1.1)) (by omega) (by omega) (by omega) (by omega);have kx:=aCs (x:=(s.2.1-s.1.1)) (y:=(s.2.1-s.1.1)) (by omega) (by omega) (by omega) (by omega);have ky:=aCs (x:=(s.2.2-s.1.2)) (y:=(s.2.2-s.1.2)) (by omega) (by omega) (by omega) (by omega);have htr : -35184372088832<=aBz s.1 s.2 p /\ aBz s.1 s.2 p<=35184372088832:=by unfold aBz;omega
  have hdd:aCu s.1 s.2 s.2<=35184372088832:=by unfold aCu;omega
  refine seg 3 0 [] f0 ?_;have hM:=hM.nl;have hM:=hM.nl;refine drx [4,8,9,10,11,12] (fun Z=>[some (.agg #[vI (s.2.1-s.1.1),vI (s.2.2-s.1.2)]),some (.agg #[vI (p.1-s.1.1),vI (p.2-s.1.2)]),some (vP (bn (Z 2)) 0),some (vP (bn (Z 3)) 0),none,none]) _ (fun Z l=>[bk ae #[vI s.1.1,vI s.1.2,vI s.2.1,vI s.2.2] 126,bk af #[vI p.1,vI p.2] 29,bk ad #[vI s.1.1,vI s.1.2,vI s.2.1,vI s.2.2,vI p.1,vI p.2] 29,(bif l.getD 4 false then bk (bn (Z 2)) #[vI (s.2.1-s.1.1),vI (s.2.2-s.1.2)] 240 else (bif l.getD 2 false then bk (bn (Z 2)) #[vI 0,vI 0] 240 else aEK)),(bif l.getD 5 false then bk (bn (Z 3)) #[vI (p.1-s.1.1),vI (p.2-s.1.2)] 240 else (bif l.getD 3 false then bk (bn (Z 3)) #[vI 0,vI 0] 240 else aEK))]) (fun Z=>[(5,vP (bn (Z 2)) 0),(6,vP (bn (Z 3)) 0)]) hM (fun Z=>rfl) (fun Z l w5 hM=>(fc (lam 29 0 0 2 hM rfl) (fc (lam 29 0 2 2 hM rfl) (fc (lam 29 0 0 2 hM rfl) (fc (lam 29 1 0 2 hM rfl) f0))))) ⟨aAH 0 4 25 (f:=157) (fun Z=>#[.agg #[vI s.1.1,vI s.1.2],.agg #[vI s.2.1,vI s.2.2]]) (.agg #[vI (s.2.1-s.1.1),vI (s.2.2-s.1.2)]) (fun Z fr wm hM=>(aDX ha hb _)),aAH 1 8 29 (f:=157) (fun Z=>#[.agg #[vI s.1.1,vI s.1.2],.agg #[vI p.1,vI p.2]]) (.agg #[vI (p.1-s.1.1),vI (p.2-s.1.2)]) (fun Z fr wm hM=>(aDX ha hc _)),aDx 2 9 3 5 (fun Z=>#[vI 0,vI 0]) 240 (fun b=>vP b 0),aDx 3 10 4 6 (fun Z=>#[vI 0,vI 0]) 240 (fun b=>vP b 0),aCz 4 11 240 3 0 (fun Z=>(bn (Z 2))) (fun Z l=>#[vI 0,vI 0]) 240 (fun Z => .agg #[vI (s.2.1-s.1.1),vI (s.2.2-s.1.2)]),aCz 5 12 240 4 0 (fun Z=>(bn (Z 3))) (fun Z l=>#[vI 0,vI 0]) 240 (fun Z => .agg #[vI (p.1-s.1.1),vI (p.2-s.1.2)]),trivial⟩ fun ag w1 hM=>?_;replace hM:Mm nF_ w w1 [bk ae #[vI s.1.1,vI s.1.2,vI s.2.1,vI s.2.2] 126,bk af #[vI p.1,vI p.2] 29,bk ad #[vI s.1.1,vI s.1.2,vI s.2.1,vI s.2.2,vI p.1,vI p.2] 29,bk (bn (ag 2)) #[vI (s.2.1-s.1.1),vI (s.2.2-s.1.2)] 240,bk (bn (ag 3)) #[vI (p.1-s.1.1),vI (p.2-s.1.2)] 240]:=hM;refine aAx 4 2 32 [(30,.agg #[vI (s.2.1-s.1.1),vI (s.2.2-s.1.2)]),(31,.agg #[vI (p.1-s.1.1),vI (p.2-s.1.2)])] (fc (lam 240 3 0 2 hM rfl) (fc (lam 240 4 0 2 hM rfl) f0)) hM (aD7 (x:=(s.2.1-s.1.1)) (y:=(s.2.2-s.1.2)) (u:=(p.1-s.1.1)) (v:=(p.2-s.1.2)) ⟨by omega,by omega⟩ ⟨by omega,by omega⟩ ⟨by omega,by omega⟩ ⟨by omega,by omega⟩) fun w1 hM=>seg 5 3 [(7,vI (aCu s.1 s.2 p)),(33,vB (decide ((aCu s.1 s.2 p)<=0)))] f0 ?_;cases ab:(decide ((aCu s.1 s.2 p)<=0))
  rotate_left
  ·have ai:=dt ab;refine aAx 6 3 39 [(37,.agg #[vI s.1.1,vI s.1.2]),(38,.agg #[vI p.1,vI p.2])] (fc (lam 29 0 0 2 hM rfl) (fc (lam 29 1 0 2 hM rfl) f0)) hM (aG7 s.1 p _) fun w1 hM=>rt1 4 (vI (aEX s.1 p)) rfl f0 (hY _ _ ⟨by unfold aA3;simp only [aa,ab]<;>rfl,hM.fr⟩)
  have ai:=df ab;refine aAx 7 3 44 [(41,vI (aCu s.1 s.2 p)),(42,.agg #[vI (s.2.1-s.1.1),vI (s.2.2-s.1.2)]),(43,.agg #[vI (s.2.1-s.1.1),vI (s.2.2-s.1.2)])] (fc (lam 240 3 0 2 hM rfl) (fc (lam 240 3 0 2 hM rfl) f0)) hM (aD7 (x:=(s.2.1-s.1.1)) (y:=(s.2.2-s.1.2)) (u:=(s.2.1-s.1.1)) (v:=(s.2.2-s.1.2)) ⟨by omega,by omega⟩ ⟨by omega,by omega⟩ ⟨by omega,by omega⟩ ⟨by omega,by omega⟩) fun w1 hM=>seg 7 6 [(40,vB (decide ((aCu s.1 s.2 s.2)<=(aCu s.1 s.2 p))))] f0 ?_;cases ac:(decide ((aCu s.1 s.2 s.2)<=(aCu s.1 s.2 p)))
  rotate_left
  ·have aj:=dt ac;refine aAx 8 3 49 [(47,.agg #[vI s.2.1,vI s.2.2]),(48,.agg #[vI p.1,vI p.2])] (fc (lam 29 0 2 2 hM rfl) (fc (lam 29 1 0 2 hM rfl) f0)) hM (aG7 s.2 p _) fun w1 hM=>rt1 4 (vI (aEX s.2 p)) rfl f0 (hY _ _ ⟨by unfold aA3;simp only [aa,ab,ac]<;>rfl,hM.fr⟩)
  have aj:=df ac;obtain ⟨dn,hdn⟩:∃ z:Nat,aCu s.1 s.2 s.2=(z:Int):=⟨(aCu s.1 s.2 s.2).toNat,by omega⟩;obtain ⟨kn,hkn⟩:∃ z,z=(aBz s.1 s.2 p).natAbs:=⟨_,rfl⟩;have hsq:=aRr ha hb hc hdn;rw [←hkn] at hsq;have hlt:kn*kn / 18446744073709551616<dn:=by rw [Nat.div_lt_iff_lt_mul (by omega)];omega
  have hkk:kn*kn / 18446744073709551616*18446744073709551616+kn*kn%18446744073709551616=kn*kn:=by rw [Nat.mul_comm (kn*kn / 18446744073709551616)];exact Nat.div_add_mod _ _
  refine aAx 9 2 52 [(50,.agg #[vI (s.2.1-s.1.1),vI (s.2.2-s.1.2)]),(51,.agg #[vI (p.1-s.1.1),vI (p.2-s.1.2)])] (fc (lam 240 3 0 2 hM rfl) (fc (lam 240 4 0 2 hM rfl) f0)) hM (aFS (x:=(s.2.1-s.1.1)) (y:=(s.2.2-s.1.2)) (u:=(p.1-s.1.1)) (v:=(p.2-s.1.2)) ⟨by omega,by omega⟩ ⟨by omega,by omega⟩ ⟨by omega,by omega⟩ ⟨by omega,by omega⟩) fun w1 hM=>seg 10 2 [(8,vI (aBz s.1 s.2 p)),(54,vB (decide ((aBz s.1 s.2 p)<0)))] f0 ?_;cases ah:(decide ((aBz s.1 s.2 p)<0))
  ·have ak:=df ah;refine aAx 12 4 62 [(59,.int .u64 ((kn:Nat):Int)),(61,.int .u64 ((kn:Nat):Int))] (fc (aLu kn (z:=(aBz s.1 s.2 p)) (by omega) (by omega)) (fc (aLu kn (z:=(aBz s.1 s.2 p)) (by omega) (by omega)) f0)) hM ((Tryz.bits_Mul64 kn kn (by omega) (by omega) _).mono fun e w9 ⟨h1,h2⟩=>⟨h1,by rw [h2];exact Fr.refl _ _⟩) fun w1 hM=>aAx 13 4 70 [(66,.int .u64 ((kn*kn / 18446744073709551616:Nat):Int)),(67,.int .u64 ((kn*kn%18446744073709551616:Nat):Int)),(68,.agg #[vI (s.2.1-s.1.1),vI (s.2.2-s.1.2)]),(69,.agg #[vI (s.2.1-s.1.1),vI (s.2.2-s.1.2)])] (fc (lam 240 3 0 2 hM rfl) (fc (lam 240 3 0 2 hM rfl) f0)) hM (aD7 (x:=(s.2.1-s.1.1)) (y:=(s.2.2-s.1.2)) (u:=(s.2.1-s.1.1)) (v:=(s.2.2-s.1.2)) ⟨by omega,by omega⟩ ⟨by omega,by omega⟩ ⟨by omega,by omega⟩ ⟨by omega,by omega⟩) fun w1 hM=>cal 13 6 72 [(71,.int .u64 ((dn:Nat):Int))] (K:=fun u w8=>∃ rem:Nat,u = .tuple #[v64 ((kn*kn / 18446744073709551616*18446744073709551616+kn*kn%18446744073709551616) / dn),v64 rem] /\ Fr nF_ w1 w8) (fc (aLu dn (z:=(aCu s.1 s.2 s.2)) (by omega) (by omega)) f0) ((aFR hlt (Nat.mod_lt _ (by omega)) (by omega)).mono fun e w8 ⟨⟨rem,h1⟩,h2⟩=>⟨_,h1,rem,rfl,h2⟩) fun u w1 ⟨rem,hu,f1⟩=>?_;subst hu;have hM:=hM.q f1;have hqs9:(kn*kn / 18446744073709551616*18446744073709551616+kn*kn%18446744073709551616) / dn<9223372036854775808:=by rw [hkk];exact Nat.lt_of_le_of_lt (Nat.div_le_of_le_mul hsq) (by omega)
   exact rt1 4 (vI (((kn*kn / 18446744073709551616*18446744073709551616+kn*kn%18446744073709551616) / dn:Nat):Int)) rfl (fc (aWr ((kn*kn / 18446744073709551616*18446744073709551616+kn*kn%18446744073709551616) / dn) hqs9) f0) (hY _ _ ⟨by unfold aA3;rw [aa,ab,ac,←hkn,hdn,Int.toNat_natCast,hkk];rfl,hM.fr⟩)
  have ak:=dt ah;refine aAx 12 4 62 [(8,vI (-(aBz s.1 s.2 p))),(59,.int .u64 ((kn:Nat):Int)),(61,.int .u64 ((kn:Nat):Int))] (fc (aWz (aBz s.1 s.2 p) u3_) (fc (aLu kn (z:=(-(aBz s.1 s.2 p))) (by omega) (by omega)) (fc (aLu kn (z:=(-(aBz s.1 s.2 p))) (by omega) (by omega)) f0))) hM ((Tryz.bits_Mul64 kn kn (by omega) (by omega) _).mono fun e w9 ⟨h1,h2⟩=>⟨h1,by rw [h2];exact Fr.refl _ _⟩) fun w1 hM=>aAx 13 4 70 [(66,.int .u64 ((kn*kn / 18446744073709551616:Nat):Int)),(67,.int .u64 ((kn*kn%18446744073709551616:Nat):Int)),(68,.agg #[vI (s.2.1-s.1.1),vI (s.2.2-s.1.2)]),(69,.agg #[vI (s.2.1-s.1.1),vI (s.2.2-s.1.2)])] (fc (lam 240 3 0 2 hM rfl) (fc (lam 240 3 0 2 hM rfl) f0)) hM (aD7 (x:=(s.2.1-s.1.1)) (y:=(s.2.2-s.1.2)) (u:=(s.2.1-s.1.1)) (v:=(s.2.2-s.1.2)) ⟨by omega,by omega⟩ ⟨by omega,by omega⟩ ⟨by omega,by omega⟩ ⟨by omega,by omega⟩) fun w1 hM=>cal 13 6 72 [(71,.int .u64 ((dn:Nat):Int))] (K:=fun u w8=>∃ rem:Nat,u = .tuple #[v64 ((kn*kn / 18446744073709551616*18446744073709551616+kn*kn%18446744073709551616) / dn),v64 rem] /\ Fr nF_ w1 w8) (fc (aLu dn (z:=(aCu s.1 s.2 s.2)) (by omega) (by omega)) f0) ((aFR hlt (Nat.mod_lt _ (by omega)) (by omega)).mono fun e w8 ⟨⟨rem,h1⟩,h2⟩=>⟨_,h1,rem,rfl,h2⟩) fun u w1 ⟨rem,hu,f1⟩=>?_;subst hu;have hM:=hM.q f1;have hqs9:(kn*kn / 18446744073709551616*18446744073709551616+kn*kn%18446744073709551616) / dn<9223372036854775808:=by rw [hkk];exact Nat.lt_of_le_of_lt (Nat.div_le_of_le_mul hsq) (by omega)
  exact rt1 4 (vI (((kn*kn / 18446744073709551616*18446744073709551616+kn*kn%18446744073709551616) / dn:Nat):Int)) rfl (fc (aWr ((kn*kn / 18446744073709551616*18446744073709551616+kn*kn%18446744073709551616) / dn) hqs9) f0) (hY _ _ ⟨by unfold aA3;rw [aa,ab,ac,←hkn,hdn,Int.toNat_natCast,hkk];rfl,hM.fr⟩)
def rnP (p:Pt):Bool:=decide (-2097152<=min p.1 p.2)&&decide (max p.1 p.2<=2097152)
def aLH (L:List Pt):Bool:=decide (3<=(L.length:Int))&&decide ((L.length:Int)<=2000) && !(L.any fun p => !(rnP p))
def btw (a n b:Int):Bool:=decide (min a b<=n)&&decide (n<=max a b)
def aDQ (a b c:Pt):Int:=(b.1-a.1)*(c.2-b.2)-(b.2-a.2)*(c.1-b.1)
theorem aJo {p:Pt}(h:rnP p=true) : -2097152<=p.1 /\ p.1<=2097152 /\ -2097152<=p.2 /\ p.2<=2097152:=by
  unfold rnP at h;simp only [Ga_,decide_eq_true_eq] at h;omega
theorem aF7 (p:Pt) (w:World):Calls Tryz.prog 178 #[.agg #[vI p.1,vI p.2]] w fun e w'=>e = .returned (vB (rnP p)) /\ Fr nF_ w w':=by
  refine beg Tryz.func178 rfl rfl [(0,.agg #[vI p.1,vI p.2])] rfl rfl fun Z hZ=>?_;have hM:=Mm.nil nF_ w;refine aAu 0 0 1 [] (cs:=#[vI p.1,vI p.2]) (T:=29) (v:=fun b=>vP b 0) f0 hM fun ab w1 hM=>seg 1 7 [(9,vB (decide ((-2097152)<=(min p.1 p.2))))] (fc (ldm 3 0 0 hM rfl rfl) (fc (ldm 3 0 1 hM rfl rfl) (fc (aSt 3 p.1 p.2) f0))) ?_;cases aa:(decide ((-2097152)<=(min p.1 p.2)))
  ·exact rt1 2 (vB false) rfl f0 (hZ _ _ ⟨by unfold rnP;simp only [aa]<;>rfl,hM.fr⟩)
  exact rt1 2 (vB (decide ((max p.1 p.2)<=2097152))) rfl (fc (ldm 3 0 0 hM rfl rfl) (fc (ldm 3 0 1 hM rfl rfl) (fc (aU0 3 p.1 p.2) f0))) (hZ _ _ ⟨by unfold rnP;simp only [aa]<;>rfl,hM.fr⟩)
theorem aLF (p:Pt) (w:World):Calls Tryz.prog 177 #[.agg #[vI p.1,vI p.2]] w fun e w'=>e = .returned (vB (!(rnP p))) /\ Fr nF_ w w':=by
  refine beg Tryz.func177 rfl rfl [(0,.agg #[vI p.1,vI p.2])] rfl rfl fun Z hZ=>?_;have hM:=Mm.nil nF_ w;refine aAu 0 0 1 [] (cs:=#[vI p.1,vI p.2]) (T:=29) (v:=fun b=>vP b 0) f0 hM fun aa w1 hM=>aAx 1 1 4 [(3,.agg #[vI p.1,vI p.2])] (fc (lam 29 0 0 2 hM rfl) f0) hM (aF7 p _) fun w1 hM=>rt1 2 (vB (!(rnP p))) rfl f0 (hZ _ _ ⟨rfl,hM.fr⟩)
abbrev aX4 (Z:Ending->World->Prop):=AtO Tryz.prog (aAw Tryz.f225) (aAL (bodyPost Tryz.prog Tryz.f225 Z)) [] 19
theorem aLY {w:World}{B:Nat}{p:Option Addr}{cap:Nat}{L:List Pt}{f:FuncId}{caps:Array Value}{G:Nat->Prop}(hs:SrcB ptL 2 w B p cap L) (hG:∀ k,G k->B<=k) (eg:aIL Tryz.prog f) (I:Nat->World->Prop) (q:Nat->Bool) (h0:I 0 w) (step:∀ i x w1,L[i]?=some x->(∀ j,j<i->q j=false)->I i w1->Fr G w w1->Calls Tryz.prog f (#[vA (ptL x)]++caps) w1 fun e w2=>e = .returned (vB (q i)) /\ I (i+1) w2 /\ Fr G w1 w2):Calls Tryz.prog 225 #[vL p L.length cap,.func (.func f) #[] caps] w fun e w'=>(∃ z,e = .returned (vI z) /\ Fst L q I w' z) /\ Fr G w w':=by
  have bb:=hs.bnd;refine beg Tryz.func225 rfl rfl [(0,vL p L.length cap),(1,.func (.func f) #[] caps)] rfl rfl fun Z hZ=>?_;have hM:=Mm.nil G w;refine seg 2 0 [(7,vI (L.length:Int)),(8,vI 0)] f0 ?_
  have af:∀ (ac:Nat) (i:Nat) (w2:World),i<=L.length->(∀ j,j<i->q j=false)->I i w2->Mm G w w2 []->ac=L.length-i->aX4 Z (some (2,0)) [(8,vI (i:Int)),(7,vI (L.length:Int)),(0,vL p L.length cap),(1,.func (.func f) #[] caps)] w2:=by
   refine aCx fun ac ag i w2 hi hq hI hM ak=>seg 2 1 [(9,vB (decide ((i:Int)<(L.length:Int))))] f0 ?_;cases ad:(decide ((i:Int)<(L.length:Int)))
   ·have ah:=df ad;exact rt1 4 (vI (-1)) rfl f0 (hZ _ _ ⟨⟨_,rfl,.end_ (by omega) hq hI⟩,hM.fr⟩)
   have ah:=dt ad;obtain ⟨ab,aa,al,am,ai,aj,n110⟩:=(hs).eb hG (i:=i) (by omega);refine aT8 4 5 16 [(5,vI (i:Int)),(11,.func (.func f) #[] caps),(15,.agg #[vI ab.1,vI ab.2])] #[29] (K:=fun u w9=>u=vB (q i) /\ I (i+1) w9 /\ Fr G w2 w9) (by decide) (fc (ix 100 cap ai (gl aa)) (fc (la0 29 hM aj n110) f0)) eg ((step i ab _ aa hq hI hM.fr).mono fun e w9 h=>⟨_,h.1,rfl,h.2⟩) fun u w1 ⟨hu,hI,f1⟩=>?_;subst hu;have hM:=hM.g f1;cases ae:(q i)
   ·refine seg 2 0 [(8,vI ((i:Int)+1))] (fc (aAI (i:Int) 1 u3_) f0) (aAh _ (ag _ (by omega) (i+1) _ (gl aa) (fun j hj=>by rcases Nat.lt_succ_iff_lt_or_eq.1 hj with h | h;exact hq j h;rw [h];exact ae) hI hM rfl))
   exact rt1 4 (vI (i:Int)) rfl f0 (hZ _ _ ⟨⟨_,rfl,.some i (gl aa) ae hq hI⟩,hM.fr⟩)
  exact aAh _ (af _ 0 _ (Gg_ _) (fun _ h=>absurd h (Nat.not_lt_zero _)) h0 hM rfl)
theorem aOE {w:World}{B:Nat}{p:Option Addr}{cap:Nat}{L:List Pt}{f:FuncId}{caps:Array Value}{G:Nat->Prop}(hs:SrcB ptL 2 w B p cap L) (hG:∀ k,G k->B<=k) (eg:aIL Tryz.prog f) (I:Nat->World->Prop) (q:Nat->Bool) (h0:I 0 w) (step:∀ i x w1,L[i]?=some x->(∀ j,j<i->q j=false)->I i w1->Fr G w w1->Calls Tryz.prog f (#[vA (ptL x)]++caps) w1 fun e w2=>e = .returned (vB (q i)) /\ I (i+1) w2 /\ Fr G w1 w2):Calls Tryz.prog 176 #[vL p L.length cap,.func (.func f) #[] caps] w fun e w'=>(∃ z,e = .returned (vB (decide (0<=z))) /\ Fst L q I w' z) /\ Fr G w w':=by
  refine beg Tryz.func176 rfl rfl [(0,vL p L.length cap),(1,.func (.func f) #[] caps)] rfl rfl fun Z hZ=>?_;have hM:=Mm.nil G w;refine cal 1 2 7 [(5,vL p L.length cap),(6,.func (.func f) #[] caps)] (K:=fun u w8=>∃ z,u=vI z /\ Fst L q I w8 z /\ Fr G w w8) f0 ((aLY hs hG eg I q h0 step).mono fun e w9 h=>⟨_,h.1.choose_spec.1,_,rfl,h.1.choose_spec.2,h.2⟩) fun u w1 ⟨z,hu,hz,f1⟩=>?_;subst hu;have hM:=hM.g f1;exact rt1 4 (vB (decide (0<=z))) rfl f0 (hZ _ _ ⟨⟨_,rfl,hz⟩,hM.fr⟩)
theorem aHc {w:World}{p:Option Addr}{cap:Nat}{L:List Pt}(hs:SrcP ptL 2 w p cap L):Calls Tryz.prog 128 #[vL p L.length cap] w fun e w'=>e = .returned (vB (aLH L)) /\ Fr nF_ w w':=by
  refine beg Tryz.func128 rfl rfl [(0,vL p L.length cap)] rfl rfl fun Z hZ=>?_;have hM:=Mm.nil nF_ w;refine seg 1 4 [(6,vB (decide (3<=(L.length:Int))))] f0 ?_;cases aa:(decide (3<=(L.length:Int)))
  ·exact rt1 2 (vB false) rfl f0 (hZ _ _ ⟨by unfold aLH;simp only [aa]<;>rfl,hM.fr⟩)
  refine seg 1 9 [(11,vB (decide ((L.length:Int)<=2000)))] f0 ?_;cases ab:(decide ((L.length:Int)<=2000))
  ·exact rt1 2 (vB false) rfl f0 (hZ _ _ ⟨by unfold aLH;simp only [aa,ab]<;>rfl,hM.fr⟩)
  refine aAx 1 10 13 [(12,vL p L.length cap)] f0 hM ((aOE (caps:=#[]) (hs.b hM.fr) (G:=fun _=>False) (fun _ h=>h.elim) (enters_of Tryz.func177 (by kernel_rfl) rfl) (fun _ _=>True) (atQ L fun p => !(rnP p)) trivial (fun i x w1 hx _ _ f=>(aLF x w1).mono fun e w2 h=>⟨by rw [h.1];unfold atQ;rw [hx],trivial,h.2⟩)).mono fun e w9 h=>⟨by obtain ⟨z,h1,h2⟩:=h.1;rw [h1,aHx h2],h.2⟩) fun w1 hM=>rt1 2 (vB (!(L.any fun p => !(rnP p)))) rfl f0 (hZ _ _ ⟨by unfold aLH;simp only [aa,ab]<;>rfl,hM.fr⟩)
theorem aEp (a n b:Int) (w:World):Calls Tryz.prog 232 #[vI a,vI n,vI b] w fun e w'=>e = .returned (vB (btw a n b)) /\ Fr nF_ w w':=by
  refine beg Tryz.func232 rfl rfl [(0,vI a),(1,vI n),(2,vI b)] rfl rfl fun Z hZ=>?_;have hM:=Mm.nil nF_ w;refine seg 1 6 [(12,vB (decide ((min a b)<=n)))] (fc (aSt 3 a b) f0) ?_;cases aa:(decide ((min a b)<=n))
  ·exact rt1 6 (vB false) rfl f0 (hZ _ _ ⟨by unfold btw;simp only [aa]<;>rfl,hM.fr⟩)
  exact rt1 6 (vB (decide (n<=(max a b)))) rfl (fc (aU0 3 a b) f0) (hZ _ _ ⟨by unfold btw;simp only [aa]<;>rfl,hM.fr⟩)
theorem aLv {a b c:Pt}(ha:rnP a=true) (hb:rnP b=true) (hc:rnP c=true) (w:World):Calls Tryz.prog 231 #[.agg #[vI a.1,vI a.2],.agg #[vI b.1,vI b.2],.agg #[vI c.1,vI c.2]] w fun e w'=>e = .returned (vI (aDQ a b c)) /\ Fr nF_ w w':=by
  have ba:=aJo ha;have bb:=aJo hb;have bc:=aJo hc;have k1:=aCs (x:=(b.1-a.1)) (y:=(c.2-b.2)) (by omega) (by omega) (by omega) (by omega);have k2:=aCs (x:=(b.2-a.2)) (y:=(c.1-b.1)) (by omega) (by omega) (by omega) (by omega);refine beg Tryz.func231 rfl rfl [(0,.agg #[vI a.1,vI a.2]),(1,.agg #[vI b.1,vI b.2]),(2,.agg #[vI c.1,vI c.2])] rfl rfl fun Z hZ=>?_;have hM:=Mm.nil nF_ w;refine aAu 0 0 3 [] (cs:=#[vI a.1,vI a.2]) (T:=29) (v:=fun b=>vP b 0) f0 hM fun aa w1 hM=>aAu 0 1 4 [] (cs:=#[vI b.1,vI b.2]) (T:=29) (v:=fun b=>vP b 0) f0 hM fun ab w1 hM=>aAu 0 2 5 [] (cs:=#[vI c.1,vI c.2]) (T:=29) (v:=fun b=>vP b 0) f0 hM fun ac w1 hM=>rt1 6 (vI (((b.1-a.1)*(c.2-b.2))-((b.2-a.2)*(c.1-b.1)))) rfl (fc (ldm 3 1 0 hM rfl rfl) (fc (ldm 3 0 0 hM rfl rfl) (fc (aGb b.1 a.1 u3_) (fc (ldm 3 2 1 hM rfl rfl) (fc (ldm 3 1 1 hM rfl rfl) (fc (aGb c.2 b.2 u3_) (fc (aHN (b.1-a.1) (c.2-b.2) u3_) (fc (ldm 3 1 1 hM rfl rfl) (fc (ldm 3 0 1 hM rfl rfl) (fc (aGb b.2 a.2 u3_) (fc (ldm 3 2 0 hM rfl rfl) (fc (ldm 3 1 0 hM rfl rfl) (fc (aGb c.1 b.1 u3_) (fc (aHN (b.2-a.2) (c.1-b.1) u3_) (fc (aGb ((b.1-a.1)*(c.2-b.2)) ((b.2-a.2)*(c.1-b.1)) u3_) f0))))))))))))))) (hZ _ _ ⟨rfl,hM.fr⟩)
end Go.Proofs.YtngjlnhojicjeaaGreatDoor
namespace Go.Pl
open Go.RowKit Go.Proofs.YtngjlnhojicjeaaGreatDoor
def aTX (P:Program) (gf:Nat) (lb:Array Value) (vs:List (Array Value)) (Kp:(Nat->Prop)->World->Prop):Prop :=
 ∀ (l:Nat) (J:Nat->Ent->Prop) (S:World->Prop) (W0:World) (e0:Ent),J 0 e0->e0.H W0->Kp e0.B W0->(∀ W W',S W->Fr nF_ W W'->S W')->(∀ W,S W->Fr e0.B W0 W) ->
  (∀ k e v W,J k e->e.H W->Fr e0.B W0 W->vs[k]?=some v->aEC P l v W (aVX J k e W) S) ->
  Calls P gf (#[.func (.yield l) #[] #[]]++lb) W0 fun x W'=>(∃ v,x = .returned v) /\ ((∃ e,J vs.length e /\ e.H W' /\ Fr e0.B W0 W')∨S W')
section
variable {P:Program}{B:Code}{ds:List Deferred}{n:Nat}{L:Frm}{w w0:World}{F0:Nat->Prop}{M:List Ent}{Qf:Exit->Act->World->Prop}
structure REndX (P:Program) (I:Nat->List Ent->Prop) (T:List Ent->Prop) (k:Nat) (M1:List Ent) (W:World) (l:Nat) (R:Pst):Prop where
 lp:∃ rr,W.heap[l]?=some (.loop rr)
 nl:¬ BlM M1 l
 rd:R.rd=some l
 nrm:∀ a M' W',I (k+1) M'->Mm (BlM M1) W W' M'->R.q .normal a W'
 ret:∀ a M' W',T M'->Mm (BlM M1) W W' M'->R.q .ret a W'
def aZk (P:Program) (bd:Code) (n:Nat) (F0:Nat->Prop) (w0:World) (I:Nat->List Ent->Prop) (T:List Ent->Prop) (k:Nat) (Mk:List Ent) (W:World):Exit->Act->World->Prop
 | .normal,a,W1=>∃ Lb M1,EnvS [] n Lb a /\ Mm (BlM Mk) W W1 M1 /\ ∀ W2 l R,Fr F0 w0 W2->Mm (BlM M1) W2 W2 M1->REndX P I T k M1 W2 l R->AtO P bd R [] n none Lb W2
 | _,_,_=>False
def aQ8 (M:List Ent) (l:Nat) (r:Loop):Ent where
 B:=fun k=>BlM M k∨k=l
 H:=fun w=>(∀ e∈M,e.H w) /\ w.heap[l]?=some (.loop r)
 lt:=fun h e=>by
  rcases e with ⟨x,hx,hk⟩ | rfl
  ·exact x.lt (h.1 x hx) hk
  ·exact aAe h.2
 fr:=fun h f hd=>⟨fun e he=>e.fr (h.1 e he) f fun k hk=>hd k (.inl ⟨e,he,hk⟩),f.obj h.2 (hd _ (.inr rfl))⟩
structure REndN (P:Program) (I:Nat->List Ent->Prop) (T Tb:List Ent->Prop) (X:Nat) (k:Nat) (M1:List Ent) (W:World) (l:Nat) (R:Pst):Prop where
 rd:R.rd=some l
 nrm:∀ a M' W',I (k+1) M'->Mm (BlM M1) W W' M'->R.q .normal a W'
 ret:∀ a M' W',T M'->Mm (BlM M1) W W' M'->R.q .ret a W'
 brk:∀ a M' W',Tb M'->Mm (BlM M1) W W' M'->R.q (.exit X) a W'
def aZl (P:Program) (bd:Code) (n:Nat) (F0:Nat->Prop) (w0:World) (I:Nat->List Ent->Prop) (T Tb:List Ent->Prop) (X k:Nat) (Mk:List Ent) (W:World):Exit->Act->World->Prop
 | .normal,a,W1=>∃ Lb M1,EnvS [] n Lb a /\ Mm (BlM Mk) W W1 M1 /\ ∀ W2 l R,Fr F0 w0 W2->Mm (BlM M1) W2 W2 M1->REndN P I T Tb X k M1 W2 l R->AtO P bd R [] n none Lb W2
 | _,_,_=>False
def aYy (X:Nat) (A T Tb:World->Prop):Exit->Act->World->Prop
 | .normal,_,W=>A W
 | .ret,_,W=>T W
 | .exit id,_,W=>id=X /\ Tb W
 | _,_,_=>False
def hdB (X:Nat):List Kon->Bool
 | .block j::_=>Nat.beq j X
 | _=>false
set_option maxHeartbeats 4000000 in
theorem aWJ {R:Pst}{l0:Nat}{rr:Loop}(q X:Nat) {g:Operand}{ps:Array Tmp}{gf:Nat}{lb:Array Value}{vs:List (Array Value)}{Kp:(Nat->Prop)->World->Prop}(I:Nat->List Ent->Prop) (T Tb:List Ent->Prop)
  (hrd:R.rd=some l0) (hl0:w.heap[l0]?=some (.loop rr))
  (hM:Mm F0 w0 w M) (h0:I 0 M) (eg:aIL P gf) (hY:aTX P gf lb vs Kp)
  (hK:∀ (G:Nat->Prop) W,(∀ k,G k->BlM M k∨w.heap.size<=k)->Fr nF_ w W->Kp G W)
  (hps:∀ v∈vs,v.size=ps.size)
  (hround:∀ k v Mk W l,vs[k]?=some v->I k Mk->Fr F0 w0 W->Mm (BlM Mk) W W Mk->AtO P (aUm (1000+q) B) ⟨aZl P (aSf (1000+q) B) n F0 w0 I T Tb X k Mk W,some l⟩ [] n none ((ps.toList.zip v.toList).reverse++L) W)
  (hdone:∀ M' W',I vs.length M'∨Tb M'->Mm F0 w0 W' M'->AtO P B R [] n (some (2000+q,0)) L W')
  (hstop:∀ a M' W',T M'->Mm F0 w0 W' M'->EnvS [] n L a->R.q .ret a W')
  (hx:(match aBc (2000+q) B [] with | some (_,_,k)=>hdB X k | none=>false)=true)
  (h:(match aBc (1000+q) B [],aBc (2000+q) B [],aLG (1000+q) B with
   | some (O,dr,.seq (.rangeFunc g1 ps1 as1 bd1)::k1),some (O2,dr2,k2),some (g2,ps2,as2,bd2)=>some (O,dr,O2,dr2,[Kon.seq (.rangeFunc g1 ps1 as1 bd1)],k1,opv L g1,ps.toList.all fun p=>Nat.blt p n)
   | _,_,_=>none)=(match aBc (1000+q) B [],aBc (2000+q) B [],aLG (1000+q) B with
   | some (O,dr,.seq (.rangeFunc g1 ps1 as1 bd1)::k1),some (O2,dr2,k2),some (g2,ps2,as2,bd2)=>some (#[],false,#[],false,[Kon.seq (.rangeFunc g ps as2 bd2)],k2,some (.func (.func gf) #[] lb),true)
   | _,_,_=>some (#[],false,#[],false,[],[],none,true)):=by kernel_rfl):AtO P B R [] n (some (1000+q,0)) L w:=by
 split at h
 rotate_left
 ·cases h
 rename_i O dr g1 ps1 as1 bd1 k1 O2 dr2 k2 g2 ps2 as2 bd2 h1 h2 h3;simp only [Gk_,Prod.mk.injEq,List.cons.injEq,Kon.seq.injEq,Code.rangeFunc.injEq,and_true] at h;obtain ⟨rfl,rfl,rfl,rfl,⟨rfl,rfl,rfl,rfl⟩,rfl,hg,hpn⟩:=h;rw [h2] at hx;have hx:hdB X k1=true:=hx;refine ⟨_,_,_,h1,fun a E=>?_⟩;have hasO:aUm (1000+q) B=as1:=by unfold aUm;rw [h3]
 have hbdO:aSf (1000+q) B=bd1:=by unfold aSf;rw [h3]
 rw [hasO,hbdO] at hround;show (Code.rangeFunc g1 ps1 as1 bd1).wpIn (fen R.rd) 0 P (post P R k1) a w;have hga:a.eval g1 = .func (.func gf) #[] lb:=E.opv hg;have hblt:∀ b,BlM M b->b<w.heap.size:=fun b ⟨x,hx,hb⟩=>x.lt (hM.at_ x hx) hb;rw [hrd];refine wpIn_rangeFunc ?_;intro fn hfn;obtain ⟨rec,hrec⟩:∃ rec:LoopState->Option Code->Loop,rec=fun st pe=>{ state:=st,pending:=pe,fn,tmps:=a.tmps,params:=ps1,assign:=as1,body:=bd1,defers:=rr.defers }:=⟨_,rfl⟩;obtain ⟨W1,hW1⟩:∃ W1,w.alloc (.loop (rec .ready none))=W1:=⟨_,rfl⟩
 have hL1:W1.heap[w.heap.size]?=some (.loop (rec .ready none)):=by
  rw [←hW1];exact aAj _ _
 have hf1:Fr nF_ w W1:=by rw [←hW1];exact (Fr.refl _ _).alloc _
 have hsz1:w.heap.size+1<=W1.heap.size:=by have:=aAe hL1;omega
 obtain ⟨e0,he0⟩:∃ e0,aQ8 M w.heap.size (rec .ready none)=e0:=⟨_,rfl⟩;have hM1:=hM.q hf1
 have hF0:∀ W,Fr e0.B W1 W->Fr F0 w0 W:=fun W f=>hM1.fr.trans' f fun r hr hb=>by
  rw [←he0] at hb;have:=hM.fr.size;rcases hb with ⟨x,hx,hk⟩ | rfl
  ·exact hM.own x hx r hk hr
  ·omega
 refine ⟨w.heap.size,[],W1,{ target := .fn (.func gf) lb,args:=#[.func (.yield w.heap.size) #[] #[]] },W1,gf,
  #[.func (.yield w.heap.size) #[] #[]]++lb,W1,?_,?_,fun _ _=>trivial,?_,fun h=>(by cases h),?_⟩
 ·rw [←hW1,hrec];exact run_enterLoop_inner hl0 _ _ _ _ _
 ·simp only [resolve,hga];simp [go_sem]
 ·have:=eg (#[.func (.yield w.heap.size) #[] #[]]++lb) W1;simp [invoke,go_sem,this]
 refine aFY ((hY w.heap.size (fun k e=>∃ Mk,I k Mk /\ Mk.Pairwise (fun x y=>∀ k,x.B k->¬ y.B k) /\ (∀ b,BlM Mk b->(BlM M b∨w.heap.size+1<=b)) /\ e=aQ8 Mk w.heap.size (rec .ready none))
   (fun W=>∃ (c:Code) (M':List Ent),((c = .ret /\ T M')∨(c = .exit X /\ Tb M')) /\ Mm F0 w0 W M' /\ W.heap[w.heap.size]?=some (.loop (rec .done (some c))) /\ (∀ b,BlM M' b->b≠w.heap.size) /\ Fr e0.B W1 W) W1 e0
   ⟨M,h0,hM.nd,fun b hb => .inl hb,he0.symm⟩ (by rw [←he0];exact ⟨hM1.at_,hL1⟩) (hK _ _ (fun k hk=>by
    rw [←he0] at hk;rcases hk with h | rfl
    ·exact .inl h
    ·exact .inr (Gj_ _)) hf1) (fun W W' ⟨c,M',h1,h2,h3,h4,h5⟩ f=>⟨c,M',h1,h2.q f,f.obj h3 id,h4,h5.trans' f fun _ _ h=>h.elim⟩) (fun W ⟨_,_,_,_,_,_,h⟩=>h) ?_).mono ?_)
 ·rintro k e v W ⟨Mk,hI,hnd,hsub,rfl⟩ ⟨hat,hl⟩ hfW hv;have hvm:v∈vs:=Ge_ hv;have hlt:=aAe hl;have hy:=run_yield (P:=P) (args:=v) hl (by rw [hrec];exact hps v hvm);rw [hrec] at hy
  have hnl:∀ b,BlM Mk b->b≠w.heap.size:=fun b hb=>by
   rcases hsub b hb with h | h
   ·have:=hblt b h;omega
   ·omega
  have hmW:Mm (BlM Mk) W W Mk:=⟨Fr.refl _ _,hat,fun x hx b hb _=>⟨x,hx,hb⟩,hnd⟩;have has:=hround k v Mk W w.heap.size hv hI (hF0 W hfW) hmW;refine ⟨0,fn,_,as1,bd1,hy,roundIn_of_wpIn (F:=Fence.wide) trivial ?_⟩;clear hy
  have E0:EnvS [] n ((ps1.toList.zip v.toList).reverse++L) { tmps:=(ps1.zip v).foldl (fun t (p,v)=>t.setIfInBounds p v) a.tmps,defers:=[] }:=by
   have hz:=aIM (ds:=[]) (n:=n) (L:=L) (ps:=ps1.toList) (vs:=v.toList) (t:=a.tmps) ⟨E.size,fun s u hs=>E.at_ s u hs,rfl⟩ (by have:=hps v hvm;simpa using this.symm) (fun p hp=>by
    have:=List.all_eq_true.1 hpn p hp;simpa [Nat.blt_eq] using this)
   have hfo:(ps1.zip v).foldl (fun t (p,v)=>t.setIfInBounds p v) a.tmps=(ps1.toList.zip v.toList).foldl (fun t (p,v)=>t.setIfInBounds p v) a.tmps:=by rw [←Array.toList_zip,Array.foldl_toList]
   rw [hfo];exact hz
  refine wpIn_mono (has _ E0) ?_;rintro e9 a1 W2 hp
  cases e9 with
  | normal =>
   obtain ⟨Lb,M1,E1,hMa,hb⟩:=hp;have hfa:=hMa.fr;have hl9:=hfa.obj hl (fun h=>(hnl _ h) rfl);have hlt9:=aAe hl9;refine ⟨_,run_beginRound hl9 (by rw [hrec]),?_⟩;have f2:=Fr.putObj W2 w.heap.size (.loop { rec .ready none with state := .busy });obtain ⟨W3,hW3⟩:∃ W3,W2.putObj w.heap.size (.loop { rec .ready none with state := .busy })=W3:=⟨_,rfl⟩;have hl3:W3.heap[w.heap.size]?=some (.loop { rec .ready none with state := .busy }):=by rw [←hW3];exact World.putObj_heap_same hlt9
   rw [hW3] at f2 ⊢
   have hM1n:∀ b,BlM M1 b->BlM Mk b∨W.heap.size<=b:=fun b ⟨x,hx,hb⟩=>by
    rcases Nat.lt_or_ge b W.heap.size with h | h
    ·exact .inl (hMa.own x hx b hb h)
    ·exact .inr h
   have hM1l:∀ b,BlM M1 b->b≠w.heap.size:=fun b hb=>by
    rcases hM1n b hb with h | h
    ·exact hnl b h
    ·omega
   have hM3:Mm (BlM M1) W3 W3 M1:=⟨Fr.refl _ _,fun x hx=>x.fr (hMa.at_ x hx) f2 fun b hb e=>hM1l b ⟨x,hx,hb⟩ e,fun x hx b hb _=>⟨x,hx,hb⟩,hMa.nd⟩
   have hF3:Fr F0 w0 W3:=by
    refine ((hF0 W hfW).trans' hfa fun r hr hb=>?_).trans' f2 fun r hr e=>?_
    ·rcases hsub r hb with ⟨x,hx,h⟩ | h
     ·exact hM.own x hx r h hr
     ·have:=hM.fr.size;omega
    ·have:=hM.fr.size;omega
   have hsW:W.heap.size<=W3.heap.size:=Gn_ hfa.size f2.size;have hsWW:w.heap.size+1<=W.heap.size:=Gn_ hsz1 hfW.size
   have fin:∀ M' W',Mm (BlM M1) W3 W' M'->(∀ b,BlM M' b->(BlM M b∨w.heap.size+1<=b)) /\ (∀ b,BlM M' b->BlM Mk b∨W.heap.size<=b) /\ W'.heap[w.heap.size]?=some (.loop { rec .ready none with state := .busy }):=by
    intro M' W' hm
    have hb1:∀ b,BlM M' b->BlM Mk b∨W.heap.size<=b:=fun b ⟨x,hx,hb⟩=>by
     rcases Nat.lt_or_ge b W3.heap.size with h | h
     ·exact hM1n b (hm.own x hx b hb h)
     ·exact .inr (Gn_ hsW h)
    refine ⟨fun b hb=>?_,hb1,hm.fr.obj hl3 (fun h=>(hM1l _ h) rfl)⟩;rcases hb1 b hb with h | h
    ·exact hsub b h
    ·exact .inr (Gn_ hsWW h)
   have jmp:∀ (c:Code) M' W4,((c = .ret /\ T M')∨(c = .exit X /\ Tb M'))->Mm (BlM M1) W3 W4 M'->(∃ (c1:Code) (M9:List Ent),((c1 = .ret /\ T M9)∨(c1 = .exit X /\ Tb M9)) /\ Mm F0 w0 (W4.putObj w.heap.size (.loop { rec .ready none with state := .done,pending:=some c })) M9 /\ (W4.putObj w.heap.size (.loop { rec .ready none with state := .done,pending:=some c })).heap[w.heap.size]?=some (.loop (rec .done (some c1))) /\ (∀ b,BlM M9 b->b≠w.heap.size) /\ Fr e0.B W1 (W4.putObj w.heap.size (.loop { rec .ready none with state := .done,pending:=some c }))):=by
    intro c M' W4 hc hm';obtain ⟨g1,g2,h4⟩:=fin M' W4 hm';refine ⟨c,M',hc,?_,?_,fun b hb=>?_,?_⟩
    rotate_right
    ·refine hfW.trans' ((((hfa.mono (G:=(aQ8 Mk w.heap.size (rec .ready none)).B) fun _ _ h => .inl h).trans' f2 fun r _ e => .inr e).trans' hm'.fr fun r hr hb=>(by rcases hM1n r hb with h | h;exact .inl h;omega)).trans' (Fr.putObj W4 _ _) fun r _ e => .inr e) fun r hr hb=>?_;rw [←he0];rcases hb with h | h
     ·rcases hsub r h with h | h
      ·exact .inl h
      ·have:W1.heap.size=w.heap.size+1:=by rw [←hW1];simp
       omega
     ·exact .inr h
    ·refine ⟨?_,fun x hx=>?_,fun x hx b hb hlt=>?_,hm'.nd⟩
     ·refine (hF3.trans' hm'.fr fun r hr hb=>?_).trans' (Fr.putObj W4 _ _) fun r hr e=>?_
      ·rcases hM1n r hb with h | h
       ·rcases hsub r h with ⟨x,hx,h⟩ | h
        ·exact hM.own x hx r h hr
        ·have:=hM.fr.size;omega
       ·have:=hM.fr.size;omega
      ·have:=hM.fr.size;omega
     ·refine x.fr (hm'.at_ x hx) (Fr.putObj W4 _ _) fun b hb e=>?_;rcases g1 b ⟨x,hx,hb⟩ with h | h
      ·have:=hblt b h;omega
      ·omega
     ·rcases g1 b ⟨x,hx,hb⟩ with ⟨y,hy,h⟩ | h
      ·exact hM.own y hy b h hlt
      ·have:=hM.fr.size;omega
    ·refine (World.putObj_heap_same (aAe h4)).trans ?_;rw [hrec]
    ·rcases g1 b hb with h | h
     ·have:=hblt b h;omega
     ·omega
   refine wpIn_mono (hb W3 w.heap.size ⟨aYy X (fun W'=>∃ M',I (k+1) M' /\ Mm (BlM M1) W3 W' M') (fun W'=>∃ M',T M' /\ Mm (BlM M1) W3 W' M') (fun W'=>∃ M',Tb M' /\ Mm (BlM M1) W3 W' M'),some w.heap.size⟩ hF3 hM3 ⟨rfl,fun a M' W' h1 h2=>⟨M',h1,h2⟩,fun a M' W' h1 h2=>⟨M',h1,h2⟩,fun a M' W' h1 h2=>⟨rfl,M',h1,h2⟩⟩ _ E1) ?_;rintro e a3 W4 hp
   cases e with
   | normal =>
    obtain ⟨M',hI',hm'⟩:=hp;obtain ⟨g1,g2,h4⟩:=fin M' W4 hm';have hr:=run_endRound (P:=P) none h4;refine ⟨_,_,hr,.inl ⟨rfl,_,⟨M',hI',hm'.nd,g1,rfl⟩,⟨fun x hx=>x.fr (hm'.at_ x hx) (Fr.putObj W4 _ _) fun b hb e=>?_,?_⟩,?_,?_⟩⟩
    ·rcases g1 b ⟨x,hx,hb⟩ with h | h
     ·have:=hblt b h;omega
     ·omega
    ·refine (World.putObj_heap_same (aAe h4)).trans ?_;rw [hrec];rfl
    ·rintro b (h | h)
     ·rcases g2 b h with h | h
      ·exact .inl (.inl h)
      ·exact .inr h
     ·exact .inl (.inr h)
    ·refine (((hfa.mono (G:=(aQ8 Mk w.heap.size (rec .ready none)).B) fun _ _ h => .inl h).trans' f2 fun r _ e => .inr e).trans' hm'.fr fun r hr hb=>?_).trans' (Fr.putObj W4 _ _) fun r _ e => .inr e;rcases hM1n r hb with h | h
     ·exact .inl h
     ·omega
   | ret =>
    obtain ⟨M',hI',hm'⟩:=hp;obtain ⟨g1,g2,h4⟩:=fin M' W4 hm';have hr:=run_endRound (P:=P) (some .ret) h4;exact ⟨_,_,hr,.inr ⟨rfl,jmp .ret M' W4 (.inl ⟨rfl,hI'⟩) hm'⟩⟩
   | exit id =>
    obtain ⟨rfl,M',hI',hm'⟩:=hp;obtain ⟨g1,g2,h4⟩:=fin M' W4 hm';have hr:=run_endRound (P:=P) (some (.exit id)) h4;exact ⟨_,_,hr,.inr ⟨rfl,jmp (.exit id) M' W4 (.inr ⟨rfl,hI'⟩) hm'⟩⟩
   | goto t=>exact hp.elim
   | panic ch=>exact hp.elim
   | outgrown=>exact hp.elim
  | exit id=>exact hp.elim
  | goto t=>exact hp.elim
  | ret=>exact hp.elim
  | panic ch=>exact hp.elim
  | outgrown=>exact hp.elim
 ·
  have goon:∀ M' W',I vs.length M'∨Tb M'->Mm F0 w0 W' M'->post P R k1 .normal a W':=fun M' W' h hm=>by
   obtain ⟨O9,dr9,kk9,hf9,hk9⟩:=hdone M' W' h hm;rw [h2] at hf9;cases hf9;exact hk9 a E
  have pe:aDN X k1=aDN X k1:=rfl;rintro e W2 ⟨⟨v,rfl⟩,⟨_,⟨Mk,hI,hnd,hsub,rfl⟩,⟨hat,hl⟩,hfW⟩ | ⟨c,M',hT,hm,hl,hne,_⟩⟩
  ·have hr:=run_endLoop (P:=P) hl (by rw [hrec];simp);rw [hrec] at hr;refine ⟨none,_,hr,goon Mk _ (.inl hI) ?_⟩;refine ⟨(hF0 W2 hfW).trans' (Fr.putObj W2 _ _) fun r hr e=>?_,fun x hx=>?_,fun x hx b hb hlt=>?_,hnd⟩
   ·have:=hM.fr.size;omega
   ·refine x.fr (hat x hx) (Fr.putObj W2 _ _) fun b hb e=>?_;rcases hsub b ⟨x,hx,hb⟩ with h | h
    ·have:=hblt b h;omega
    ·omega
   ·rcases hsub b ⟨x,hx,hb⟩ with ⟨y,hy,h⟩ | h
    ·exact hM.own y hy b h hlt
    ·have:=hM.fr.size;omega
  ·have hr:=run_endLoop (P:=P) hl (by rw [hrec];simp);rw [hrec] at hr
   have hm9:∀ ob,Mm F0 w0 (W2.putObj w.heap.size ob) M':=fun ob =>
    ⟨hm.fr.trans' (Fr.putObj W2 _ _) fun r hr e=>by have:=hM.fr.size;omega,fun x hx=>x.fr (hm.at_ x hx) (Fr.putObj W2 _ _) fun b hb e=>hne b ⟨x,hx,hb⟩ e,hm.own,hm.nd⟩
   refine ⟨some c,_,hr,?_⟩;rcases hT with ⟨rfl,hT⟩ | ⟨rfl,hT⟩
   ·refine wpIn_ret ?_;exact aCP (R:=R) (hstop _ M' _ hT (hm9 _) E)
   ·refine wpIn_exit ?_
    cases k1 with
    | nil=>cases hx
    | cons x k =>
     cases x with
     | block j =>
      have hj:Nat.beq j X=true:=hx
      refine aCD (k':=k) (by
       show (bif j==X then some k else aDN X k)=some k;rw [show (j==X)=true from by simpa using Nat.eq_of_beq_eq_true hj];rfl) ?_
      exact goon M' _ (.inr hT) (hm9 _)
     | _=>cases hx
end
section
variable {P:Program}{B:Code}{R:Pst}{ds:List Deferred}{n:Nat}{L:Frm}{w:World}
theorem aCC {id:Nat}{a:Act}:∀ {k:List Kon},aDN id k=none->R.q (.exit id) a w->post P R k (.exit id) a w
 | [],_,q=>q
 | .seq _::k,h,q=>aCC (k:=k) h q
 | .loop _::k,h,q=>aCC (k:=k) h q
 | .scope::k,h,q=>aCC (k:=k) h q
 | .block j::k,h,q=>by
  show Exit.inBlock j (post P R k) (.exit id) a w;unfold aDN at h
  cases hj:(j==id) with
  | true=>rw [hj] at h;cases h
  | false =>
   rw [hj] at h;simp only [Exit.inBlock];rw [if_neg (fun e=>by rw [e] at hj;simp at hj)];exact aCC (k:=k) h q
theorem aZc (r i X:Nat) (k:∀ a,EnvS ds n L a->R.q (.exit X) a w) (h:(match aBc r B [] with
   | some (O,dr,.seq (.cond c (.exit Y) y)::k)=>some (dr,(O.toList.drop i).isEmpty,Nat.beq X Y,(aDN X k).isNone,opv L c)
   | _=>none)=some (false,true,true,true,some (.bool true)):=by kernel_rfl):AtO P B R ds n (some (r,i)) L w:=by
 split at h
 rotate_left
 ·cases h
 rename_i O dr c Y y kk hf;simp only [Gk_,Prod.mk.injEq] at h;obtain ⟨rfl,h1,h2,h3,h4⟩:=h;have h2:=Nat.eq_of_beq_eq_true h2;subst h2;refine ⟨_,_,_,hf,fun a E=>?_⟩;show wpListIn (fen R.rd) 0 P O _ (O.toList.drop i) a w;rw [List.isEmpty_iff.1 h1];show (Code.cond c (.exit X) y).wpIn (fen R.rd) 0 P (post P R kk) a w
 exact wpIn_cond_true (E.opv h4) (wpIn_exit (aCC (by
  cases hx:aDN X kk with
  | none=>rfl
  | some z=>rw [hx] at h3;cases h3) (k a E)))
end
def aU6 (S:World->Prop) (F0:Nat->Prop) (w0:World) (N:Nat):Ent where
 B:=fun k=>k<N /\ (F0 k∨w0.heap.size<=k)
 H:=fun w=>∃ w1,S w1 /\ w1.heap.size=N /\ Fr F0 w0 w1 /\ Fr (fun k=>¬ F0 k /\ k<w0.heap.size) w1 w
 lt:=fun ⟨w1,_,h2,_,f⟩ h=>by have:=f.size;have:=h.1;omega
 fr:=fun ⟨w1,h1,h2,f0,f⟩ f9 hd=>⟨w1,h1,h2,f0,f.trans' f9 fun r hr hg=>by
  refine ⟨fun h=>hd r ⟨by omega,.inl h⟩ hg,?_⟩;rcases Nat.lt_or_ge r w0.heap.size with h | h
  ·exact h
  ·exact absurd hg (hd r ⟨by omega,.inr h⟩)⟩
def aKL (S:World->Prop) (F0:Nat->Prop) (w0:World) (e:Ent):Prop:=∃ N,e=aU6 S F0 w0 N
theorem Mm.stop {S:World->Prop}{F0:Nat->Prop}{w0 w:World}{e:Ent}(hS:∀ W W',S W->Fr nF_ W W'->S W') (h:Mm F0 w0 w [pfE (aKL S F0 w0) e]):S w:=by
 obtain ⟨⟨N,rfl⟩,w1,h1,h2,f0,f⟩:=h.get 0 rfl;refine hS _ _ h1 ⟨f.os,f.tape,f.output,f.size,fun r hr _=>?_⟩
 by_cases hc:¬ F0 r /\ r<w0.heap.size
 ·rw [h.fr.blk r hc.2 hc.1,f0.blk r hc.2 hc.1]
 ·exact f.blk r hr hc
def isT:Value->Bool
 | .bool b=>b
 | _=>false
section
variable {rd:Option Nat}{P:Program}{B:Code}{ds:List Deferred}{n:Nat}{L:Frm}{w w0:World}{r:Nat}{F0:Nat->Prop}{ef:List Nat}{V:Lts->List (Option Value)}{F:Lts->List Ft}{Mf:Lts->List Bool->List Ent}
theorem aRj (p i j d k:Nat) (ts:Array TypeId) {l:Nat}{v v2:Value}{J:Nat->Ent->Prop}{S:World->Prop}(e:Lts->Ent)
  (hR:∀ γ wm,J k (e γ)->(e γ).H wm->Fr F0 w0 wm->aEC P l #[v,v2] wm (aVX J k (e γ) wm) S)
  (hFr:∀ wm,S wm->Fr F0 w0 wm)
  (hj:∀ γ fr,(Mf γ (flg B r ef i fr))[j]?=some (pfE (J k) (e γ)):=by intro γ fr;kernel_rfl)
  (hm:∀ γ fr e',(Mf γ (flg B r ef i fr)).set j (pfE (J (k+1)) e')=Mf (aFa (aBN γ p (.bool true)) p e') ((flg B r ef i fr).set p true):=by intro γ fr e';kernel_rfl)
  (hm2:∀ γ fr e',[pfE (aKL S F0 w0) e']=Mf (aFa (aBN γ p (.bool false)) p e') ((flg B r ef i fr).set p true):=by intro γ fr e';kernel_rfl)
  (hV:∀ γ e',((V (aFa (aBN γ p (.bool true)) p e'))[p]?).getD none=some (.bool true):=by intro γ e';rfl)
  (hV2:∀ γ e',((V (aFa (aBN γ p (.bool false)) p e'))[p]?).getD none=some (.bool false):=by intro γ e';rfl)
  (hs:∀ γ,aUh (aA5 B r) i (frX P w n B r L ef V F i γ)=aUg (aA5 B r) i (fun x y z => .call ⟨.value x,#[y,z],ts⟩) (.func (.yield l) #[] #[]) v v2 (some d):=by intro γ;kernel_rfl):Arm rd P w n B r L ef V F ds F0 w0 Mf p i:=by
 intro γ fr a wm Q o ho E hw hM;obtain ⟨x,y,z,h1,h2,h3,h5,h4⟩:=aKm ho E (hs γ);obtain ⟨hJ,hH⟩:=hM.get j (hj γ fr);refine aKd (fun _ _ _ _ h=>aFw h1 h2 h3 h5 h) (hR γ wm hJ hH hM.fr) (fun w' hw'=>?_) fun w' h=>?_
 ·obtain ⟨e',g1,g2,g3,g4⟩:=hw';have hM':=hM.put (w':=w') j (hj γ fr) g4 (fun k _ e=>e) (e':=pfE (J (k+1)) e') ⟨g1,g2⟩ g3;rw [hm] at hM';exact ⟨.bool true,e',by rw [hV,h4];rfl,hM'⟩
 ·refine ⟨.bool false,aU6 S F0 w0 w'.heap.size,by rw [hV2,h4];rfl,?_⟩;rw [←hm2]
  exact ⟨hFr w' h,fun x hx=>by rw [Gd_] at hx;subst hx;exact ⟨⟨_,rfl⟩,w',h,rfl,hFr w' h,Fr.refl _ _⟩,fun x hx b hb hlt=>by
   rw [Gd_] at hx;subst hx;rcases hb.2 with h | h
   ·exact h
   ·omega,List.pairwise_singleton _ _⟩
end
end Go.Pl
namespace Go.Proofs.YtngjlnhojicjeaaGreatDoor
open Go.RowKit Go.Pl
def aJ7 (L:List Pt) (i:Nat):Pt:=L.getD i (0,0)
def sdP (L:List Pt) (k:Nat):Pt×Pt:=(aJ7 L k,aJ7 L ((k+1)%L.length))
def sgA (s:Pt×Pt):Value := .agg #[vI s.1.1,vI s.1.2,vI s.2.1,vI s.2.2]
def sdV (L:List Pt):List (Array Value):=(List.range L.length).map fun (k:Nat)=>#[vI (k:Int),sgA (sdP L k)]
def SdK (c1:Nat) (p:Option Addr) (cap:Nat) (L:List Pt) (G:Nat->Prop) (W:World):Prop:=W.heap[c1]?=some (.cells #[vL p L.length cap] 100 (0,0)) /\ ¬ G c1 /\ ∃ B,SrcB ptL 2 W B p cap L /\ ∀ k,G k->B<=k
theorem aE4 {L:List Pt}{i:Nat}{y:Pt}(h:L[i]?=some y):aJ7 L i=y:=by unfold aJ7;rw [List.getD_eq_getElem?_getD,h];rfl
theorem aUH {L:List Pt}{k:Nat}(h:k<L.length):(sdV L)[k]?=some #[vI (k:Int),sgA (sdP L k)]:=by unfold sdV;rw [Gq_,List.getElem?_range h];rfl
theorem aMQ {L:List Pt}{k:Nat}{v:Array Value}(h:(sdV L)[k]?=some v):k<L.length /\ v=#[vI (k:Int),sgA (sdP L k)]:=by
  unfold sdV at h;rw [Gq_] at h
  by_cases hk:k<L.length
  · rw [List.getElem?_range hk] at h
    exact ⟨hk,(Gh_ h).symm⟩
  · rw [List.getElem?_eq_none (by rw [List.length_range];omega)] at h;cases h
section
variable {rd:Option Nat}{P:Program}{B:Code}{ds:List Deferred}{n:Nat}{L:Frm}{w w0:World}{r:Nat}{F0:Nat->Prop}{ef:List Nat}{V:Lts->List (Option Value)}{F:Lts->List Ft}{Mf:Lts->List Bool->List Ent}
theorem aXq (p i d:Nat) (f:Operand->Op) (x v:Value) (hft:∀ Z fr wm,Mm F0 w0 wm (Mf Z (flg B r ef i fr))->Ft.ok P wm (.g1 f x v))
    (hm:∀ Z fr,Mf Z (flg B r ef i fr)=Mf (aBN Z p undef) ((flg B r ef i fr).set p true):=by intro Z fr;kernel_rfl)
    (hV:∀ Z,((V (aBN Z p undef))[p]?).getD none=some v:=by intro Z;rfl)
    (hs:∀ Z,aUB (aA5 B r) i (frX P w n B r L ef V F i Z)=aUA (aA5 B r) i f x (some d):=by intro Z;kernel_rfl):Arm rd P w n B r L ef V F ds F0 w0 Mf p i:=by
  intro Z fr a wm Q o ho En hw hM;obtain ⟨y,h1,h2,h3⟩:=aMI ho En (hs Z);have hr:=hft Z fr wm hM o a.eval y h1 h2;rw [hm] at hM;exact aGq (v:=v) (w':=wm) hr ⟨undef,Z.e p,by rw [aAy,hV,h3];rfl,by rw [aAy];exact hM⟩
end
abbrev aX5 (Z:Ending->World->Prop):=AtO Tryz.prog (aAw Tryz.f179) (aAL (bodyPost Tryz.prog Tryz.f179 Z)) [] 27
theorem aHT {c1 cap:Nat}{p:Option Addr}{L:List Pt}:aTX Tryz.prog 179 #[vP c1 0] (sdV L) (SdK c1 p cap L):=by
  intro l J S w e0 hJ0 he hKp hSq hSf hround;obtain ⟨hc1,hn1,B,hs,hG⟩:=hKp;have bb:=hs.bnd;refine beg Tryz.func179 rfl rfl [(0,.func (.yield l) #[] #[]),(1,vP c1 0)] rfl rfl fun Z hZ=>?_;have hM:=Mm.one he;refine seg 1 0 [(5,vL p L.length cap),(6,vI (L.length:Int)),(7,vI 0)] (fc (ld0 100 hM (bx hc1 0 rfl) hn1) f0) ?_
  have ah:∀ (ae:Nat) (k:Nat) (ek:Ent) (w2:World),k<=L.length->J k ek->Mm e0.B w w2 [ek]->ae=L.length-k->aX5 Z (some (1,0)) [(7,vI (k:Int)),(6,vI (L.length:Int)),(5,vL p L.length cap),(0,.func (.yield l) #[] #[]),(1,vP c1 0)] w2:=by
   refine aCx fun ae ai k ek w2 hk hJ hM ao=>seg 1 1 [(8,vB (decide ((k:Int)<(L.length:Int))))] f0 ?_;cases af:(decide ((k:Int)<(L.length:Int)))
   ·have aj:=df af;exact rt0 rfl f0 (hZ _ _ ⟨⟨_,rfl⟩,.inl ⟨_,by unfold sdV;rw [Go_,List.length_range,show L.length=k by omega];exact hJ,hM.get 0 rfl,hM.fr⟩⟩)
   have aj:=dt af;obtain ⟨aa,ab,ap,aq,ak,al,n122⟩:=(hs).eb hG (i:=k) (by omega);refine aAu 2 3 4 [(9,vI (k:Int)),(11,.agg #[vI aa.1,vI aa.2])] (cs:=#[vI 0,vI 0]) (T:=29) (v:=fun b=>vP b 0) (fc (ix 100 cap ak (gl ab)) (fc (la0 29 hM al n122) f0)) hM fun ac w1 hM=>stm 2 5 [(3,vI (k:Int))] 29 1 0 (.agg #[vI aa.1,vI aa.2]) f0 hM rfl fun w1 hM=>?_;have hmod:=Nat.mod_lt (k+1) (show 0<L.length by have:=gl ab;omega);refine seg 3 0 [] f0 ?_;have hM:=hM.pf (j:=0) (Q:=J k) rfl hJ;obtain ⟨ad,ag,ar,au,am,an,n124⟩:=(hs).eb hG (i:=((k+1)%L.length)) (by omega);have hsd:sdP L k=(aa,ad):=by unfold sdP;rw [aE4 ab,aE4 ag]
   refine drx [2,12] (fun γ=>[some (.agg #[vI aa.1,vI aa.2]),some (.bool (isT (γ.v 1)))]) _ (fun γ l=>(bif l.getD 1 false && !(isT (γ.v 1)) then [pfE (aKL S e0.B w) (γ.e 1)] else [(bif l.getD 1 false then pfE (J (k+1)) (γ.e 1) else pfE (J k) ek),bk ac #[vI aa.1,vI aa.2] 29])) (fun γ=>[(25,.bool (!(isT (γ.v 1))))]) hM (fun γ=>rfl) (fun γ l w5 hM=>(fc (ld0 100 hM (bx hc1 0 rfl) hn1) (fc (aAI (k:Int) 1 u3_) (fc (ld0 100 hM (bx hc1 0 rfl) hn1) (fc (aXA ((k:Int)+1) (L.length:Int) u3_) (fc (ix 100 cap am (gl ag) (z:=(((k:Int)+1)%(L.length:Int))) (hz:=(by rw [Int.natCast_emod];rfl))) (fc (la0 29 hM an n124) f0))))))) ⟨aXq 0 2 14 (.load 29) (vP ac 0) (.agg #[vI aa.1,vI aa.2]) (fun γ fr wm hM=>lam 29 1 0 2 hM rfl),aRj 1 12 0 24 k #[3,126] (v:=vI (k:Int)) (v2 := .agg #[vI aa.1,vI aa.2,vI ad.1,vI ad.2]) (J:=J) (S:=S) (fun γ=>ek) (fun γ wm hJ hH hf=>hround _ _ _ _ hJ hH hf (by rw [aUH (by have:=gl ab;omega),hsd];rfl)) hSf,trivial⟩ fun γ8 w1 hM=>?_;obtain ⟨bb,hbb⟩:∃ bb,bb=isT (γ8.v 1):=⟨_,rfl⟩;have hM:Mm e0.B w w1 (bif true && !(bb) then [pfE (aKL S e0.B w) (γ8.e 1)] else [(bif true then pfE (J (k+1)) (γ8.e 1) else pfE (J k) ek),bk ac #[vI aa.1,vI aa.2] 29]):=by rw [hbb];exact hM
   rw [←hbb];clear hbb
   cases bb with
   | false =>
     have hS:S w1:=Mm.stop hSq hM;exact rt0 rfl f0 (hZ _ _ ⟨⟨_,rfl⟩,.inr hS⟩)
   | true =>
     obtain ⟨hJ,hM⟩:=Mm.unpf (j:=0) (M:=[pfE (J (k+1)) (γ8.e 1),bk ac #[vI aa.1,vI aa.2] 29]) (e:=γ8.e 1) (Q:=J (k+1)) hM rfl;refine seg 1 0 [(7,vI ((k:Int)+1))] (fc (aAI (k:Int) 1 u3_) f0) (aAh _ (ai _ (by omega) (k+1) _ _ (gl ab) hJ (hM.pick [0]) rfl))
  exact aAh _ (ah _ 0 e0 _ (Gg_ _) hJ0 hM rfl)
end Go.Proofs.YtngjlnhojicjeaaGreatDoor
