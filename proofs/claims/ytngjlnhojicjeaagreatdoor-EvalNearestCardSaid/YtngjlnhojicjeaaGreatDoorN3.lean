/- Part 3 of the proof. -/
import Derived.Test.YtngjlnhojicjeaaGreatDoorN2
import Derived.WalkLawsBesides
import Derived.Shelf.Abstract
import Derived.Laws.MakeOwn
import Derived.Laws.ResultCell
import Derived.Laws.Rows
import Derived.StringKeys
import Derived.Deep.QuietTactic
import Derived.BigQuiet
import Derived.Lib.Hide
import Derived.Deep.RegionLaw
import Derived.Sort.Grow
set_option linter.unusedVariables false
set_option linter.unusedSimpArgs false
namespace Go.Proofs.YtngjlnhojicjeaaGreatDoor
open Go.RowKit Go.Pl
structure QdR where
  ask:Int
  kind:Int
  wh:CdR
  id:Bys
  n:Int
  x:Int
  y:Int
  key:Bys
  prof:Bys
  min:Int
def qdL (q:QdR):List Value:=[vI q.ask,vI q.kind,vI q.wh.op,vS q.wh.key,vS q.wh.val,vI q.wh.n,vL q.wh.p q.wh.kids.length q.wh.cap,vS q.id,vI q.n,vI q.x,vI q.y,vS q.key,vS q.prof,vI q.min]
structure QdIn (w:World) (B h:Nat) (q:QdR):Prop where
  wh:CdB w B h q.wh
  id:q.id.length<=9223372036854775807
  key:q.key.length<=9223372036854775807
  prof:q.prof.length<=9223372036854775807
theorem QdIn.fr {w w':World}{B h:Nat}{q:QdR}(hq:QdIn w B h q) (f:Fr nF_ w w') (hB:B<=w.heap.size):QdIn w' B h q:=⟨hq.wh.g (fun _ h=>h.elim) f hB,hq.id,hq.key,hq.prof⟩
def aAF (q:QdR) (id n at9 key prof min:Bool):Bool:=(id||(([]:Bys)==q.id))&&(n||((0:Int)==q.n))&&(at9||(((0:Int)==q.x)&&((0:Int)==q.y)))&&(key||(([]:Bys)==q.key))&&(prof||(([]:Bys)==q.prof))&&(min||((0:Int)==q.min))
def aC8 (q:QdR):Bool :=
  bif q.ask==1 then aAF q false false false false false false
  else bif q.ask==2 then aBk q.id&&aAF q true false false false false false
  else bif q.ask==3 then aBk q.id&&(decide (0<=q.n)&&decide (q.n<=1048576))&&aAF q true true false false false false
  else bif q.ask==4 then (decide (1<=q.n)&&decide (q.n<=10000))&&(decide (0<=q.x)&&decide (q.x<=1048575))&&(decide (0<=q.y)&&decide (q.y<=1048575))&&aAF q false true true false false false
  else bif q.ask==5 then aBk q.id&&(decide (0<=q.n)&&decide (q.n<=10080))&&aBk q.prof&&(decide (0<=q.min)&&decide (q.min<=9999999))&&aAF q true true false false true true
  else bif q.ask==6 then aBk q.key&&aAF q false false false true false false
  else false
def aAt (h:Nat) (q:QdR):Bool := !(decide (q.kind<0)) && !(decide (6<=q.kind))&&aDy h q.wh&&aC8 q
def aBp (q:QdR):Int :=
  bif q.ask==2 then 3
  else bif q.ask==3 then bif (q.kind==4)||(q.kind==5) then -1 else 2
  else bif q.ask==4 then bif (q.kind==4)||(q.kind==5) then -1 else 0
  else bif q.ask==5 then bif !(q.kind==0) && !(q.kind==1) then -1 else 1
  else 0
def aAn (h:Nat) (os:List ObR) (q:QdR):Int :=
  bif !(aAt h q) || !(aAl (aAa os)) then 1 else bif aBp q == -1 then 8 else bif aBp q==0 then 0
  else bif decide (aAp (aAa os) q.id<0) then 11 else bif aCw os q.id==aBp q then 0 else 13
abbrev qY_ (q:QdR):Array Value:=#[vI q.ask,vI q.kind,vI q.wh.op,vS q.wh.key,vS q.wh.val,vI q.wh.n,vL q.wh.p q.wh.kids.length q.wh.cap,vS q.id,vI q.n,vI q.x,vI q.y,vS q.key,vS q.prof,vI q.min]
theorem aHM {w:World}{B h:Nat}{q:QdR}(hq:QdIn w B h q) (hBw:B<=w.heap.size):Calls Tryz.prog 54 #[vA (qdL q)] w fun e w'=>e = .returned (vB (aAt h q)) /\ Fr nF_ w w':=by
  refine beg Tryz.func54 rfl rfl [(0,.agg (qY_ q))] rfl rfl fun Y hY=>?_;have hM:=Mm.nil nF_ w;refine aA1 0 0 1 [] (cs:=(qY_ q)) (T:=31) (v:=fun b=>vP b 0) f0 hM fun ab w1 hM=>seg 1 0 [] f0 ?_;cases h47:(decide (q.kind<0))
  rotate_left
  ·refine drc [(21,vB true)] hM (fun w5 hM=>(fc (ldm 3 0 1 hM rfl rfl) (fc (tv 8 h47) f0))) fun w5 hM=>rt1 2 (vB false) rfl f0 (hY _ _ ⟨by unfold aAt aC8 aAF;simp only [h47]<;>rfl,hM.fr⟩)
  cases h48:(decide (6<=q.kind))
  rotate_left
  ·refine drx [6] (fun Z=>[some (vL (slp (Z 0)) 6 6)]) _ (fun Z l=>[bk ab (qY_ q) 31]) (fun Z=>[(21,vB true)]) hM (fun Z=>rfl) (fun Z l w5 hM=>(fc (ldm 3 0 1 hM rfl rfl) (fc (tv 8 h47) (fc (ldm 3 0 1 hM rfl rfl) (fc (tv 14 h48) f0))))) ⟨aO1 0 6 12 (f:=102) (fun Z=>#[]) 6 6 (fun Z fr wm hM=>(aQ9.mono fun e w9 ⟨q,h,f⟩=>⟨q,h,f⟩)),trivial⟩ fun ad w1 hM=>?_;replace hM:Mm nF_ w w1 [bk ab (qY_ q) 31]:=hM;exact rt1 2 (vB false) rfl f0 (hY _ _ ⟨by unfold aAt aC8 aAF;simp only [h47,h48]<;>rfl,hM.fr⟩)
  refine drx [6,13] (fun Z=>[some (vL (slp (Z 0)) 6 6),some (vB (aDy h q.wh))]) _ (fun Z l=>[bk ab (qY_ q) 31]) (fun Z=>[(21,vB (!(aDy h q.wh)))]) hM (fun Z=>rfl) (fun Z l w5 hM=>(fc (ldm 3 0 1 hM rfl rfl) (fc (tv 8 h47) (fc (ldm 3 0 1 hM rfl rfl) (fc (tv 14 h48) (fc (lam 27 0 2 5 hM rfl) f0)))))) ⟨aO1 0 6 12 (f:=102) (fun Z=>#[]) 6 6 (fun Z fr wm hM=>(aQ9.mono fun e w9 ⟨q,h,f⟩=>⟨q,h,f⟩)),aA0 1 13 19 (f:=36) (fun Z=>#[.agg #[vI q.wh.op,vS q.wh.key,vS q.wh.val,vI q.wh.n,vL q.wh.p q.wh.kids.length q.wh.cap]]) (vB (aDy h q.wh)) (fun Z fr wm hM=>(aEQ (hq.wh.g (fun _ h=>h.elim) hM.fr hBw) (Gn_ hBw hM.fr.size))),trivial⟩ fun ae w1 hM=>?_;replace hM:Mm nF_ w w1 [bk ab (qY_ q) 31]:=hM;cases h50:(aDy h q.wh)
  ·exact rt1 2 (vB false) rfl f0 (hY _ _ ⟨by unfold aAt aC8 aAF;simp only [h47,h48,h50]<;>rfl,hM.fr⟩)
  refine aDq 4 5 4 [(3,.func (.func 103) #[] #[]),(26,.agg #[vI q.ask,vI q.kind,vI 0,vS [],vS [],vI 0,vL none 0 0,vS [],vI 0,vI 0,vI 0,vS [],vS [],vI 0])] [] 31 (.agg #[vI q.ask,vI q.kind,vI 0,vS [],vS [],vI 0,vL none 0 0,vS [],vI 0,vI 0,vI 0,vS [],vS [],vI 0]) (fc (ldm 3 0 0 hM rfl rfl) (fc (ldm 3 0 1 hM rfl rfl) f0)) hM fun aa w1 hM=>seg 8 2 [(5,vB true),(28,vI q.ask),(29,vB (q.ask==1))] (fc (ldm 3 0 0 hM rfl rfl) f0) ?_;cases h52:(q.ask==1)
  rotate_left
  ·refine seg 19 9 [(132,vB ([]==q.id))] (fc (ldm 9 1 7 hM rfl rfl) (fc (ldm 9 0 7 hM rfl rfl) (fc (seq 9 [] q.id) f0))) ?_;cases h96:([]==q.id)
   ·exact rt1 2 (vB false) rfl f0 (hY _ _ ⟨by unfold aAt aC8 aAF;simp only [h47,h48,h50,h52,h96]<;>rfl,hM.fr⟩)
   refine seg 19 16 [(139,vB (0==q.n))] (fc (ldm 3 1 8 hM rfl rfl) (fc (ldm 3 0 8 hM rfl rfl) f0)) ?_;cases h97:(0==q.n)
   ·exact rt1 2 (vB false) rfl f0 (hY _ _ ⟨by unfold aAt aC8 aAF;simp only [h47,h48,h50,h52,h96,h97]<;>rfl,hM.fr⟩)
   refine seg 19 23 [(146,vB ((0==q.x)&&(0==q.y)))] (fc (lam 29 1 9 2 hM rfl) (fc (lam 29 0 9 2 hM rfl) (fc (aIQ 0 0 q.x q.y) f0))) ?_;cases h98:((0==q.x)&&(0==q.y))
   ·exact rt1 2 (vB false) rfl f0 (hY _ _ ⟨by unfold aAt aC8 aAF;simp only [h47,h48,h50,h52,h96,h97,h98]<;>rfl,hM.fr⟩)
   refine seg 19 30 [(153,vB ([]==q.key))] (fc (ldm 9 1 11 hM rfl rfl) (fc (ldm 9 0 11 hM rfl rfl) (fc (seq 9 [] q.key) f0))) ?_;cases h99:([]==q.key)
   ·exact rt1 2 (vB false) rfl f0 (hY _ _ ⟨by unfold aAt aC8 aAF;simp only [h47,h48,h50,h52,h96,h97,h98,h99]<;>rfl,hM.fr⟩)
   refine seg 19 37 [(160,vB ([]==q.prof))] (fc (ldm 9 1 12 hM rfl rfl) (fc (ldm 9 0 12 hM rfl rfl) (fc (seq 9 [] q.prof) f0))) ?_;cases ac:([]==q.prof)
   ·exact rt1 2 (vB false) rfl f0 (hY _ _ ⟨by unfold aAt aC8 aAF;simp only [h47,h48,h50,h52,h96,h97,h98,h99,ac]<;>rfl,hM.fr⟩)
   exact rt1 2 (vB (0==q.min)) rfl (fc (ldm 3 1 13 hM rfl rfl) (fc (ldm 3 0 13 hM rfl rfl) f0)) (hY _ _ ⟨by unfold aAt aC8 aAF;simp only [h47,h48,h50,h52,h96,h97,h98,h99,ac]<;>rfl,hM.fr⟩)
  refine seg 9 2 [(31,vB (q.ask==2))] f0 ?_;cases h53:(q.ask==2)
  rotate_left
  ·refine seg 10 0 [] f0 (drx [4,6] (fun Z=>[some (vB (aBk q.id)),none]) _ (fun Z l=>[bk ab (qY_ q) 31,bk aa #[vI q.ask,vI q.kind,vI 0,vS [],vS [],vI 0,vL none 0 0,(bif l.getD 1 false then vS q.id else vS []),vI 0,vI 0,vI 0,vS [],vS [],vI 0] 31]) (fun Z=>[(5,vB (aBk q.id))]) hM (fun Z=>rfl) (fun Z l w5 hM=>(fc (ldm 9 0 7 hM rfl rfl) (fc (ldm 9 0 7 hM rfl rfl) f0))) ⟨aA0 0 4 37 (f:=41) (fun Z=>#[vS q.id]) (vB (aBk q.id)) (fun Z fr wm hM=>(aAx hq.id _)),aBd 1 6 9 1 7 (fun Z=>aa) (fun Z l=>#[vI q.ask,vI q.kind,vI 0,vS [],vS [],vI 0,vL none 0 0,(bif l.getD 1 false then vS q.id else vS []),vI 0,vI 0,vI 0,vS [],vS [],vI 0]) 31 (fun Z=>vS q.id),trivial⟩ fun af w1 hM=>?_);replace hM:Mm nF_ w w1 [bk ab (qY_ q) 31,bk aa #[vI q.ask,vI q.kind,vI 0,vS [],vS [],vI 0,vL none 0 0,vS q.id,vI 0,vI 0,vI 0,vS [],vS [],vI 0] 31]:=hM;refine seg 19 2 [(125,vB (aBk q.id))] f0 ?_;cases h91:(aBk q.id)
   ·exact rt1 2 (vB false) rfl f0 (hY _ _ ⟨by unfold aAt aC8 aAF;simp only [h47,h48,h50,h52,h53,h91]<;>rfl,hM.fr⟩)
   refine seg 19 16 [(139,vB (0==q.n))] (fc (ldm 9 1 7 hM rfl rfl) (fc (ldm 9 0 7 hM rfl rfl) (fc (rz (c:=true) (seq 9 q.id q.id) (by simp)) (fc (ldm 3 1 8 hM rfl rfl) (fc (ldm 3 0 8 hM rfl rfl) f0))))) ?_;cases h92:(0==q.n)
   ·exact rt1 2 (vB false) rfl f0 (hY _ _ ⟨by unfold aAt aC8 aAF;simp only [h47,h48,h50,h52,h53,h91,h92]<;>rfl,hM.fr⟩)
   refine seg 19 23 [(146,vB ((0==q.x)&&(0==q.y)))] (fc (lam 29 1 9 2 hM rfl) (fc (lam 29 0 9 2 hM rfl) (fc (aIQ 0 0 q.x q.y) f0))) ?_;cases h93:((0==q.x)&&(0==q.y))
   ·exact rt1 2 (vB false) rfl f0 (hY _ _ ⟨by unfold aAt aC8 aAF;simp only [h47,h48,h50,h52,h53,h91,h92,h93]<;>rfl,hM.fr⟩)
   refine seg 19 30 [(153,vB ([]==q.key))] (fc (ldm 9 1 11 hM rfl rfl) (fc (ldm 9 0 11 hM rfl rfl) (fc (seq 9 [] q.key) f0))) ?_;cases h94:([]==q.key)
   ·exact rt1 2 (vB false) rfl f0 (hY _ _ ⟨by unfold aAt aC8 aAF;simp only [h47,h48,h50,h52,h53,h91,h92,h93,h94]<;>rfl,hM.fr⟩)
   refine seg 19 37 [(160,vB ([]==q.prof))] (fc (ldm 9 1 12 hM rfl rfl) (fc (ldm 9 0 12 hM rfl rfl) (fc (seq 9 [] q.prof) f0))) ?_;cases h95:([]==q.prof)
   ·exact rt1 2 (vB false) rfl f0 (hY _ _ ⟨by unfold aAt aC8 aAF;simp only [h47,h48,h50,h52,h53,h91,h92,h93,h94,h95]<;>rfl,hM.fr⟩)
   exact rt1 2 (vB (0==q.min)) rfl (fc (ldm 3 1 13 hM rfl rfl) (fc (ldm 3 0 13 hM rfl rfl) f0)) (hY _ _ ⟨by unfold aAt aC8 aAF;simp only [h47,h48,h50,h52,h53,h91,h92,h93,h94,h95]<;>rfl,hM.fr⟩)
  refine seg 11 2 [(39,vB (q.ask==3))] f0 ?_;cases h54:(q.ask==3)
  rotate_left
  ·refine seg 12 0 [] f0 ?_;cases h83:(aBk q.id)
   ·refine drx [6,14,16] (fun Z=>[some (vB false),none,none]) _ (fun Z l=>[bk ab (qY_ q) 31,bk aa #[vI q.ask,vI q.kind,vI 0,vS [],vS [],vI 0,vL none 0 0,(bif l.getD 1 false then vS q.id else vS []),(bif l.getD 2 false then vI q.n else vI 0),vI 0,vI 0,vS [],vS [],vI 0] 31]) (fun Z=>[(5,vB false)]) hM (fun Z=>rfl) (fun Z l w5 hM=>(fc (ldm 9 0 7 hM rfl rfl) (fc (ldm 3 0 8 hM rfl rfl) (fc (ldm 9 0 7 hM rfl rfl) f0)))) ⟨aA0 0 6 47 (f:=41) (fun Z=>#[vS q.id]) (vB false) (fun Z fr wm hM=>(((aAx hq.id _)).mono fun e w9 ⟨a9,b9⟩=>⟨by rw [a9,h83],b9⟩)),aBd 1 14 9 1 7 (fun Z=>aa) (fun Z l=>#[vI q.ask,vI q.kind,vI 0,vS [],vS [],vI 0,vL none 0 0,(bif l.getD 1 false then vS q.id else vS []),(bif l.getD 2 false then vI q.n else vI 0),vI 0,vI 0,vS [],vS [],vI 0]) 31 (fun Z=>vS q.id),aBd 2 16 3 1 8 (fun Z=>aa) (fun Z l=>#[vI q.ask,vI q.kind,vI 0,vS [],vS [],vI 0,vL none 0 0,(bif l.getD 1 false then vS q.id else vS []),(bif l.getD 2 false then vI q.n else vI 0),vI 0,vI 0,vS [],vS [],vI 0]) 31 (fun Z=>vI q.n),trivial⟩ fun ag w1 hM=>?_;replace hM:Mm nF_ w w1 [bk ab (qY_ q) 31,bk aa #[vI q.ask,vI q.kind,vI 0,vS [],vS [],vI 0,vL none 0 0,vS q.id,vI q.n,vI 0,vI 0,vS [],vS [],vI 0] 31]:=hM;exact rt1 2 (vB false) rfl f0 (hY _ _ ⟨by unfold aAt aC8 aAF;simp only [h47,h48,h50,h52,h53,h54,h83]<;>rfl,hM.fr⟩)
   refine drx [6,11,14,16] (fun Z=>[some (vB true),some (vB (decide (0<=q.n)&&decide (q.n<=1048576))),none,none]) _ (fun Z l=>[bk ab (qY_ q) 31,bk aa #[vI q.ask,vI q.kind,vI 0,vS [],vS [],vI 0,vL none 0 0,(bif l.getD 2 false then vS q.id else vS []),(bif l.getD 3 false then vI q.n else vI 0),vI 0,vI 0,vS [],vS [],vI 0] 31]) (fun Z=>[(5,vB (decide (0<=q.n)&&decide (q.n<=1048576)))]) hM (fun Z=>rfl) (fun Z l w5 hM=>(fc (ldm 9 0 7 hM rfl rfl) (fc (ldm 3 0 8 hM rfl rfl) (fc (ldm 9 0 7 hM rfl rfl) (fc (ldm 3 0 8 hM rfl rfl) f0))))) ⟨aA0 0 6 47 (f:=41) (fun Z=>#[vS q.id]) (vB true) (fun Z fr wm hM=>(((aAx hq.id _)).mono fun e w9 ⟨a9,b9⟩=>⟨by rw [a9,h83],b9⟩)),aA0 1 11 52 (f:=103) (fun Z=>#[vI q.n,vI 0,vI 1048576]) (vB (decide (0<=q.n)&&decide (q.n<=1048576))) (fun Z fr wm hM=>(aA4 q.n 0 1048576)),aBd 2 14 9 1 7 (fun Z=>aa) (fun Z l=>#[vI q.ask,vI q.kind,vI 0,vS [],vS [],vI 0,vL none 0 0,(bif l.getD 2 false then vS q.id else vS []),(bif l.getD 3 false then vI q.n else vI 0),vI 0,vI 0,vS [],vS [],vI 0]) 31 (fun Z=>vS q.id),aBd 3 16 3 1 8 (fun Z=>aa) (fun Z l=>#[vI q.ask,vI q.kind,vI 0,vS [],vS [],vI 0,vL none 0 0,(bif l.getD 2 false then vS q.id else vS []),(bif l.getD 3 false then vI q.n else vI 0),vI 0,vI 0,vS [],vS [],vI 0]) 31 (fun Z=>vI q.n),trivial⟩ fun ah w1 hM=>?_;replace hM:Mm nF_ w w1 [bk ab (qY_ q) 31,bk aa #[vI q.ask,vI q.kind,vI 0,vS [],vS [],vI 0,vL none 0 0,vS q.id,vI q.n,vI 0,vI 0,vS [],vS [],vI 0] 31]:=hM;refine seg 19 2 [(125,vB (decide (0<=q.n)&&decide (q.n<=1048576)))] f0 ?_;cases h86:(decide (0<=q.n)&&decide (q.n<=1048576))
   ·exact rt1 2 (vB false) rfl f0 (hY _ _ ⟨by unfold aAt aC8 aAF;simp only [h47,h48,h50,h52,h53,h54,h83,h86]<;>rfl,hM.fr⟩)
   refine seg 19 23 [(146,vB ((0==q.x)&&(0==q.y)))] (fc (ldm 9 1 7 hM rfl rfl) (fc (ldm 9 0 7 hM rfl rfl) (fc (rz (c:=true) (seq 9 q.id q.id) (by simp)) (fc (ldm 3 1 8 hM rfl rfl) (fc (ldm 3 0 8 hM rfl rfl) (fc (tv 137 (b:=(q.n==q.n)) (c:=true) (by simp)) (fc (lam 29 1 9 2 hM rfl) (fc (lam 29 0 9 2 hM rfl) (fc (aIQ 0 0 q.x q.y) f0))))))))) ?_;cases h87:((0==q.x)&&(0==q.y))
   ·exact rt1 2 (vB false) rfl f0 (hY _ _ ⟨by unfold aAt aC8 aAF;simp only [h47,h48,h50,h52,h53,h54,h83,h86,h87]<;>rfl,hM.fr⟩)
   refine seg 19 30 [(153,vB ([]==q.key))] (fc (ldm 9 1 11 hM rfl rfl) (fc (ldm 9 0 11 hM rfl rfl) (fc (seq 9 [] q.key) f0))) ?_;cases h88:([]==q.key)
   ·exact rt1 2 (vB false) rfl f0 (hY _ _ ⟨by unfold aAt aC8 aAF;simp only [h47,h48,h50,h52,h53,h54,h83,h86,h87,h88]<;>rfl,hM.fr⟩)
   refine seg 19 37 [(160,vB ([]==q.prof))] (fc (ldm 9 1 12 hM rfl rfl) (fc (ldm 9 0 12 hM rfl rfl) (fc (seq 9 [] q.prof) f0))) ?_;cases h89:([]==q.prof)
   ·exact rt1 2 (vB false) rfl f0 (hY _ _ ⟨by unfold aAt aC8 aAF;simp only [h47,h48,h50,h52,h53,h54,h83,h86,h87,h88,h89]<;>rfl,hM.fr⟩)
   exact rt1 2 (vB (0==q.min)) rfl (fc (ldm 3 1 13 hM rfl rfl) (fc (ldm 3 0 13 hM rfl rfl) f0)) (hY _ _ ⟨by unfold aAt aC8 aAF;simp only [h47,h48,h50,h52,h53,h54,h83,h86,h87,h88,h89]<;>rfl,hM.fr⟩)
  refine seg 13 2 [(56,vB (q.ask==4))] f0 ?_;cases h55:(q.ask==4)
  rotate_left
  ·refine seg 14 0 [] f0 ?_;cases h74:(decide (1<=q.n)&&decide (q.n<=10000))
   ·refine drx [7,23,25] (fun Z=>[some (vB false),none,none]) _ (fun Z l=>[bk ab (qY_ q) 31,bk aa #[vI q.ask,vI q.kind,vI 0,vS [],vS [],vI 0,vL none 0 0,vS [],(bif l.getD 1 false then vI q.n else vI 0),(bif l.getD 2 false then vI q.x else vI 0),(bif l.getD 2 false then vI q.y else vI 0),vS [],vS [],vI 0] 31]) (fun Z=>[(5,vB false)]) hM (fun Z=>rfl) (fun Z l w5 hM=>(fc (ldm 3 0 8 hM rfl rfl) (fc (lam 29 0 9 2 hM rfl) (fc (ldm 3 0 8 hM rfl rfl) f0)))) ⟨aA0 0 7 65 (f:=103) (fun Z=>#[vI q.n,vI 1,vI 10000]) (vB false) (fun Z fr wm hM=>(((aA4 q.n 1 10000)).mono fun e w9 ⟨a9,b9⟩=>⟨by rw [a9,h74],b9⟩)),aBd 1 23 3 1 8 (fun Z=>aa) (fun Z l=>#[vI q.ask,vI q.kind,vI 0,vS [],vS [],vI 0,vL none 0 0,vS [],(bif l.getD 1 false then vI q.n else vI 0),(bif l.getD 2 false then vI q.x else vI 0),(bif l.getD 2 false then vI q.y else vI 0),vS [],vS [],vI 0]) 31 (fun Z=>vI q.n),aBd 2 25 29 1 9 (fun Z=>aa) (fun Z l=>#[vI q.ask,vI q.kind,vI 0,vS [],vS [],vI 0,vL none 0 0,vS [],(bif l.getD 1 false then vI q.n else vI 0),(bif l.getD 2 false then vI q.x else vI 0),(bif l.getD 2 false then vI q.y else vI 0),vS [],vS [],vI 0]) 31 (fun Z => .agg #[vI q.x,vI q.y]),trivial⟩ fun ai w1 hM=>?_;replace hM:Mm nF_ w w1 [bk ab (qY_ q) 31,bk aa #[vI q.ask,vI q.kind,vI 0,vS [],vS [],vI 0,vL none 0 0,vS [],vI q.n,vI q.x,vI q.y,vS [],vS [],vI 0] 31]:=hM;exact rt1 2 (vB false) rfl f0 (hY _ _ ⟨by unfold aAt aC8 aAF;simp only [h47,h48,h50,h52,h53,h54,h55,h74]<;>rfl,hM.fr⟩)
   cases h76:(decide (0<=q.x)&&decide (q.x<=1048575))
   ·refine drx [7,13,23,25] (fun Z=>[some (vB true),some (vB false),none,none]) _ (fun Z l=>[bk ab (qY_ q) 31,bk aa #[vI q.ask,vI q.kind,vI 0,vS [],vS [],vI 0,vL none 0 0,vS [],(bif l.getD 2 false then vI q.n else vI 0),(bif l.getD 3 false then vI q.x else vI 0),(bif l.getD 3 false then vI q.y else vI 0),vS [],vS [],vI 0] 31]) (fun Z=>[(5,vB false)]) hM (fun Z=>rfl) (fun Z l w5 hM=>(fc (ldm 3 0 8 hM rfl rfl) (fc (lam 29 0 9 2 hM rfl) (fc (ldm 3 0 8 hM rfl rfl) (fc (ldm 3 0 9 hM rfl rfl) f0))))) ⟨aA0 0 7 65 (f:=103) (fun Z=>#[vI q.n,vI 1,vI 10000]) (vB true) (fun Z fr wm hM=>(((aA4 q.n 1 10000)).mono fun e w9 ⟨a9,b9⟩=>⟨by rw [a9,h74],b9⟩)),aA0 1 13 71 (f:=103) (fun Z=>#[vI q.x,vI 0,vI 1048575]) (vB false) (fun Z fr wm hM=>(((aA4 q.x 0 1048575)).mono fun e w9 ⟨a9,b9⟩=>⟨by rw [a9,h76],b9⟩)),aBd 2 23 3 1 8 (fun Z=>aa) (fun Z l=>#[vI q.ask,vI q.kind,vI 0,vS [],vS [],vI 0,vL none 0 0,vS [],(bif l.getD 2 false then vI q.n else vI 0),(bif l.getD 3 false then vI q.x else vI 0),(bif l.getD 3 false then vI q.y else vI 0),vS [],vS [],vI 0]) 31 (fun Z=>vI q.n),aBd 3 25 29 1 9 (fun Z=>aa) (fun Z l=>#[vI q.ask,vI q.kind,vI 0,vS [],vS [],vI 0,vL none 0 0,vS [],(bif l.getD 2 false then vI q.n else vI 0),(bif l.getD 3 false then vI q.x else vI 0),(bif l.getD 3 false then vI q.y else vI 0),vS [],vS [],vI 0]) 31 (fun Z => .agg #[vI q.x,vI q.y]),trivial⟩ fun aj w1 hM=>?_;replace hM:Mm nF_ w w1 [bk ab (qY_ q) 31,bk aa #[vI q.ask,vI q.kind,vI 0,vS [],vS [],vI 0,vL none 0 0,vS [],vI q.n,vI q.x,vI q.y,vS [],vS [],vI 0] 31]:=hM;exact rt1 2 (vB false) rfl f0 (hY _ _ ⟨by unfold aAt aC8 aAF;simp only [h47,h48,h50,h52,h53,h54,h55,h74,h76]<;>rfl,hM.fr⟩)
   refine drx [7,13,20,23,25] (fun Z=>[some (vB true),some (vB true),some (vB (decide (0<=q.y)&&decide (q.y<=1048575))),none,none]) _ (fun Z l=>[bk ab (qY_ q) 31,bk aa #[vI q.ask,vI q.kind,vI 0,vS [],vS [],vI 0,vL none 0 0,vS [],(bif l.getD 3 false then vI q.n else vI 0),(bif l.getD 4 false then vI q.x else vI 0),(bif l.getD 4 false then vI q.y else vI 0),vS [],vS [],vI 0] 31]) (fun Z=>[(5,vB (decide (0<=q.y)&&decide (q.y<=1048575)))]) hM (fun Z=>rfl) (fun Z l w5 hM=>(fc (ldm 3 0 8 hM rfl rfl) (fc (lam 29 0 9 2 hM rfl) (fc (ldm 3 0 8 hM rfl rfl) (fc (ldm 3 0 9 hM rfl rfl) (fc (ldm 3 0 10 hM rfl rfl) f0)))))) ⟨aA0 0 7 65 (f:=103) (fun Z=>#[vI q.n,vI 1,vI 10000]) (vB true) (fun Z fr wm hM=>(((aA4 q.n 1 10000)).mono fun e w9 ⟨a9,b9⟩=>⟨by rw [a9,h74],b9⟩)),aA0 1 13 71 (f:=103) (fun Z=>#[vI q.x,vI 0,vI 1048575]) (vB true) (fun Z fr wm hM=>(((aA4 q.x 0 1048575)).mono fun e w9 ⟨a9,b9⟩=>⟨by rw [a9,h76],b9⟩)),aA0 2 20 78 (f:=103) (fun Z=>#[vI q.y,vI 0,vI 1048575]) (vB (decide (0<=q.y)&&decide (q.y<=1048575))) (fun Z fr wm hM=>(aA4 q.y 0 1048575)),aBd 3 23 3 1 8 (fun Z=>aa) (fun Z l=>#[vI q.ask,vI q.kind,vI 0,vS [],vS [],vI 0,vL none 0 0,vS [],(bif l.getD 3 false then vI q.n else vI 0),(bif l.getD 4 false then vI q.x else vI 0),(bif l.getD 4 false then vI q.y else vI 0),vS [],vS [],vI 0]) 31 (fun Z=>vI q.n),aBd 4 25 29 1 9 (fun Z=>aa) (fun Z l=>#[vI q.ask,vI q.kind,vI 0,vS [],vS [],vI 0,vL none 0 0,vS [],(bif l.getD 3 false then vI q.n else vI 0),(bif l.getD 4 false then vI q.x else vI 0),(bif l.getD 4 false then vI q.y else vI 0),vS [],vS [],vI 0]) 31 (fun Z => .agg #[vI q.x,vI q.y]),trivial⟩ fun ak w1 hM=>?_;replace hM:Mm nF_ w w1 [bk ab (qY_ q) 31,bk aa #[vI q.ask,vI q.kind,vI 0,vS [],vS [],vI 0,vL none 0 0,vS [],vI q.n,vI q.x,vI q.y,vS [],vS [],vI 0] 31]:=hM;refine seg 19 2 [(125,vB (decide (0<=q.y)&&decide (q.y<=1048575)))] f0 ?_;cases h79:(decide (0<=q.y)&&decide (q.y<=1048575))
   ·exact rt1 2 (vB false) rfl f0 (hY _ _ ⟨by unfold aAt aC8 aAF;simp only [h47,h48,h50,h52,h53,h54,h55,h74,h76,h79]<;>rfl,hM.fr⟩)
   refine seg 19 9 [(132,vB ([]==q.id))] (fc (ldm 9 1 7 hM rfl rfl) (fc (ldm 9 0 7 hM rfl rfl) (fc (seq 9 [] q.id) f0))) ?_;cases h80:([]==q.id)
   ·exact rt1 2 (vB false) rfl f0 (hY _ _ ⟨by unfold aAt aC8 aAF;simp only [h47,h48,h50,h52,h53,h54,h55,h74,h76,h79,h80]<;>rfl,hM.fr⟩)
   refine seg 19 30 [(153,vB ([]==q.key))] (fc (ldm 3 1 8 hM rfl rfl) (fc (ldm 3 0 8 hM rfl rfl) (fc (tv 137 (b:=(q.n==q.n)) (c:=true) (by simp)) (fc (lam 29 1 9 2 hM rfl) (fc (lam 29 0 9 2 hM rfl) (fc (rz (c:=true) (aIQ q.x q.y q.x q.y) (by simp)) (fc (ldm 9 1 11 hM rfl rfl) (fc (ldm 9 0 11 hM rfl rfl) (fc (seq 9 [] q.key) f0))))))))) ?_;cases h81:([]==q.key)
   ·exact rt1 2 (vB false) rfl f0 (hY _ _ ⟨by unfold aAt aC8 aAF;simp only [h47,h48,h50,h52,h53,h54,h55,h74,h76,h79,h80,h81]<;>rfl,hM.fr⟩)
   refine seg 19 37 [(160,vB ([]==q.prof))] (fc (ldm 9 1 12 hM rfl rfl) (fc (ldm 9 0 12 hM rfl rfl) (fc (seq 9 [] q.prof) f0))) ?_;cases h82:([]==q.prof)
   ·exact rt1 2 (vB false) rfl f0 (hY _ _ ⟨by unfold aAt aC8 aAF;simp only [h47,h48,h50,h52,h53,h54,h55,h74,h76,h79,h80,h81,h82]<;>rfl,hM.fr⟩)
   exact rt1 2 (vB (0==q.min)) rfl (fc (ldm 3 1 13 hM rfl rfl) (fc (ldm 3 0 13 hM rfl rfl) f0)) (hY _ _ ⟨by unfold aAt aC8 aAF;simp only [h47,h48,h50,h52,h53,h54,h55,h74,h76,h79,h80,h81,h82]<;>rfl,hM.fr⟩)
  refine seg 15 2 [(82,vB (q.ask==5))] f0 ?_;cases h56:(q.ask==5)
  ·refine seg 17 2 [(116,vB (q.ask==6))] f0 ?_;cases h57:(q.ask==6)
   ·exact rt1 2 (vB false) rfl f0 (hY _ _ ⟨by unfold aAt aC8 aAF;simp only [h47,h48,h50,h52,h53,h54,h55,h56,h57]<;>rfl,hM.fr⟩)
   refine seg 18 0 [] f0 (drx [4,6] (fun Z=>[some (vB (aBk q.key)),none]) _ (fun Z l=>[bk ab (qY_ q) 31,bk aa #[vI q.ask,vI q.kind,vI 0,vS [],vS [],vI 0,vL none 0 0,vS [],vI 0,vI 0,vI 0,(bif l.getD 1 false then vS q.key else vS []),vS [],vI 0] 31]) (fun Z=>[(5,vB (aBk q.key))]) hM (fun Z=>rfl) (fun Z l w5 hM=>(fc (ldm 9 0 11 hM rfl rfl) (fc (ldm 9 0 11 hM rfl rfl) f0))) ⟨aA0 0 4 122 (f:=41) (fun Z=>#[vS q.key]) (vB (aBk q.key)) (fun Z fr wm hM=>(aAx hq.key _)),aBd 1 6 9 1 11 (fun Z=>aa) (fun Z l=>#[vI q.ask,vI q.kind,vI 0,vS [],vS [],vI 0,vL none 0 0,vS [],vI 0,vI 0,vI 0,(bif l.getD 1 false then vS q.key else vS []),vS [],vI 0]) 31 (fun Z=>vS q.key),trivial⟩ fun al w1 hM=>?_);replace hM:Mm nF_ w w1 [bk ab (qY_ q) 31,bk aa #[vI q.ask,vI q.kind,vI 0,vS [],vS [],vI 0,vL none 0 0,vS [],vI 0,vI 0,vI 0,vS q.key,vS [],vI 0] 31]:=hM;refine seg 19 2 [(125,vB (aBk q.key))] f0 ?_;cases h59:(aBk q.key)
   ·exact rt1 2 (vB false) rfl f0 (hY _ _ ⟨by unfold aAt aC8 aAF;simp only [h47,h48,h50,h52,h53,h54,h55,h56,h57,h59]<;>rfl,hM.fr⟩)
   refine seg 19 9 [(132,vB ([]==q.id))] (fc (ldm 9 1 7 hM rfl rfl) (fc (ldm 9 0 7 hM rfl rfl) (fc (seq 9 [] q.id) f0))) ?_;cases h60:([]==q.id)
   ·exact rt1 2 (vB false) rfl f0 (hY _ _ ⟨by unfold aAt aC8 aAF;simp only [h47,h48,h50,h52,h53,h54,h55,h56,h57,h59,h60]<;>rfl,hM.fr⟩)
   refine seg 19 16 [(139,vB (0==q.n))] (fc (ldm 3 1 8 hM rfl rfl) (fc (ldm 3 0 8 hM rfl rfl) f0)) ?_;cases h61:(0==q.n)
   ·exact rt1 2 (vB false) rfl f0 (hY _ _ ⟨by unfold aAt aC8 aAF;simp only [h47,h48,h50,h52,h53,h54,h55,h56,h57,h59,h60,h61]<;>rfl,hM.fr⟩)
   refine seg 19 23 [(146,vB ((0==q.x)&&(0==q.y)))] (fc (lam 29 1 9 2 hM rfl) (fc (lam 29 0 9 2 hM rfl) (fc (aIQ 0 0 q.x q.y) f0))) ?_;cases h62:((0==q.x)&&(0==q.y))
   ·exact rt1 2 (vB false) rfl f0 (hY _ _ ⟨by unfold aAt aC8 aAF;simp only [h47,h48,h50,h52,h53,h54,h55,h56,h57,h59,h60,h61,h62]<;>rfl,hM.fr⟩)
   refine seg 19 37 [(160,vB ([]==q.prof))] (fc (ldm 9 1 11 hM rfl rfl) (fc (ldm 9 0 11 hM rfl rfl) (fc (rz (c:=true) (seq 9 q.key q.key) (by simp)) (fc (ldm 9 1 12 hM rfl rfl) (fc (ldm 9 0 12 hM rfl rfl) (fc (seq 9 [] q.prof) f0)))))) ?_;cases h63:([]==q.prof)
   ·exact rt1 2 (vB false) rfl f0 (hY _ _ ⟨by unfold aAt aC8 aAF;simp only [h47,h48,h50,h52,h53,h54,h55,h56,h57,h59,h60,h61,h62,h63]<;>rfl,hM.fr⟩)
   exact rt1 2 (vB (0==q.min)) rfl (fc (ldm 3 1 13 hM rfl rfl) (fc (ldm 3 0 13 hM rfl rfl) f0)) (hY _ _ ⟨by unfold aAt aC8 aAF;simp only [h47,h48,h50,h52,h53,h54,h55,h56,h57,h59,h60,h61,h62,h63]<;>rfl,hM.fr⟩)
  refine seg 16 0 [] f0 ?_;cases h64:(aBk q.id)
  ·refine drx [10,29,31,33,35] (fun Z=>[some (vB false),none,none,none,none]) _ (fun Z l=>[bk ab (qY_ q) 31,bk aa #[vI q.ask,vI q.kind,vI 0,vS [],vS [],vI 0,vL none 0 0,(bif l.getD 1 false then vS q.id else vS []),(bif l.getD 2 false then vI q.n else vI 0),vI 0,vI 0,vS [],(bif l.getD 3 false then vS q.prof else vS []),(bif l.getD 4 false then vI q.min else vI 0)] 31]) (fun Z=>[(5,vB false)]) hM (fun Z=>rfl) (fun Z l w5 hM=>(fc (ldm 9 0 7 hM rfl rfl) (fc (ldm 3 0 8 hM rfl rfl) (fc (ldm 9 0 12 hM rfl rfl) (fc (ldm 3 0 13 hM rfl rfl) (fc (ldm 9 0 7 hM rfl rfl) f0)))))) ⟨aA0 0 10 94 (f:=41) (fun Z=>#[vS q.id]) (vB false) (fun Z fr wm hM=>(((aAx hq.id _)).mono fun e w9 ⟨a9,b9⟩=>⟨by rw [a9,h64],b9⟩)),aBd 1 29 9 1 7 (fun Z=>aa) (fun Z l=>#[vI q.ask,vI q.kind,vI 0,vS [],vS [],vI 0,vL none 0 0,(bif l.getD 1 false then vS q.id else vS []),(bif l.getD 2 false then vI q.n else vI 0),vI 0,vI 0,vS [],(bif l.getD 3 false then vS q.prof else vS []),(bif l.getD 4 false then vI q.min else vI 0)]) 31 (fun Z=>vS q.id),aBd 2 31 3 1 8 (fun Z=>aa) (fun Z l=>#[vI q.ask,vI q.kind,vI 0,vS [],vS [],vI 0,vL none 0 0,(bif l.getD 1 false then vS q.id else vS []),(bif l.getD 2 false then vI q.n else vI 0),vI 0,vI 0,vS [],(bif l.getD 3 false then vS q.prof else vS []),(bif l.getD 4 false then vI q.min else vI 0)]) 31 (fun Z=>vI q.n),aBd 3 33 9 1 12 (fun Z=>aa) (fun Z l=>#[vI q.ask,vI q.kind,vI 0,vS [],vS [],vI 0,vL none 0 0,(bif l.getD 1 false then vS q.id else vS []),(bif l.getD 2 false then vI q.n else vI 0),vI 0,vI 0,vS [],(bif l.getD 3 false then vS q.prof else vS []),(bif l.getD 4 false then vI q.min else vI 0)]) 31 (fun Z=>vS q.prof),aBd 4 35 3 1 13 (fun Z=>aa) (fun Z l=>#[vI q.ask,vI q.kind,vI 0,vS [],vS [],vI 0,vL none 0 0,(bif l.getD 1 false then vS q.id else vS []),(bif l.getD 2 false then vI q.n else vI 0),vI 0,vI 0,vS [],(bif l.getD 3 false then vS q.prof else vS []),(bif l.getD 4 false then vI q.min else vI 0)]) 31 (fun Z=>vI q.min),trivial⟩ fun am w1 hM=>?_;replace hM:Mm nF_ w w1 [bk ab (qY_ q) 31,bk aa #[vI q.ask,vI q.kind,vI 0,vS [],vS [],vI 0,vL none 0 0,vS q.id,vI q.n,vI 0,vI 0,vS [],vS q.prof,vI q.min] 31]:=hM;exact rt1 2 (vB false) rfl f0 (hY _ _ ⟨by unfold aAt aC8 aAF;simp only [h47,h48,h50,h52,h53,h54,h55,h56,h64]<;>rfl,hM.fr⟩)
  cases h66:(decide (0<=q.n)&&decide (q.n<=10080))
  ·refine drx [10,15,29,31,33,35] (fun Z=>[some (vB true),some (vB false),none,none,none,none]) _ (fun Z l=>[bk ab (qY_ q) 31,bk aa #[vI q.ask,vI q.kind,vI 0,vS [],vS [],vI 0,vL none 0 0,(bif l.getD 2 false then vS q.id else vS []),(bif l.getD 3 false then vI q.n else vI 0),vI 0,vI 0,vS [],(bif l.getD 4 false then vS q.prof else vS []),(bif l.getD 5 false then vI q.min else vI 0)] 31]) (fun Z=>[(5,vB false)]) hM (fun Z=>rfl) (fun Z l w5 hM=>(fc (ldm 9 0 7 hM rfl rfl) (fc (ldm 3 0 8 hM rfl rfl) (fc (ldm 9 0 12 hM rfl rfl) (fc (ldm 3 0 13 hM rfl rfl) (fc (ldm 9 0 7 hM rfl rfl) (fc (ldm 3 0 8 hM rfl rfl) f0))))))) ⟨aA0 0 10 94 (f:=41) (fun Z=>#[vS q.id]) (vB true) (fun Z fr wm hM=>(((aAx hq.id _)).mono fun e w9 ⟨a9,b9⟩=>⟨by rw [a9,h64],b9⟩)),aA0 1 15 99 (f:=103) (fun Z=>#[vI q.n,vI 0,vI 10080]) (vB false) (fun Z fr wm hM=>(((aA4 q.n 0 10080)).mono fun e w9 ⟨a9,b9⟩=>⟨by rw [a9,h66],b9⟩)),aBd 2 29 9 1 7 (fun Z=>aa) (fun Z l=>#[vI q.ask,vI q.kind,vI 0,vS [],vS [],vI 0,vL none 0 0,(bif l.getD 2 false then vS q.id else vS []),(bif l.getD 3 false then vI q.n else vI 0),vI 0,vI 0,vS [],(bif l.getD 4 false then vS q.prof else vS []),(bif l.getD 5 false then vI q.min else vI 0)]) 31 (fun Z=>vS q.id),aBd 3 31 3 1 8 (fun Z=>aa) (fun Z l=>#[vI q.ask,vI q.kind,vI 0,vS [],vS [],vI 0,vL none 0 0,(bif l.getD 2 false then vS q.id else vS []),(bif l.getD 3 false then vI q.n else vI 0),vI 0,vI 0,vS [],(bif l.getD 4 false then vS q.prof else vS []),(bif l.getD 5 false then vI q.min else vI 0)]) 31 (fun Z=>vI q.n),aBd 4 33 9 1 12 (fun Z=>aa) (fun Z l=>#[vI q.ask,vI q.kind,vI 0,vS [],vS [],vI 0,vL none 0 0,(bif l.getD 2 false then vS q.id else vS []),(bif l.getD 3 false then vI q.n else vI 0),vI 0,vI 0,vS [],(bif l.getD 4 false then vS q.prof else vS []),(bif l.getD 5 false then vI q.min else vI 0)]) 31 (fun Z=>vS q.prof),aBd 5 35 3 1 13 (fun Z=>aa) (fun Z l=>#[vI q.ask,vI q.kind,vI 0,vS [],vS [],vI 0,vL none 0 0,(bif l.getD 2 false then vS q.id else vS []),(bif l.getD 3 false then vI q.n else vI 0),vI 0,vI 0,vS [],(bif l.getD 4 false then vS q.prof else vS []),(bif l.getD 5 false then vI q.min else vI 0)]) 31 (fun Z=>vI q.min),trivial⟩ fun an w1 hM=>?_;replace hM:Mm nF_ w w1 [bk ab (qY_ q) 31,bk aa #[vI q.ask,vI q.kind,vI 0,vS [],vS [],vI 0,vL none 0 0,vS q.id,vI q.n,vI 0,vI 0,vS [],vS q.prof,vI q.min] 31]:=hM;exact rt1 2 (vB false) rfl f0 (hY _ _ ⟨by unfold aAt aC8 aAF;simp only [h47,h48,h50,h52,h53,h54,h55,h56,h64,h66]<;>rfl,hM.fr⟩)
  cases h68:(aBk q.prof)
  ·refine drx [10,15,20,29,31,33,35] (fun Z=>[some (vB true),some (vB true),some (vB false),none,none,none,none]) _ (fun Z l=>[bk ab (qY_ q) 31,bk aa #[vI q.ask,vI q.kind,vI 0,vS [],vS [],vI 0,vL none 0 0,(bif l.getD 3 false then vS q.id else vS []),(bif l.getD 4 false then vI q.n else vI 0),vI 0,vI 0,vS [],(bif l.getD 5 false then vS q.prof else vS []),(bif l.getD 6 false then vI q.min else vI 0)] 31]) (fun Z=>[(5,vB false)]) hM (fun Z=>rfl) (fun Z l w5 hM=>(fc (ldm 9 0 7 hM rfl rfl) (fc (ldm 3 0 8 hM rfl rfl) (fc (ldm 9 0 12 hM rfl rfl) (fc (ldm 3 0 13 hM rfl rfl) (fc (ldm 9 0 7 hM rfl rfl) (fc (ldm 3 0 8 hM rfl rfl) (fc (ldm 9 0 12 hM rfl rfl) f0)))))))) ⟨aA0 0 10 94 (f:=41) (fun Z=>#[vS q.id]) (vB true) (fun Z fr wm hM=>(((aAx hq.id _)).mono fun e w9 ⟨a9,b9⟩=>⟨by rw [a9,h64],b9⟩)),aA0 1 15 99 (f:=103) (fun Z=>#[vI q.n,vI 0,vI 10080]) (vB true) (fun Z fr wm hM=>(((aA4 q.n 0 10080)).mono fun e w9 ⟨a9,b9⟩=>⟨by rw [a9,h66],b9⟩)),aA0 2 20 104 (f:=41) (fun Z=>#[vS q.prof]) (vB false) (fun Z fr wm hM=>(((aAx hq.prof _)).mono fun e w9 ⟨a9,b9⟩=>⟨by rw [a9,h68],b9⟩)),aBd 3 29 9 1 7 (fun Z=>aa) (fun Z l=>#[vI q.ask,vI q.kind,vI 0,vS [],vS [],vI 0,vL none 0 0,(bif l.getD 3 false then vS q.id else vS []),(bif l.getD 4 false then vI q.n else vI 0),vI 0,vI 0,vS [],(bif l.getD 5 false then vS q.prof else vS []),(bif l.getD 6 false then vI q.min else vI 0)]) 31 (fun Z=>vS q.id),aBd 4 31 3 1 8 (fun Z=>aa) (fun Z l=>#[vI q.ask,vI q.kind,vI 0,vS [],vS [],vI 0,vL none 0 0,(bif l.getD 3 false then vS q.id else vS []),(bif l.getD 4 false then vI q.n else vI 0),vI 0,vI 0,vS [],(bif l.getD 5 false then vS q.prof else vS []),(bif l.getD 6 false then vI q.min else vI 0)]) 31 (fun Z=>vI q.n),aBd 5 33 9 1 12 (fun Z=>aa) (fun Z l=>#[vI q.ask,vI q.kind,vI 0,vS [],vS [],vI 0,vL none 0 0,(bif l.getD 3 false then vS q.id else vS []),(bif l.getD 4 false then vI q.n else vI 0),vI 0,vI 0,vS [],(bif l.getD 5 false then vS q.prof else vS []),(bif l.getD 6 false then vI q.min else vI 0)]) 31 (fun Z=>vS q.prof),aBd 6 35 3 1 13 (fun Z=>aa) (fun Z l=>#[vI q.ask,vI q.kind,vI 0,vS [],vS [],vI 0,vL none 0 0,(bif l.getD 3 false then vS q.id else vS []),(bif l.getD 4 false then vI q.n else vI 0),vI 0,vI 0,vS [],(bif l.getD 5 false then vS q.prof else vS []),(bif l.getD 6 false then vI q.min else vI 0)]) 31 (fun Z=>vI q.min),trivial⟩ fun ao w1 hM=>?_;replace hM:Mm nF_ w w1 [bk ab (qY_ q) 31,bk aa #[vI q.ask,vI q.kind,vI 0,vS [],vS [],vI 0,vL none 0 0,vS q.id,vI q.n,vI 0,vI 0,vS [],vS q.prof,vI q.min] 31]:=hM;exact rt1 2 (vB false) rfl f0 (hY _ _ ⟨by unfold aAt aC8 aAF;simp only [h47,h48,h50,h52,h53,h54,h55,h56,h64,h66,h68]<;>rfl,hM.fr⟩)
  refine drx [10,15,20,26,29,31,33,35] (fun Z=>[some (vB true),some (vB true),some (vB true),some (vB (decide (0<=q.min)&&decide (q.min<=9999999))),none,none,none,none]) _ (fun Z l=>[bk ab (qY_ q) 31,bk aa #[vI q.ask,vI q.kind,vI 0,vS [],vS [],vI 0,vL none 0 0,(bif l.getD 4 false then vS q.id else vS []),(bif l.getD 5 false then vI q.n else vI 0),vI 0,vI 0,vS [],(bif l.getD 6 false then vS q.prof else vS []),(bif l.getD 7 false then vI q.min else vI 0)] 31]) (fun Z=>[(5,vB (decide (0<=q.min)&&decide (q.min<=9999999)))]) hM (fun Z=>rfl) (fun Z l w5 hM=>(fc (ldm 9 0 7 hM rfl rfl) (fc (ldm 3 0 8 hM rfl rfl) (fc (ldm 9 0 12 hM rfl rfl) (fc (ldm 3 0 13 hM rfl rfl) (fc (ldm 9 0 7 hM rfl rfl) (fc (ldm 3 0 8 hM rfl rfl) (fc (ldm 9 0 12 hM rfl rfl) (fc (ldm 3 0 13 hM rfl rfl) f0))))))))) ⟨aA0 0 10 94 (f:=41) (fun Z=>#[vS q.id]) (vB true) (fun Z fr wm hM=>(((aAx hq.id _)).mono fun e w9 ⟨a9,b9⟩=>⟨by rw [a9,h64],b9⟩)),aA0 1 15 99 (f:=103) (fun Z=>#[vI q.n,vI 0,vI 10080]) (vB true) (fun Z fr wm hM=>(((aA4 q.n 0 10080)).mono fun e w9 ⟨a9,b9⟩=>⟨by rw [a9,h66],b9⟩)),aA0 2 20 104 (f:=41) (fun Z=>#[vS q.prof]) (vB true) (fun Z fr wm hM=>(((aAx hq.prof _)).mono fun e w9 ⟨a9,b9⟩=>⟨by rw [a9,h68],b9⟩)),aA0 3 26 110 (f:=103) (fun Z=>#[vI q.min,vI 0,vI 9999999]) (vB (decide (0<=q.min)&&decide (q.min<=9999999))) (fun Z fr wm hM=>(aA4 q.min 0 9999999)),aBd 4 29 9 1 7 (fun Z=>aa) (fun Z l=>#[vI q.ask,vI q.kind,vI 0,vS [],vS [],vI 0,vL none 0 0,(bif l.getD 4 false then vS q.id else vS []),(bif l.getD 5 false then vI q.n else vI 0),vI 0,vI 0,vS [],(bif l.getD 6 false then vS q.prof else vS []),(bif l.getD 7 false then vI q.min else vI 0)]) 31 (fun Z=>vS q.id),aBd 5 31 3 1 8 (fun Z=>aa) (fun Z l=>#[vI q.ask,vI q.kind,vI 0,vS [],vS [],vI 0,vL none 0 0,(bif l.getD 4 false then vS q.id else vS []),(bif l.getD 5 false then vI q.n else vI 0),vI 0,vI 0,vS [],(bif l.getD 6 false then vS q.prof else vS []),(bif l.getD 7 false then vI q.min else vI 0)]) 31 (fun Z=>vI q.n),aBd 6 33 9 1 12 (fun Z=>aa) (fun Z l=>#[vI q.ask,vI q.kind,vI 0,vS [],vS [],vI 0,vL none 0 0,(bif l.getD 4 false then vS q.id else vS []),(bif l.getD 5 false then vI q.n else vI 0),vI 0,vI 0,vS [],(bif l.getD 6 false then vS q.prof else vS []),(bif l.getD 7 false then vI q.min else vI 0)]) 31 (fun Z=>vS q.prof),aBd 7 35 3 1 13 (fun Z=>aa) (fun Z l=>#[vI q.ask,vI q.kind,vI 0,vS [],vS [],vI 0,vL none 0 0,(bif l.getD 4 false then vS q.id else vS []),(bif l.getD 5 false then vI q.n else vI 0),vI 0,vI 0,vS [],(bif l.getD 6 false then vS q.prof else vS []),(bif l.getD 7 false then vI q.min else vI 0)]) 31 (fun Z=>vI q.min),trivial⟩ fun ap w1 hM=>?_;replace hM:Mm nF_ w w1 [bk ab (qY_ q) 31,bk aa #[vI q.ask,vI q.kind,vI 0,vS [],vS [],vI 0,vL none 0 0,vS q.id,vI q.n,vI 0,vI 0,vS [],vS q.prof,vI q.min] 31]:=hM;refine seg 19 2 [(125,vB (decide (0<=q.min)&&decide (q.min<=9999999)))] f0 ?_;cases h71:(decide (0<=q.min)&&decide (q.min<=9999999))
  ·exact rt1 2 (vB false) rfl f0 (hY _ _ ⟨by unfold aAt aC8 aAF;simp only [h47,h48,h50,h52,h53,h54,h55,h56,h64,h66,h68,h71]<;>rfl,hM.fr⟩)
  refine seg 19 23 [(146,vB ((0==q.x)&&(0==q.y)))] (fc (ldm 9 1 7 hM rfl rfl) (fc (ldm 9 0 7 hM rfl rfl) (fc (rz (c:=true) (seq 9 q.id q.id) (by simp)) (fc (ldm 3 1 8 hM rfl rfl) (fc (ldm 3 0 8 hM rfl rfl) (fc (tv 137 (b:=(q.n==q.n)) (c:=true) (by simp)) (fc (lam 29 1 9 2 hM rfl) (fc (lam 29 0 9 2 hM rfl) (fc (aIQ 0 0 q.x q.y) f0))))))))) ?_;cases h72:((0==q.x)&&(0==q.y))
  ·exact rt1 2 (vB false) rfl f0 (hY _ _ ⟨by unfold aAt aC8 aAF;simp only [h47,h48,h50,h52,h53,h54,h55,h56,h64,h66,h68,h71,h72]<;>rfl,hM.fr⟩)
  refine seg 19 30 [(153,vB ([]==q.key))] (fc (ldm 9 1 11 hM rfl rfl) (fc (ldm 9 0 11 hM rfl rfl) (fc (seq 9 [] q.key) f0))) ?_;cases h73:([]==q.key)
  ·exact rt1 2 (vB false) rfl f0 (hY _ _ ⟨by unfold aAt aC8 aAF;simp only [h47,h48,h50,h52,h53,h54,h55,h56,h64,h66,h68,h71,h72,h73]<;>rfl,hM.fr⟩)
  exact rt1 2 (vB true) rfl (fc (ldm 9 1 12 hM rfl rfl) (fc (ldm 9 0 12 hM rfl rfl) (fc (rz (c:=true) (seq 9 q.prof q.prof) (by simp)) (fc (ldm 3 1 13 hM rfl rfl) (fc (ldm 3 0 13 hM rfl rfl) (fc (tv 165 (b:=(q.min==q.min)) (c:=true) (by simp)) f0)))))) (hY _ _ ⟨by unfold aAt aC8 aAF;simp only [h47,h48,h50,h52,h53,h54,h55,h56,h64,h66,h68,h71,h72,h73]<;>rfl,hM.fr⟩)
theorem bs_:(∀ (α:Type) (a b:α),cond true a b=a)/\(∀ (α:Type) (a b:α),cond false a b=b)/\(∀ b,(b||false)=b)/\(∀ b,(false||b)=b)/\(∀ b,(b||true)=true)/\(∀ b,(true||b)=true)/\(!true)=false/\(!false)=true/\(∀ b,(b&&true)=b)/\(∀ b,(b&&false)=false)/\(∀ b,(false&&b)=false)/\(∀ b,(true&&b)=b):=⟨fun _ _ _=>rfl,fun _ _ _=>rfl,Bool.or_false,Bool.false_or,Bool.or_true,Bool.true_or,rfl,rfl,Bool.and_true,Bool.and_false,Bool.false_and,Bool.true_and⟩
theorem aCF {w:World}{v:Value}{os:List ObR}(hm:aDr w v os) {B h:Nat}{q:QdR}(hq:QdIn w B h q) (hBw:B<=w.heap.size):Calls Tryz.prog 27 #[vA (qdL q),.agg #[v]] w fun e w'=>e = .returned (vI (aAn h os q)) /\ Fr nF_ w w':=by
  have hm0:=hm;obtain ⟨hs0,hob⟩:=hm0;obtain ⟨p0,cp0,hp0,sp0⟩:=hs0.op;subst hp0;refine beg Tryz.func27 rfl rfl [(0,.agg (qY_ q)),(1,.agg #[vL p0 os.length cp0])] rfl rfl fun Z hZ=>?_;have hM:=Mm.nil nF_ w;refine aA1 0 0 2 [] (cs:=(qY_ q)) (T:=31) (v:=fun b=>vP b 0) f0 hM fun bc w1 hM=>aA1 0 1 3 [] (cs:=#[vL p0 os.length cp0]) (T:=24) (v:=fun b=>vP b 0) f0 hM fun bd w1 hM=>aAw 1 1 8 [(7,.agg (qY_ q))] (fc (lam 31 0 0 14 hM rfl) f0) hM (aHM (hq.fr hM.fr hBw) (Gn_ hBw hM.fr.size)) fun w1 hM=>seg 1 4 [(10,vB (!(aAt h q)))] f0 ?_;cases aa:(aAt h q)
  ·exact rt1 4 (vI 1) rfl f0 (hZ _ _ ⟨by unfold aAn aBp;simp only [aa,bs_]<;>first | rfl | (simp only [aa]<;>rfl),hM.fr⟩)
  refine aAw 1 5 12 [(11,.agg #[vL p0 os.length cp0])] (fc (lam 24 1 0 1 hM rfl) f0) hM (aDT (hm.fr hM.fr)) fun w1 hM=>seg 1 8 [(14,vB (!(aAl (aAa os))))] f0 ?_;cases ab:(aAl (aAa os))
  ·exact rt1 4 (vI 1) rfl f0 (hZ _ _ ⟨by unfold aAn aBp;simp only [aa,ab,bs_]<;>first | rfl | (simp only [aa,ab]<;>rfl),hM.fr⟩)
  refine seg 5 2 [(5,vI 0),(16,vI q.ask),(17,vB (q.ask==2))] (fc (ldm 3 0 0 hM rfl rfl) f0) ?_;cases ac:(q.ask==2)
  rotate_left
  ·refine aAw 17 3 46 [(5,vI 3),(43,.agg #[vL p0 os.length cp0]),(45,vS q.id)] (fc (lam 24 1 0 1 hM rfl) (fc (ldm 9 0 7 hM rfl rfl) f0)) hM (aCz (hm.fr hM.fr) q.id) fun w1 hM=>seg 20 3 [(6,vI (aAp (aAa os) q.id)),(50,vB (decide ((aAp (aAa os) q.id)<0)))] f0 ?_;cases ak:(decide ((aAp (aAa os) q.id)<0))
   rotate_left
   ·exact rt1 4 (vI 11) rfl f0 (hZ _ _ ⟨by unfold aAn aBp;simp only [aa,ab,ac,ak,bs_]<;>first | rfl | (simp only [aa,ab,ac,ak]<;>rfl),hM.fr⟩)
   obtain ⟨k,o9,hk,hk2,hk3⟩:=aBi (df ak);have hkl:k<os.length:=by rw [←aAJ];exact gl hk2
   obtain ⟨ap,a0,be,bf,a4,a5⟩:=sp0.el (i:=k) (by omega);refine seg 22 9 [(53,vB (!(ap.o.kind==3)))] (fc (ldm 22 1 0 hM rfl rfl) (fc (ix 22 cp0 a4 (gl a0) (z:=(aAp (aAa os) q.id)) (hz:=hk)) (fc (ld0 3 hM (a5 1 _ rfl)) f0))) ?_;cases aq:(ap.o.kind==3)
   ·have hkk:aCw os q.id=ap.o.kind:=by unfold aCw;rw [hk];simp only [Gt_,a0]
    exact rt1 4 (vI 13) rfl f0 (hZ _ _ ⟨by unfold aAn aBp;simp only [hkk,aa,ab,ac,ak,aq,bs_]<;>first | rfl | (simp only [hkk,aa,ab,ac,ak,aq]<;>rfl),hM.fr⟩)
   have hkk:aCw os q.id=ap.o.kind:=by unfold aCw;rw [hk];simp only [Gt_,a0]
   exact rt1 4 (vI 0) rfl f0 (hZ _ _ ⟨by unfold aAn aBp;simp only [hkk,aa,ab,ac,ak,aq,bs_]<;>first | rfl | (simp only [hkk,aa,ab,ac,ak,aq]<;>rfl),hM.fr⟩)
  refine seg 7 2 [(19,vB (q.ask==3))] f0 ?_;cases ad:(q.ask==3)
  rotate_left
  ·refine seg 9 4 [(25,vB (q.kind==4))] (fc (ldm 3 0 1 hM rfl rfl) f0) ?_;cases ah:(q.kind==4)
   rotate_left
   ·exact rt1 4 (vI 8) rfl f0 (hZ _ _ ⟨by unfold aAn aBp;simp only [aa,ab,ac,ad,ah,bs_]<;>first | rfl | (simp only [aa,ab,ac,ad,ah]<;>rfl),hM.fr⟩)
   refine seg 9 8 [(29,vB (q.kind==5))] (fc (ldm 3 0 1 hM rfl rfl) f0) ?_;cases ai:(q.kind==5)
   rotate_left
   ·exact rt1 4 (vI 8) rfl f0 (hZ _ _ ⟨by unfold aAn aBp;simp only [aa,ab,ac,ad,ah,ai,bs_]<;>first | rfl | (simp only [aa,ab,ac,ad,ah,ai]<;>rfl),hM.fr⟩)
   refine aAw 17 3 46 [(5,vI 2),(43,.agg #[vL p0 os.length cp0]),(45,vS q.id)] (fc (ldm 3 0 0 hM rfl rfl) (fc (tv 32 ad) (fc (lam 24 1 0 1 hM rfl) (fc (ldm 9 0 7 hM rfl rfl) f0)))) hM (aCz (hm.fr hM.fr) q.id) fun w1 hM=>seg 20 3 [(6,vI (aAp (aAa os) q.id)),(50,vB (decide ((aAp (aAa os) q.id)<0)))] f0 ?_;cases al:(decide ((aAp (aAa os) q.id)<0))
   rotate_left
   ·exact rt1 4 (vI 11) rfl f0 (hZ _ _ ⟨by unfold aAn aBp;simp only [aa,ab,ac,ad,ah,ai,al,bs_]<;>first | rfl | (simp only [aa,ab,ac,ad,ah,ai,al]<;>rfl),hM.fr⟩)
   obtain ⟨k,o9,hk,hk2,hk3⟩:=aBi (df al);have hkl:k<os.length:=by rw [←aAJ];exact gl hk2
   obtain ⟨ar,a1,bg,bh,a6,a7⟩:=sp0.el (i:=k) (by omega);refine seg 22 9 [(53,vB (!(ar.o.kind==2)))] (fc (ldm 22 1 0 hM rfl rfl) (fc (ix 22 cp0 a6 (gl a1) (z:=(aAp (aAa os) q.id)) (hz:=hk)) (fc (ld0 3 hM (a7 1 _ rfl)) f0))) ?_;cases au:(ar.o.kind==2)
   ·have hkk:aCw os q.id=ar.o.kind:=by unfold aCw;rw [hk];simp only [Gt_,a1]
    exact rt1 4 (vI 13) rfl f0 (hZ _ _ ⟨by unfold aAn aBp;simp only [hkk,aa,ab,ac,ad,ah,ai,al,au,bs_]<;>first | rfl | (simp only [hkk,aa,ab,ac,ad,ah,ai,al,au]<;>rfl),hM.fr⟩)
   have hkk:aCw os q.id=ar.o.kind:=by unfold aCw;rw [hk];simp only [Gt_,a1]
   exact rt1 4 (vI 0) rfl f0 (hZ _ _ ⟨by unfold aAn aBp;simp only [hkk,aa,ab,ac,ad,ah,ai,al,au,bs_]<;>first | rfl | (simp only [hkk,aa,ab,ac,ad,ah,ai,al,au]<;>rfl),hM.fr⟩)
  refine seg 8 2 [(19,vB (q.ask==4))] f0 ?_;cases ae:(q.ask==4)
  rotate_left
  ·refine seg 9 4 [(25,vB (q.kind==4))] (fc (ldm 3 0 1 hM rfl rfl) f0) ?_;cases ao:(q.kind==4)
   rotate_left
   ·exact rt1 4 (vI 8) rfl f0 (hZ _ _ ⟨by unfold aAn aBp;simp only [aa,ab,ac,ad,ae,ao,bs_]<;>first | rfl | (simp only [aa,ab,ac,ad,ae,ao]<;>rfl),hM.fr⟩)
   refine seg 9 8 [(29,vB (q.kind==5))] (fc (ldm 3 0 1 hM rfl rfl) f0) ?_;cases av:(q.kind==5)
   ·refine aAw 17 3 46 [(43,.agg #[vL p0 os.length cp0]),(45,vS q.id)] (fc (ldm 3 0 0 hM rfl rfl) (fc (tv 32 ad) (fc (lam 24 1 0 1 hM rfl) (fc (ldm 9 0 7 hM rfl rfl) f0)))) hM (aCz (hm.fr hM.fr) q.id) fun w1 hM=>rt1 4 (vI 0) rfl f0 (hZ _ _ ⟨by unfold aAn aBp;simp only [aa,ab,ac,ad,ae,ao,av,bs_]<;>first | rfl | (simp only [aa,ab,ac,ad,ae,ao,av]<;>rfl),hM.fr⟩)
   exact rt1 4 (vI 8) rfl f0 (hZ _ _ ⟨by unfold aAn aBp;simp only [aa,ab,ac,ad,ae,ao,av,bs_]<;>first | rfl | (simp only [aa,ab,ac,ad,ae,ao,av]<;>rfl),hM.fr⟩)
  refine seg 13 2 [(33,vB (q.ask==5))] f0 ?_;cases af:(q.ask==5)
  ·refine aAw 17 3 46 [(43,.agg #[vL p0 os.length cp0]),(45,vS q.id)] (fc (lam 24 1 0 1 hM rfl) (fc (ldm 9 0 7 hM rfl rfl) f0)) hM (aCz (hm.fr hM.fr) q.id) fun w1 hM=>rt1 4 (vI 0) rfl f0 (hZ _ _ ⟨by unfold aAn aBp;simp only [aa,ab,ac,ad,ae,af,bs_]<;>first | rfl | (simp only [aa,ab,ac,ad,ae,af]<;>rfl),hM.fr⟩)
  refine seg 14 4 [(38,vB (!(q.kind==0)))] (fc (ldm 3 0 1 hM rfl rfl) f0) ?_;cases ag:(q.kind==0)
  rotate_left
  ·refine aAw 17 3 46 [(5,vI 1),(43,.agg #[vL p0 os.length cp0]),(45,vS q.id)] (fc (lam 24 1 0 1 hM rfl) (fc (ldm 9 0 7 hM rfl rfl) f0)) hM (aCz (hm.fr hM.fr) q.id) fun w1 hM=>seg 20 3 [(6,vI (aAp (aAa os) q.id)),(50,vB (decide ((aAp (aAa os) q.id)<0)))] f0 ?_;cases am:(decide ((aAp (aAa os) q.id)<0))
   rotate_left
   ·exact rt1 4 (vI 11) rfl f0 (hZ _ _ ⟨by unfold aAn aBp;simp only [aa,ab,ac,ad,ae,af,ag,am,bs_]<;>first | rfl | (simp only [aa,ab,ac,ad,ae,af,ag,am]<;>rfl),hM.fr⟩)
   obtain ⟨k,o9,hk,hk2,hk3⟩:=aBi (df am);have hkl:k<os.length:=by rw [←aAJ];exact gl hk2
   obtain ⟨aw,a2,bi,bj,a8,a9⟩:=sp0.el (i:=k) (by omega);refine seg 22 9 [(53,vB (!(aw.o.kind==1)))] (fc (ldm 22 1 0 hM rfl rfl) (fc (ix 22 cp0 a8 (gl a2) (z:=(aAp (aAa os) q.id)) (hz:=hk)) (fc (ld0 3 hM (a9 1 _ rfl)) f0))) ?_;cases ax:(aw.o.kind==1)
   ·have hkk:aCw os q.id=aw.o.kind:=by unfold aCw;rw [hk];simp only [Gt_,a2]
    exact rt1 4 (vI 13) rfl f0 (hZ _ _ ⟨by unfold aAn aBp;simp only [hkk,aa,ab,ac,ad,ae,af,ag,am,ax,bs_]<;>first | rfl | (simp only [hkk,aa,ab,ac,ad,ae,af,ag,am,ax]<;>rfl),hM.fr⟩)
   have hkk:aCw os q.id=aw.o.kind:=by unfold aCw;rw [hk];simp only [Gt_,a2]
   exact rt1 4 (vI 0) rfl f0 (hZ _ _ ⟨by unfold aAn aBp;simp only [hkk,aa,ab,ac,ad,ae,af,ag,am,ax,bs_]<;>first | rfl | (simp only [hkk,aa,ab,ac,ad,ae,af,ag,am,ax]<;>rfl),hM.fr⟩)
  refine seg 14 8 [(42,vB (!(q.kind==1)))] (fc (ldm 3 0 1 hM rfl rfl) f0) ?_;cases aj:(q.kind==1)
  ·exact rt1 4 (vI 8) rfl f0 (hZ _ _ ⟨by unfold aAn aBp;simp only [aa,ab,ac,ad,ae,af,ag,aj,bs_]<;>first | rfl | (simp only [aa,ab,ac,ad,ae,af,ag,aj]<;>rfl),hM.fr⟩)
  refine aAw 17 3 46 [(5,vI 1),(43,.agg #[vL p0 os.length cp0]),(45,vS q.id)] (fc (lam 24 1 0 1 hM rfl) (fc (ldm 9 0 7 hM rfl rfl) f0)) hM (aCz (hm.fr hM.fr) q.id) fun w1 hM=>seg 20 3 [(6,vI (aAp (aAa os) q.id)),(50,vB (decide ((aAp (aAa os) q.id)<0)))] f0 ?_;cases an:(decide ((aAp (aAa os) q.id)<0))
  rotate_left
  ·exact rt1 4 (vI 11) rfl f0 (hZ _ _ ⟨by unfold aAn aBp;simp only [aa,ab,ac,ad,ae,af,ag,aj,an,bs_]<;>first | rfl | (simp only [aa,ab,ac,ad,ae,af,ag,aj,an]<;>rfl),hM.fr⟩)
  obtain ⟨k,o9,hk,hk2,hk3⟩:=aBi (df an);have hkl:k<os.length:=by rw [←aAJ];exact gl hk2
  obtain ⟨ay,a3,bl,bm,ba,bb⟩:=sp0.el (i:=k) (by omega);refine seg 22 9 [(53,vB (!(ay.o.kind==1)))] (fc (ldm 22 1 0 hM rfl rfl) (fc (ix 22 cp0 ba (gl a3) (z:=(aAp (aAa os) q.id)) (hz:=hk)) (fc (ld0 3 hM (bb 1 _ rfl)) f0))) ?_;cases az:(ay.o.kind==1)
  ·have hkk:aCw os q.id=ay.o.kind:=by unfold aCw;rw [hk];simp only [Gt_,a3]
   exact rt1 4 (vI 13) rfl f0 (hZ _ _ ⟨by unfold aAn aBp;simp only [hkk,aa,ab,ac,ad,ae,af,ag,aj,an,az,bs_]<;>first | rfl | (simp only [hkk,aa,ab,ac,ad,ae,af,ag,aj,an,az]<;>rfl),hM.fr⟩)
  have hkk:aCw os q.id=ay.o.kind:=by unfold aCw;rw [hk];simp only [Gt_,a3]
  exact rt1 4 (vI 0) rfl f0 (hZ _ _ ⟨by unfold aAn aBp;simp only [hkk,aa,ab,ac,ad,ae,af,ag,aj,an,az,bs_]<;>first | rfl | (simp only [hkk,aa,ab,ac,ad,ae,af,ag,aj,an,az]<;>rfl),hM.fr⟩)
theorem aSk {w:World}{G:Nat->Prop}{ix mb n:Nat}{m:Bys->Option (Pt×Pt)}{pk:Bool}(hM0:Mm G w w [ixG ix mb (.pointer none) pk n m]) {s:Bys}(hs:B63 s) {b:Pt×Pt}(hb:([b.1.1,b.1.2,b.2.1,b.2.2].any aMi)=false /\ (decide (b.2.1<b.1.1))=false /\ (decide (b.2.2<b.1.2))=false) (hms:(m s).isSome=false) (hn:n<1000000):Calls Tryz.prog 76 #[vP ix 0,vS s,bxV b] w fun e w'=>∃ u e',e = .returned u /\ (u=vI 0 /\ e'=ixG ix mb (.pointer none) false (n+1) (aHG m s b)) /\ Mm G w w' [e'] :=
  (aIv (Mm.ung (A:=[]) (C:=[]) hM0) hs hb.1 hb.2.1 hb.2.2 hms hn).mono fun e w' ⟨h1,h4⟩=>⟨_,_,h1,⟨rfl,rfl⟩,aFc (A:=[]) h4⟩
theorem aIt {k:Int}{P:List Pt}{i:Nat}{p q:Pt}(h:(decide (0<(((i:Int)+1)%(P.length:Int))) || !(k==2))=true) (hp:P[i]?=some p) (hq:P[(i+1)%P.length]?=some q):aHu k P i=[(p,q)]:=by
  unfold aHu;rw [h,cond_true,List.getD_eq_getElem?_getD,List.getD_eq_getElem?_getD,hp,hq];rfl
theorem aPJ {k:Int}{P:List Pt}{i:Nat}(h:(decide (0<(((i:Int)+1)%(P.length:Int))) || !(k==2))=false):aHu k P i=[]:=by
  unfold aHu;rw [h];rfl
theorem aHb {f:Nat->List (Pt×Pt)}{SL X:List (Pt×Pt)}{k:Nat}(h:SL=(List.range k).flatMap f) (hx:f k=X):SL++X=(List.range (k+1)).flatMap f:=by
  rw [List.range_succ,List.flatMap_append,←h];simp [hx]
abbrev aWE (Z:Ending->World->Prop):=AtO Tryz.prog (aAK Tryz.f34) (aBc (bodyPost Tryz.prog Tryz.f34 Z)) [] 93
abbrev fY_ (a:Value) (q:QdR) (b c:Value):Array Value:=#[a,vI q.ask,vI q.kind,vI q.wh.op,vS q.wh.key,vS q.wh.val,vI q.wh.n,vL q.wh.p q.wh.kids.length q.wh.cap,vS q.id,vI q.n,vI q.x,vI q.y,vS q.key,vS q.prof,vI q.min,b,c]
theorem aI1 {w:World}{v:Value}{os:List ObR}(hm:aDr w v os) (hlen:os.length<=100000) (hvm:aAl (aAa os)=true) (q:QdR):Calls Tryz.prog 34 #[.agg #[v],vA (qdL q)] w fun e w'=>∃ fb bs xi mb S ns,e = .returned (vP fb 0) /\ ns=S.length /\ aEC (aAa os) os S /\ Mm nF_ w w' [bk fb #[v,vI q.ask,vI q.kind,vI q.wh.op,vS q.wh.key,vS q.wh.val,vI q.wh.n,vL q.wh.p q.wh.kids.length q.wh.cap,vS q.id,vI q.n,vI q.x,vI q.y,vS q.key,vS q.prof,vI q.min,.map (some bs),vP xi 0] 93,mp Tryz.prog 9 bs ns (shF S),ixG xi mb (.pointer none) false ns (bxS (aAa os) S),aDh (S.map (shE (aAa os)))]:=by
  have hmv:=hm;have hm0:=hm;obtain ⟨hs0,hob⟩:=hm0;obtain ⟨p0,cp0,hp0,sp0⟩:=hs0.op;subst hp0;refine beg Tryz.func34 rfl rfl [(0,.agg #[vL p0 os.length cp0]),(1,.agg (qY_ q))] rfl rfl fun Y hY=>?_;have hM:=Mm.nil nF_ w;refine aA1 0 0 2 [] (cs:=#[vL p0 os.length cp0]) (T:=24) (v:=fun b=>vP b 0) f0 hM fun ab w1 hM=>aA1 0 1 3 [] (cs:=(qY_ q)) (T:=31) (v:=fun b=>vP b 0) f0 hM fun ac w1 hM=>seg 1 0 [] f0 ?_;have hM:=hM.nl;have hM:=hM.nl;have hM:=hM.nl;refine drx [2,3,5] (fun Z=>[some (.map (some (bn (Z 0)))),some (vP (bn (Z 1)) 0),some (vP (bn (Z 2)) 0)]) _ (fun Z l=>[bk ab #[vL p0 os.length cp0] 24,bk ac (qY_ q) 31,(bif l.getD 0 false then mp Tryz.prog 9 (bn (Z 0)) 0 (fun _=>none) else aEk),(bif l.getD 1 false then pfE (aUK (bn (Z 1))) (Z.e 1) else aEk),(bif l.getD 2 false then bk (bn (Z 2)) #[vL p0 os.length cp0,vI q.ask,vI q.kind,vI q.wh.op,vS q.wh.key,vS q.wh.val,vI q.wh.n,vL q.wh.p q.wh.kids.length q.wh.cap,vS q.id,vI q.n,vI q.x,vI q.y,vS q.key,vS q.prof,vI q.min,.map (some (bn (Z 0))),vP (bn (Z 1)) 0] 93 else aEk)]) (fun Z=>[(5,vP (bn (Z 2)) 0)]) hM (fun Z=>rfl) (fun Z l w5 hM=>(fc (lam 24 0 0 1 hM rfl) (fc (lam 31 1 0 14 hM rfl) f0))) ⟨aUz 0 2 2 16 9,aHB 1 3 3 17 (f:=74) (fun Z=>#[]) aUK (fun Z fr wm hM=>aTV),aCZ 2 5 4 19 (fun Z=>#[vL p0 os.length cp0,vI q.ask,vI q.kind,vI q.wh.op,vS q.wh.key,vS q.wh.val,vI q.wh.n,vL q.wh.p q.wh.kids.length q.wh.cap,vS q.id,vI q.n,vI q.x,vI q.y,vS q.key,vS q.prof,vI q.min,.map (some (bn (Z 0))),vP (bn (Z 1)) 0]) 93 (fun b=>vP b 0),trivial⟩ fun ae w1 hM=>?_;replace hM:Mm nF_ w w1 [bk ab #[vL p0 os.length cp0] 24,bk ac (qY_ q) 31,_,pfE (aUK (bn (ae 1))) (ae.e 1),bk (bn (ae 2)) #[vL p0 os.length cp0,vI q.ask,vI q.kind,vI q.wh.op,vS q.wh.key,vS q.wh.val,vI q.wh.n,vL q.wh.p q.wh.kids.length q.wh.cap,vS q.id,vI q.n,vI q.x,vI q.y,vS q.key,vS q.prof,vI q.min,.map (some (bn (ae 0))),vP (bn (ae 1)) 0] 93]:=hM;obtain ⟨⟨mb,hge⟩,hM⟩:=hM.unpf (j:=3) rfl;rw [hge] at hM;obtain ⟨fb,hfb⟩:∃ z,z=(bn (ae 2)):=⟨_,rfl⟩;obtain ⟨bs,hbs⟩:∃ z,z=(bn (ae 0)):=⟨_,rfl⟩;obtain ⟨xi,hxi⟩:∃ z,z=(bn (ae 1)):=⟨_,rfl⟩;rw [←hxi,←hfb,←hbs] at hM;rw [←hfb];replace hM:Mm nF_ w _ [bk ab #[vL p0 os.length cp0] 24,bk ac (qY_ q) 31,_,_,bk fb (fY_ (vL p0 os.length cp0) q (.map (some bs)) (vP xi 0)) 93]:=hM;have hM:=hM.pick [0,1,4,2,3];have hM:=aFc (Ms:=[]) (by rw [List.append_nil];exact hM);replace hM:Mm nF_ w _ [bk ab #[vL p0 os.length cp0] 24,bk ac (qY_ q) 31,bk fb (fY_ (vL p0 os.length cp0) q (.map (some bs)) (vP xi 0)) 93,_,_,_]:=hM;refine seg 3 0 [(21,vL p0 os.length cp0),(22,vI (os.length:Int)),(23,vI 0)] (fc (ldm 22 0 0 hM rfl rfl) f0) ?_
  have ax:∀ (an:Nat) (i:Nat) (ns:Nat) (nb:Nat) (S:List ShR) (w2:World),i<=os.length->ns=S.length->nb=S.length->aEC (aAa os) (os.take i) S->Mm nF_ w w2 [bk ab #[vL p0 os.length cp0] 24,bk ac (qY_ q) 31,bk fb (fY_ (vL p0 os.length cp0) q (.map (some bs)) (vP xi 0)) 93,mp Tryz.prog 9 bs ns (shF S),ixG xi mb (.pointer none) false nb (bxS (aAa os) S),aDh (S.map (shE (aAa os)))]->an=os.length-i->aWE Y (some (3,0)) [(23,vI (i:Int)),(22,vI (os.length:Int)),(21,vL p0 os.length cp0),(5,vP fb 0),(2,vP ab 0)] w2:=by
   refine aCC fun an ao i ns nb S w2 hi hns hnb hS hM a5=>?_;have hSn:S.length<=i:=by have:=congrArg List.length hS;rw [Gp_] at this;have h2:=List.length_filter_le (fun b:ObR=>(aAg (aAa os) b.o.id).1==0) (os.take i);rw [Gq_] at h2;omega
   refine seg 3 1 [(24,vB (decide ((i:Int)<(os.length:Int))))] f0 ?_;cases ap:(decide ((i:Int)<(os.length:Int)))
   ·have ay:=df ap;exact rt1 4 (vP fb 0) rfl f0 (hY _ _ ⟨fb,bs,xi,mb,S,ns,rfl,hns,by rw [Gc_ (by omega)] at hS;exact hS,by subst hnb;subst hns;exact hM.pick [2,3,4,5]⟩)
   have ay:=dt ap;obtain ⟨y,hy,a6,a7,az,a0⟩:=sp0.el (i:=i) (by omega);refine aDq 4 2 7 [(26,.agg (oY_ y))] [] 48 (.agg (oY_ y)) (fc (ix 22 cp0 az (gl hy)) (fc (la0 48 hM a0) f0)) hM fun ad w1 hM=>aOM 5 3 31 [(28,.agg #[vL p0 os.length cp0]),(30,vS y.o.id)] (K:=fun u Mn=>∃ v,u = .tuple #[v,vI (aAg (aAa os) y.o.id).1] /\ Mn=[rw_ ptL 2 29 v (aAg (aAa os) y.o.id).2]) [0,1,2,3,4,5,6] [] (fc (lam 24 0 0 1 hM rfl) (fc (ldm 9 6 0 hM rfl rfl) f0)) hM rfl rfl (by decide) (fun hm=>((aIh (hmv.fr hM.fr) (Gn_ hlen (by decide)) y.o.id).mono fun e w9 ⟨u,h1,h2⟩=>⟨_,_,h1,⟨u,rfl,rfl⟩,aMf h2 fun _ h=>h.elim⟩)) fun u Mn w1 hK hM=>?_;obtain ⟨v8,rfl,rfl⟩:=hK;obtain ⟨qp,cp9,e9,-⟩:=(hM.src (j:=7) rfl ptT.len).op;subst e9;refine seg 6 2 [(8,vL qp (aAg (aAa os) y.o.id).2.length cp9),(35,vB (!((aAg (aAa os) y.o.id).1==0)))] f0 ?_;cases af:((aAg (aAa os) y.o.id).1==0)
   ·have a1:=ef af;refine seg 3 0 [(23,vI ((i:Int)+1))] (fc (aA8 (i:Int) 1 u3_) f0) ?_;have hM:=hM.pick [0,1,2,3,4,5];exact aAj _ (ao _ (by have:=gl hy;omega) (i+1) ns nb S _ (gl hy) hns hnb (aRB hS hy af) hM rfl)
   have a1:=et af;have hlp:0<(aAg (aAa os) y.o.id).2.length:=aNa hvm (et af);have hpb:=aT7 (s:=y.o.id) hvm;refine aA1 7 3 39 [(38,.agg #[vS y.o.id,vI y.o.kind,vI y.o.x,vI y.o.y,vL y.pr y.o.refs.length y.cr,vL y.pt y.o.tags.length y.ct,vL none 0 0,vL qp (aAg (aAa os) y.o.id).2.length cp9])] (cs:=#[vS y.o.id,vI y.o.kind,vI y.o.x,vI y.o.y,vL y.pr y.o.refs.length y.cr,vL y.pt y.o.tags.length y.ct,vL none 0 0,vL qp (aAg (aAa os) y.o.id).2.length cp9]) (T:=102) (v:=fun b=>vP b 0) (fc (lam 48 6 0 6 hM rfl) f0) hM fun aa w1 hM=>?_;have hM:=hM.row (f:=sgL) (c:=4) (E:=126);refine seg 9 0 [(10,vP aa 0),(40,vL qp (aAg (aAa os) y.o.id).2.length cp9),(41,vI ((aAg (aAa os) y.o.id).2.length:Int)),(42,vI 0)] f0 ?_
   have a2:∀ (aq:Nat) (k:Nat) (vl:Value) (SL:List (Pt×Pt)) (w2:World),k<=(aAg (aAa os) y.o.id).2.length->SL.length<=k->SL=(List.range k).flatMap (aHu y.o.kind (aAg (aAa os) y.o.id).2)->Mm nF_ w w2 [bk ab #[vL p0 os.length cp0] 24,bk ac (qY_ q) 31,bk fb (fY_ (vL p0 os.length cp0) q (.map (some bs)) (vP xi 0)) 93,mp Tryz.prog 9 bs ns (shF S),ixG xi mb (.pointer none) false nb (bxS (aAa os) S),aDh (S.map (shE (aAa os))),bk ad (oY_ y) 48,rw_ ptL 2 29 (vL qp (aAg (aAa os) y.o.id).2.length cp9) ((aAg (aAa os) y.o.id).2),bk aa #[vS y.o.id,vI y.o.kind,vI y.o.x,vI y.o.y,vL y.pr y.o.refs.length y.cr,vL y.pt y.o.tags.length y.ct,vl,vL qp (aAg (aAa os) y.o.id).2.length cp9] 102,rw_ sgL 4 126 vl SL]->aq=(aAg (aAa os) y.o.id).2.length-k->aWE Y (some (9,0)) [(42,vI (k:Int)),(41,vI ((aAg (aAa os) y.o.id).2.length:Int)),(40,vL qp (aAg (aAa os) y.o.id).2.length cp9),(10,vP aa 0),(8,vL qp (aAg (aAa os) y.o.id).2.length cp9),(7,vP ad 0),(23,vI (i:Int)),(22,vI (os.length:Int)),(21,vL p0 os.length cp0),(5,vP fb 0),(2,vP ab 0)] w2:=by
    refine aCC fun aq al k vl SL w2 hk hSk hS2 hM a8=>seg 9 1 [(43,vB (decide ((k:Int)<((aAg (aAa os) y.o.id).2.length:Int))))] f0 ?_;cases ar:(decide ((k:Int)<((aAg (aAa os) y.o.id).2.length:Int)))
    ·have a3:=df ar;refine seg 15 0 [] f0 (drx [7] (fun Z=>[none]) _ (fun Z l=>[bk ab #[vL p0 os.length cp0] 24,bk ac (qY_ q) 31,bk fb (fY_ (vL p0 os.length cp0) q (.map (some bs)) (vP xi 0)) 93,(bif l.getD 0 false then mp Tryz.prog 9 bs (ns+1) (upd (shF S) (vS y.o.id) (vP aa 0)) else mp Tryz.prog 9 bs ns (shF S)),ixG xi mb (.pointer none) false nb (bxS (aAa os) S),aDh (S.map (shE (aAa os))),bk ad (oY_ y) 48,rw_ ptL 2 29 (vL qp (aAg (aAa os) y.o.id).2.length cp9) ((aAg (aAa os) y.o.id).2),bk aa #[vS y.o.id,vI y.o.kind,vI y.o.x,vI y.o.y,vL y.pr y.o.refs.length y.cr,vL y.pt y.o.tags.length y.ct,vl,vL qp (aAg (aAa os) y.o.id).2.length cp9] 102,rw_ sgL 4 126 vl SL]) (fun Z=>[]) hM (fun Z=>rfl) (fun Z l w5 hM=>(fc (ldm 90 2 15 hM rfl rfl) (fc (ldm 9 6 0 hM rfl rfl) f0))) ⟨aU0 0 7 90 3 (fun Z=>bs) ns (shF S) (fun Z=>vS y.o.id) (fun Z=>vP aa 0) aIP u90_ (fun Z=>(aJ3 (hob _ (gm hy)).bnd.id)),trivial⟩ fun a9 w1 hM=>?_);replace hM:Mm nF_ w w1 [bk ab #[vL p0 os.length cp0] 24,bk ac (qY_ q) 31,bk fb (fY_ (vL p0 os.length cp0) q (.map (some bs)) (vP xi 0)) 93,_,_,_,bk ad (oY_ y) 48,_,bk aa #[vS y.o.id,vI y.o.kind,vI y.o.x,vI y.o.y,vL y.pr y.o.refs.length y.cr,vL y.pt y.o.tags.length y.ct,vl,vL qp (aAg (aAa os) y.o.id).2.length cp9] 102,_]:=hM;refine seg 16 0 [] f0 (drx [8] (fun Z=>[some ((Z 0))]) _ (fun Z l=>[bk ab #[vL p0 os.length cp0] 24,bk ac (qY_ q) 31,bk fb (fY_ (vL p0 os.length cp0) q (.map (some bs)) (vP xi 0)) 93,mp Tryz.prog 9 bs (ns+1) (upd (shF S) (vS y.o.id) (vP aa 0)),(bif l.getD 0 false then pfE ((fun u e=>u=vI 0 /\ e=ixG xi mb (.pointer none) false (nb+1) (aHG (bxS (aAa os) S) y.o.id (aAc (aAg (aAa os) y.o.id).2))) (Z 0)) (Z.e 0) else ixG xi mb (.pointer none) false nb (bxS (aAa os) S)),aDh (S.map (shE (aAa os))),bk ad (oY_ y) 48,rw_ ptL 2 29 (vL qp (aAg (aAa os) y.o.id).2.length cp9) ((aAg (aAa os) y.o.id).2),bk aa #[vS y.o.id,vI y.o.kind,vI y.o.x,vI y.o.y,vL y.pr y.o.refs.length y.cr,vL y.pt y.o.tags.length y.ct,vl,vL qp (aAg (aAa os) y.o.id).2.length cp9] 102,rw_ sgL 4 126 vl SL]) (fun Z=>[]) hM (fun Z=>rfl) (fun Z l w5 hM=>(fc (ldm 91 2 16 hM rfl rfl) (fc (ldm 9 6 0 hM rfl rfl) (fc (tcl (aFa ((hM.src (j:=7) rfl ptT.len).p).2 hlp)) f0)))) ⟨aO2 0 8 4 90 (f:=76) (fun Z=>#[vP xi 0,vS y.o.id,.agg #[vI (aAc (aAg (aAa os) y.o.id).2).1.1,vI (aAc (aAg (aAa os) y.o.id).2).1.2,vI (aAc (aAg (aAa os) y.o.id).2).2.1,vI (aAc (aAg (aAa os) y.o.id).2).2.2]]) (fun Z=>ixG xi mb (.pointer none) false nb (bxS (aAa os) S)) (fun u e=>u=vI 0 /\ e=ixG xi mb (.pointer none) false (nb+1) (aHG (bxS (aAa os) S) y.o.id (aAc (aAg (aAa os) y.o.id).2))) (fun Z fr wm hM hm=>aSk hm (hob _ (gm hy)).bnd.id (aOv hlp (aNb hvm)) (aQq (aPe (aBl hvm) hS hy)) (by omega)),trivial⟩ fun ag w1 hM=>?_);replace hM:Mm nF_ w w1 [bk ab #[vL p0 os.length cp0] 24,bk ac (qY_ q) 31,bk fb (fY_ (vL p0 os.length cp0) q (.map (some bs)) (vP xi 0)) 93,_,pfE ((fun u e=>u=vI 0 /\ e=ixG xi mb (.pointer none) false (nb+1) (aHG (bxS (aAa os) S) y.o.id (aAc (aAg (aAa os) y.o.id).2))) (ag 0)) (ag.e 0),_,bk ad (oY_ y) 48,_,bk aa #[vS y.o.id,vI y.o.kind,vI y.o.x,vI y.o.y,vL y.pr y.o.refs.length y.cr,vL y.pt y.o.tags.length y.ct,vl,vL qp (aAg (aAa os) y.o.id).2.length cp9] 102,_]:=hM;refine seg 3 0 [(23,vI ((i:Int)+1))] (fc (aA8 (i:Int) 1 u3_) f0) ?_;have hU:=hM.unpf (Q:=(fun u e=>u=vI 0 /\ e=ixG xi mb (.pointer none) false (nb+1) (aHG (bxS (aAa os) S) y.o.id (aAc (aAg (aAa os) y.o.id).2))) (ag 0)) (e:=ag.e 0) (j:=4) rfl;have hge:ag.e 0=ixG xi mb (.pointer none) false (nb+1) (aHG (bxS (aAa os) S) y.o.id (aAc (aAg (aAa os) y.o.id).2)):=hU.1.2;have hM:=hU.2;clear hU;rw [hge] at hM;replace hM:Mm nF_ w _ [bk ab #[vL p0 os.length cp0] 24,bk ac (qY_ q) 31,bk fb (fY_ (vL p0 os.length cp0) q (.map (some bs)) (vP xi 0)) 93,_,_,_,bk ad (oY_ y) 48,_,bk aa #[vS y.o.id,vI y.o.kind,vI y.o.x,vI y.o.y,vL y.pr y.o.refs.length y.cr,vL y.pt y.o.tags.length y.ct,vl,vL qp (aAg (aAa os) y.o.id).2.length cp9] 102,_]:=hM;obtain ⟨ql,cl9,el9,-⟩:=(hM.src (j:=9) rfl sgT.len).op;subst el9;obtain rfl:SL=aGC y.o.kind (aAg (aAa os) y.o.id).2:=by rw [hS2,show k=(aAg (aAa os) y.o.id).2.length by omega];rfl
     have hM:=hM.pick [0,1,2,3,4,5,8,9,7];obtain ⟨s9,hs9⟩:∃ z:ShR,z=⟨aa,y,ql,cl9,qp,cp9⟩:=⟨_,rfl⟩;replace hM:Mm nF_ w w1 [bk ab #[vL p0 os.length cp0] 24,bk ac (qY_ q) 31,bk fb (fY_ (vL p0 os.length cp0) q (.map (some bs)) (vP xi 0)) 93,mp Tryz.prog 9 bs (ns+1) (shF (S++[s9])),ixG xi mb (.pointer none) false (nb+1) (bxS (aAa os) (S++[s9])),aDh ((S++[s9]).map (shE (aAa os)))]:=by rw [aPf,aQp,List.map_append];subst hs9;exact aSD (A:=[bk ab #[vL p0 os.length cp0] 24,bk ac (qY_ q) 31,bk fb (fY_ (vL p0 os.length cp0) q (.map (some bs)) (vP xi 0)) 93,mp Tryz.prog 9 bs _ _,_]) hM
     exact aAj _ (ao _ (by have:=gl hy;omega) (i+1) (ns+1) (nb+1) (S++[s9]) _ (gl hy) (by rw [Gj_,hns];rfl) (by rw [Gj_,hnb];rfl) (aPd hS hy af (by rw [hs9])) hM rfl)
    have a3:=dt ar;obtain ⟨pk9,hpk9⟩:=geb (l:=(aAg (aAa os) y.o.id).2) (i:=k) (by omega);obtain ⟨ba,au,-⟩:=hM.el ptT (j:=7) rfl hpk9;refine aA1 10 3 12 [(44,vI (k:Int)),(46,.agg #[vI pk9.1,vI pk9.2])] (cs:=#[vI 0,vI 0]) (T:=29) (v:=fun b=>vP b 0) (fc (ix 100 cp9 au (gl hpk9)) (fc (lar 29 7 0 2 ptT hM rfl au hpk9) f0)) hM fun aj w1 hM=>stm 10 5 [(11,vI (k:Int))] 29 10 0 (.agg #[vI pk9.1,vI pk9.2]) f0 hM rfl fun w1 hM=>seg 12 3 [(13,vI (((k:Int)+1)%((aAg (aAa os) y.o.id).2.length:Int))),(54,vB (decide (0<(((k:Int)+1)%((aAg (aAa os) y.o.id).2.length:Int)))))] (fc (aA8 (k:Int) 1 u3_) (fc (aWh ((k:Int)+1) ((aAg (aAa os) y.o.id).2.length:Int) u3_) f0)) ?_;cases am:(decide (0<(((k:Int)+1)%((aAg (aAa os) y.o.id).2.length:Int))))
    rotate_left
    ·have hnx:(k+1)%(aAg (aAa os) y.o.id).2.length<(aAg (aAa os) y.o.id).2.length:=Nat.mod_lt _ hlp;refine seg 13 0 [] f0 ?_;obtain ⟨pq9,hpq9⟩:=geb (l:=(aAg (aAa os) y.o.id).2) (i:=((k+1)%(aAg (aAa os) y.o.id).2.length)) (by omega);obtain ⟨bb,av,-⟩:=hM.el ptT (j:=7) rfl hpq9;have hM:=hM.nl;refine drx [4,11,12,15] (fun Z=>[some (vl),some (vL (some ⟨(bn (Z 1)),0,none⟩) 1 1),some (vL (slp (Z 2)) (SL++[(((pk9.1,pk9.2),(pq9.1,pq9.2)):Pt×Pt)]).length (slc (Z 2))),none]) _ (fun Z l=>[bk ab #[vL p0 os.length cp0] 24,bk ac (qY_ q) 31,bk fb (fY_ (vL p0 os.length cp0) q (.map (some bs)) (vP xi 0)) 93,mp Tryz.prog 9 bs ns (shF S),ixG xi mb (.pointer none) false nb (bxS (aAa os) S),aDh (S.map (shE (aAa os))),bk ad (oY_ y) 48,rw_ ptL 2 29 (vL qp (aAg (aAa os) y.o.id).2.length cp9) ((aAg (aAa os) y.o.id).2),bk aa #[vS y.o.id,vI y.o.kind,vI y.o.x,vI y.o.y,vL y.pr y.o.refs.length y.cr,vL y.pt y.o.tags.length y.ct,(bif l.getD 3 false then vL (slp (Z 2)) (SL++[(((pk9.1,pk9.2),(pq9.1,pq9.2)):Pt×Pt)]).length (slc (Z 2)) else vl),vL qp (aAg (aAa os) y.o.id).2.length cp9] 102,(bif l.getD 2 false then rw_ sgL 4 126 (vL (slp (Z 2)) (SL++[(((pk9.1,pk9.2),(pq9.1,pq9.2)):Pt×Pt)]).length (slc (Z 2))) (SL++[(((pk9.1,pk9.2),(pq9.1,pq9.2)):Pt×Pt)]) else rw_ sgL 4 126 vl SL),bk aj #[vI pk9.1,vI pk9.2] 29,(bif l.getD 1 false then bk (bn (Z 1)) #[vI pk9.1,vI pk9.2,vI pq9.1,vI pq9.2] 126 else aEk)]) (fun Z=>[]) hM (fun Z=>rfl) (fun Z l w5 hM=>(fc (lam 29 10 0 2 hM rfl) (fc (ix 100 cp9 av (gl hpq9) (z:=(((k:Int)+1)%((aAg (aAa os) y.o.id).2.length:Int))) (hz:=(by rw [Int.natCast_emod];rfl))) (fc (lar 29 7 0 2 ptT hM rfl av hpq9) f0)))) ⟨aSG 0 4 99 8 6 63 (fun Z=>aa) (fun Z l=>#[vS y.o.id,vI y.o.kind,vI y.o.x,vI y.o.y,vL y.pr y.o.refs.length y.cr,vL y.pt y.o.tags.length y.ct,(bif l.getD 3 false then vL (slp (Z 2)) (SL++[(((pk9.1,pk9.2),(pq9.1,pq9.2)):Pt×Pt)]).length (slc (Z 2)) else vl),vL qp (aAg (aAa os) y.o.id).2.length cp9]) 102 (fun Z=>vl),aCZ 1 11 11 70 (fun Z=>#[vI pk9.1,vI pk9.2,vI pq9.1,vI pq9.2]) 126 (fun b=>vL (some ⟨b,0,none⟩) 1 1),aHC 2 12 9 71 99 126 0 (fun Z=>vl) SL [(((pk9.1,pk9.2),(pq9.1,pq9.2)):Pt×Pt)] (fun Z=>(bn (Z 1))) 1 sgT (by simp only [Gf_,Gm_];omega) (fun Z fr wm hM=>aC1 (f:=sgL) (x:=(((pk9.1,pk9.2),(pq9.1,pq9.2)):Pt×Pt)) (hM.get 11 (e:=bk ((bn (Z 1))) (sgL (((pk9.1,pk9.2),(pq9.1,pq9.2)):Pt×Pt)).toArray 126) (by kernel_rfl)) (Nat.lt_succ_self _)),aBd 3 15 99 8 6 (fun Z=>aa) (fun Z l=>#[vS y.o.id,vI y.o.kind,vI y.o.x,vI y.o.y,vL y.pr y.o.refs.length y.cr,vL y.pt y.o.tags.length y.ct,(bif l.getD 3 false then vL (slp (Z 2)) (SL++[(((pk9.1,pk9.2),(pq9.1,pq9.2)):Pt×Pt)]).length (slc (Z 2)) else vl),vL qp (aAg (aAa os) y.o.id).2.length cp9]) 102 (fun Z=>vL (slp (Z 2)) (SL++[(((pk9.1,pk9.2),(pq9.1,pq9.2)):Pt×Pt)]).length (slc (Z 2))),trivial⟩ fun ah w1 hM=>?_;replace hM:Mm nF_ w w1 [bk ab #[vL p0 os.length cp0] 24,bk ac (qY_ q) 31,bk fb (fY_ (vL p0 os.length cp0) q (.map (some bs)) (vP xi 0)) 93,_,_,_,bk ad (oY_ y) 48,_,bk aa #[vS y.o.id,vI y.o.kind,vI y.o.x,vI y.o.y,vL y.pr y.o.refs.length y.cr,vL y.pt y.o.tags.length y.ct,vL (slp (ah 2)) (SL++[(((pk9.1,pk9.2),(pq9.1,pq9.2)):Pt×Pt)]).length (slc (ah 2)),vL qp (aAg (aAa os) y.o.id).2.length cp9] 102,_,bk aj #[vI pk9.1,vI pk9.2] 29,bk (bn (ah 1)) #[vI pk9.1,vI pk9.2,vI pq9.1,vI pq9.2] 126]:=hM;refine seg 9 0 [(42,vI ((k:Int)+1))] (fc (aA8 (k:Int) 1 u3_) f0) ?_;have hM:=hM.pick [0,1,2,3,4,5,6,7,8,9];exact aAj _ (al _ (by omega) (k+1) (vL (slp (ah 2)) (SL++[(((pk9.1,pk9.2),(pq9.1,pq9.2)):Pt×Pt)]).length (slc (ah 2))) (SL++[(((pk9.1,pk9.2),(pq9.1,pq9.2)):Pt×Pt)]) _ (by omega) (by simp only [Gj_,Gf_,Gm_];omega) (aHb hS2 (aIt (by rw [am];rfl) hpk9 hpq9)) hM rfl)
    refine seg 12 7 [(58,vB (!(y.o.kind==2)))] (fc (ldm 3 6 1 hM rfl rfl) f0) ?_;cases ak:(y.o.kind==2)
    rotate_left
    ·have a4:=et ak;refine seg 9 0 [(42,vI ((k:Int)+1))] (fc (aA8 (k:Int) 1 u3_) f0) ?_;have hM:=hM.pick [0,1,2,3,4,5,6,7,8,9];exact aAj _ (al _ (by omega) (k+1) vl SL _ (by omega) (by omega) (by rw [←List.append_nil SL];exact aHb hS2 (aPJ (by rw [am,ak];rfl))) hM rfl)
    have a4:=ef ak;have hnx:(k+1)%(aAg (aAa os) y.o.id).2.length<(aAg (aAa os) y.o.id).2.length:=Nat.mod_lt _ hlp;refine seg 13 0 [] f0 ?_;obtain ⟨pq9,hpq9⟩:=geb (l:=(aAg (aAa os) y.o.id).2) (i:=((k+1)%(aAg (aAa os) y.o.id).2.length)) (by omega);obtain ⟨bc,aw,-⟩:=hM.el ptT (j:=7) rfl hpq9;have hM:=hM.nl;refine drx [4,11,12,15] (fun Z=>[some (vl),some (vL (some ⟨(bn (Z 1)),0,none⟩) 1 1),some (vL (slp (Z 2)) (SL++[(((pk9.1,pk9.2),(pq9.1,pq9.2)):Pt×Pt)]).length (slc (Z 2))),none]) _ (fun Z l=>[bk ab #[vL p0 os.length cp0] 24,bk ac (qY_ q) 31,bk fb (fY_ (vL p0 os.length cp0) q (.map (some bs)) (vP xi 0)) 93,mp Tryz.prog 9 bs ns (shF S),ixG xi mb (.pointer none) false nb (bxS (aAa os) S),aDh (S.map (shE (aAa os))),bk ad (oY_ y) 48,rw_ ptL 2 29 (vL qp (aAg (aAa os) y.o.id).2.length cp9) ((aAg (aAa os) y.o.id).2),bk aa #[vS y.o.id,vI y.o.kind,vI y.o.x,vI y.o.y,vL y.pr y.o.refs.length y.cr,vL y.pt y.o.tags.length y.ct,(bif l.getD 3 false then vL (slp (Z 2)) (SL++[(((pk9.1,pk9.2),(pq9.1,pq9.2)):Pt×Pt)]).length (slc (Z 2)) else vl),vL qp (aAg (aAa os) y.o.id).2.length cp9] 102,(bif l.getD 2 false then rw_ sgL 4 126 (vL (slp (Z 2)) (SL++[(((pk9.1,pk9.2),(pq9.1,pq9.2)):Pt×Pt)]).length (slc (Z 2))) (SL++[(((pk9.1,pk9.2),(pq9.1,pq9.2)):Pt×Pt)]) else rw_ sgL 4 126 vl SL),bk aj #[vI pk9.1,vI pk9.2] 29,(bif l.getD 1 false then bk (bn (Z 1)) #[vI pk9.1,vI pk9.2,vI pq9.1,vI pq9.2] 126 else aEk)]) (fun Z=>[]) hM (fun Z=>rfl) (fun Z l w5 hM=>(fc (lam 29 10 0 2 hM rfl) (fc (ix 100 cp9 aw (gl hpq9) (z:=(((k:Int)+1)%((aAg (aAa os) y.o.id).2.length:Int))) (hz:=(by rw [Int.natCast_emod];rfl))) (fc (lar 29 7 0 2 ptT hM rfl aw hpq9) f0)))) ⟨aSG 0 4 99 8 6 63 (fun Z=>aa) (fun Z l=>#[vS y.o.id,vI y.o.kind,vI y.o.x,vI y.o.y,vL y.pr y.o.refs.length y.cr,vL y.pt y.o.tags.length y.ct,(bif l.getD 3 false then vL (slp (Z 2)) (SL++[(((pk9.1,pk9.2),(pq9.1,pq9.2)):Pt×Pt)]).length (slc (Z 2)) else vl),vL qp (aAg (aAa os) y.o.id).2.length cp9]) 102 (fun Z=>vl),aCZ 1 11 11 70 (fun Z=>#[vI pk9.1,vI pk9.2,vI pq9.1,vI pq9.2]) 126 (fun b=>vL (some ⟨b,0,none⟩) 1 1),aHC 2 12 9 71 99 126 0 (fun Z=>vl) SL [(((pk9.1,pk9.2),(pq9.1,pq9.2)):Pt×Pt)] (fun Z=>(bn (Z 1))) 1 sgT (by simp only [Gf_,Gm_];omega) (fun Z fr wm hM=>aC1 (f:=sgL) (x:=(((pk9.1,pk9.2),(pq9.1,pq9.2)):Pt×Pt)) (hM.get 11 (e:=bk ((bn (Z 1))) (sgL (((pk9.1,pk9.2),(pq9.1,pq9.2)):Pt×Pt)).toArray 126) (by kernel_rfl)) (Nat.lt_succ_self _)),aBd 3 15 99 8 6 (fun Z=>aa) (fun Z l=>#[vS y.o.id,vI y.o.kind,vI y.o.x,vI y.o.y,vL y.pr y.o.refs.length y.cr,vL y.pt y.o.tags.length y.ct,(bif l.getD 3 false then vL (slp (Z 2)) (SL++[(((pk9.1,pk9.2),(pq9.1,pq9.2)):Pt×Pt)]).length (slc (Z 2)) else vl),vL qp (aAg (aAa os) y.o.id).2.length cp9]) 102 (fun Z=>vL (slp (Z 2)) (SL++[(((pk9.1,pk9.2),(pq9.1,pq9.2)):Pt×Pt)]).length (slc (Z 2))),trivial⟩ fun ai w1 hM=>?_;replace hM:Mm nF_ w w1 [bk ab #[vL p0 os.length cp0] 24,bk ac (qY_ q) 31,bk fb (fY_ (vL p0 os.length cp0) q (.map (some bs)) (vP xi 0)) 93,_,_,_,bk ad (oY_ y) 48,_,bk aa #[vS y.o.id,vI y.o.kind,vI y.o.x,vI y.o.y,vL y.pr y.o.refs.length y.cr,vL y.pt y.o.tags.length y.ct,vL (slp (ai 2)) (SL++[(((pk9.1,pk9.2),(pq9.1,pq9.2)):Pt×Pt)]).length (slc (ai 2)),vL qp (aAg (aAa os) y.o.id).2.length cp9] 102,_,bk aj #[vI pk9.1,vI pk9.2] 29,bk (bn (ai 1)) #[vI pk9.1,vI pk9.2,vI pq9.1,vI pq9.2] 126]:=hM;refine seg 9 0 [(42,vI ((k:Int)+1))] (fc (aA8 (k:Int) 1 u3_) f0) ?_;have hM:=hM.pick [0,1,2,3,4,5,6,7,8,9];exact aAj _ (al _ (by omega) (k+1) (vL (slp (ai 2)) (SL++[(((pk9.1,pk9.2),(pq9.1,pq9.2)):Pt×Pt)]).length (slc (ai 2))) (SL++[(((pk9.1,pk9.2),(pq9.1,pq9.2)):Pt×Pt)]) _ (by omega) (by simp only [Gj_,Gf_,Gm_];omega) (aHb hS2 (aIt (by rw [am,ak];rfl) hpk9 hpq9)) hM rfl)
   exact aAj _ (a2 _ 0 (vL none 0 0) [] _ (Gg_ _) (Gk_ _) rfl hM rfl)
  exact aAj _ (ax _ 0 0 0 [] _ (Gg_ _) rfl rfl rfl hM rfl)
abbrev Bx:=Pt×Pt
abbrev ptC (p:Pt):Array Value:=#[.int .i64 p.1,.int .i64 p.2]
abbrev bxC (b:Bx):Array Value:=#[.int .i64 b.1.1,.int .i64 b.1.2,.int .i64 b.2.1,.int .i64 b.2.2]
section
variable {o:Oper}{w:World}{ρ:Operand->Value}{x y z:Operand}{g off k n cap i:Nat}{p:Option Addr}
theorem aBq (ho:o.op = .fieldAddr 29 x 0) (hx:ρ x = .pointer (some ⟨g,off,none⟩)):(execOp ρ o).run Tryz.prog w = .ok (.value (.pointer (some ⟨g,off+0,none⟩))) w:=by simp [execOp,ho,hx,go_sem]
theorem aBb (ho:o.op = .fieldAddr 29 x 1) (hx:ρ x = .pointer (some ⟨g,off,none⟩)):(execOp ρ o).run Tryz.prog w = .ok (.value (.pointer (some ⟨g,off+1,none⟩))) w:=by simp [execOp,ho,hx,go_sem]
theorem aBx (ho:o.op = .fieldAddr 97 x 0) (hx:ρ x = .pointer (some ⟨g,off,none⟩)):(execOp ρ o).run Tryz.prog w = .ok (.value (.pointer (some ⟨g,off+0,none⟩))) w:=by simp [execOp,ho,hx,go_sem]
theorem aBw (ho:o.op = .fieldAddr 97 x 1) (hx:ρ x = .pointer (some ⟨g,off,none⟩)):(execOp ρ o).run Tryz.prog w = .ok (.value (.pointer (some ⟨g,off+2,none⟩))) w:=by simp [execOp,ho,hx,go_sem]
theorem aNR (ho:o.op = .fieldAddr 182 x 0) (hx:ρ x = .pointer (some ⟨g,off,none⟩)):(execOp ρ o).run Tryz.prog w = .ok (.value (.pointer (some ⟨g,off+0,none⟩))) w:=by simp [execOp,ho,hx,go_sem]
theorem aKN (ho:o.op = .fieldAddr 182 x 1) (hx:ρ x = .pointer (some ⟨g,off,none⟩)):(execOp ρ o).run Tryz.prog w = .ok (.value (.pointer (some ⟨g,off+1,none⟩))) w:=by simp [execOp,ho,hx,go_sem]
theorem aNQ (ho:o.op = .fieldAddr 182 x 2) (hx:ρ x = .pointer (some ⟨g,off,none⟩)):(execOp ρ o).run Tryz.prog w = .ok (.value (.pointer (some ⟨g,off+2,none⟩))) w:=by simp [execOp,ho,hx,go_sem]
theorem aBF (ho:o.op = .fieldAddr 161 x 0) (hx:ρ x = .pointer (some ⟨g,off,none⟩)):(execOp ρ o).run Tryz.prog w = .ok (.value (.pointer (some ⟨g,off+0,none⟩))) w:=by simp [execOp,ho,hx,go_sem]
theorem aKM (ho:o.op = .fieldAddr 161 x 1) (hx:ρ x = .pointer (some ⟨g,off,none⟩)):(execOp ρ o).run Tryz.prog w = .ok (.value (.pointer (some ⟨g,off+4,none⟩))) w:=by simp [execOp,ho,hx,go_sem]
theorem aDY (ho:o.op = .fieldAddr 161 x 2) (hx:ρ x = .pointer (some ⟨g,off,none⟩)):(execOp ρ o).run Tryz.prog w = .ok (.value (.pointer (some ⟨g,off+5,none⟩))) w:=by simp [execOp,ho,hx,go_sem]
theorem aE0 (ho:o.op = .fieldAddr 170 x 0) (hx:ρ x = .pointer (some ⟨g,off,none⟩)):(execOp ρ o).run Tryz.prog w = .ok (.value (.pointer (some ⟨g,off+0,none⟩))) w:=by simp [execOp,ho,hx,go_sem]
theorem aKL (ho:o.op = .fieldAddr 170 x 1) (hx:ρ x = .pointer (some ⟨g,off,none⟩)):(execOp ρ o).run Tryz.prog w = .ok (.value (.pointer (some ⟨g,off+1,none⟩))) w:=by simp [execOp,ho,hx,go_sem]
theorem aCD (ho:o.op = .fieldAddr 174 x 0) (hx:ρ x = .pointer (some ⟨g,off,none⟩)):(execOp ρ o).run Tryz.prog w = .ok (.value (.pointer (some ⟨g,off+0,none⟩))) w:=by simp [execOp,ho,hx,go_sem]
theorem aUm (ho:o.op = .fieldAddr 174 x 1) (hx:ρ x = .pointer (some ⟨g,off,none⟩)):(execOp ρ o).run Tryz.prog w = .ok (.value (.pointer (some ⟨g,off+1,none⟩))) w:=by simp [execOp,ho,hx,go_sem]
theorem aUe:(Tryz.prog.info? 29).map (·.size)=some 2:=by kernel_rfl
theorem aK1 {s:Pt}(ho:o.op = .load 29 x) (hx:ρ x = .pointer (some ⟨g,off,none⟩)) (h:w.rangeAt g off (ptC s).toList):(execOp ρ o).run Tryz.prog w = .ok (.value (.agg (ptC s))) w:=by
 have:=run_loadAt_mid (P:=Tryz.prog) w g off 29 (ptC s).toList _ h u29_ rfl aUe;simp only [execOp,ho,hx,Sem.run_bind,this,Result.andThen_ok,Sem.run_pure]
theorem aMW {s:Pt}(ho:o.op = .box 29 x) (hx:ρ x = .agg (ptC s)):(execOp ρ o).run Tryz.prog w = .ok (.value (.pointer (some ⟨w.heap.size,0,none⟩))) (w.alloc (.cells (ptC s) 29)):=by
 simp [execOp,ho,hx,go_sem]
theorem aNL:(Tryz.prog.info? 97).map (·.size)=some 4:=by kernel_rfl
theorem aBr {s:Bx}(ho:o.op = .load 97 x) (hx:ρ x = .pointer (some ⟨g,off,none⟩)) (h:w.rangeAt g off (bxC s).toList):(execOp ρ o).run Tryz.prog w = .ok (.value (.agg (bxC s))) w:=by
 have:=run_loadAt_mid (P:=Tryz.prog) w g off 97 (bxC s).toList _ h u97_ rfl aNL;simp only [execOp,ho,hx,Sem.run_bind,this,Result.andThen_ok,Sem.run_pure]
theorem aMV {s:Bx}(ho:o.op = .box 97 x) (hx:ρ x = .agg (bxC s)):(execOp ρ o).run Tryz.prog w = .ok (.value (.pointer (some ⟨w.heap.size,0,none⟩))) (w.alloc (.cells (bxC s) 97)):=by
 simp [execOp,ho,hx,go_sem]
theorem aHe {s:ByteArray}(ho:o.op = .load 9 x) (hx:ρ x = .pointer (some ⟨g,off,none⟩)) (hc:w.cell? ⟨g,off,none⟩=some (.string s)):(execOp ρ o).run Tryz.prog w = .ok (.value (.string s)) w:=by
 simp [execOp,ho,hx,go_sem,hc]
theorem aMN {b:Bool}(ho:o.op = .load 4 x) (hx:ρ x = .pointer (some ⟨g,off,none⟩)) (hc:w.cell? ⟨g,off,none⟩=some (.bool b)):(execOp ρ o).run Tryz.prog w = .ok (.value (.bool b)) w:=by
 simp [execOp,ho,hx,go_sem,hc]
theorem aHg {v:Value}(ho:o.op = .load 45 x) (hx:ρ x = .pointer (some ⟨g,off,none⟩)) (hc:w.cell? ⟨g,off,none⟩=some v):(execOp ρ o).run Tryz.prog w = .ok (.value v) w:=by
 simp [execOp,ho,hx,go_sem,hc]
theorem aBf {v:Value}(ho:o.op = .load 159 x) (hx:ρ x = .pointer (some ⟨g,off,none⟩)) (hc:w.cell? ⟨g,off,none⟩=some v):(execOp ρ o).run Tryz.prog w = .ok (.value v) w:=by
 simp [execOp,ho,hx,go_sem,hc]
theorem aB9 {v:Value}(ho:o.op = .load 172 x) (hx:ρ x = .pointer (some ⟨g,off,none⟩)) (hc:w.cell? ⟨g,off,none⟩=some v):(execOp ρ o).run Tryz.prog w = .ok (.value v) w:=by
 simp [execOp,ho,hx,go_sem,hc]
theorem aAV {v:Value}(ho:o.op = .load 157 x) (hx:ρ x = .pointer (some ⟨g,off,none⟩)) (hc:w.cell? ⟨g,off,none⟩=some v):(execOp ρ o).run Tryz.prog w = .ok (.value v) w:=by
 simp [execOp,ho,hx,go_sem,hc]
theorem aHf {v:Value}(ho:o.op = .load 180 x) (hx:ρ x = .pointer (some ⟨g,off,none⟩)) (hc:w.cell? ⟨g,off,none⟩=some v):(execOp ρ o).run Tryz.prog w = .ok (.value v) w:=by
 simp [execOp,ho,hx,go_sem,hc]
theorem aMM (ho:o.op = .call ⟨.builtin .len,#[x],#[45]⟩) (hx:ρ x = .slice p n cap):(execOp ρ o).run Tryz.prog w = .ok (.value (.int .i64 n)) w:=by
 simp [execOp,ho,hx,resolve,invoke,go_sem]
theorem aRH (ho:o.op = .indexAddr 45 x y) (hx:ρ x = .slice (some ⟨g,off,none⟩) n cap) (hy:ρ y = .int .i64 i) (hi:i<n):(execOp ρ o).run Tryz.prog w = .ok (.value (.pointer (some ⟨g,off+i,none⟩))) w:=by
 have h1:(i:Int)<n:=by omega
 simp [execOp,ho,hx,hy,go_sem,h1]
theorem aB4 (ho:o.op = .call ⟨.builtin .len,#[x],#[159]⟩) (hx:ρ x = .slice p n cap):(execOp ρ o).run Tryz.prog w = .ok (.value (.int .i64 n)) w:=by
 simp [execOp,ho,hx,resolve,invoke,go_sem]
theorem aC2 (ho:o.op = .indexAddr 159 x y) (hx:ρ x = .slice (some ⟨g,off,none⟩) n cap) (hy:ρ y = .int .i64 i) (hi:i<n):(execOp ρ o).run Tryz.prog w = .ok (.value (.pointer (some ⟨g,off+i,none⟩))) w:=by
 have h1:(i:Int)<n:=by omega
 simp [execOp,ho,hx,hy,go_sem,h1]
theorem aFF (ho:o.op = .call ⟨.builtin .len,#[x],#[172]⟩) (hx:ρ x = .slice p n cap):(execOp ρ o).run Tryz.prog w = .ok (.value (.int .i64 n)) w:=by
 simp [execOp,ho,hx,resolve,invoke,go_sem]
theorem aBA (ho:o.op = .indexAddr 172 x y) (hx:ρ x = .slice (some ⟨g,off,none⟩) n cap) (hy:ρ y = .int .i64 i) (hi:i<n):(execOp ρ o).run Tryz.prog w = .ok (.value (.pointer (some ⟨g,off+i*2,none⟩))) w:=by
 have h1:(i:Int)<n:=by omega
 simp [execOp,ho,hx,hy,go_sem,h1]
theorem aML (ho:o.op = .call ⟨.builtin .len,#[x],#[167]⟩) (hx:ρ x = .slice p n cap):(execOp ρ o).run Tryz.prog w = .ok (.value (.int .i64 n)) w:=by
 simp [execOp,ho,hx,resolve,invoke,go_sem]
theorem aJk (ho:o.op = .indexAddr 167 x y) (hx:ρ x = .slice (some ⟨g,off,none⟩) n cap) (hy:ρ y = .int .i64 i) (hi:i<n):(execOp ρ o).run Tryz.prog w = .ok (.value (.pointer (some ⟨g,off+i,none⟩))) w:=by
 have h1:(i:Int)<n:=by omega
 simp [execOp,ho,hx,hy,go_sem,h1]
theorem aKz {a b c:Int}(ho:o.op = .call ⟨.builtin .max,#[x,y,z],#[3,3,3]⟩) (hx:ρ x = .int .i64 a) (hy:ρ y = .int .i64 b) (hz:ρ z = .int .i64 c):(execOp ρ o).run Tryz.prog w = .ok (.value (.int .i64 (max (max a b) c))) w:=by
 simp [execOp,ho,hx,hy,hz,resolve,invoke,go_sem]
 try simp only [aN4]
 try omega
theorem aJj {m n:Int}(ho:o.op = .call ⟨.builtin .min,#[x,y],#[3,3]⟩) (hx:ρ x = .int .i64 m) (hy:ρ y = .int .i64 n):(execOp ρ o).run Tryz.prog w = .ok (.value (.int .i64 (min m n))) w:=by
 simp [execOp,ho,hx,hy,resolve,invoke,go_sem]
 try omega
theorem aMK {m n:Int}(ho:o.op = .call ⟨.builtin .max,#[x,y],#[3,3]⟩) (hx:ρ x = .int .i64 m) (hy:ρ y = .int .i64 n):(execOp ρ o).run Tryz.prog w = .ok (.value (.int .i64 (max m n))) w:=by
 simp [execOp,ho,hx,hy,resolve,invoke,go_sem]
 try omega
end
section
variable {w:World}{b k:Nat}{cs:Array Value}{T:TypeId}
theorem aT5 (h:w.heap[b]?=some (.cells cs T (0,0))) (k:Nat) {p:Pt}(h0:cs[k]?=some (.int .i64 p.1)) (h1:cs[k+1]?=some (.int .i64 p.2)):w.rangeAt b k (ptC p).toList:=by
 intro j v hv;rw [aAk h]
 match j,hv with
 | 0,hv=>rw [←Gi_ hv];exact h0
 | 1,hv=>rw [←Gi_ hv];exact h1
 | j+2,hv=>simp at hv
theorem aPy (h:w.heap[b]?=some (.cells cs T (0,0))) (k:Nat) {p:Bx}(h0:cs[k]?=some (.int .i64 p.1.1)) (h1:cs[k+1]?=some (.int .i64 p.1.2)) (h2:cs[k+2]?=some (.int .i64 p.2.1)) (h3:cs[k+3]?=some (.int .i64 p.2.2)):w.rangeAt b k (bxC p).toList:=by
 intro j v hv;rw [aAk h]
 match j,hv with
 | 0,hv=>rw [←Gi_ hv];exact h0
 | 1,hv=>rw [←Gi_ hv];exact h1
 | 2,hv=>rw [←Gi_ hv];exact h2
 | 3,hv=>rw [←Gi_ hv];exact h3
 | j+4,hv=>simp at hv
end
section
variable {O:Array Oper}{Q:Exit->Act->World->Prop}{rest:List Oper}{o:Oper}{a:Act}{w:World}{n d:Nat}{L:List (Nat×Value)}{x y:Operand}{b:Nat}
theorem aI5 {s:Pt}(En:Env n L a) (hd:o.dst=some d) (hn:d<n) (hf:(L.map (·.1)).contains d=false) (hw:Region.wanted o (yielded O a.tmps)=true) (ho:o.op = .box 29 x) (hx:a.eval x = .agg (ptC s))
  (k:∀ a' w' b,w.heap.size=b->w'.heap[b]?=some (.cells (ptC s) 29 (0,0))->Fr nF_ w w'->Env n ((d,.pointer (some ⟨b,0,none⟩))::L) a'->wpList Tryz.prog O Q rest a' w'):wpList Tryz.prog O Q (o::rest) a w :=
 aBB En hd hn hf hw (aMW ho hx) fun a' E'=>k a' _ _ rfl (aAi _ _) ((Fr.refl _ _).alloc _) E'
theorem aCW {s:Bx}(En:Env n L a) (hd:o.dst=some d) (hn:d<n) (hf:(L.map (·.1)).contains d=false) (hw:Region.wanted o (yielded O a.tmps)=true) (ho:o.op = .box 97 x) (hx:a.eval x = .agg (bxC s))
  (k:∀ a' w' b,w.heap.size=b->w'.heap[b]?=some (.cells (bxC s) 97 (0,0))->Fr nF_ w w'->Env n ((d,.pointer (some ⟨b,0,none⟩))::L) a'->wpList Tryz.prog O Q rest a' w'):wpList Tryz.prog O Q (o::rest) a w :=
 aBB En hd hn hf hw (aMV ho hx) fun a' E'=>k a' _ _ rfl (aAi _ _) ((Fr.refl _ _).alloc _) E'
end
def isI (n:Int):Prop := -2097152<=n /\ n<=2097152
instance (n:Int):Decidable (isI n):=by unfold isI;infer_instance
def isP (p:Pt):Prop:=isI p.1 /\ isI p.2
instance (p:Pt):Decidable (isP p):=by unfold isP;infer_instance
def okB (b:Bx):Prop:=isP b.1 /\ isP b.2 /\ b.1.1<=b.2.1 /\ b.1.2<=b.2.2
instance (b:Bx):Decidable (okB b):=by unfold okB;infer_instance
def mtB (a b:Bx):Prop:=a.1.1<=b.2.1 /\ b.1.1<=a.2.1 /\ a.1.2<=b.2.2 /\ b.1.2<=a.2.2
instance (a b:Bx):Decidable (mtB a b):=by unfold mtB;infer_instance
set_option maxRecDepth 100000 in
set_option maxHeartbeats 4000000 in
theorem aFM (p q:Bx) (w:World):Calls Tryz.prog 108 #[.agg (bxC p),.agg (bxC q)] w fun e w'=>e = .returned (.bool (decide (mtB p q))) /\ Fr nF_ w w':=by
 refine aAY Tryz.func108 rfl rfl (n:=39) (by decide) fun a E=>?_;have hf:Fr nF_ w w:=Fr.refl _ _;refine s_ (r_ (aCW (d:=2) E rfl (by decide) rfl (aAb rfl _) rfl E.g0 fun a w1 aa ac hb13 f1 E=>?_));have hf:=hf.trans f1;clear f1;refine aCW (d:=3) E rfl (by decide) rfl (aAb rfl _) rfl E.g2 fun a w1 ab ad hb14 f1 E=>?_;have hb13:=f1.obj hb13 id;have hf:=hf.trans f1;clear f1;refine ep (v := .bool false) E rfl (a_ rfl rfl) fun a E=>n_ (t_ (s_ (r_ (ep (v := .pointer (some ⟨aa,0,none⟩)) E rfl (aBx rfl E.g2) fun a E=>ep (v := .pointer (some ⟨aa,0,none⟩)) E rfl (aBq rfl E.g0) fun a E=>ep (v := .int .i64 p.1.1) E rfl (aAo rfl E.g0 (bx hb13 0 rfl)) fun a E=>ep (v := .pointer (some ⟨ab,2,none⟩)) E rfl (aBw rfl E.g4) fun a E=>ep (v := .pointer (some ⟨ab,2,none⟩)) E rfl (aBq rfl E.g0) fun a E=>ep (v := .int .i64 q.2.1) E rfl (aAo rfl E.g0 (bx hb14 2 rfl)) fun a E=>ep (v := .bool (decide (p.1.1<=q.2.1))) E rfl (aFl E.g3 E.g0 u3_ rfl) fun a E=>ep E rfl (m_ rfl E.g0) fun a E=>?_))));cases hq15:(decide (p.1.1<=q.2.1))
 ·rw [hq15] at E;refine ek E rfl rfl E.g0 fun a E=>ek E rfl rfl E.g1 fun a E=>ek E rfl rfl E.g2 fun a E=>ek E rfl rfl E.g3 fun a E=>ek E rfl rfl E.g4 fun a E=>ek E rfl rfl E.g5 fun a E=>ek E rfl rfl E.g6 fun a E=>ep (v := .bool false) E rfl (aA2 rfl E.g7 rfl) fun a E=>ep E rfl (m_ rfl E.g0) fun a E=>ek E rfl rfl E.g0 fun a E=>ek E rfl rfl E.g1 fun a E=>ek E rfl rfl E.g2 fun a E=>ek E rfl rfl E.g3 fun a E=>ek E rfl rfl E.g4 fun a E=>ek E rfl rfl E.g5 fun a E=>ek E rfl rfl E.g6 fun a E=>ep (v := .bool false) E rfl (aA2 rfl E.g7 rfl) fun a E=>ep E rfl (m_ rfl E.g0) fun a E=>ek E rfl rfl E.g0 fun a E=>ek E rfl rfl E.g1 fun a E=>ek E rfl rfl E.g2 fun a E=>ek E rfl rfl E.g3 fun a E=>ek E rfl rfl E.g4 fun a E=>ek E rfl rfl E.g5 fun a E=>ek E rfl rfl E.g6 fun a E=>ep (v := .bool false) E rfl (aA2 rfl E.g7 rfl) fun a E=>es_ E rfl (a_ rfl E.g0) fun a E=>n_ (t_ (wr_ (aAu (t:=4) rfl E E.g0 ⟨?_,hf⟩)));congr 2;have khq15:=of_decide_eq_false hq15;exact (decide_eq_false (by unfold mtB;first | omega | (simp only [*];omega) | simp [*])).symm
 rw [hq15] at E;refine eg (v := .pointer (some ⟨ab,0,none⟩)) E rfl (wy_ E E.g0) (aBx rfl E.g9) fun a E=>eg (v := .pointer (some ⟨ab,0,none⟩)) E rfl (wy_ E E.g1) (aBq rfl E.g0) fun a E=>eg (v := .int .i64 q.1.1) E rfl (wy_ E E.g2) (aAo rfl E.g0 (bx hb14 0 rfl)) fun a E=>eg (v := .pointer (some ⟨aa,2,none⟩)) E rfl (wy_ E E.g3) (aBw rfl (E.get 13 rfl)) fun a E=>eg (v := .pointer (some ⟨aa,2,none⟩)) E rfl (wy_ E E.g4) (aBq rfl E.g0) fun a E=>eg (v := .int .i64 p.2.1) E rfl (wy_ E E.g5) (aAo rfl E.g0 (bx hb13 2 rfl)) fun a E=>eg (v := .bool (decide (q.1.1<=p.2.1))) E rfl (wy_ E E.g6) (aFl E.g3 E.g0 u3_ rfl) fun a E=>ep (v := .bool (decide (q.1.1<=p.2.1))) E rfl (aAQ rfl E.g7 E.g0) fun a E=>ep E rfl (m_ rfl E.g0) fun a E=>?_;cases hq16:(decide (q.1.1<=p.2.1))
 ·rw [hq16] at E;refine ek E rfl rfl E.g0 fun a E=>ek E rfl rfl E.g1 fun a E=>ek E rfl rfl E.g2 fun a E=>ek E rfl rfl E.g3 fun a E=>ek E rfl rfl E.g4 fun a E=>ek E rfl rfl E.g5 fun a E=>ek E rfl rfl E.g6 fun a E=>ep (v := .bool false) E rfl (aA2 rfl E.g7 rfl) fun a E=>ep E rfl (m_ rfl E.g0) fun a E=>ek E rfl rfl E.g0 fun a E=>ek E rfl rfl E.g1 fun a E=>ek E rfl rfl E.g2 fun a E=>ek E rfl rfl E.g3 fun a E=>ek E rfl rfl E.g4 fun a E=>ek E rfl rfl E.g5 fun a E=>ek E rfl rfl E.g6 fun a E=>ep (v := .bool false) E rfl (aA2 rfl E.g7 rfl) fun a E=>es_ E rfl (a_ rfl E.g0) fun a E=>n_ (t_ (wr_ (aAu (t:=4) rfl E E.g0 ⟨?_,hf⟩)));congr 2;have khq15:=of_decide_eq_true hq15;have khq16:=of_decide_eq_false hq16;exact (decide_eq_false (by unfold mtB;first | omega | (simp only [*];omega) | simp [*])).symm
 rw [hq16] at E;refine eg (v := .pointer (some ⟨aa,0,none⟩)) E rfl (wy_ E E.g0) (aBx rfl (E.get 19 rfl)) fun a E=>eg (v := .pointer (some ⟨aa,1,none⟩)) E rfl (wy_ E E.g1) (aBb rfl E.g0) fun a E=>eg (v := .int .i64 p.1.2) E rfl (wy_ E E.g2) (aAo rfl E.g0 (bx hb13 1 rfl)) fun a E=>eg (v := .pointer (some ⟨ab,2,none⟩)) E rfl (wy_ E E.g3) (aBw rfl (E.get 21 rfl)) fun a E=>eg (v := .pointer (some ⟨ab,3,none⟩)) E rfl (wy_ E E.g4) (aBb rfl E.g0) fun a E=>eg (v := .int .i64 q.2.2) E rfl (wy_ E E.g5) (aAo rfl E.g0 (bx hb14 3 rfl)) fun a E=>eg (v := .bool (decide (p.1.2<=q.2.2))) E rfl (wy_ E E.g6) (aFl E.g3 E.g0 u3_ rfl) fun a E=>ep (v := .bool (decide (p.1.2<=q.2.2))) E rfl (aAQ rfl E.g7 E.g0) fun a E=>ep E rfl (m_ rfl E.g0) fun a E=>?_;cases hq17:(decide (p.1.2<=q.2.2))
 ·rw [hq17] at E;refine ek E rfl rfl E.g0 fun a E=>ek E rfl rfl E.g1 fun a E=>ek E rfl rfl E.g2 fun a E=>ek E rfl rfl E.g3 fun a E=>ek E rfl rfl E.g4 fun a E=>ek E rfl rfl E.g5 fun a E=>ek E rfl rfl E.g6 fun a E=>ep (v := .bool false) E rfl (aA2 rfl E.g7 rfl) fun a E=>es_ E rfl (a_ rfl E.g0) fun a E=>n_ (t_ (wr_ (aAu (t:=4) rfl E E.g0 ⟨?_,hf⟩)));congr 2;have khq15:=of_decide_eq_true hq15;have khq16:=of_decide_eq_true hq16;have khq17:=of_decide_eq_false hq17;exact (decide_eq_false (by unfold mtB;first | omega | (simp only [*];omega) | simp [*])).symm
 rw [hq17] at E;refine eg (v := .pointer (some ⟨ab,0,none⟩)) E rfl (wy_ E E.g0) (aBx rfl (E.get 27 rfl)) fun a E=>eg (v := .pointer (some ⟨ab,1,none⟩)) E rfl (wy_ E E.g1) (aBb rfl E.g0) fun a E=>eg (v := .int .i64 q.1.2) E rfl (wy_ E E.g2) (aAo rfl E.g0 (bx hb14 1 rfl)) fun a E=>eg (v := .pointer (some ⟨aa,2,none⟩)) E rfl (wy_ E E.g3) (aBw rfl (E.get 31 rfl)) fun a E=>eg (v := .pointer (some ⟨aa,3,none⟩)) E rfl (wy_ E E.g4) (aBb rfl E.g0) fun a E=>eg (v := .int .i64 p.2.2) E rfl (wy_ E E.g5) (aAo rfl E.g0 (bx hb13 3 rfl)) fun a E=>eg (v := .bool (decide (q.1.2<=p.2.2))) E rfl (wy_ E E.g6) (aFl E.g3 E.g0 u3_ rfl) fun a E=>ep (v := .bool (decide (q.1.2<=p.2.2))) E rfl (aAQ rfl E.g7 E.g0) fun a E=>es_ E rfl (a_ rfl E.g0) fun a E=>n_ (t_ (wr_ (aAu (t:=4) rfl E E.g0 ⟨?_,hf⟩)));have khq15:=of_decide_eq_true hq15;have khq16:=of_decide_eq_true hq16;have khq17:=of_decide_eq_true hq17;congr 2;exact decide_eq_decide.2 (by unfold mtB;first | omega | (simp only [*];omega) | simp [*])
def dx (lo hi p:Int):Int:=max (max (lo-p) (p-hi)) 0
def dsB (b:Bx) (p:Pt):Int:=dx b.1.1 b.2.1 p.1*dx b.1.1 b.2.1 p.1+dx b.1.2 b.2.2 p.2*dx b.1.2 b.2.2 p.2
theorem aUq {lo hi p:Int}(h1:isI lo) (h2:isI hi) (h3:isI p):0<=dx lo hi p /\ dx lo hi p<=4194304:=by unfold isI at *;unfold dx;omega
theorem aTx {x:Int}(h0:0<=x) (h1:x<=4194304):0<=x*x /\ x*x<=17592186044416:=by
 refine ⟨Int.mul_nonneg h0 h0,?_⟩;have:=Int.mul_le_mul h1 h1 h0 (by omega:(0:Int)<=4194304);omega
theorem okB.isI {b:Bx}(h:okB b):(YtngjlnhojicjeaaGreatDoor.isI b.1.1 /\ YtngjlnhojicjeaaGreatDoor.isI b.1.2) /\ YtngjlnhojicjeaaGreatDoor.isI b.2.1 /\ YtngjlnhojicjeaaGreatDoor.isI b.2.2:=⟨h.1,h.2.1⟩
set_option maxRecDepth 100000 in
set_option maxHeartbeats 4000000 in
theorem aFO (b:Bx) (p:Pt) (w:World) (hb:okB b) (hp:isP p):Calls Tryz.prog 116 #[.agg (bxC b),.agg (ptC p)] w fun e w'=>e = .returned (.int .i64 (dsB b p)) /\ Fr nF_ w w':=by
 refine aAY Tryz.func116 rfl rfl (n:=40) (by decide) fun a E=>?_;have hf:Fr nF_ w w:=Fr.refl _ _;obtain ⟨⟨i1,i2⟩,i3,i4⟩:=hb.isI;obtain ⟨i5,i6⟩:=hp;have s1:=aUq i1 i3 i5;have s2:=aUq i2 i4 i6;have q1:=aTx s1.1 s1.2;have q2:=aTx s2.1 s2.2;have n1:(-2097152<=b.1.1 /\ b.1.1<=2097152) /\ (-2097152<=b.1.2 /\ b.1.2<=2097152):=⟨i1,i2⟩;have n2:(-2097152<=b.2.1 /\ b.2.1<=2097152) /\ (-2097152<=b.2.2 /\ b.2.2<=2097152):=⟨i3,i4⟩;have n3:(-2097152<=p.1 /\ p.1<=2097152) /\ (-2097152<=p.2 /\ p.2<=2097152):=⟨i5,i6⟩;clear i1 i2 i3 i4 i5 i6;refine s_ (r_ (aCW (d:=2) E rfl (by decide) rfl (aAb rfl _) rfl E.g0 fun a w1 b3 eb3 hb3 f1 E=>?_));have hf:=hf.trans f1;clear f1;refine aI5 (d:=3) E rfl (by decide) rfl (aAb rfl _) rfl E.g2 fun a w1 b4 eb4 hb4 f1 E=>?_;have hb3:=f1.obj hb3 id;have hf:=hf.trans f1;clear f1;refine ep (v := .int .i64 0) E rfl (a_ rfl rfl) fun a E=>n_ (t_ (s_ (aBH (n:=40) (base:=[(4,.int .i64 0),(3,.pointer (some ⟨b4,0,none⟩)),(2,.pointer (some ⟨b3,0,none⟩)),(0,.agg (bxC b)),(1,.agg (ptC p))]) (T:=[some (7,.pointer (some ⟨b3,0,none⟩)),some (8,.pointer (some ⟨b3,0,none⟩)),some (9,.int .i64 b.1.1),some (10,.pointer (some ⟨b4,0,none⟩)),some (11,.int .i64 p.1),some (12,.int .i64 (b.1.1-p.1)),some (13,.pointer (some ⟨b4,0,none⟩)),some (14,.int .i64 p.1),some (15,.pointer (some ⟨b3,2,none⟩)),some (16,.pointer (some ⟨b3,2,none⟩)),some (17,.int .i64 b.2.1),some (18,.int .i64 (p.1-b.2.1)),some (19,.int .i64 (max (max (b.1.1-p.1) (p.1-b.2.1)) 0)),some (20,.pointer (some ⟨b3,0,none⟩)),some (21,.pointer (some ⟨b3,1,none⟩)),some (22,.int .i64 b.1.2),some (23,.pointer (some ⟨b4,1,none⟩)),some (24,.int .i64 p.2),some (25,.int .i64 (b.1.2-p.2)),some (26,.pointer (some ⟨b4,1,none⟩)),some (27,.int .i64 p.2),some (28,.pointer (some ⟨b3,2,none⟩)),some (29,.pointer (some ⟨b3,3,none⟩)),some (30,.int .i64 b.2.2),some (31,.int .i64 (p.2-b.2.2)),some (32,.int .i64 (max (max (b.1.2-p.2) (p.2-b.2.2)) 0)),some (5,.int .i64 (max (max (b.1.1-p.1) (p.1-b.2.1)) 0)),some (6,.int .i64 (max (max (b.1.2-p.2) (p.2-b.2.2)) 0))]) (M:=fun _ wm=>Fr nF_ w1 wm) (by kernel_rfl) (by kernel_rfl) (by kernel_rfl) (E.of ⟨E.g0,E.g1,E.g2,E.g3,E.g4,trivial⟩) (Fr.refl _ _).drew ?_ ?_)))
 ·intro j9 o9 t9 ls9 a w5 ho hT0 hl E D DL hM;have hb3:=hM.obj hb3 id;have hb4:=hM.obj hb4 id
  match j9,ho,hT0,hl,D,DL with
  | 0,ho,hT0,hl,D,DL=>exact y9_ ho hT0 (aAe (aBx rfl E.g2) rfl hM)
  | 1,ho,hT0,hl,D,DL=>exact y9_ ho hT0 (aAe (aBq rfl (D 0 _ rfl rfl)) rfl hM)
  | 2,ho,hT0,hl,D,DL=>exact y9_ ho hT0 (aAe (aAo rfl (D 1 _ rfl rfl) (bx hb3 0 rfl)) rfl hM)
  | 3,ho,hT0,hl,D,DL=>exact y9_ ho hT0 (aAe (aBq rfl E.g1) rfl hM)
  | 4,ho,hT0,hl,D,DL=>exact y9_ ho hT0 (aAe (aAo rfl (D 3 _ rfl rfl) (bx hb4 0 rfl)) rfl hM)
  | 5,ho,hT0,hl,D,DL=>exact y9_ ho hT0 (aAe (aBS u3_ (D 2 _ rfl rfl) (D 4 _ rfl rfl) (by omega) (by omega) rfl) rfl hM)
  | 6,ho,hT0,hl,D,DL=>exact y9_ ho hT0 (aAe (aBq rfl E.g1) rfl hM)
  | 7,ho,hT0,hl,D,DL=>exact y9_ ho hT0 (aAe (aAo rfl (D 6 _ rfl rfl) (bx hb4 0 rfl)) rfl hM)
  | 8,ho,hT0,hl,D,DL=>exact y9_ ho hT0 (aAe (aBw rfl E.g2) rfl hM)
  | 9,ho,hT0,hl,D,DL=>exact y9_ ho hT0 (aAe (aBq rfl (D 8 _ rfl rfl)) rfl hM)
  | 10,ho,hT0,hl,D,DL=>exact y9_ ho hT0 (aAe (aAo rfl (D 9 _ rfl rfl) (bx hb3 2 rfl)) rfl hM)
  | 11,ho,hT0,hl,D,DL=>exact y9_ ho hT0 (aAe (aBS u3_ (D 7 _ rfl rfl) (D 10 _ rfl rfl) (by omega) (by omega) rfl) rfl hM)
  | 12,ho,hT0,hl,D,DL=>exact y9_ ho hT0 (aAe (aKz rfl (D 5 _ rfl rfl) (D 11 _ rfl rfl) rfl) rfl hM)
  | 13,ho,hT0,hl,D,DL=>exact y9_ ho hT0 (aAe (aBx rfl E.g2) rfl hM)
  | 14,ho,hT0,hl,D,DL=>exact y9_ ho hT0 (aAe (aBb rfl (D 13 _ rfl rfl)) rfl hM)
  | 15,ho,hT0,hl,D,DL=>exact y9_ ho hT0 (aAe (aAo rfl (D 14 _ rfl rfl) (bx hb3 1 rfl)) rfl hM)
  | 16,ho,hT0,hl,D,DL=>exact y9_ ho hT0 (aAe (aBb rfl E.g1) rfl hM)
  | 17,ho,hT0,hl,D,DL=>exact y9_ ho hT0 (aAe (aAo rfl (D 16 _ rfl rfl) (bx hb4 1 rfl)) rfl hM)
  | 18,ho,hT0,hl,D,DL=>exact y9_ ho hT0 (aAe (aBS u3_ (D 15 _ rfl rfl) (D 17 _ rfl rfl) (by omega) (by omega) rfl) rfl hM)
  | 19,ho,hT0,hl,D,DL=>exact y9_ ho hT0 (aAe (aBb rfl E.g1) rfl hM)
  | 20,ho,hT0,hl,D,DL=>exact y9_ ho hT0 (aAe (aAo rfl (D 19 _ rfl rfl) (bx hb4 1 rfl)) rfl hM)
  | 21,ho,hT0,hl,D,DL=>exact y9_ ho hT0 (aAe (aBw rfl E.g2) rfl hM)
  | 22,ho,hT0,hl,D,DL=>exact y9_ ho hT0 (aAe (aBb rfl (D 21 _ rfl rfl)) rfl hM)
  | 23,ho,hT0,hl,D,DL=>exact y9_ ho hT0 (aAe (aAo rfl (D 22 _ rfl rfl) (bx hb3 3 rfl)) rfl hM)
  | 24,ho,hT0,hl,D,DL=>exact y9_ ho hT0 (aAe (aBS u3_ (D 20 _ rfl rfl) (D 23 _ rfl rfl) (by omega) (by omega) rfl) rfl hM)
  | 25,ho,hT0,hl,D,DL=>exact y9_ ho hT0 (aAe (aKz rfl (D 18 _ rfl rfl) (D 24 _ rfl rfl) rfl) rfl hM)
  | 26,ho,hT0,hl,D,DL=>exact y9_ ho hT0 (aAe (a_ rfl (D 12 _ rfl rfl)) rfl hM)
  | 27,ho,hT0,hl,D,DL=>exact y9_ ho hT0 (aAe (a_ rfl (D 25 _ rfl rfl)) rfl hM)
  | j9+28,ho,hT0,hl,D,DL=>exact absurd hT0 (by simp)
 ·intro a w5 E V hM;have E:=E.add (V 26 _ rfl);have E:=E.add (V 27 _ rfl);clear V;have hb3:=hM.obj hb3 id;have hb4:=hM.obj hb4 id;have hf:=hf.trans hM;clear hM;refine t_ (s_ (r_ (ep E rfl (m_ rfl E.g1) fun a E=>ep E rfl (m_ rfl E.g2) fun a E=>ep (v := .int .i64 ((max (max (b.1.1-p.1) (p.1-b.2.1)) 0)*(max (max (b.1.1-p.1) (p.1-b.2.1)) 0))) E rfl (aDF u3_ E.g1 E.g0 (Int.le_trans (by decide) q1.1) (Int.le_trans q1.2 (by decide)) rfl) fun a E=>ep E rfl (m_ rfl E.g3) fun a E=>ep E rfl (m_ rfl E.g4) fun a E=>ep (v := .int .i64 ((max (max (b.1.2-p.2) (p.2-b.2.2)) 0)*(max (max (b.1.2-p.2) (p.2-b.2.2)) 0))) E rfl (aDF u3_ E.g1 E.g0 (Int.le_trans (by decide) q2.1) (Int.le_trans q2.2 (by decide)) rfl) fun a E=>ep (v := .int .i64 (((max (max (b.1.1-p.1) (p.1-b.2.1)) 0)*(max (max (b.1.1-p.1) (p.1-b.2.1)) 0))+((max (max (b.1.2-p.2) (p.2-b.2.2)) 0)*(max (max (b.1.2-p.2) (p.2-b.2.2)) 0)))) E rfl (aAS u3_ E.g3 E.g0 (Int.le_trans (by decide) (Int.add_nonneg q1.1 q2.1)) (Int.le_trans (Int.add_le_add q1.2 q2.2) (by decide)) rfl) fun a E=>es_ E rfl (a_ rfl E.g0) fun a E=>n_ (t_ (wr_ (aAu (t:=4) rfl E E.g0 ⟨rfl,hf⟩))))))
abbrev aSR (s:ByteArray):List Value:=[.string s]
abbrev inC (n:Int):List Value:=[.int .i64 n]
theorem aTZ {w:World}{g off i:Nat}{y:Int}(h:w.rangeAt g (off+i*1) (inC y)):w.cell? ⟨g,off+i,none⟩=some (.int .i64 y):=by have:=h 0 _ rfl;rwa [Nat.mul_one] at this
theorem aBI:∀ s,(aSR s).length=1:=fun _=>rfl
abbrev bxL (b:Bx):List Value:=[.int .i64 b.1.1,.int .i64 b.1.2,.int .i64 b.2.1,.int .i64 b.2.2]
abbrev aEv (w:World) (B:Nat) (v:Value) (L:List ByteArray):Prop:=ow aSR 1 9 w B v L
section
variable {w W w':World}{r:Nat}{σ:Nat->Prop}{I:List ByteArray}{J:List Bx}{iv bv:Value}
theorem aBe {α:Type}{f:α->List Value}{c:Nat}{w:World}{B E r:Nat}{v:Value}{xs:List α}{cs:Array Value}{T:TypeId}(hE:E≠T) (h:ow f c E w B v xs) (hr:w.heap[r]?=some (.cells cs T (0,0))):v.ownBlock≠some r:=fun e=>by
 rcases h.2 with ⟨h1,_⟩ | ⟨g,cap,cur,h1,_,h3,_⟩
 ·rw [h1] at e;simp [Value.ownBlock] at e
 ·rw [h1] at e;simp only [Value.ownBlock,Gl_] at e;subst e;rw [hr] at h3;simp at h3;exact hE h3.2.symm
theorem aNg {α:Type}{f:α->List Value}{c:Nat}{E:TypeId}{w w':World}{B:Nat}{v:Value}{L:List α}(h:ow f c E w B v L) (hk:∀ k,v.ownBlock=some k->w'.heap[k]?=w.heap[k]?):ow f c E w' B v L:=by
 refine ⟨h.1,?_⟩;rcases h.2 with h1 | ⟨g,cap,cur,h1,h2,h3,h4⟩
 ·exact .inl h1
 ·exact .inr ⟨g,cap,cur,h1,h2,by rw [hk g (by rw [h1];rfl)];exact h3,h4⟩
end
section
variable {o:Oper}{w:World}{ρ:Operand->Value}{x y:Operand}{g off i n cap:Nat}{p:Option Addr}
theorem aPl {v u:Value}{n c:Nat}(hv:v = .slice p n c) (ho:o.op = .store 45 x y) (hx:ρ x = .pointer (some ⟨g,off,none⟩)) (hy:ρ y=v) (hc:w.cell? ⟨g,off,none⟩=some u) (hz:w.frozen? ⟨g,off,none⟩=false):(execOp ρ o).run Tryz.prog w = .ok .skip (w.setCell ⟨g,off,none⟩ v):=by
 subst hv;simp [execOp,ho,hx,hy,go_sem,hc,hz]
theorem aIc {a:ByteArray}(ho:o.op = .buildSlice 45 1 #[(0,x)]) (hx:ρ x = .string a):(execOp ρ o).run Tryz.prog w = .ok (.value (.slice (some ⟨w.heap.size,0,none⟩) 1 1)) (w.alloc (.cells #[.string a] 9)):=by
 simp [execOp,ho,hx,go_sem]
theorem aUb:(Tryz.prog.info? 9).map (fun i=>(i.zero,i.size,i.bytes))=some (some (.string ByteArray.empty),1,16):=by kernel_rfl
theorem aEH {t n b:Nat}{z:Value}(h:(Tryz.prog.info? t).map (fun i=>(i.zero,i.size,i.bytes))=some (some z,n,b)):∃ i,Tryz.prog.info? t=some i /\ i.zero=some z /\ i.size=n /\ i.bytes=b:=by
 cases hi:Tryz.prog.info? t with
 | none=>rw [hi] at h;cases h
 | some i =>
  rw [hi] at h;simp only [Option.map_some,Gl_,Prod.mk.injEq] at h;exact ⟨i,rfl,h.1,h.2.1,h.2.2⟩
end
theorem aU3 {α:Type}{f:α->List Value}{c:Nat}{E T:TypeId}{bytes:Nat}{z:Value}(hf:∀ x,(f x).length=c) (hc:0<c) (h1:∀ x,∀ u∈f x,u.oneCell'=true) (hT:Tryz.prog.underlying T=some (.slice E)) (hinf:(Tryz.prog.info? E).map (fun i=>(i.zero,i.size,i.bytes))=some (some z,c,bytes)) (hzs:z.cells.size=c) (hby:bytes<=64)
  {o:Oper}{ρ:Operand->Value}{x y:Operand}{w:World}{B G:Nat}{v:Value}{A S:List α}{p:Option Addr}{cap:Nat}(ho:o.op = .call { callee := .builtin .append,args:=#[x,y],argTypes:=#[T,T] }) (hx:ρ x=v) (hy:ρ y = .slice p S.length cap) (hv:ow f c E w B v A) (hsrc:aBo f c w G p S) (hcp:p=none->cap=0) (hl:A.length+S.length<=400000000) (hB:B<=w.heap.size) :
  ∃ v' w',(execOp ρ o).run Tryz.prog w = .ok (.value v') w' /\ ow f c E w' B v' (A++S) /\ Fr (fun k=>v.ownBlock=some k) w w' /\ (v'.ownBlock=v.ownBlock∨v'.ownBlock=some w.heap.size):=by
 obtain ⟨i,hi,hz,hs,hb⟩:=aEH hinf;rcases p with _ | ad
 ·have hS:S=[]:=by
   rcases hsrc with h | ⟨g,off,h,_⟩
   ·exact h
   ·cases h
  subst hS;obtain rfl:=hcp rfl;refine ⟨v,w,?_,by rw [List.append_nil];exact hv,Fr.refl _ _,.inl rfl⟩;have hrun:=run_append_owned_none (P:=Tryz.prog) (w:=w) B T o.type E i c hT hi v A.length _ hv;simp [execOp,ho,resolve,invoke,builtin,hx,hy,hrun,Result.andThen]
 ·obtain ⟨v',w',c0,c1,c2,_,c4⟩:=run_append_own_at (P:=Tryz.prog) (w:=w) B T o.type E i z c bytes hT hi hz hs hb hzs hc v A.length _ hv ad S.length cap (S.flatMap f) (aBh hf S) (fun j u hu=>by
   have hj:=(List.getElem?_eq_some_iff.1 hu).1;rw [aBh hf] at hj;rcases hsrc with rfl | ⟨g,off,h2,_,h3⟩
   ·simp at hj
   ·obtain rfl:=Gi_ h2;have hm:j%c<c:=Nat.mod_lt _ hc;have hdv:j / c<S.length:=(Nat.div_lt_iff_lt_mul hc).2 hj;have e:j / c*c+j%c=j:=by rw [Nat.mul_comm];exact Nat.div_add_mod j c
    obtain ⟨s,hs⟩:∃ s,S[j / c]?=some s:=⟨_,Gb_ hdv⟩;have hfl:=aC4 hf S (j / c) s hs (j%c) hm;rw [e,hu] at hfl;have:=h3 _ s hs (j%c) u hfl.symm;rw [Addr.add_mid,←e,←Nat.add_assoc];exact this) (fun u hu=>by
   obtain ⟨s,_,hs⟩:=List.mem_flatMap.1 hu;exact h1 s u hs) (by unfold maxLen;omega) (by have:=Nat.mul_le_mul (Gk_ (A.length+S.length)) hby;omega) hB
  refine ⟨v',w',?_,?_,(Fr.refl _ _).grown c2 fun k hk _=>hk,c4⟩
  ·unfold execOp;simp only [ho,resolve,invoke,builtin,Sem.run_bind,Sem.run_pure,Result.andThen_ok,List.map_toArray,List.map_cons,List.map_nil,hx,hy,c0]
  ·unfold ow;rw [Gj_,List.flatMap_append];exact c1
theorem aVR {o:Oper}{ρ:Operand->Value}{x y:Operand}{w:World}{B G:Nat}{v:Value}{A S:List ByteArray}{p:Option Addr}{cap:Nat}(ho:o.op = .call { callee := .builtin .append,args:=#[x,y],argTypes:=#[45,45] }) (hx:ρ x=v) (hy:ρ y = .slice p S.length cap) (hv:aEv w B v A) (hsrc:aBo aSR 1 w G p S) (hcp:p=none->cap=0) (hl:A.length+S.length<=400000000) (hB:B<=w.heap.size) :
  ∃ v' w',(execOp ρ o).run Tryz.prog w = .ok (.value v') w' /\ aEv w' B v' (A++S) /\ Fr (fun k=>v.ownBlock=some k) w w' /\ (v'.ownBlock=v.ownBlock∨v'.ownBlock=some w.heap.size) :=
 aU3 aBI (by omega) (fun s u hu=>by simp at hu;subst hu;rfl) u45_ aUb rfl (by decide) ho hx hy hv hsrc hcp hl hB
theorem aK7 {w:World}{b B:Nat}{s:ByteArray}(hb:w.heap[b]?=some (.cells #[.string s] 9 (0,0))) (hB:B<=b):aEv w B (.slice (some ⟨b,0,none⟩) 1 1) [s] :=
 ⟨rfl,.inr ⟨b,1,_,rfl,hB,hb,Gk_ _,by unfold maxLen;omega,rfl,rfl⟩⟩
section
variable {O:Array Oper}{Q:Exit->Act->World->Prop}{rest:List Oper}{o:Oper}{a:Act}{w:World}{n d:Nat}{L:List (Nat×Value)}{x y:Operand}
theorem aOb {B G:Nat}{v:Value}{A S:List ByteArray}{p:Option Addr}{cap:Nat}(En:Env n L a) (hd:o.dst=some d) (hn:d<n) (hfr:(L.map (·.1)).contains d=false) (hg:o.guard=none) (ho:o.op = .call { callee := .builtin .append,args:=#[x,y],argTypes:=#[45,45] }) (hx:a.eval x=v) (hv:aEv w B v A) (hy:a.eval y = .slice p S.length cap) (hsrc:aBo aSR 1 w G p S) (hcp:p=none->cap=0) (hl:A.length+S.length<=400000000) (hB:B<=w.heap.size)
  (k:∀ a' w' v',aEv w' B v' (A++S)->Fr (fun k=>v.ownBlock=some k) w w'->(v'.ownBlock=v.ownBlock∨v'.ownBlock=some w.heap.size)->Env n ((d,v')::L) a'->wpList Tryz.prog O Q rest a' w'):wpList Tryz.prog O Q (o::rest) a w:=by
 obtain ⟨i0,hi0,hz0,hz1,hz2⟩:=aEH aUb;exact aKU aBI (by omega) (fun s u hu=>by simp at hu;subst hu;rfl) u45_ hi0 hz0 hz1 hz2 rfl (by decide) En hd hn hfr hg ho hx hv hy hsrc hcp hl hB k
theorem aNZ {s:ByteArray}{B:Nat}(En:Env n L a) (hd:o.dst=some d) (hn:d<n) (hf:(L.map (·.1)).contains d=false) (hw:Region.wanted o (yielded O a.tmps)=true) (ho:o.op = .buildSlice 45 1 #[(0,x)]) (hx:a.eval x = .string s) (hB:B<=w.heap.size)
  (k:∀ a' w' b,w.heap.size=b->aEv w' B (.slice (some ⟨b,0,none⟩) 1 1) [s]->Fr nF_ w w'->Env n ((d,.slice (some ⟨b,0,none⟩) 1 1)::L) a'->wpList Tryz.prog O Q rest a' w'):wpList Tryz.prog O Q (o::rest) a w :=
 aBB En hd hn hf hw (aIc ho hx) fun a' E'=>k a' _ _ rfl (aK7 (aAi _ _) hB) ((Fr.refl _ _).alloc _) E'
end
theorem aNe {α:Type}{f:α->List Value}{c:Nat}{E:TypeId}(hf:∀ x,(f x).length=c) {w:World}{B:Nat}{p:Option Addr}{n cap:Nat}{L:List α}(h:ow f c E w B (.slice p n cap) L):aBo f c w w.heap.size p L /\ (p=none->cap=0):=by
 obtain ⟨p',cap',h1,_,_,h2,h3⟩:=h.src hf;cases h1;exact ⟨h2,h3⟩
def tkB (w:World) (b n:Nat) (t:Nat->Bool):Prop:=∃ cs,w.heap[b]?=some (.cells cs 4 (0,0)) /\ cs.size=n /\ ∀ i,i<n->cs[i]?=some (.bool (t i))
theorem tkB.at {w:World}{b n:Nat}{t:Nat->Bool}(h:tkB w b n t) {i:Nat}(hi:i<n):w.cell? ⟨b,0+i,none⟩=some (.bool (t i)):=by
 obtain ⟨cs,h1,_,h3⟩:=h;rw [aAk h1,Nat.zero_add];exact h3 i hi
section
variable {o:Oper}{w:World}{ρ:Operand->Value}{x y:Operand}{g off:Nat}
theorem aRG {u:Value}{b:Bool}(ho:o.op = .store 4 x y) (hx:ρ x = .pointer (some ⟨g,off,none⟩)) (hy:ρ y = .bool b) (hc:w.cell? ⟨g,off,none⟩=some u) (hz:w.frozen? ⟨g,off,none⟩=false):(execOp ρ o).run Tryz.prog w = .ok .skip (w.setCell ⟨g,off,none⟩ (.bool b)):=by
 simp [execOp,ho,hx,hy,go_sem,hc,hz]
end
section
variable {O:Array Oper}{Q:Exit->Act->World->Prop}{rest:List Oper}{o:Oper}{a:Act}{w:World}{n d:Nat}{L:List (Nat×Value)}{x y:Operand}{b:Nat}
end
theorem aFz {P:Program}{f:FuncId}{fn:Func}{c:Code}{R:Ending->World->Prop}{n:Nat}{w:World}{v0 v1 v2 v3:Value}(hf:P.funcs[f]?=some fn) (hb:fn.body=some c) (hn:fn.ntmps=n) (h2:4<=n) (k:∀ a,Env n [(0,v0),(1,v1),(2,v2),(3,v3)] a->c.wp P (bodyPost P fn R) a w):Calls P f #[v0,v1,v2,v3] w R:=by
 refine calls_of_wp hf hb (k _ ⟨?_,?_,rfl⟩)
 ·simp [hn];omega
 ·intro x hx;simp only [List.mem_cons,List.not_mem_nil,or_false] at hx;rcases hx with rfl | rfl | rfl | rfl
  ·show (#[v0,v1,v2,v3]++Array.replicate (fn.ntmps-4) undef).getD 0 undef=v0;rw [Gh_,Array.getElem?_append_left (by simp)];rfl
  ·show (#[v0,v1,v2,v3]++Array.replicate (fn.ntmps-4) undef).getD 1 undef=v1;rw [Gh_,Array.getElem?_append_left (by simp)];rfl
  ·show (#[v0,v1,v2,v3]++Array.replicate (fn.ntmps-4) undef).getD 2 undef=v2;rw [Gh_,Array.getElem?_append_left (by simp)];rfl
  ·show (#[v0,v1,v2,v3]++Array.replicate (fn.ntmps-4) undef).getD 3 undef=v3;rw [Gh_,Array.getElem?_append_left (by simp)];rfl
abbrev bxB (w:World) (g:Nat) (s:Bx):Prop:=w.heap[g]?=some (.cells (bxC s) 97 (0,0))
theorem bxB.set {w:World}{g:Nat}{s:Bx}(h:bxB w g s) (t:Bx):bxB ((((w.setCell ⟨g,0,none⟩ (.int .i64 t.1.1)).setCell ⟨g,1,none⟩ (.int .i64 t.1.2)).setCell ⟨g,2,none⟩ (.int .i64 t.2.1)).setCell ⟨g,3,none⟩ (.int .i64 t.2.2)) g t:=by
 have h1:=aAh (off:=0) h (.int .i64 t.1.1);have h2:=aAh (off:=1) h1 (.int .i64 t.1.2);have h3:=aAh (off:=2) h2 (.int .i64 t.2.1);have h4:=aAh (off:=3) h3 (.int .i64 t.2.2);exact h4
theorem Fr.one4 (b:Nat) (w:World) (v0 v1 v2 v3:Value):Fr (fun k=>k=b) w ((((w.setCell ⟨b,0,none⟩ v0).setCell ⟨b,1,none⟩ v1).setCell ⟨b,2,none⟩ v2).setCell ⟨b,3,none⟩ v3) :=
 ((((Fr.refl (fun k=>k=b) w).setCell (p:=⟨b,0,none⟩) (fun _=>rfl) v0).setCell (p:=⟨b,1,none⟩) (fun _=>rfl) v1).setCell (p:=⟨b,2,none⟩) (fun _=>rfl) v2).setCell (p:=⟨b,3,none⟩) (fun _=>rfl) v3
section
variable {o:Oper}{w:World}{ρ:Operand->Value}{x y:Operand}{b off:Nat}
theorem aPm {s t:Bx}(ho:o.op = .store 97 x y) (hx:ρ x = .pointer (some ⟨b,0,none⟩)) (hy:ρ y = .agg (bxC t)) (h:bxB w b s) :
  (execOp ρ o).run Tryz.prog w = .ok .skip ((((w.setCell ⟨b,0,none⟩ (.int .i64 t.1.1)).setCell ⟨b,1,none⟩ (.int .i64 t.1.2)).setCell ⟨b,2,none⟩ (.int .i64 t.2.1)).setCell ⟨b,3,none⟩ (.int .i64 t.2.2)):=by
 have c0:w.cell? ⟨b,0,none⟩=some (.int .i64 s.1.1):=bx h 0 rfl;have c1:w.cell? ⟨b,1,none⟩=some (.int .i64 s.1.2):=bx h 1 rfl;have c2:w.cell? ⟨b,2,none⟩=some (.int .i64 s.2.1):=bx h 2 rfl;have c3:w.cell? ⟨b,3,none⟩=some (.int .i64 s.2.2):=bx h 3 rfl;have z0:=aAm h 0;have z1:=aAm h 1;have z2:=aAm h 2;have z3:=aAm h 3;simp [execOp,ho,hx,hy,go_sem,c0,c1,c2,c3,z0,z1,z2,z3]
theorem aHc {u:Value}{n:Int}(ho:o.op = .store 3 x y) (hx:ρ x = .pointer (some ⟨b,off,none⟩)) (hy:ρ y = .int .i64 n) (hc:w.cell? ⟨b,off,none⟩=some u) (hz:w.frozen? ⟨b,off,none⟩=false) :
  (execOp ρ o).run Tryz.prog w = .ok .skip (w.setCell ⟨b,off,none⟩ (.int .i64 n)):=by
 simp [execOp,ho,hx,hy,go_sem,hc,hz]
theorem aJr (ho:o.op = .alloc 97):(execOp ρ o).run Tryz.prog w = .ok (.value (.pointer (some ⟨w.heap.size,0,none⟩))) (w.alloc (.cells (bxC ((0,0),(0,0))) 97)):=by
 simp [execOp,ho,go_sem]
end
section
variable {O:Array Oper}{Q:Exit->Act->World->Prop}{rest:List Oper}{o:Oper}{a:Act}{w:World}{n d:Nat}{L:List (Nat×Value)}{x y:Operand}{b:Nat}
theorem aDL {s t:Bx}(E:Env n L a) (hd:o.dst=none) (hw:Region.wanted o (yielded O a.tmps)=true) (ho:o.op = .store 97 x y) (hx:a.eval x = .pointer (some ⟨b,0,none⟩)) (hy:a.eval y = .agg (bxC t)) (h:bxB w b s)
  (k:∀ w',bxB w' b t->Fr (fun k=>k=b) w w'->Env n L a->wpList Tryz.prog O Q rest a w'):wpList Tryz.prog O Q (o::rest) a w :=
 aCV E hd hw (aPm ho hx hy h) fun E=>k _ (h.set t) (Fr.one4 _ _ _ _ _ _) E
theorem aC5 (E:Env n L a) (hd:o.dst=some d) (hn:d<n) (hf:(L.map (·.1)).contains d=false) (hw:Region.wanted o (yielded O a.tmps)=true) (ho:o.op = .alloc 97)
  (k:∀ a' w' b,w.heap.size=b->bxB w' b ((0,0),(0,0))->Fr nF_ w w'->Env n ((d,.pointer (some ⟨b,0,none⟩))::L) a'->wpList Tryz.prog O Q rest a' w'):wpList Tryz.prog O Q (o::rest) a w :=
 aBB E hd hn hf hw (aJr ho) fun a' E'=>k a' _ _ rfl (aAi _ _) ((Fr.refl _ _).alloc _) E'
end
section
variable {fn:Func}{R:Ending->World->Prop}{n:Nat}{L:List (Nat×Value)}{a:Act}{w:World}{t u:Tmp}{g:Nat}{s:Bx}{x:Value}
theorem aPz (hr:fn.results=#[.cell t 97]) (E:Env n L a) (hv:a.eval (.tmp t) = .pointer (some ⟨g,0,none⟩)) (h:bxB w g s) (hR:R (.returned (.agg (bxC s))) w):bodyPost Tryz.prog fn R .ret a w:=by
 refine ⟨E.df,.agg (bxC s),?_,hR⟩;exact results_cell_row hr a.tmps w g 97 (bxC s) (0,0) _ hv h u97_ rfl aNL
theorem aIf (hr:fn.results=#[.cell t 97,.tmp u]) (E:Env n L a) (hv:a.eval (.tmp t) = .pointer (some ⟨g,0,none⟩)) (hu:a.eval (.tmp u)=x) (h:bxB w g s) (hR:R (.returned (.tuple #[.agg (bxC s),x])) w):bodyPost Tryz.prog fn R .ret a w:=by
 refine ⟨E.df,.tuple #[.agg (bxC s),x],?_,hR⟩;rw [results_cell_tmp hr];have h1:a.tmps.getD t undef = .pointer (some ⟨g,0,none⟩):=hv;have h2:a.tmps.getD u undef=x:=hu;have:=run_loadVar_row (P:=Tryz.prog) w g 97 97 (bxC s) (0,0) _ h u97_ rfl aNL;rw [h1,h2];simp [asAddr,Result.andThen,this]
end
end Go.Proofs.YtngjlnhojicjeaaGreatDoor
namespace Go.Proofs.YtngjlnhojicjeaaGreatDoor
open Go.RowKit Go.Pl
def arB (a0 c0:Bx):Bx:=((min a0.1.1 c0.1.1,min a0.1.2 c0.1.2),(max a0.2.1 c0.2.1,max a0.2.2 c0.2.2))
set_option maxRecDepth 100000 in
set_option maxHeartbeats 4000000 in
theorem aIM (a0 c0:Bx) (w:World):Calls Tryz.prog 200 #[.agg (bxC a0),.agg (bxC c0)] w fun e w'=>e = .returned (.agg (bxC (arB a0 c0))) /\ Fr nF_ w w':=by
 refine aAY Tryz.func200 rfl rfl (n:=42) (by decide) fun a E=>?_;have hf:Fr nF_ w w:=Fr.refl _ _;refine s_ (r_ ?_);have hfz:=hf.size;refine aCW (d:=2) E rfl (by decide) rfl (aAb rfl _) rfl E.g0 fun a w1 aa ad hb26 f1 E=>?_;have hf:=hf.trans f1;clear f1;have hnb26:w.heap.size<=aa:=by omega
 clear hfz ad;have hlb26:=aAf hb26;have hfz:=hf.size;refine aCW (d:=3) E rfl (by decide) rfl (aAb rfl _) rfl E.g2 fun a w1 ab ae hb27 f1 E=>?_;have hb26:=f1.obj hb26 id;have hf:=hf.trans f1;clear f1;have hneb26b27:aa<ab:=by omega
 clear hlb26;have hnb27:w.heap.size<=ab:=by omega
 clear hfz ae;have hlb26:=aAf hb26;have hlb27:=aAf hb27;have hfz:=hf.size;refine aC5 (d:=4) E rfl (by decide) rfl (aAb rfl _) rfl fun a w1 ac af hb28 f1 E=>?_;have hb26:=f1.obj hb26 id;have hb27:=f1.obj hb27 id;have hf:=hf.trans f1;clear f1;have hneb26b28:aa<ac:=by omega
 clear hlb26;have hneb27b28:ab<ac:=by omega
 clear hlb27;have hnb28:w.heap.size<=ac:=by omega
 clear hfz af;refine n_ (t_ (s_ (aAy (G:=Unit) () (n:=42) (base:=[(4,.pointer (some ⟨ac,0,none⟩)),(3,.pointer (some ⟨ab,0,none⟩)),(2,.pointer (some ⟨aa,0,none⟩)),(0,.agg (bxC a0)),(1,.agg (bxC c0))]) (U:=[]) (T:=fun Z=>[some (5,.pointer (some ⟨aa,0,none⟩)),some (6,.pointer (some ⟨aa,0,none⟩)),some (7,.int .i64 a0.1.1),some (8,.pointer (some ⟨ab,0,none⟩)),some (9,.pointer (some ⟨ab,0,none⟩)),some (10,.int .i64 c0.1.1),some (11,.int .i64 (min a0.1.1 c0.1.1)),some (12,.pointer (some ⟨aa,0,none⟩)),some (13,.pointer (some ⟨aa,1,none⟩)),some (14,.int .i64 a0.1.2),some (15,.pointer (some ⟨ab,0,none⟩)),some (16,.pointer (some ⟨ab,1,none⟩)),some (17,.int .i64 c0.1.2),some (18,.int .i64 (min a0.1.2 c0.1.2)),some (19,.pointer (some ⟨aa,0,none⟩)),some (20,.pointer (some ⟨aa,0,none⟩)),none,some (21,.pointer (some ⟨aa,0,none⟩)),some (22,.pointer (some ⟨aa,1,none⟩)),none]) (M:=fun Z ls9 wm=>Fr (fun k=>k=aa) w1 wm /\ (bxB wm aa (((bif ls9 16 then (min a0.1.1 c0.1.1) else a0.1.1),(bif ls9 19 then (min a0.1.2 c0.1.2) else a0.1.2)),(a0.2.1,a0.2.2)))) (by kernel_rfl) (by kernel_rfl) (fun _=>by kernel_rfl) (E.of ⟨E.g0,E.g1,E.g2,E.g3,E.g4,trivial⟩) (fun x hx=>by cases hx) ⟨(Fr.refl _ _).drew,((Fr.refl nF_ _).drew.obj hb26 id)⟩ ?_ ?_)))
 ·intro j9 o9 Z ls9 a w5 ho hl E D DL DL2 hB hM;have hb27:=hM.1.obj hb27 (fun e=>by omega);have hb28:=hM.1.obj hb28 (fun e=>by omega)
  match j9,ho,hl,D,DL,hB with
  | 0,ho,hl,D,DL,hB=>exact z0_ ho (aAs rfl (aBx rfl E.g2) rfl hM)
  | 1,ho,hl,D,DL,hB=>exact z0_ ho (aAs rfl (aBq rfl (D 0 _ rfl rfl)) rfl hM)
  | 2,ho,hl,D,DL,hB=>exact z0_ ho (aAs rfl (aAo rfl (D 1 _ rfl rfl) (by have h9:ls9 16=false:=(by cases h8:ls9 16 with | false=>rfl | true=>exact absurd (hl.symm.trans (DL2 6 2 rfl (DL2 16 6 rfl h8))) (by decide));have h7:=bx hM.2 0 rfl;rw [h9] at h7;exact h7)) rfl hM)
  | 3,ho,hl,D,DL,hB=>exact z0_ ho (aAs rfl (aBx rfl E.g1) rfl hM)
  | 4,ho,hl,D,DL,hB=>exact z0_ ho (aAs rfl (aBq rfl (D 3 _ rfl rfl)) rfl hM)
  | 5,ho,hl,D,DL,hB=>exact z0_ ho (aAs rfl (aAo rfl (D 4 _ rfl rfl) (bx hb27 0 rfl)) rfl hM)
  | 6,ho,hl,D,DL,hB=>exact z0_ ho (aAs rfl (aJj rfl (D 2 _ rfl rfl) (D 5 _ rfl rfl)) rfl hM)
  | 7,ho,hl,D,DL,hB=>exact z0_ ho (aAs rfl (aBx rfl E.g2) rfl hM)
  | 8,ho,hl,D,DL,hB=>exact z0_ ho (aAs rfl (aBb rfl (D 7 _ rfl rfl)) rfl hM)
  | 9,ho,hl,D,DL,hB=>exact z0_ ho (aAs rfl (aAo rfl (D 8 _ rfl rfl) (by have h9:ls9 19=false:=(by cases h8:ls9 19 with | false=>rfl | true=>exact absurd (hl.symm.trans (DL2 13 9 rfl (DL2 19 13 rfl h8))) (by decide));have h7:=bx hM.2 1 rfl;rw [h9] at h7;exact h7)) rfl hM)
  | 10,ho,hl,D,DL,hB=>exact z0_ ho (aAs rfl (aBx rfl E.g1) rfl hM)
  | 11,ho,hl,D,DL,hB=>exact z0_ ho (aAs rfl (aBb rfl (D 10 _ rfl rfl)) rfl hM)
  | 12,ho,hl,D,DL,hB=>exact z0_ ho (aAs rfl (aAo rfl (D 11 _ rfl rfl) (bx hb27 1 rfl)) rfl hM)
  | 13,ho,hl,D,DL,hB=>exact z0_ ho (aAs rfl (aJj rfl (D 9 _ rfl rfl) (D 12 _ rfl rfl)) rfl hM)
  | 14,ho,hl,D,DL,hB=>exact z0_ ho (aAs rfl (aBx rfl E.g2) rfl hM)
  | 15,ho,hl,D,DL,hB=>exact z0_ ho (aAs rfl (aBq rfl (D 14 _ rfl rfl)) rfl hM)
  | 16,ho,hl,D,DL,hB =>
   have hB9:=hM.2;obtain rfl:=Gi_ ho;exact ⟨fun _=>aDz rfl (aHc rfl (D 15 _ rfl rfl) (D 6 _ rfl rfl) (bx hB9 0 rfl) (aAm hB9 0)) rfl ⟨hM.1.trans' ((Fr.refl (fun k=>k=aa) _).setCell (p:=⟨aa,0,none⟩) (fun _=>rfl) _) (fun r hr e=>e),aAh (off:=0) hB9 _⟩,fun h=>by rw [aAb rfl] at h;cases h⟩
  | 17,ho,hl,D,DL,hB=>exact z0_ ho (aAs rfl (aBx rfl E.g2) rfl hM)
  | 18,ho,hl,D,DL,hB=>exact z0_ ho (aAs rfl (aBb rfl (D 17 _ rfl rfl)) rfl hM)
  | 19,ho,hl,D,DL,hB =>
   have hB9:=hM.2;obtain rfl:=Gi_ ho;exact ⟨fun _=>aDz rfl (aHc rfl (D 18 _ rfl rfl) (D 13 _ rfl rfl) (bx hB9 1 rfl) (aAm hB9 1)) rfl ⟨hM.1.trans' ((Fr.refl (fun k=>k=aa) _).setCell (p:=⟨aa,1,none⟩) (fun _=>rfl) _) (fun r hr e=>e),aAh (off:=1) hB9 _⟩,fun h=>by rw [aAb rfl] at h;cases h⟩
  | j9+20,ho,hl,D,DL,hB=>exact absurd ho (by simp)
 ·rintro _ a w5 E V hM;clear V;have hb27:=hM.1.obj hb27 (fun e=>by omega);have hb28:=hM.1.obj hb28 (fun e=>by omega);have hb26:bxB w5 aa (((min a0.1.1 c0.1.1),(min a0.1.2 c0.1.2)),(a0.2.1,a0.2.2)):=hM.2;have hf:=hf.trans' hM.1 (fun r hr e=>by omega);clear hM;refine t_ (s_ (aAy (G:=Unit) () (n:=42) (base:=[(4,.pointer (some ⟨ac,0,none⟩)),(3,.pointer (some ⟨ab,0,none⟩)),(2,.pointer (some ⟨aa,0,none⟩)),(0,.agg (bxC a0)),(1,.agg (bxC c0))]) (U:=[]) (T:=fun Z=>[some (23,.pointer (some ⟨aa,2,none⟩)),some (24,.pointer (some ⟨aa,2,none⟩)),some (25,.int .i64 a0.2.1),some (26,.pointer (some ⟨ab,2,none⟩)),some (27,.pointer (some ⟨ab,2,none⟩)),some (28,.int .i64 c0.2.1),some (29,.int .i64 (max a0.2.1 c0.2.1)),some (30,.pointer (some ⟨aa,2,none⟩)),some (31,.pointer (some ⟨aa,3,none⟩)),some (32,.int .i64 a0.2.2),some (33,.pointer (some ⟨ab,2,none⟩)),some (34,.pointer (some ⟨ab,3,none⟩)),some (35,.int .i64 c0.2.2),some (36,.int .i64 (max a0.2.2 c0.2.2)),some (37,.pointer (some ⟨aa,2,none⟩)),some (38,.pointer (some ⟨aa,2,none⟩)),none,some (39,.pointer (some ⟨aa,2,none⟩)),some (40,.pointer (some ⟨aa,3,none⟩)),none]) (M:=fun Z ls9 wm=>Fr (fun k=>k=aa) w5 wm /\ (bxB wm aa (((min a0.1.1 c0.1.1),(min a0.1.2 c0.1.2)),((bif ls9 16 then (max a0.2.1 c0.2.1) else a0.2.1),(bif ls9 19 then (max a0.2.2 c0.2.2) else a0.2.2))))) (by kernel_rfl) (by kernel_rfl) (fun _=>by kernel_rfl) (E.of ⟨E.g0,E.g1,E.g2,E.g3,E.g4,trivial⟩) (fun x hx=>by cases hx) ⟨(Fr.refl _ _).drew,((Fr.refl nF_ _).drew.obj hb26 id)⟩ ?_ ?_))
  ·intro j9 o9 Z ls9 a w5 ho hl E D DL DL2 hB hM;have hb27:=hM.1.obj hb27 (fun e=>by omega);have hb28:=hM.1.obj hb28 (fun e=>by omega)
   match j9,ho,hl,D,DL,hB with
   | 0,ho,hl,D,DL,hB=>exact z0_ ho (aAs rfl (aBw rfl E.g2) rfl hM)
   | 1,ho,hl,D,DL,hB=>exact z0_ ho (aAs rfl (aBq rfl (D 0 _ rfl rfl)) rfl hM)
   | 2,ho,hl,D,DL,hB=>exact z0_ ho (aAs rfl (aAo rfl (D 1 _ rfl rfl) (by have h9:ls9 16=false:=(by cases h8:ls9 16 with | false=>rfl | true=>exact absurd (hl.symm.trans (DL2 6 2 rfl (DL2 16 6 rfl h8))) (by decide));have h7:=bx hM.2 2 rfl;rw [h9] at h7;exact h7)) rfl hM)
   | 3,ho,hl,D,DL,hB=>exact z0_ ho (aAs rfl (aBw rfl E.g1) rfl hM)
   | 4,ho,hl,D,DL,hB=>exact z0_ ho (aAs rfl (aBq rfl (D 3 _ rfl rfl)) rfl hM)
   | 5,ho,hl,D,DL,hB=>exact z0_ ho (aAs rfl (aAo rfl (D 4 _ rfl rfl) (bx hb27 2 rfl)) rfl hM)
   | 6,ho,hl,D,DL,hB=>exact z0_ ho (aAs rfl (aMK rfl (D 2 _ rfl rfl) (D 5 _ rfl rfl)) rfl hM)
   | 7,ho,hl,D,DL,hB=>exact z0_ ho (aAs rfl (aBw rfl E.g2) rfl hM)
   | 8,ho,hl,D,DL,hB=>exact z0_ ho (aAs rfl (aBb rfl (D 7 _ rfl rfl)) rfl hM)
   | 9,ho,hl,D,DL,hB=>exact z0_ ho (aAs rfl (aAo rfl (D 8 _ rfl rfl) (by have h9:ls9 19=false:=(by cases h8:ls9 19 with | false=>rfl | true=>exact absurd (hl.symm.trans (DL2 13 9 rfl (DL2 19 13 rfl h8))) (by decide));have h7:=bx hM.2 3 rfl;rw [h9] at h7;exact h7)) rfl hM)
   | 10,ho,hl,D,DL,hB=>exact z0_ ho (aAs rfl (aBw rfl E.g1) rfl hM)
   | 11,ho,hl,D,DL,hB=>exact z0_ ho (aAs rfl (aBb rfl (D 10 _ rfl rfl)) rfl hM)
   | 12,ho,hl,D,DL,hB=>exact z0_ ho (aAs rfl (aAo rfl (D 11 _ rfl rfl) (bx hb27 3 rfl)) rfl hM)
   | 13,ho,hl,D,DL,hB=>exact z0_ ho (aAs rfl (aMK rfl (D 9 _ rfl rfl) (D 12 _ rfl rfl)) rfl hM)
   | 14,ho,hl,D,DL,hB=>exact z0_ ho (aAs rfl (aBw rfl E.g2) rfl hM)
   | 15,ho,hl,D,DL,hB=>exact z0_ ho (aAs rfl (aBq rfl (D 14 _ rfl rfl)) rfl hM)
   | 16,ho,hl,D,DL,hB =>
    have hB9:=hM.2;obtain rfl:=Gi_ ho;exact ⟨fun _=>aDz rfl (aHc rfl (D 15 _ rfl rfl) (D 6 _ rfl rfl) (bx hB9 2 rfl) (aAm hB9 2)) rfl ⟨hM.1.trans' ((Fr.refl (fun k=>k=aa) _).setCell (p:=⟨aa,2,none⟩) (fun _=>rfl) _) (fun r hr e=>e),aAh (off:=2) hB9 _⟩,fun h=>by rw [aAb rfl] at h;cases h⟩
   | 17,ho,hl,D,DL,hB=>exact z0_ ho (aAs rfl (aBw rfl E.g2) rfl hM)
   | 18,ho,hl,D,DL,hB=>exact z0_ ho (aAs rfl (aBb rfl (D 17 _ rfl rfl)) rfl hM)
   | 19,ho,hl,D,DL,hB =>
    have hB9:=hM.2;obtain rfl:=Gi_ ho;exact ⟨fun _=>aDz rfl (aHc rfl (D 18 _ rfl rfl) (D 13 _ rfl rfl) (bx hB9 3 rfl) (aAm hB9 3)) rfl ⟨hM.1.trans' ((Fr.refl (fun k=>k=aa) _).setCell (p:=⟨aa,3,none⟩) (fun _=>rfl) _) (fun r hr e=>e),aAh (off:=3) hB9 _⟩,fun h=>by rw [aAb rfl] at h;cases h⟩
   | j9+20,ho,hl,D,DL,hB=>exact absurd ho (by simp)
  ·rintro _ a w5 E V hM;clear V;have hb27:=hM.1.obj hb27 (fun e=>by omega);have hb28:=hM.1.obj hb28 (fun e=>by omega);have hb26:bxB w5 aa (((min a0.1.1 c0.1.1),(min a0.1.2 c0.1.2)),((max a0.2.1 c0.2.1),(max a0.2.2 c0.2.2))):=hM.2;have hf:=hf.trans' hM.1 (fun r hr e=>by omega);clear hM;refine t_ (s_ (r_ (ep (v := .agg (bxC (((min a0.1.1 c0.1.1),(min a0.1.2 c0.1.2)),((max a0.2.1 c0.2.1),(max a0.2.2 c0.2.2))))) E rfl (aBr rfl E.g2 (aPy (p:=(((min a0.1.1 c0.1.1),(min a0.1.2 c0.1.2)),((max a0.2.1 c0.2.1),(max a0.2.2 c0.2.2)))) hb26 0 rfl rfl rfl rfl)) fun a E=>aDL E rfl (aAb rfl _) rfl E.g1 E.g0 hb28 fun w1 hb28 f1 E=>?_)));have hb27:=f1.obj hb27 (fun e=>by omega);have hb26:=f1.obj hb26 (fun e=>by omega);have hf:=hf.trans' f1 (fun r hr e=>by omega);clear f1;refine n_ (t_ (wr_ (aPz (t:=4) rfl E E.g1 hb28 ⟨rfl,hf⟩)))
theorem aJl {P:Program}{o:Oper}{w:World}{ρ:Operand->Value}{f:FuncId}{ts:Array TypeId}{x y:Operand}{v:Value}(eg:∀ args w,(callFunc f args).run P w = .ok (.enter f args) w) (ho:o.op = .call ⟨.value y,#[x],ts⟩) (hf:ρ y = .func (.func f) #[] #[]) (hx:ρ x=v):(execOp ρ o).run P w = .ok (.enter f #[v]) w:=by
 simp [execOp,ho,hf,hx,eg,resolve,Deferred.ofValue,invoke,go_sem]
def ixF (ns:List Int):Int:=if ns.all fun n=>decide (isI n) then -1 else ((ns.takeWhile fun n=>decide (isI n)).length:Int)
theorem aPP {ns:List Int}(h:∀ (t:Nat) n,t<ns.length->ns[t]?=some n->isI n):ixF ns = -1:=by
 unfold ixF;rw [if_pos];rw [List.all_eq_true];intro n hn;obtain ⟨t,ht⟩:=List.mem_iff_getElem?.1 hn;exact decide_eq_true (h t n (List.getElem?_eq_some_iff.1 ht).1 ht)
theorem aVa {ns:List Int}{i:Nat}{m:Int}(h:∀ (t:Nat) n,t<i->ns[t]?=some n->isI n) (hm:ns[i]?=some m) (h2:¬ isI m):(ns.takeWhile fun n=>decide (isI n)).length=i:=by
 induction ns generalizing i with
 | nil=>simp at hm
 | cons y ns ih =>
  cases i with
  | zero=>simp at hm;subst hm;simp [h2]
  | succ i =>
   have hy:=h 0 y (by omega) rfl;rw [List.takeWhile_cons,if_pos (decide_eq_true hy),Gf_,ih (i:=i) (fun t x ht hx=>h (t+1) x (by omega) (by simpa using hx)) (by simpa using hm)]
theorem aPO {ns:List Int}{i:Nat}{m:Int}(h:∀ (t:Nat) n,t<i->ns[t]?=some n->isI n) (hm:ns[i]?=some m) (h2:¬ isI m):ixF ns=i:=by
 unfold ixF;rw [if_neg,aVa h hm h2];rw [List.all_eq_true];intro h3;exact h2 (of_decide_eq_true (h3 m (Ge_ hm)))
theorem aTX (ns:List Int):decide ((0:Int)<=ixF ns) = !(ns.all fun n=>decide (isI n)):=by
 unfold ixF
 cases h:ns.all fun n=>decide (isI n) with
 | true=>simp
 | false=>simp
set_option maxRecDepth 100000 in
set_option maxHeartbeats 4000000 in
theorem aOy (n:Int) (w:World):Calls Tryz.prog 149 #[.int .i64 n] w fun e w'=>e = .returned (.bool (decide (¬ isI n))) /\ Fr nF_ w w':=by
 refine aBU Tryz.func149 rfl rfl (n:=9) (by decide) fun a E=>?_;have hf:Fr nF_ w w:=Fr.refl _ _;refine s_ (r_ (ep (v := .bool false) E rfl (a_ rfl rfl) fun a E=>n_ (t_ (s_ (r_ (ep E rfl (m_ rfl E.g1) fun a E=>ep (v := .bool (decide (n<(-2097152)))) E rfl (aBs E.g0 rfl u3_ rfl) fun a E=>ep E rfl (m_ rfl E.g0) fun a E=>?_))))));cases hq31:(decide (n<(-2097152)))
 ·rw [hq31] at E;refine eg E rfl (wy_ E E.g0) (m_ rfl E.g4) fun a E=>eg (v := .bool (decide (2097152<n))) E rfl (wy_ E E.g1) (aCo E.g0 rfl u3_ rfl) fun a E=>ep (v := .bool (decide (2097152<n))) E rfl (aA2 rfl E.g2 E.g0) fun a E=>es_ E rfl (a_ rfl E.g0) fun a E=>n_ (t_ (wr_ (aAu (t:=2) rfl E E.g0 ⟨?_,hf⟩)));have khq31:=of_decide_eq_false hq31;congr 2;exact decide_eq_decide.2 (by unfold isI;omega)
 rw [hq31] at E;refine ek E rfl rfl E.g0 fun a E=>ek E rfl rfl E.g1 fun a E=>ep (v := .bool true) E rfl (aAQ rfl E.g2 rfl) fun a E=>es_ E rfl (a_ rfl E.g0) fun a E=>n_ (t_ (wr_ (aAu (t:=2) rfl E E.g0 ⟨?_,hf⟩)));have khq31:=of_decide_eq_true hq31;congr 2;exact (decide_eq_true (by unfold isI;omega)).symm
set_option maxRecDepth 100000 in
set_option maxHeartbeats 4000000 in
theorem aNI {w:World}{G cap:Nat}{p:Option Addr}{ns:List Int}(hs:aBo inC 1 w G p ns) (hb:ns.length<=100000):Calls Tryz.prog 193 #[.slice p ns.length cap,.func (.func 149) #[] #[]] w fun e w'=>e = .returned (.int .i64 (ixF ns)) /\ Fr nF_ w w':=by
 refine aAY Tryz.func193 rfl rfl (n:=19) (by decide) fun a E=>?_;have hf:Fr nF_ w w:=Fr.refl _ _;refine s_ (r_ (ep (v := .int .i64 0) E rfl (a_ rfl rfl) fun a E=>n_ (t_ (s_ (s_ (r_ (ep E rfl (m_ rfl E.g1) fun a E=>ep (v := .int .i64 (ns.length:Int)) E rfl (aML rfl E.g0) fun a E=>ep (v := .int .i64 0) E rfl (m_ rfl rfl) fun a E=>n_ (t_ (bk_ (wp_loop (fun a w2=>∃ (i:Nat),Env 19 [(8,.int .i64 (i:Int)),(7,.int .i64 (ns.length:Int)),(0,.slice (p) ns.length cap),(1,(.func (.func 149) #[] #[]))] a /\ i<=ns.length /\ Hid (∀ (t:Nat) (z:Int),t<i->ns[t]?=some z->isI z) /\ aBo inC 1 w2 G p ns /\ Fr nF_ w w2) (fun a _=>ns.length-(intOf (a.eval (.tmp 8))).toNat) ?_ ?_))))))))))
 ·exact ⟨0,E.of ⟨E.g0,E.g1,E.g4,E.g5,trivial⟩,Gg_ _,fun t z h=>absurd h (Nat.not_lt_zero _),hs,hf⟩
 clear E;rintro a w2 ⟨i,E,hi,hpre,hs,hf⟩;have hmu:ns.length-(intOf (a.eval (.tmp 8))).toNat=ns.length-i:=by rw [E.g0];first | (simp [intOf];done) | (simp only [intOf];omega)
 rw [hmu];clear hmu;refine s_ (r_ (ep (v := .bool (decide ((i:Int)<(ns.length:Int)))) E rfl (aBs E.g0 E.g1 u3_ rfl) fun a E=>n_ (t_ (s_ ?_))));cases hq33:(decide ((i:Int)<(ns.length:Int)))
 ·rw [hq33] at E;refine c_f E.g0 (x_ (te_ (te_ (be_ (t_ (s_ (r_ (ep (v := .int .i64 (-1)) E rfl (a_ rfl rfl) fun a E=>n_ (t_ (wr_ ?_))))))))));have hr:=aPP (ns:=ns) fun t n ht hn=>hpre.out t n (by have:=of_decide_eq_false hq33;omega) hn;exact aAu (t:=4) rfl E E.g0 ⟨by rw [hr],hf⟩
 rw [hq33] at E;have hlt:i<ns.length:=by have:=of_decide_eq_true hq33;omega
 obtain ⟨y,hy⟩:∃ y,ns[i]?=some y:=⟨_,Gb_ hlt⟩;obtain ⟨g,off,hpe,hgl,hrow⟩:=hs.at hlt;replace hrow:=hrow i y hy;refine c_t E.g0 (k_ (t_ (s_ (bk_ (s_ (r_ (ep E rfl (m_ rfl E.g1) fun a E=>ep E rfl (a_ rfl E.g0) fun a E=>n_ (t_ (s_ (r_ (ep E rfl (m_ rfl E.g6) fun a E=>ep E rfl (m_ rfl E.g6) fun a E=>ep E rfl (m_ rfl E.g2) fun a E=>ep (v := .pointer (some ⟨g,(off+i),none⟩)) E rfl (aJk (i:=i) rfl (E.g1.trans (by rw [hpe])) E.g0 hlt) fun a E=>ep (v := .int .i64 y) E rfl (aAo rfl E.g0 (aTZ hrow)) fun a E=>ec_ (v := .bool (decide (¬ isI y))) E rfl (aJl (enters_of Tryz.func149 (by kernel_rfl) rfl) rfl E.g4 E.g0) (aOy _ _) fun a w1 f1 E=>?_)))))))))));have hs:=hs.fr f1 (fun _ _ h=>h);have hf:=hf.trans f1;clear f1;refine n_ (t_ ?_);cases hq34:(decide (¬ isI y))
 rotate_left
 ·rw [hq34] at E;refine c_t E.g0 (s_ (r_ (ep E rfl (m_ rfl E.g6) fun a E=>ep E rfl (a_ rfl E.g0) fun a E=>n_ (t_ (wr_ (br_ (tr_ (tr_ (br_ (tr_ ?_))))))))));have hr:=aPO (ns:=ns) hpre.out hy (of_decide_eq_true hq34);exact aAu (t:=4) rfl E E.g0 ⟨by rw [hr],hf⟩
 rw [hq34] at E;refine c_f E.g0 (k_ (b_ (t_ (r_ (ep (v := .int .i64 ((i:Int)+1)) E rfl (aAS u3_ E.g9 rfl (by omega) (by omega) rfl) fun a E=>es_ E rfl (m_ rfl E.g0) fun a E=>n_ (t_ ?_))))));refine ⟨⟨i+1,E.of ⟨E.g0,E.g11,E.get 12 rfl,E.get 13 rfl,trivial⟩,hlt,fun t z ht hz1=>?_,hs,hf⟩,?_⟩
 ·by_cases hti:t<i
  ·exact hpre.out t z hti hz1
  ·obtain rfl:t=i:=by omega
   rw [hy] at hz1;obtain rfl:=Gi_ hz1;exact Decidable.not_not.1 (of_decide_eq_false hq34)
 ·rw [E.g0];simp only [intOf];omega
set_option maxRecDepth 100000 in
set_option maxHeartbeats 4000000 in
theorem aQm {w:World}{G cap:Nat}{p:Option Addr}{ns:List Int}(hs:aBo inC 1 w G p ns) (hb:ns.length<=100000):Calls Tryz.prog 148 #[.slice p ns.length cap,.func (.func 149) #[] #[]] w fun e w'=>e = .returned (.bool (!(ns.all fun n=>decide (isI n)))) /\ Fr nF_ w w':=by
 refine aAY Tryz.func148 rfl rfl (n:=9) (by decide) fun a E=>?_;have hf:Fr nF_ w w:=Fr.refl _ _;refine s_ (r_ (ep (v := .bool false) E rfl (a_ rfl rfl) fun a E=>n_ (t_ (s_ (r_ (ep E rfl (m_ rfl E.g1) fun a E=>ep E rfl (m_ rfl E.g3) fun a E=>ec_ (v := .int .i64 (ixF ns)) E rfl (aAE (enters_of Tryz.func193 (by kernel_rfl) rfl) rfl rfl E.g1 E.g0) (aNI hs hb) fun a w1 f1 E=>?_))))));have hs:=hs.fr f1 (fun _ _ h=>h);have hf:=hf.trans f1;clear f1;refine ep (v := .bool (decide (0<=(ixF ns)))) E rfl (aK2 E.g0 rfl u3_ rfl) fun a E=>es_ E rfl (a_ rfl E.g0) fun a E=>n_ (t_ (wr_ (aAu (t:=4) rfl E E.g0 ⟨by rw [aTX],hf⟩)))
set_option maxRecDepth 100000 in
set_option maxHeartbeats 4000000 in
theorem aHO {w:World}{G cap:Nat}{p:Option Addr}{ns:List Int}(hs:aBo inC 1 w G p ns) (hb:ns.length<=100000):Calls Tryz.prog 106 #[.slice p ns.length cap] w fun e w'=>e = .returned (.bool (ns.all fun n=>decide (isI n))) /\ Fr nF_ w w':=by
 refine aBU Tryz.func106 rfl rfl (n:=6) (by decide) fun a E=>?_;have hf:Fr nF_ w w:=Fr.refl _ _;refine s_ (r_ (ep (v := .bool false) E rfl (a_ rfl rfl) fun a E=>n_ (t_ (s_ (r_ (ep E rfl (m_ rfl E.g1) fun a E=>ec_ (v := .bool (!(ns.all fun n=>decide (isI n)))) E rfl (aAE (enters_of Tryz.func148 (by kernel_rfl) rfl) rfl rfl E.g0 rfl) (aQm hs hb) fun a w1 f1 E=>?_))))));have hs:=hs.fr f1 (fun _ _ h=>h);have hf:=hf.trans f1;clear f1;refine ep (v := .bool (!(!(ns.all fun n=>decide (isI n))))) E rfl (aBP rfl E.g0) fun a E=>es_ E rfl (a_ rfl E.g0) fun a E=>n_ (t_ (wr_ (aAu (t:=2) rfl E E.g0 ⟨by rw [Bool.not_not],hf⟩)))
abbrev En:=ByteArray×Bx
def aGn (x b:Bx):Prop:=b.1.1<=x.1.1 /\ b.1.2<=x.1.2 /\ x.2.1<=b.2.1 /\ x.2.2<=b.2.2
theorem aGn.meets {x b q:Bx}(h:aGn x b) (hm:mtB x q):mtB b q:=by unfold aGn at h;unfold mtB at *;omega
def aHH (w:World) (S:Nat->Prop):Nat->Nat->Bx->List En->Prop
 | 0,p,b,L=>(S p /\ okB b) /\ ∃ id,w.heap[p]?=some (.cells #[.int .i64 b.1.1,.int .i64 b.1.2,.int .i64 b.2.1,.int .i64 b.2.2,.string id,.slice none 0 0] 161 (0,0)) /\ L=[(id,b)]
 | n+1,p,b,L=>(S p /\ okB b) /\ ∃ g off cap,∃ C:List (Nat×Bx×List En),w.heap[p]?=some (.cells #[.int .i64 b.1.1,.int .i64 b.1.2,.int .i64 b.2.1,.int .i64 b.2.2,.string ByteArray.empty,.slice (some ⟨g,off,none⟩) C.length cap] 161 (0,0)) /\ S g /\ C≠[] /\ C.length<=8 /\
   (∀ (i:Nat) c,C[i]?=some c->w.cell? ⟨g,off+i,none⟩=some (.pointer (some ⟨c.1,0,none⟩)) /\ aHH w S n c.1 c.2.1 c.2.2) /\ L=C.flatMap (·.2.2) /\ ∀ x∈L,aGn x.2 b
theorem aHH.fr {w w':World}{S F:Nat->Prop}(hf:Fr F w w') (hS:∀ k,S k->¬ F k):∀ {n p b L},aHH w S n p b L->aHH w' S n p b L:=by
 intro n
 induction n with
 | zero =>
  rintro p b L ⟨h1,id,h2,h3⟩;exact ⟨h1,id,hf.obj h2 (hS p h1.1),h3⟩
 | succ n ih =>
  rintro p b L ⟨h1,g,off,cap,C,h2,h3,h4,h8,h5,h6⟩;exact ⟨h1,g,off,cap,C,hf.obj h2 (hS p h1.1),h3,h4,h8,fun i c hc=>⟨hf.cell (h5 i c hc).1 (hS g h3),ih (h5 i c hc).2⟩,h6⟩
theorem aHH.mono {w:World}{S S':Nat->Prop}(hS:∀ k,S k->S' k):∀ {n p b L},aHH w S n p b L->aHH w S' n p b L:=by
 intro n
 induction n with
 | zero=>rintro p b L ⟨h1,id,h2,h3⟩;exact ⟨⟨hS p h1.1,h1.2⟩,id,h2,h3⟩
 | succ n ih =>
  rintro p b L ⟨h1,g,off,cap,C,h2,h3,h4,h8,h5,h6⟩;exact ⟨⟨hS p h1.1,h1.2⟩,g,off,cap,C,h2,hS g h3,h4,h8,fun i c hc=>⟨(h5 i c hc).1,ih (h5 i c hc).2⟩,h6⟩
theorem aHH.ok {w:World}{S:Nat->Prop}:∀ {n p b L},aHH w S n p b L->okB b:=by
 intro n
 cases n with
 | zero=>rintro p b L ⟨h1,_⟩;exact h1.2
 | succ n=>rintro p b L ⟨h1,_⟩;exact h1.2
theorem aHH.mem {w:World}{S:Nat->Prop}:∀ {n p b L},aHH w S n p b L->S p:=by
 intro n
 cases n with
 | zero=>rintro p b L ⟨h1,_⟩;exact h1.1
 | succ n=>rintro p b L ⟨h1,_⟩;exact h1.1
theorem aHH.in_ {w:World}{S:Nat->Prop}:∀ {n p b L},aHH w S n p b L->∀ x∈L,aGn x.2 b:=by
 intro n
 cases n with
 | zero =>
  rintro p b L ⟨h1,id,h2,rfl⟩ x hx;simp at hx;subst hx;simp [aGn]
 | succ n=>rintro p b L ⟨h1,g,off,cap,C,h2,h3,h4,h8,h5,h6,h7⟩;exact h7
theorem aHH.ne {w:World}{S:Nat->Prop}:∀ {n p b L},aHH w S n p b L->L≠[]:=by
 intro n
 induction n with
 | zero=>rintro p b L ⟨h1,id,h2,rfl⟩;simp
 | succ n ih =>
  rintro p b L ⟨h1,g,off,cap,C,h2,h3,h4,h8,h5,rfl,h7⟩;intro e;obtain ⟨c,hc⟩:=List.exists_mem_of_ne_nil C h4;obtain ⟨i,hi⟩:=List.mem_iff_getElem?.1 hc;have h9:=ih (h5 i c hi).2;rw [List.flatMap_eq_nil_iff] at e;exact h9 (e c hc)
def aCu (L:List En) (q:Bx):List ByteArray:=(L.filter fun x=>decide (mtB x.2 q)).map (·.1)
theorem aIr (L K:List En) (q:Bx):aCu (L++K) q=aCu L q++aCu K q:=by simp [aCu]
theorem aGB {L:List En}{b q:Bx}(h:∀ x∈L,aGn x.2 b) (hm:¬ mtB b q):aCu L q=[]:=by
 unfold aCu;rw [List.map_eq_nil_iff,List.filter_eq_nil_iff];intro x hx;simp only [decide_eq_true_eq];exact fun h2=>hm ((h x hx).meets h2)
theorem aN2 {id:ByteArray}{b q:Bx}(hm:mtB b q):aCu [(id,b)] q=[id]:=by simp [aCu,hm]
theorem aLF (C:List (Nat×Bx×List En)) (q:Bx) (i:Nat) {c:Nat×Bx×List En}(h:C[i]?=some c):aCu ((C.take (i+1)).flatMap (·.2.2)) q=aCu ((C.take i).flatMap (·.2.2)) q++aCu c.2.2 q:=by
 rw [List.take_add_one,h,List.flatMap_append,aIr];simp
theorem aOc {lo hi lo' hi' p:Int}(h1:lo'<=lo) (h2:hi<=hi'):dx lo' hi' p<=dx lo hi p /\ 0<=dx lo' hi' p:=by unfold dx;omega
theorem aGn.far {x b:Bx}(h:aGn x b) (q:Pt):dsB b q<=dsB x q:=by
 obtain ⟨h1,h2⟩:=aOc (p:=q.1) h.1 h.2.2.1;obtain ⟨h3,h4⟩:=aOc (p:=q.2) h.2.1 h.2.2.2;unfold dsB;have h5:=Int.mul_le_mul h1 h1 h2 (Int.le_trans h2 h1);have h6:=Int.mul_le_mul h3 h3 h4 (Int.le_trans h4 h3);omega
section
variable {o:Oper}{w:World}{ρ:Operand->Value}{x y:Operand}{g off:Nat}
theorem aFG {f:FuncId}{ts:Array TypeId}{v c1 c2 c3:Value}(eg:∀ args w,(callFunc f args).run Tryz.prog w = .ok (.enter f args) w) (ho:o.op = .call ⟨.value y,#[x],ts⟩) (hf:ρ y = .func (.func f) #[] #[c1,c2,c3]) (hx:ρ x=v):(execOp ρ o).run Tryz.prog w = .ok (.enter f #[v,c1,c2,c3]) w:=by
 simp [execOp,ho,hf,hx,eg,resolve,Deferred.ofValue,invoke,go_sem]
theorem aK0 {v:Value}(ho:o.op = .load 156 x) (hx:ρ x = .pointer (some ⟨g,off,none⟩)) (hc:w.cell? ⟨g,off,none⟩=some v):(execOp ρ o).run Tryz.prog w = .ok (.value v) w:=by
 simp [execOp,ho,hx,go_sem,hc]
theorem aKx {a:Addr}(ho:o.op = .binOp .eql 157 x y 157) (hx:ρ x = .pointer (some a)) (hy:ρ y = .pointer none):(execOp ρ o).run Tryz.prog w = .ok (.value (.bool false)) w:=by
 simp [execOp,ho,hx,hy,go_sem]
theorem aLw {n cap:Nat}(ho:o.op = .binOp .eql 159 x y 159) (hx:ρ x = .slice none n cap) (hy:ρ y = .slice none 0 0):(execOp ρ o).run Tryz.prog w = .ok (.value (.bool true)) w:=by
 have:=Lib.run_eql_slice_nil (P:=Tryz.prog) w 159 157 none n cap 0 0 u159_;simp [execOp,ho,hx,hy,go_sem,this]
theorem aIb {a:Addr}{n cap:Nat}(ho:o.op = .binOp .eql 159 x y 159) (hx:ρ x = .slice (some a) n cap) (hy:ρ y = .slice none 0 0):(execOp ρ o).run Tryz.prog w = .ok (.value (.bool false)) w:=by
 have:=Lib.run_eql_slice_nil (P:=Tryz.prog) w 159 157 (some a) n cap 0 0 u159_;simp [execOp,ho,hx,hy,go_sem,this]
end
theorem aKG (L:List En) (q:Bx):(aCu L q).length<=L.length:=by unfold aCu;rw [Gp_];exact List.length_filter_le _ _
theorem aTO {C:List (Nat×Bx×List En)}{i:Nat}{c:Nat×Bx×List En}{A:List ByteArray}{q:Bx}(hl:A.length+(C.flatMap (·.2.2)).length<=100000) (hc:C[i]?=some c):(A++aCu ((C.take i).flatMap (·.2.2)) q).length+c.2.2.length<=100000:=by
 have e:C=C.take i++c::C.drop (i+1):=by
  have h:=(List.getElem?_eq_some_iff.1 hc).2;rw [←h,List.getElem_cons_drop,List.take_append_drop]
 have h2:=congrArg (fun l:List (Nat×Bx×List En)=>(l.flatMap (·.2.2)).length) e;simp only [List.flatMap_append,Gj_,List.flatMap_cons] at h2;have h3:=aKG ((C.take i).flatMap (·.2.2)) q;rw [Gj_];omega
def WkP (w:World) (bo B:Nat) (A:List ByteArray) (L:List En) (q:Bx) (e:Ending) (w':World):Prop :=
 e = .returned (.tuple #[]) /\ ∃ v',w'.heap[bo]?=some (.cells #[v'] 45 (0,0)) /\ aEv w' B v' (A++aCu L q) /\ Fr (fun k=>k=bo∨B<=k) w w'
set_option maxRecDepth 100000 in
set_option maxHeartbeats 4000000 in
theorem aIU {S:Nat->Prop}{B bq bo bw:Nat}{q:Bx}(hbo:bo<B) (hbq:bq<B) (hbw:bw<B) (nq:bq≠bo) (nw:bw≠bo) (hS:∀ k,S k->k<B /\ k≠bo):∀ (n:Nat) {w:World}{p:Nat}{b:Bx}{L:List En}(hN:aHH w S n p b L) {v:Value}{A:List ByteArray}(hq:bxB w bq q) (hu:w.heap[bo]?=some (.cells #[v] 45 (0,0))) (hO:aEv w B v A) (hw:w.heap[bw]?=some (.cells #[(.func (.func 107) #[] #[.pointer (some ⟨bq,0,none⟩),.pointer (some ⟨bo,0,none⟩),.pointer (some ⟨bw,0,none⟩)])] 156 (0,0))) (hBs:B<=w.heap.size) (hl:A.length+L.length<=100000),Calls Tryz.prog 107 #[.pointer (some ⟨p,0,none⟩),.pointer (some ⟨bq,0,none⟩),.pointer (some ⟨bo,0,none⟩),.pointer (some ⟨bw,0,none⟩)] w (WkP w bo B A L q):=by
 intro n
 induction n with
 | zero =>
  intro w p b L hN v A hq hu hO hw hBs hl;obtain ⟨hSp,id1,hp,hL⟩:=hN;subst hL;have hp0:=hS p hSp.1;have hT:Fr (fun k=>k=bo∨B<=k) w w:=Fr.refl _ _;have hl9:A.length<=100000:=by omega
  clear hl;refine aFz Tryz.func107 rfl rfl (n:=43) (by decide) fun a E=>s_ (s_ (aCH (n:=43) (base:=[(0,.pointer (some ⟨p,0,none⟩)),(1,.pointer (some ⟨bq,0,none⟩)),(2,.pointer (some ⟨bo,0,none⟩)),(3,.pointer (some ⟨bw,0,none⟩))]) (T:=[some (7,.pointer (some ⟨p,0,none⟩)),some (8,.bool false),some (9,.bool false),some (10,.pointer (some ⟨p,0,none⟩)),some (11,.pointer (some ⟨p,0,none⟩)),some (12,.pointer (some ⟨p,0,none⟩)),some (13,.agg (bxC b)),some (14,.agg (bxC q)),some (15,.bool (decide (mtB b q))),some (16,.bool (!(decide (mtB b q)))),some (17,.bool (!(decide (mtB b q))))]) (M:=fun _ wm=>Fr nF_ w wm) (by kernel_rfl) (by kernel_rfl) (by kernel_rfl) (E.of ⟨E.g0,E.g1,E.g2,E.g3,trivial⟩) (Fr.refl _ _).drew ?_ ?_))
  ·intro j9 o9 t9 ls9 a w5 ho hT0 hl E D DL hM;have hp:=hM.obj hp id;have hq:=hM.obj hq id;have hu:=hM.obj hu id;have hw:=hM.obj hw id;have hO:=ow.fr hO hM (fun _ _ h=>h);have hBs:=Gn_ hBs hM.size;have hT:=hT.trans' hM (fun _ _ h=>h.elim)
   match j9,ho,hT0,hl,D,DL with
   | 0,ho,hT0,hl,D,DL=>exact y0_ ho hT0 (aAe (m_ rfl E.g0) rfl hM)
   | 1,ho,hT0,hl,D,DL=>exact y0_ ho hT0 (aAe (aKx rfl (D 0 _ rfl rfl) rfl) rfl hM)
   | 2,ho,hT0,hl,D,DL=>exact y0_ ho hT0 (aAe (m_ rfl (D 1 _ rfl rfl)) rfl hM)
   | 3,ho,hT0,hl,D,DL=>exact y1_ ho hT0 E (D 2 _ rfl rfl) (aAe (m_ rfl E.g0) rfl hM)
   | 4,ho,hT0,hl,D,DL=>exact y1_ ho hT0 E (D 2 _ rfl rfl) (aAe (i_ rfl (D 3 _ rfl rfl)) rfl hM)
   | 5,ho,hT0,hl,D,DL=>exact y1_ ho hT0 E (D 2 _ rfl rfl) (aAe (aBF rfl (D 4 _ rfl rfl)) rfl hM)
   | 6,ho,hT0,hl,D,DL=>exact y1_ ho hT0 E (D 2 _ rfl rfl) (aAe (aBr rfl (D 5 _ rfl rfl) (aPy (p:=b) hp 0 rfl rfl rfl rfl)) rfl hM)
   | 7,ho,hT0,hl,D,DL=>exact y1_ ho hT0 E (D 2 _ rfl rfl) (aAe (aBr rfl E.g1 (aPy (p:=q) hq 0 rfl rfl rfl rfl)) rfl hM)
   | 8,ho,hT0,hl,D,DL=>exact y1_ ho hT0 E (D 2 _ rfl rfl) (aEN (aAE (enters_of Tryz.func108 (by kernel_rfl) rfl) rfl rfl (D 6 _ rfl rfl) (D 7 _ rfl rfl)) (aFM _ _ _) rfl fun w9 f1=>(hM.trans f1))
   | 9,ho,hT0,hl,D,DL=>exact y1_ ho hT0 E (D 2 _ rfl rfl) (aAe (aBP rfl (D 8 _ rfl rfl)) rfl hM)
   | 10,ho,hT0,hl,D,DL=>exact y0_ ho hT0 (aAe (aA2 rfl (D 2 _ rfl rfl) (D 9 _ rfl rfl)) rfl hM)
   | j9+11,ho,hT0,hl,D,DL=>exact absurd hT0 (by simp)
  ·intro a w5 E V hM;have E:=E.add (V 10 _ rfl);clear V;have hp:=hM.obj hp id;have hq:=hM.obj hq id;have hu:=hM.obj hu id;have hw:=hM.obj hw id;have hO:=ow.fr hO hM (fun _ _ h=>h);have hBs:=Gn_ hBs hM.size;have hT:=hT.trans' hM (fun _ _ h=>h.elim);clear hM;refine t_ ?_;cases hq32:(decide (mtB b q))
   ·rw [hq32] at E;refine c_t E.g0 (wr_ (tr_ ((aCi rfl E ⟨rfl,v,hu,?_,hT⟩).1)));rw [aGB (b:=b) (fun x hx=>by simp at hx;subst hx;simp [aGn]) (of_decide_eq_false hq32),List.append_nil];exact hO
   rw [hq32] at E;refine c_f E.g0 (k_ (t_ (s_ (s_ (r_ (ep E rfl (m_ rfl E.g1) fun a E=>ep E rfl (i_ rfl E.g0) fun a E=>ep (v := .pointer (some ⟨p,5,none⟩)) E rfl (aDY rfl E.g0) fun a E=>ep (v := .slice none 0 0) E rfl (aBf rfl E.g0 (bx hp 5 rfl)) fun a E=>ep (v := .bool true) E rfl (aLw rfl E.g0 rfl) fun a E=>n_ (t_ (c_t E.g0 ?_))))))));have hOlt:∀ k,v.ownBlock=some k->k<w5.heap.size:=fun k hk=>(hO.lt hk).2;refine aAy (G:=Nat×Value) (0,undef) (n:=43) (base:=[(22,.bool true),(21,.slice none 0 0),(20,.pointer (some ⟨p,5,none⟩)),(19,.pointer (some ⟨p,0,none⟩)),(18,.pointer (some ⟨p,0,none⟩)),(17,.bool false),(0,.pointer (some ⟨p,0,none⟩)),(1,.pointer (some ⟨bq,0,none⟩)),(2,.pointer (some ⟨bo,0,none⟩)),(3,.pointer (some ⟨bw,0,none⟩))]) (U:=[]) (T:=fun γ=>[some (23,v),some (24,.pointer (some ⟨p,0,none⟩)),some (25,.pointer (some ⟨p,0,none⟩)),some (26,.pointer (some ⟨p,4,none⟩)),some (27,.string id1),some (28,.slice (some ⟨γ.1,0,none⟩) 1 1),some (29,γ.2),none]) (M:=fun γ ls9 wm=>(ls9 7=false->Fr (fun k=>B<=k) w5 wm /\ (ls9 5=true->w5.heap.size<=γ.1 /\ wm.heap[γ.1]?=some (.cells #[.string id1] 9 (0,0))) /\ (ls9 6=false->aEv wm B (v) A) /\ (ls9 6=true->aEv wm B γ.2 (A++[id1]))) /\ (ls9 7=true->∃ v9,wm.heap[bo]?=some (.cells #[v9] 45 (0,0)) /\ aEv wm B v9 (A++[id1]) /\ Fr (fun k=>k=bo∨B<=k) w5 wm)) (by kernel_rfl) (by kernel_rfl) (fun _=>by kernel_rfl) (E.of ⟨E.g0,E.g1,E.g2,E.g3,E.g4,E.g5,E.g6,E.g7,E.g8,E.g9,trivial⟩) (fun x hx=>by cases hx) ⟨fun _=>⟨(Fr.refl _ _).drew,fun h=>absurd h Bool.false_ne_true,fun _=>ow.fr hO ((Fr.refl nF_ _).drew) (fun _ _ h=>h),fun h=>absurd h Bool.false_ne_true⟩,fun h=>absurd h Bool.false_ne_true⟩ ?_ ?_
   ·intro j9 o9 γ ls9 a w5 ho hl E D DL DL2 hB hMM
    match j9,ho,hl,D,DL,hB with
    | 0,ho,hl,D,DL,hB =>
     have h7:ls9 7=false:=by
      cases h9:ls9 7 with
      | false=>rfl
      | true=>exact absurd (hl.symm.trans (DL2 6 0 rfl (DL2 7 6 rfl h9))) (by decide)
     have hM:=hMM.1 h7;have hp:=hM.1.obj hp (fun e=>by omega);have hu:=hM.1.obj hu (fun e=>by omega);obtain rfl:=Gi_ ho;exact ⟨fun _=>aAs rfl (aHg rfl E.g8 (bx hu 0 rfl)) rfl ⟨fun _=>hM,fun h=>absurd (h7.symm.trans h) (by decide)⟩,fun h=>by rw [aAb rfl] at h;cases h⟩
    | 1,ho,hl,D,DL,hB =>
     have h7:ls9 7=false:=by
      cases h9:ls9 7 with
      | false=>rfl
      | true=>exact absurd (hl.symm.trans (DL2 2 1 rfl (DL2 3 2 rfl (DL2 4 3 rfl (DL2 5 4 rfl (DL2 6 5 rfl (DL2 7 6 rfl h9))))))) (by decide)
     have hM:=hMM.1 h7;have hp:=hM.1.obj hp (fun e=>by omega);have hu:=hM.1.obj hu (fun e=>by omega);obtain rfl:=Gi_ ho;exact ⟨fun _=>aAs rfl (m_ rfl E.g6) rfl ⟨fun _=>hM,fun h=>absurd (h7.symm.trans h) (by decide)⟩,fun h=>by rw [aAb rfl] at h;cases h⟩
    | 2,ho,hl,D,DL,hB =>
     have h7:ls9 7=false:=by
      cases h9:ls9 7 with
      | false=>rfl
      | true=>exact absurd (hl.symm.trans (DL2 3 2 rfl (DL2 4 3 rfl (DL2 5 4 rfl (DL2 6 5 rfl (DL2 7 6 rfl h9)))))) (by decide)
     have hM:=hMM.1 h7;have hp:=hM.1.obj hp (fun e=>by omega);have hu:=hM.1.obj hu (fun e=>by omega);obtain rfl:=Gi_ ho;exact ⟨fun _=>aAs rfl (i_ rfl (D 1 _ rfl rfl)) rfl ⟨fun _=>hM,fun h=>absurd (h7.symm.trans h) (by decide)⟩,fun h=>by rw [aAb rfl] at h;cases h⟩
    | 3,ho,hl,D,DL,hB =>
     have h7:ls9 7=false:=by
      cases h9:ls9 7 with
      | false=>rfl
      | true=>exact absurd (hl.symm.trans (DL2 4 3 rfl (DL2 5 4 rfl (DL2 6 5 rfl (DL2 7 6 rfl h9))))) (by decide)
     have hM:=hMM.1 h7;have hp:=hM.1.obj hp (fun e=>by omega);have hu:=hM.1.obj hu (fun e=>by omega);obtain rfl:=Gi_ ho;exact ⟨fun _=>aAs rfl (aKM rfl (D 2 _ rfl rfl)) rfl ⟨fun _=>hM,fun h=>absurd (h7.symm.trans h) (by decide)⟩,fun h=>by rw [aAb rfl] at h;cases h⟩
    | 4,ho,hl,D,DL,hB =>
     have h7:ls9 7=false:=by
      cases h9:ls9 7 with
      | false=>rfl
      | true=>exact absurd (hl.symm.trans (DL2 5 4 rfl (DL2 6 5 rfl (DL2 7 6 rfl h9)))) (by decide)
     have hM:=hMM.1 h7;have hp:=hM.1.obj hp (fun e=>by omega);have hu:=hM.1.obj hu (fun e=>by omega);obtain rfl:=Gi_ ho;exact ⟨fun _=>aAs rfl (aHe rfl (D 3 _ rfl rfl) (bx hp 4 rfl)) rfl ⟨fun _=>hM,fun h=>absurd (h7.symm.trans h) (by decide)⟩,fun h=>by rw [aAb rfl] at h;cases h⟩
    | 5,ho,hl,D,DL,hB =>
     have h7:ls9 7=false:=by
      cases h9:ls9 7 with
      | false=>rfl
      | true=>exact absurd (hl.symm.trans (DL2 6 5 rfl (DL2 7 6 rfl h9))) (by decide)
     have hM:=hMM.1 h7;have hp:=hM.1.obj hp (fun e=>by omega);have hu:=hM.1.obj hu (fun e=>by omega);obtain rfl:=Gi_ ho;exact ⟨fun _=>aLm (w5.heap.size,γ.2) rfl (aIc rfl (D 4 _ rfl rfl)) rfl (fun j hj=>match j,hj with | 0,_=>rfl | 1,_=>rfl | 2,_=>rfl | 3,_=>rfl | 4,_=>rfl | 5,hj=>absurd (hl.symm.trans hj) (by decide) | 6,_=>rfl | 7,_=>rfl | e9+8,_=>rfl) (⟨fun _=>⟨hM.1.trans' ((Fr.refl nF_ w5).alloc _) (fun _ _ h=>h.elim),fun _=>⟨hM.1.size,aAi _ _⟩,fun h=>ow.fr (hM.2.2.1 h) ((Fr.refl nF_ w5).alloc _) (fun _ _ h=>h),fun h=>ow.fr (hM.2.2.2 h) ((Fr.refl nF_ w5).alloc _) (fun _ _ h=>h)⟩,fun h=>absurd (h7.symm.trans h) (by decide)⟩),fun h=>by rw [aAb rfl] at h;cases h⟩
    | 6,ho,hl,D,DL,hB =>
     have h7:ls9 7=false:=by
      cases h9:ls9 7 with
      | false=>rfl
      | true=>exact absurd (hl.symm.trans (DL2 7 6 rfl h9)) (by decide)
     have hM:=hMM.1 h7;have hp:=hM.1.obj hp (fun e=>by omega);have hu:=hM.1.obj hu (fun e=>by omega);have hs8:=aNe aBI (aK7 (B:=0) ((hM.2.1 (DL 5 rfl)).2) (Gg_ _));obtain ⟨v9,w9,c0,c1,c2,c3⟩:=aVR (o:=o9) (ρ:=a.eval) (congrArg Oper.op (Gi_ ho)).symm (D 0 _ rfl rfl) (D 5 _ rfl rfl) (hM.2.2.1 hl) hs8.1 hs8.2 (by simp only [Gf_,Gm_];omega) (Gn_ hBs hM.1.size);obtain rfl:=Gi_ ho;exact ⟨fun _=>aLm (γ.1,v9) rfl c0 rfl (fun j hj=>match j,hj with | 0,_=>rfl | 1,_=>rfl | 2,_=>rfl | 3,_=>rfl | 4,_=>rfl | 5,_=>rfl | 6,hj=>absurd (hl.symm.trans hj) (by decide) | 7,_=>rfl | e9+8,_=>rfl) (⟨fun _=>⟨hM.1.trans' c2 (fun r _ e=>((hM.2.2.1 hl).lt e).1),fun h=>⟨(hM.2.1 h).1,c2.obj (hM.2.1 h).2 (fun e=>by have h8:=(hM.2.1 h).1;have h9:=hOlt _ e;omega)⟩,fun h=>by simp at h,fun _=>c1⟩,fun h=>absurd (h7.symm.trans h) (by decide)⟩),fun h=>by rw [aAb rfl] at h;cases h⟩
    | 7,ho,hl,D,DL,hB =>
     have hM:=hMM.1 hl;have hp:=hM.1.obj hp (fun e=>by omega);have hu:=hM.1.obj hu (fun e=>by omega);have hO9:=hM.2.2.2 (DL 6 rfl);obtain ⟨pn,cn,hvv,_⟩:=hO9.src aBI;obtain rfl:=Gi_ ho;exact ⟨fun _=>aDz rfl (aPl hvv rfl E.g8 (D 6 _ rfl rfl) (bx hu 0 rfl) (aAm hu 0)) rfl ⟨fun h=>by simp at h,fun _=>⟨_,aAh (off:=0) hu _,aNg hO9 (fun k hk=>aJS (fun e=>by have:=(hO9.lt hk).1;simp only at e;omega) _),(hM.1.mono (fun k _ hk => .inr hk)).setCell (fun _ => .inl rfl) _⟩⟩,fun h=>by rw [aAb rfl] at h;cases h⟩
    | j9+8,ho,hl,D,DL,hB=>exact absurd ho (by simp)
   ·rintro ⟨γ33a,γ33b⟩ a we E V hM;clear V;obtain ⟨v9,hu,hO,f2⟩:=hM.2 rfl;have hT:=hT.trans' f2 (fun _ _ h=>h);have hp:=f2.obj hp (fun e=>by omega);clear hM f2;refine t_ (s_ (r_ (ep E rfl (m_ rfl E.g6) fun a E=>ep E rfl (i_ rfl E.g0) fun a E=>ep (v := .pointer (some ⟨p,5,none⟩)) E rfl (aDY rfl E.g0) fun a E=>ep (v := .slice none 0 0) E rfl (aBf rfl E.g0 (bx hp 5 rfl)) fun a E=>ep (v := .int .i64 0) E rfl (aB4 rfl E.g0) fun a E=>ep (v := .int .i64 0) E rfl (m_ rfl rfl) fun a E=>n_ (t_ (bk_ (wp_loop (fun a w2=>Env 43 [(35,.int .i64 0),(34,.int .i64 0),(0,.pointer (some ⟨p,0,none⟩)),(1,.pointer (some ⟨bq,0,none⟩)),(2,.pointer (some ⟨bo,0,none⟩)),(3,.pointer (some ⟨bw,0,none⟩))] a /\ w2.heap[bo]?=some (.cells #[v9] 45 (0,0)) /\ aEv w2 B v9 (A++[id1]) /\ Fr (fun k=>k=bo∨B<=k) w w2) (fun a _=>(intOf (a.eval (.tmp 35))).toNat) ?_ ?_))))))
    ·exact ⟨E.of ⟨E.g0,E.g1,E.get 12 rfl,E.get 13 rfl,E.get 14 rfl,E.get 15 rfl,trivial⟩,hu,hO,hT⟩
    clear E;rintro a w2 ⟨E,hu,hO,hT⟩;have hmu:(intOf (a.eval (.tmp 35))).toNat=0:=by rw [E.g0];first | (simp [intOf];done) | (simp only [intOf];omega)
    rw [hmu];clear hmu;refine s_ (r_ (ep (v := .bool false) E rfl (aBs (m:=0) (n:=0) E.g0 E.g1 u3_ rfl) fun a E=>n_ (t_ (s_ (c_f E.g0 (x_ (te_ (te_ (be_ ((aCi rfl E ⟨rfl,v9,hu,?_,hT⟩).1))))))))));rw [aN2 (of_decide_eq_true hq32)];exact hO
 | succ n ih =>
  intro w p b L hN v A hq hu hO hw hBs hl;obtain ⟨hSp,g,off,cap,C,hp,hSg,hne,h8,hC,hL,hin⟩:=hN;subst hL;have hp0:=hS p hSp.1;have hg0:=hS g hSg;have hT:Fr (fun k=>k=bo∨B<=k) w w:=Fr.refl _ _;refine aFz Tryz.func107 rfl rfl (n:=43) (by decide) fun a E=>s_ (s_ (aCH (n:=43) (base:=[(0,.pointer (some ⟨p,0,none⟩)),(1,.pointer (some ⟨bq,0,none⟩)),(2,.pointer (some ⟨bo,0,none⟩)),(3,.pointer (some ⟨bw,0,none⟩))]) (T:=[some (7,.pointer (some ⟨p,0,none⟩)),some (8,.bool false),some (9,.bool false),some (10,.pointer (some ⟨p,0,none⟩)),some (11,.pointer (some ⟨p,0,none⟩)),some (12,.pointer (some ⟨p,0,none⟩)),some (13,.agg (bxC b)),some (14,.agg (bxC q)),some (15,.bool (decide (mtB b q))),some (16,.bool (!(decide (mtB b q)))),some (17,.bool (!(decide (mtB b q))))]) (M:=fun _ wm=>Fr nF_ w wm) (by kernel_rfl) (by kernel_rfl) (by kernel_rfl) (E.of ⟨E.g0,E.g1,E.g2,E.g3,trivial⟩) (Fr.refl _ _).drew ?_ ?_))
  ·intro j9 o9 t9 ls9 a w5 ho hT0 hl E D DL hM;have hp:=hM.obj hp id;have hq:=hM.obj hq id;have hu:=hM.obj hu id;have hw:=hM.obj hw id;have hO:=ow.fr hO hM (fun _ _ h=>h);have hBs:=Gn_ hBs hM.size;have hT:=hT.trans' hM (fun _ _ h=>h.elim);have hC:=fun j c hc=>(⟨hM.cell (hC j c hc).1 id,aHH.fr hM (fun _ _ h=>h) (hC j c hc).2⟩:_ /\ _)
   match j9,ho,hT0,hl,D,DL with
   | 0,ho,hT0,hl,D,DL=>exact y0_ ho hT0 (aAe (m_ rfl E.g0) rfl hM)
   | 1,ho,hT0,hl,D,DL=>exact y0_ ho hT0 (aAe (aKx rfl (D 0 _ rfl rfl) rfl) rfl hM)
   | 2,ho,hT0,hl,D,DL=>exact y0_ ho hT0 (aAe (m_ rfl (D 1 _ rfl rfl)) rfl hM)
   | 3,ho,hT0,hl,D,DL=>exact y1_ ho hT0 E (D 2 _ rfl rfl) (aAe (m_ rfl E.g0) rfl hM)
   | 4,ho,hT0,hl,D,DL=>exact y1_ ho hT0 E (D 2 _ rfl rfl) (aAe (i_ rfl (D 3 _ rfl rfl)) rfl hM)
   | 5,ho,hT0,hl,D,DL=>exact y1_ ho hT0 E (D 2 _ rfl rfl) (aAe (aBF rfl (D 4 _ rfl rfl)) rfl hM)
   | 6,ho,hT0,hl,D,DL=>exact y1_ ho hT0 E (D 2 _ rfl rfl) (aAe (aBr rfl (D 5 _ rfl rfl) (aPy (p:=b) hp 0 rfl rfl rfl rfl)) rfl hM)
   | 7,ho,hT0,hl,D,DL=>exact y1_ ho hT0 E (D 2 _ rfl rfl) (aAe (aBr rfl E.g1 (aPy (p:=q) hq 0 rfl rfl rfl rfl)) rfl hM)
   | 8,ho,hT0,hl,D,DL=>exact y1_ ho hT0 E (D 2 _ rfl rfl) (aEN (aAE (enters_of Tryz.func108 (by kernel_rfl) rfl) rfl rfl (D 6 _ rfl rfl) (D 7 _ rfl rfl)) (aFM _ _ _) rfl fun w9 f1=>(hM.trans f1))
   | 9,ho,hT0,hl,D,DL=>exact y1_ ho hT0 E (D 2 _ rfl rfl) (aAe (aBP rfl (D 8 _ rfl rfl)) rfl hM)
   | 10,ho,hT0,hl,D,DL=>exact y0_ ho hT0 (aAe (aA2 rfl (D 2 _ rfl rfl) (D 9 _ rfl rfl)) rfl hM)
   | j9+11,ho,hT0,hl,D,DL=>exact absurd hT0 (by simp)
  ·intro a w5 E V hM;have E:=E.add (V 10 _ rfl);clear V;have hp:=hM.obj hp id;have hq:=hM.obj hq id;have hu:=hM.obj hu id;have hw:=hM.obj hw id;have hO:=ow.fr hO hM (fun _ _ h=>h);have hBs:=Gn_ hBs hM.size;have hT:=hT.trans' hM (fun _ _ h=>h.elim);have hC:=fun j c hc=>(⟨hM.cell (hC j c hc).1 id,aHH.fr hM (fun _ _ h=>h) (hC j c hc).2⟩:_ /\ _);clear hM;refine t_ ?_;cases hq36:(decide (mtB b q))
   ·rw [hq36] at E;refine c_t E.g0 (wr_ (tr_ ((aCi rfl E ⟨rfl,v,hu,?_,hT⟩).1)));rw [aGB (b:=b) hin (of_decide_eq_false hq36),List.append_nil];exact hO
   rw [hq36] at E;refine c_f E.g0 (k_ (t_ (s_ (s_ (r_ (ep E rfl (m_ rfl E.g1) fun a E=>ep E rfl (i_ rfl E.g0) fun a E=>ep (v := .pointer (some ⟨p,5,none⟩)) E rfl (aDY rfl E.g0) fun a E=>ep (v := .slice (some ⟨g,off,none⟩) C.length cap) E rfl (aBf rfl E.g0 (bx hp 5 rfl)) fun a E=>ep (v := .bool false) E rfl (aIb rfl E.g0 rfl) fun a E=>n_ (t_ (c_f E.g0 (k_ (t_ (s_ (r_ (ep E rfl (m_ rfl E.g6) fun a E=>ep E rfl (i_ rfl E.g0) fun a E=>ep (v := .pointer (some ⟨p,5,none⟩)) E rfl (aDY rfl E.g0) fun a E=>ep (v := .slice (some ⟨g,off,none⟩) C.length cap) E rfl (aBf rfl E.g0 (bx hp 5 rfl)) fun a E=>ep (v := .int .i64 (C.length:Int)) E rfl (aB4 rfl E.g0) fun a E=>ep (v := .int .i64 0) E rfl (m_ rfl rfl) fun a E=>n_ (t_ (bk_ (wp_loop (fun a w2=>∃ (i:Nat) (v:Value),Env 43 [(35,.int .i64 (i:Int)),(34,.int .i64 (C.length:Int)),(33,.slice (some ⟨g,off,none⟩) C.length cap),(0,.pointer (some ⟨p,0,none⟩)),(1,.pointer (some ⟨bq,0,none⟩)),(2,.pointer (some ⟨bo,0,none⟩)),(3,.pointer (some ⟨bw,0,none⟩))] a /\ i<=C.length /\ bxB w2 bq q /\ w2.heap[bo]?=some (.cells #[v] 45 (0,0)) /\ w2.heap[bw]?=some (.cells #[(.func (.func 107) #[] #[.pointer (some ⟨bq,0,none⟩),.pointer (some ⟨bo,0,none⟩),.pointer (some ⟨bw,0,none⟩)])] 156 (0,0)) /\ aEv w2 B v (A++aCu ((C.take i).flatMap (·.2.2)) q) /\ (∀ (j:Nat) c,C[j]?=some c->w2.cell? ⟨g,off+j,none⟩=some (.pointer (some ⟨c.1,0,none⟩)) /\ aHH w2 S n c.1 c.2.1 c.2.2) /\ B<=w2.heap.size /\ Fr (fun k=>k=bo∨B<=k) w w2) (fun a _=>C.length-(intOf (a.eval (.tmp 35))).toNat) ?_ ?_))))))))))))))))
   ·exact ⟨0,v,E.of ⟨E.g0,E.g1,E.g2,E.get 12 rfl,E.get 13 rfl,E.get 14 rfl,E.get 15 rfl,trivial⟩,Gg_ _,hq,hu,hw,by simpa [aCu] using hO,hC,hBs,hT⟩
   clear E;rintro a w2 ⟨i,v,E,hi,hq,hu,hw,hO,hC,hBs,hT⟩;have hmu:C.length-(intOf (a.eval (.tmp 35))).toNat=C.length-i:=by rw [E.g0];first | (simp [intOf];done) | (simp only [intOf];omega)
   rw [hmu];clear hmu;refine s_ (r_ (ep (v := .bool (decide ((i:Int)<(C.length:Int)))) E rfl (aBs E.g0 E.g1 u3_ rfl) fun a E=>n_ (t_ (s_ ?_))));cases hq38:(decide ((i:Int)<(C.length:Int)))
   ·rw [hq38] at E;have hie:i=C.length:=by have:=of_decide_eq_false hq38;omega
    rw [hie,List.take_length] at hO;refine c_f E.g0 (x_ (te_ (te_ (be_ ((aCi rfl E ⟨rfl,v,hu,hO,hT⟩).1)))))
   rw [hq38] at E;have hlt:i<C.length:=by have:=of_decide_eq_true hq38;omega
   obtain ⟨c,hc⟩:∃ c,C[i]?=some c:=⟨_,Gb_ hlt⟩;have hlen:=aTO (q:=q) hl hc;have hrow:=(hC i c hc).1;refine c_t E.g0 (k_ (t_ (s_ (bk_ (s_ (r_ (ep (v := .pointer (some ⟨g,(off+i),none⟩)) E rfl (aC2 (i:=i) rfl E.g3 E.g1 hlt) fun a E=>ep (v := .pointer (some ⟨c.1,0,none⟩)) E rfl (aAV rfl E.g0 hrow) fun a E=>ep E rfl (a_ rfl E.g0) fun a E=>n_ (t_ (r_ (ep (v:=(.func (.func 107) #[] #[.pointer (some ⟨bq,0,none⟩),.pointer (some ⟨bo,0,none⟩),.pointer (some ⟨bw,0,none⟩)])) E rfl (aK0 rfl E.g10 (bx hw 0 rfl)) fun a E=>ep E rfl (m_ rfl E.g1) fun a E=>aB5 (d:=41) (R:=fun u w8=>∃ v9,w8.heap[bo]?=some (.cells #[v9] 45 (0,0)) /\ aEv w8 B v9 ((A++aCu ((C.take i).flatMap (·.2.2)) q)++aCu c.2.2 q) /\ Fr (fun k=>k=bo∨B<=k) w2 w8) E rfl (by decide) rfl (aAb rfl _) (aFG (enters_of Tryz.func107 (by kernel_rfl) rfl) rfl E.g1 E.g0) ((ih (hC i c hc).2 hq hu hO hw hBs hlen).mono fun e w8 h=>⟨_,h.1,h.2⟩) fun a w1 u9 hR E=>?_))))))))));obtain ⟨v9,hu,hO,f1⟩:=hR;have hq:=f1.obj hq (fun e=>by omega);have hw:=f1.obj hw (fun e=>by omega);have hC:=fun j c hc=>(⟨f1.cell (hC j c hc).1 (fun (e:g=bo∨B<=g)=>by omega),aHH.fr f1 (fun k hk e=>by have:=hS k hk;omega) (hC j c hc).2⟩:_ /\ _);have hBs:=Gn_ hBs f1.size;have hT:=hT.trans' f1 (fun _ _ h=>h);clear f1;refine n_ (b_ (t_ (r_ (ep (v := .int .i64 ((i:Int)+1)) E rfl (aAS u3_ E.g7 rfl (by omega) (by omega) rfl) fun a E=>es_ E rfl (m_ rfl E.g0) fun a E=>n_ (t_ ?_)))));refine ⟨⟨i+1,v9,E.of ⟨E.g0,E.g9,E.g10,E.g11,E.get 12 rfl,E.get 13 rfl,E.get 14 rfl,trivial⟩,hlt,hq,hu,hw,?_,hC,hBs,hT⟩,?_⟩
   ·rw [aLF C q i hc];rw [List.append_assoc] at hO;exact hO
   ·rw [E.g0];simp only [intOf];omega
def bxM (m:ByteArray->Option Bx):Value->Option Value
 | .string s=>(m s).map fun b => .agg (bxC b)
 | _=>none
def aOO (L:List En) (m:ByteArray->Option Bx):Prop:=(L.map (·.1)).Nodup /\ ∀ s b,(s,b)∈L↔m s=some b
def aLh (w:World) (S:Nat->Prop) (rv:Value) (m:ByteArray->Option Bx):Prop :=
 (rv = .pointer none /\ ∀ s,m s=none)∨∃ n p b L,rv = .pointer (some ⟨p,0,none⟩) /\ aHH w S n p b L /\ aOO L m
theorem aLh.fr {w w':World}{S F:Nat->Prop}{rv:Value}{m}(h:aLh w S rv m) (hf:Fr F w w') (hS:∀ k,S k->¬ F k):aLh w' S rv m:=by
 rcases h with h | ⟨n,p,b,L,h1,h2,h3⟩
 ·exact .inl h
 ·exact .inr ⟨n,p,b,L,h1,h2.fr hf hS,h3⟩
structure IxAt (w:World) (p mb N:Nat) (S:Nat->Prop) (m:ByteArray->Option Bx) (rv:Value) (pk:Bool):Prop where
 hp:w.heap[p]?=some (.cells #[.map (some mb),rv,.bool pk] 182 (0,0))
 hm:aEj Tryz.prog 9 w mb N (bxM m)
 ne:p≠mb
 np:¬ S p
 nm:¬ S mb
 lt:∀ k,S k->k<w.heap.size
 ok:∀ s b,m s=some b->okB b
 rp:∃ a,rv = .pointer a
 tree:pk=true->aLh w S rv m
theorem IxAt.fr {w w':World}{p mb N:Nat}{S F:Nat->Prop}{m rv pk}(h:IxAt w p mb N S m rv pk) (hf:Fr F w w') (h1:¬ F p) (h2:¬ F mb) (h3:∀ k,S k->¬ F k):IxAt w' p mb N S m rv pk :=
 ⟨hf.obj h.hp h1,h.hm.fr hf h2,h.ne,h.np,h.nm,fun k hk=>Nat.lt_of_lt_of_le (h.lt k hk) hf.size,h.ok,h.rp,fun hk=>(h.tree hk).fr hf h3⟩
end Go.Proofs.YtngjlnhojicjeaaGreatDoor
namespace Go.Proofs.YtngjlnhojicjeaaGreatDoor
open Go.RowKit Go.Pl Go.WideMaps
section maps3
open Classical
variable {P:Program}{K:TypeId}
end maps3
theorem aV5 {s:ByteArray}(h:s.size<=maxLen):∃ l,keyOf Tryz.prog 9 (.string s)=some l:=⟨_,keyOf_string_mk u9_ h⟩
theorem aSj {k:Value}{l:Lit}(h:keyOf Tryz.prog 9 k=some l):∃ s:ByteArray,k = .string s /\ s.size<=maxLen:=by
 obtain ⟨x,rfl,_,h2⟩:=Maps.keyOf_str u9_ h;exact ⟨⟨x.toArray⟩,rfl,by show (x.toArray).size<=_;simpa using h2⟩
theorem aTc (w:World):(zeroValue 97).run Tryz.prog w = .ok (.agg (bxC ((0,0),(0,0)))) w:=by kernel_rfl
theorem aH8 (m:ByteArray->Option Bx) (s:ByteArray):bxM m (.string s)=(m s).map fun b => .agg (bxC b):=rfl
section
variable {o:Oper}{w:World}{ρ:Operand->Value}{x y z:Operand}{mb N:Nat}{m:ByteArray->Option Bx}{s:ByteArray}
theorem aG7 (h:aEj Tryz.prog 9 w mb N (bxM m)) (hs:s.size<=maxLen) (ho:o.op = .lookup 180 x y true) (hx:ρ x = .map (some mb)) (hy:ρ y = .string s) :
  (execOp ρ o).run Tryz.prog w = .ok (.value (.tuple #[.agg (bxC ((m s).getD ((0,0),(0,0)))),.bool (m s).isSome])) w:=by
 obtain ⟨l,hk⟩:=aV5 hs;have:=h.at.look_ok aIP u180_ hk (aTc w);simp only [execOp,ho,hx,hy,Sem.run_bind,this,Result.andThen_ok,Sem.run_pure,aH8];cases m s<;>rfl
end
theorem aHd {o:Oper}{w:World}{ρ:Operand->Value}{x y:Operand}{a:Addr}(ho:o.op = .binOp .eql 91 x y 91) (hx:ρ x = .pointer (some a)) (hy:ρ y = .pointer none):(execOp ρ o).run Tryz.prog w = .ok (.value (.bool false)) w:=by
 simp [execOp,ho,hx,hy,go_sem]
set_option maxRecDepth 100000 in
set_option maxHeartbeats 4000000 in
theorem aJR {w:World}{p mb N:Nat}{S:Nat->Prop}{m:ByteArray->Option Bx}{rv:Value}{pk:Bool}(h:IxAt w p mb N S m rv pk) (s0:ByteArray) (hsz:s0.size<=maxLen):Calls Tryz.prog 65 #[.pointer (some ⟨p,0,none⟩),.string s0] w fun e w'=>e = .returned (.tuple #[.agg (bxC ((m s0).getD ((0,0),(0,0)))),.bool (m s0).isSome]) /\ Fr nF_ w w':=by
 refine aAY Tryz.func65 rfl rfl (n:=22) (by decide) fun a E=>?_;have hf:Fr nF_ w w:=Fr.refl _ _;have hpl:p<w.heap.size:=aAf h.hp;have hml:mb<w.heap.size:=h.hm.lt;have hσ:∀ k,S k->k<w.heap.size:=h.lt;refine s_ (r_ ?_);have hfz:=hf.size;refine aC5 (d:=4) E rfl (by decide) rfl (aAb rfl _) rfl fun a w1 aa ad hb31 f1 E=>?_;have h:=IxAt.fr h f1 id id (fun _ _ h=>h);have hf:=hf.trans f1;clear f1;have hnb31:w.heap.size<=aa:=by omega
 clear hfz ad;refine ep (v := .bool false) E rfl (a_ rfl rfl) fun a E=>n_ (t_ (s_ (s_ (r_ (ep E rfl (m_ rfl E.g2) fun a E=>ep (v := .bool false) E rfl (aHd rfl E.g0 rfl) fun a E=>n_ (t_ (c_f E.g0 (k_ (t_ (s_ ?_))))))))))
 cases hms:m s0 with
 | none =>
  refine r_ (ep E rfl (m_ rfl E.g4) fun a E=>ep E rfl (i_ rfl E.g0) fun a E=>ep (v := .pointer (some ⟨p,0,none⟩)) E rfl (aNR rfl E.g0) fun a E=>ep (v := .map (some mb)) E rfl (aHf rfl E.g0 (bx h.hp 0 rfl)) fun a E=>ep E rfl (m_ rfl E.g9) fun a E=>ep (v := .tuple #[.agg (bxC ((0,0),(0,0))),.bool false]) E rfl ((aG7 h.hm hsz rfl E.g1 E.g0).trans (by rw [hms]<;>rfl)) fun a E=>ep E rfl (m_ rfl E.g0) fun a E=>ep (v := .agg (bxC ((0,0),(0,0)))) E rfl (aFo rfl E.g0) fun a E=>ep (v := .bool false) E rfl (aFn rfl E.g1) fun a E=>?_);have hlb31:=aAf hb31;have hfz:=hf.size;refine aC5 (d:=6) E rfl (by decide) rfl (aAb rfl _) rfl fun a w1 ab ae hb32 f1 E=>?_;have h:=IxAt.fr h f1 id id (fun _ _ h=>h);have hb31:=f1.obj hb31 id;have hf:=hf.trans f1;clear f1;have hneb31b32:aa<ab:=by omega
  clear hlb31;have hnb32:w.heap.size<=ab:=by omega
  clear hfz ae;refine aDL E rfl (aAb rfl _) rfl E.g0 E.g2 hb32 fun w1 hb32 f1 E=>?_;have h:=IxAt.fr h f1 (by omega) (by omega) (fun k hk=>by have:=hσ k hk;omega);have hb31:=f1.obj hb31 (fun e=>by omega);have hf:=hf.trans' f1 (fun r hr e=>by omega);clear f1;refine ep E rfl (a_ rfl E.g1) fun a E=>n_ (t_ (s_ (r_ (ep (v := .agg (bxC ((0,0),(0,0)))) E rfl (aBr rfl E.g1 (aPy (p:=((0,0),(0,0))) hb32 0 rfl rfl rfl rfl)) fun a E=>ep E rfl (m_ rfl E.g1) fun a E=>aDL E rfl (aAb rfl _) rfl (E.get 16 rfl) E.g1 hb31 fun w1 hb31 f1 E=>?_))));have h:=IxAt.fr h f1 (by omega) (by omega) (fun k hk=>by have:=hσ k hk;omega);have hb32:=f1.obj hb32 (fun e=>by omega);have hf:=hf.trans' f1 (fun r hr e=>by omega);clear f1;refine es_ E rfl (a_ rfl E.g0) fun a E=>n_ (t_ (wr_ (aIf (t:=4) (u:=5) rfl E (E.get 16 rfl) E.g0 hb31 ⟨by simp [hms],hf⟩)))
 | some bb =>
  refine r_ (ep E rfl (m_ rfl E.g4) fun a E=>ep E rfl (i_ rfl E.g0) fun a E=>ep (v := .pointer (some ⟨p,0,none⟩)) E rfl (aNR rfl E.g0) fun a E=>ep (v := .map (some mb)) E rfl (aHf rfl E.g0 (bx h.hp 0 rfl)) fun a E=>ep E rfl (m_ rfl E.g9) fun a E=>ep (v := .tuple #[.agg (bxC bb),.bool true]) E rfl ((aG7 h.hm hsz rfl E.g1 E.g0).trans (by rw [hms]<;>rfl)) fun a E=>ep E rfl (m_ rfl E.g0) fun a E=>ep (v := .agg (bxC bb)) E rfl (aFo rfl E.g0) fun a E=>ep (v := .bool true) E rfl (aFn rfl E.g1) fun a E=>?_);have hlb31:=aAf hb31;have hfz:=hf.size;refine aC5 (d:=6) E rfl (by decide) rfl (aAb rfl _) rfl fun a w1 ac af hb33 f1 E=>?_;have h:=IxAt.fr h f1 id id (fun _ _ h=>h);have hb31:=f1.obj hb31 id;have hf:=hf.trans f1;clear f1;have hneb31b33:aa<ac:=by omega
  clear hlb31;have hnb33:w.heap.size<=ac:=by omega
  clear hfz af;refine aDL E rfl (aAb rfl _) rfl E.g0 E.g2 hb33 fun w1 hb33 f1 E=>?_;have h:=IxAt.fr h f1 (by omega) (by omega) (fun k hk=>by have:=hσ k hk;omega);have hb31:=f1.obj hb31 (fun e=>by omega);have hf:=hf.trans' f1 (fun r hr e=>by omega);clear f1;refine ep E rfl (a_ rfl E.g1) fun a E=>n_ (t_ (s_ (r_ (ep (v := .agg (bxC bb)) E rfl (aBr rfl E.g1 (aPy (p:=bb) hb33 0 rfl rfl rfl rfl)) fun a E=>ep E rfl (m_ rfl E.g1) fun a E=>aDL E rfl (aAb rfl _) rfl (E.get 16 rfl) E.g1 hb31 fun w1 hb31 f1 E=>?_))));have h:=IxAt.fr h f1 (by omega) (by omega) (fun k hk=>by have:=hσ k hk;omega);have hb33:=f1.obj hb33 (fun e=>by omega);have hf:=hf.trans' f1 (fun r hr e=>by omega);clear f1;refine es_ E rfl (a_ rfl E.g0) fun a E=>n_ (t_ (wr_ (aIf (t:=4) (u:=5) rfl E (E.get 16 rfl) E.g0 hb31 ⟨by simp [hms],hf⟩)))
section
variable {P:Program}{O:Array Oper}{Q:Exit->Act->World->Prop}{rest:List Oper}{o:Oper}{a:Act}{w w':World}{n:Nat}{L:List (Nat×Value)}{v:Value}
end
section
variable {w W:World}{p mb N:Nat}{S:Nat->Prop}{m:ByteArray->Option Bx}{rv:Value}{pk:Bool}
end
end Go.Proofs.YtngjlnhojicjeaaGreatDoor
namespace Go.Proofs.YtngjlnhojicjeaaGreatDoor
open Go.RowKit Go.Pl Go.WideMaps
section
variable {O:Array Oper}{Q:Exit->Act->World->Prop}{rest:List Oper}{o:Oper}{a:Act}{w W:World}{n d:Nat}{L:List (Nat×Value)}{x y z t:Operand}{ρ:Operand->Value}
theorem aL0 {n0 n1 n2 n3:Int}(ho:o.op = .buildSlice 167 4 #[(0,x),(1,y),(2,z),(3,t)]) (h0:ρ x = .int .i64 n0) (h1:ρ y = .int .i64 n1) (h2:ρ z = .int .i64 n2) (h3:ρ t = .int .i64 n3):(execOp ρ o).run Tryz.prog w = .ok (.value (.slice (some ⟨w.heap.size,0,none⟩) 4 4)) (w.alloc (.cells #[.int .i64 n0,.int .i64 n1,.int .i64 n2,.int .i64 n3] 3)):=by
 simp [execOp,ho,h0,h1,h2,h3,go_sem]
theorem aKm {w:World}{b G:Nat}{ns:List Int}(hb:w.heap[b]?=some (.cells (ns.map fun n=>(.int .i64 n:Value)).toArray 3 (0,0))) (hG:b<G):aBo inC 1 w G (some ⟨b,0,none⟩) ns:=by
 refine .inr ⟨b,0,rfl,hG,fun i y hy j u hu=>?_⟩
 have hj:j=0:=by
  have:=(List.getElem?_eq_some_iff.1 hu).1;simpa using this
 subst hj;simp at hu;rw [aAk hb];simp [hy,hu]
theorem aPa {w:World}{b G:Nat}{n0 n1 n2 n3:Int}(hb:w.heap[b]?=some (.cells #[.int .i64 n0,.int .i64 n1,.int .i64 n2,.int .i64 n3] 3 (0,0))) (hG:b<G):aBo inC 1 w G (some ⟨b,0,none⟩) [n0,n1,n2,n3]:=aKm hb hG
theorem aLV {n0 n1 n2 n3:Int}(En:Env n L a) (hd:o.dst=some d) (hn:d<n) (hf:(L.map (·.1)).contains d=false) (hw:Region.wanted o (yielded O a.tmps)=true) (ho:o.op = .buildSlice 167 4 #[(0,x),(1,y),(2,z),(3,t)]) (h0:a.eval x = .int .i64 n0) (h1:a.eval y = .int .i64 n1) (h2:a.eval z = .int .i64 n2) (h3:a.eval t = .int .i64 n3)
  (k:∀ a' w' b,aBo inC 1 w' w'.heap.size (some ⟨b,0,none⟩) [n0,n1,n2,n3]->Fr nF_ w w'->Env n ((d,.slice (some ⟨b,0,none⟩) 4 4)::L) a'->wpList Tryz.prog O Q rest a' w'):wpList Tryz.prog O Q (o::rest) a w :=
 aBB En hd hn hf hw (aL0 ho h0 h1 h2 h3) fun a' E'=>k a' _ _ (aPa (aAi _ _) (by simp)) ((Fr.refl _ _).alloc _) E'
end
theorem aJx {b:Bx}(h:okB b):(List.all [b.1.1,b.1.2,b.2.1,b.2.2] fun n9=>decide (isI n9))=true:=by
 obtain ⟨⟨h1,h2⟩,⟨h3,h4⟩,_⟩:=h;simp [h1,h2,h3,h4]
theorem aTB {b:Bx}(h:(List.all [b.1.1,b.1.2,b.2.1,b.2.2] fun n9=>decide (isI n9))=true) (h1:b.1.1<=b.2.1) (h2:b.1.2<=b.2.2):okB b:=by
 simp at h;exact ⟨⟨h.1,h.2.1⟩,⟨h.2.2.1,h.2.2.2⟩,h1,h2⟩
open Go.Sort
def aCe (a b:Int):Int:=if a<b then -1 else if b<a then 1 else 0
def orI (x y:Int):Int:=if x≠0 then x else y
def cfB (x y:Bx):Int:=aCe (x.1.2+x.2.2) (y.1.2+y.2.2)
def cfA (x y:Bx):Int:=orI (aCe (x.1.1+x.2.1) (y.1.1+y.2.1)) (cfB x y)
set_option maxHeartbeats 1000000 in
theorem aIq (x:Int) (w:World):Calls Tryz.prog 234 #[.int .i64 x] w fun e w'=>e = .returned (.bool false) /\ w=w':=by
 have hb:(x != x)=false:=by simp
 go_enter Tryz.func234,Tryz.ntmps234
 go_wp2
 go_ret
 exact ⟨rfl,rfl⟩
set_option maxHeartbeats 1000000 in
theorem aE3 (x y:Int) (w:World):Calls Tryz.prog 196 #[.int .i64 x,.int .i64 y] w fun e w'=>e = .returned (.int .i64 (aCe x y)) /\ w=w':=by
 have n1:=aIq x w;have n2:=aIq y w
 by_cases h1:x<y
 ·have hE:Hid (aCe x y = -1):=by unfold aCe;rw [Hid,if_pos h1]
  have t1:decide (x<y)=true:=decide_eq_true h1;clear h1
  go_enter Tryz.func196,Tryz.ntmps196
  go_wp2_with fail
  refine n1.mono ?_;rintro e w' ⟨rfl,rfl⟩
  go_wp2_with fail
  refine n2.mono ?_;rintro e w' ⟨rfl,rfl⟩
  go_wp2
  go_ret
  exact ⟨by rw [hE.out];rfl,rfl⟩
 ·by_cases h2:y<x
  ·have hE:Hid (aCe x y=1):=by unfold aCe;rw [Hid,if_neg h1,if_pos h2]
   have t1:decide (x<y)=false:=decide_eq_false h1;have t2:decide (y<x)=true:=decide_eq_true h2;clear h1 h2
   go_enter Tryz.func196,Tryz.ntmps196
   go_wp2_with fail
   refine n1.mono ?_;rintro e w' ⟨rfl,rfl⟩
   go_wp2_with fail
   refine n2.mono ?_;rintro e w' ⟨rfl,rfl⟩
   go_wp2
   go_ret
   exact ⟨by rw [hE.out];rfl,rfl⟩
  ·have hE:Hid (aCe x y=0):=by unfold aCe;rw [Hid,if_neg h1,if_neg h2]
   have t1:decide (x<y)=false:=decide_eq_false h1;have t2:decide (y<x)=false:=decide_eq_false h2;clear h1 h2
   go_enter Tryz.func196,Tryz.ntmps196
   go_wp2_with fail
   refine n1.mono ?_;rintro e w' ⟨rfl,rfl⟩
   go_wp2_with fail
   refine n2.mono ?_;rintro e w' ⟨rfl,rfl⟩
   go_wp2
   go_ret
   exact ⟨by rw [hE.out];rfl,rfl⟩
set_option maxHeartbeats 1000000 in
theorem aP6 (x y:Int) (g:Nat) (w:World) (h0:w.cell? ⟨g,0,none⟩=some (.int .i64 x)) (h1:w.cell? ⟨g,1,none⟩=some (.int .i64 y)) :
  Calls Tryz.prog 63 #[.slice (some ⟨g,0,none⟩) 2 2] w fun e w'=>e = .returned (.int .i64 (orI x y)) /\ w=w':=by
 have H0:=Lib.hid h0;have H1:=Lib.hid h1;clear h0 h1
 go_enter Tryz.func63,Tryz.ntmps63
 go_wp2
 go_loop [8] (fun i=>∃ k:Nat,k<=2 /\ i = .int .i64 k /\ Hid (0<k->x=0) /\ Hid (1<k->y=0)) (fun i=>2-(intOf i).toNat)
 case atStart=>exact ⟨0,by omega,rfl,fun h=>by omega,fun h=>by omega⟩
 case round =>
  obtain ⟨k,hk,rfl,h1,h2⟩:=hrel;have hcase:k=0∨k=1∨k=2:=by omega
  rcases hcase with rfl | rfl | rfl
  ·have d0:=H0.out
   by_cases hz:x=0
   ·have hE:Hid (0<1->x=0):=fun _=>hz;subst hz
    go_wp2
    go_round
    case rel=>exact ⟨1,by omega,by go_num,fun _=>trivial,fun h=>by omega⟩
    case measure=>simp [intOf]
   ·have t1:(x != 0)=true:=by simpa using hz
    have hE:Hid (orI x y=x):=by unfold orI;rw [Hid,if_pos hz]
    clear hz
    go_wp2
    go_ret
    exact ⟨by rw [hE.out];rfl,rfl⟩
  ·have d1:=H1.out;have hx:=h1.out (by omega)
   by_cases hz:y=0
   ·have hE:Hid (1<2->y=0):=fun _=>hz;have hE1:Hid (0<2->x=0):=fun _=>hx;subst hz
    go_wp2
    go_round
    case rel=>exact ⟨2,by omega,by go_num,hE1,fun _=>trivial⟩
    case measure=>simp [intOf]
   ·have t1:(y != 0)=true:=by simpa using hz
    have hE:Hid (orI x y=y):=by unfold orI;rw [Hid,if_neg (by simpa using hx)]
    clear hz hx
    go_wp2
    go_ret
    exact ⟨by rw [hE.out];rfl,rfl⟩
  ·have hE:Hid (orI x y=0):=by
    have hx:=h1.out (by omega);have hy:=h2.out (by omega);unfold orI;rw [Hid,if_neg (by simpa using hx)];exact hy
   go_wp2
   go_ret
   exact ⟨by rw [hE.out];rfl,rfl⟩
def nb (w:World) (p:Nat) (b:Bx):Prop:=w.rangeAt p 0 (bxL b)
theorem nb.fr {w w':World}{p:Nat}{b:Bx}(h:nb w p b) {F:Nat->Prop}(hf:Fr F w w') (hp:¬ F p):nb w' p b:=fun j u hu=>hf.cell (h j u hu) hp
theorem nb.gw {w w':World}{p:Nat}{b:Bx}(h:nb w p b) (hg:Gw w w'):nb w' p b:=h.fr hg.fr id
theorem aIa {o:Oper}{w:World}{ρ:Operand->Value}{x y:Operand}{n0 n1:Int}(ho:o.op = .buildSlice 167 2 #[(0,x),(1,y)]) (h0:ρ x = .int .i64 n0) (h1:ρ y = .int .i64 n1):(execOp ρ o).run Tryz.prog w = .ok (.value (.slice (some ⟨w.heap.size,0,none⟩) 2 2)) (w.alloc (.cells #[.int .i64 n0,.int .i64 n1] 3)):=by
 simp [execOp,ho,h0,h1,go_sem]
set_option maxRecDepth 100000 in
set_option maxHeartbeats 4000000 in
theorem aLX {p q:Nat}{x y:Bx}{w:World}(hX:nb w p x) (hY:nb w q y) (hx:okB x) (hy:okB y):Calls Tryz.prog 195 #[.pointer (some ⟨p,0,none⟩),.pointer (some ⟨q,0,none⟩)] w fun e w'=>e = .returned (.int .i64 (cfA x y)) /\ Gw w w':=by
 obtain ⟨⟨⟨x1,x2⟩,x3,x4⟩,⟨⟨x5,x6⟩,x7,x8⟩,x9,x10⟩:=hx;obtain ⟨⟨⟨y1,y2⟩,y3,y4⟩,⟨⟨y5,y6⟩,y7,y8⟩,y9,y10⟩:=hy;refine aAY Tryz.func195 rfl rfl (n:=61) (by decide) fun a E=>s_ (r_ (ep (v := .int .i64 0) E rfl (a_ rfl rfl) fun a E=>n_ (t_ (s_ ?_))));obtain ⟨G,hG⟩:∃ G,w.heap.size=G:=⟨_,rfl⟩;refine aBH (n:=61) (base:=[(1,.pointer (some ⟨q,0,none⟩)),(0,.pointer (some ⟨p,0,none⟩))]) (T:=[some (5,.pointer (some ⟨p,0,none⟩)),some (6,.pointer (some ⟨p,0,none⟩)),some (7,.pointer (some ⟨p,0,none⟩)),some (8,.pointer (some ⟨p,0,none⟩)),some (9,.pointer (some ⟨p,0,none⟩)),some (10,.int .i64 (x.1.1)),some (11,.pointer (some ⟨p,0,none⟩)),some (12,.pointer (some ⟨p,0,none⟩)),some (13,.pointer (some ⟨p,0,none⟩)),some (14,.pointer (some ⟨p,2,none⟩)),some (15,.pointer (some ⟨p,2,none⟩)),some (16,.int .i64 (x.2.1)),some (17,.int .i64 ((x.1.1)+(x.2.1))),some (18,.pointer (some ⟨q,0,none⟩)),some (19,.pointer (some ⟨q,0,none⟩)),some (20,.pointer (some ⟨q,0,none⟩)),some (21,.pointer (some ⟨q,0,none⟩)),some (22,.pointer (some ⟨q,0,none⟩)),some (23,.int .i64 (y.1.1)),some (24,.pointer (some ⟨q,0,none⟩)),some (25,.pointer (some ⟨q,0,none⟩)),some (26,.pointer (some ⟨q,0,none⟩)),some (27,.pointer (some ⟨q,2,none⟩)),some (28,.pointer (some ⟨q,2,none⟩)),some (29,.int .i64 (y.2.1)),some (30,.int .i64 ((y.1.1)+(y.2.1))),some (31,.int .i64 (aCe ((x.1.1)+(x.2.1)) ((y.1.1)+(y.2.1)))),some (32,.pointer (some ⟨p,0,none⟩)),some (33,.pointer (some ⟨p,0,none⟩)),some (34,.pointer (some ⟨p,0,none⟩)),some (35,.pointer (some ⟨p,0,none⟩)),some (36,.pointer (some ⟨p,1,none⟩)),some (37,.int .i64 (x.1.2)),some (38,.pointer (some ⟨p,0,none⟩)),some (39,.pointer (some ⟨p,0,none⟩)),some (40,.pointer (some ⟨p,0,none⟩)),some (41,.pointer (some ⟨p,2,none⟩)),some (42,.pointer (some ⟨p,3,none⟩)),some (43,.int .i64 (x.2.2)),some (44,.int .i64 ((x.1.2)+(x.2.2))),some (45,.pointer (some ⟨q,0,none⟩)),some (46,.pointer (some ⟨q,0,none⟩)),some (47,.pointer (some ⟨q,0,none⟩)),some (48,.pointer (some ⟨q,0,none⟩)),some (49,.pointer (some ⟨q,1,none⟩)),some (50,.int .i64 (y.1.2)),some (51,.pointer (some ⟨q,0,none⟩)),some (52,.pointer (some ⟨q,0,none⟩)),some (53,.pointer (some ⟨q,0,none⟩)),some (54,.pointer (some ⟨q,2,none⟩)),some (55,.pointer (some ⟨q,3,none⟩)),some (56,.int .i64 (y.2.2)),some (57,.int .i64 ((y.1.2)+(y.2.2))),some (58,.int .i64 (aCe ((x.1.2)+(x.2.2)) ((y.1.2)+(y.2.2)))),some (59,.slice (some ⟨G,0,none⟩) 2 2),some (60,.int .i64 (cfA x y)),some (4,.int .i64 (cfA x y))]) (M:=fun lst w'=>Gw w w' /\ (lst 54=false->w'.heap.size=G) /\ (lst 54=true->w'.heap[G]?=some (.cells #[.int .i64 (aCe ((x.1.1)+(x.2.1)) ((y.1.1)+(y.2.1))),.int .i64 (aCe ((x.1.2)+(x.2.2)) ((y.1.2)+(y.2.2)))] 3 (0,0)))) (by kernel_rfl) (by kernel_rfl) (by kernel_rfl) (E.of ⟨E.g2,E.g1,trivial⟩) ⟨(Gw.refl w).drew,fun _=>hG,fun h=>by cases h⟩ ?_ ?_
 ·intro i o tt lst a w2 ho hT0 hl E D DL hM
  match i,ho,hT0,hl,D,DL with
  | 0,ho,hT0,hl,D,DL=>exact y9_ ho hT0 (aAe (m_ rfl E.g1) rfl hM)
  | 1,ho,hT0,hl,D,DL=>exact y9_ ho hT0 (aAe (i_ rfl (D 0 _ rfl rfl)) rfl hM)
  | 2,ho,hT0,hl,D,DL=>exact y9_ ho hT0 (aAe (aBF rfl (D 1 _ rfl rfl)) rfl hM)
  | 3,ho,hT0,hl,D,DL=>exact y9_ ho hT0 (aAe (aBx rfl (D 2 _ rfl rfl)) rfl hM)
  | 4,ho,hT0,hl,D,DL=>exact y9_ ho hT0 (aAe (aBq rfl (D 3 _ rfl rfl)) rfl hM)
  | 5,ho,hT0,hl,D,DL=>exact y9_ ho hT0 (aAe (aAo rfl (D 4 _ rfl rfl) ((nb.gw hX hM.1) 0 _ rfl)) rfl hM)
  | 6,ho,hT0,hl,D,DL=>exact y9_ ho hT0 (aAe (m_ rfl E.g1) rfl hM)
  | 7,ho,hT0,hl,D,DL=>exact y9_ ho hT0 (aAe (i_ rfl (D 6 _ rfl rfl)) rfl hM)
  | 8,ho,hT0,hl,D,DL=>exact y9_ ho hT0 (aAe (aBF rfl (D 7 _ rfl rfl)) rfl hM)
  | 9,ho,hT0,hl,D,DL=>exact y9_ ho hT0 (aAe (aBw rfl (D 8 _ rfl rfl)) rfl hM)
  | 10,ho,hT0,hl,D,DL=>exact y9_ ho hT0 (aAe (aBq rfl (D 9 _ rfl rfl)) rfl hM)
  | 11,ho,hT0,hl,D,DL=>exact y9_ ho hT0 (aAe (aAo rfl (D 10 _ rfl rfl) ((nb.gw hX hM.1) 2 _ rfl)) rfl hM)
  | 12,ho,hT0,hl,D,DL=>exact y9_ ho hT0 (aAe (aAS u3_ (D 5 _ rfl rfl) (D 11 _ rfl rfl) (by omega) (by omega) rfl) rfl hM)
  | 13,ho,hT0,hl,D,DL=>exact y9_ ho hT0 (aAe (m_ rfl E.g0) rfl hM)
  | 14,ho,hT0,hl,D,DL=>exact y9_ ho hT0 (aAe (i_ rfl (D 13 _ rfl rfl)) rfl hM)
  | 15,ho,hT0,hl,D,DL=>exact y9_ ho hT0 (aAe (aBF rfl (D 14 _ rfl rfl)) rfl hM)
  | 16,ho,hT0,hl,D,DL=>exact y9_ ho hT0 (aAe (aBx rfl (D 15 _ rfl rfl)) rfl hM)
  | 17,ho,hT0,hl,D,DL=>exact y9_ ho hT0 (aAe (aBq rfl (D 16 _ rfl rfl)) rfl hM)
  | 18,ho,hT0,hl,D,DL=>exact y9_ ho hT0 (aAe (aAo rfl (D 17 _ rfl rfl) ((nb.gw hY hM.1) 0 _ rfl)) rfl hM)
  | 19,ho,hT0,hl,D,DL=>exact y9_ ho hT0 (aAe (m_ rfl E.g0) rfl hM)
  | 20,ho,hT0,hl,D,DL=>exact y9_ ho hT0 (aAe (i_ rfl (D 19 _ rfl rfl)) rfl hM)
  | 21,ho,hT0,hl,D,DL=>exact y9_ ho hT0 (aAe (aBF rfl (D 20 _ rfl rfl)) rfl hM)
  | 22,ho,hT0,hl,D,DL=>exact y9_ ho hT0 (aAe (aBw rfl (D 21 _ rfl rfl)) rfl hM)
  | 23,ho,hT0,hl,D,DL=>exact y9_ ho hT0 (aAe (aBq rfl (D 22 _ rfl rfl)) rfl hM)
  | 24,ho,hT0,hl,D,DL=>exact y9_ ho hT0 (aAe (aAo rfl (D 23 _ rfl rfl) ((nb.gw hY hM.1) 2 _ rfl)) rfl hM)
  | 25,ho,hT0,hl,D,DL=>exact y9_ ho hT0 (aAe (aAS u3_ (D 18 _ rfl rfl) (D 24 _ rfl rfl) (by omega) (by omega) rfl) rfl hM)
  | 26,ho,hT0,hl,D,DL=>exact y9_ ho hT0 (aEN (F:=fun w'=>w2=w') (aAE (enters_of Tryz.func196 (by kernel_rfl) rfl) rfl rfl (D 12 _ rfl rfl) (D 25 _ rfl rfl)) (aE3 _ _ _) rfl fun w3 f=>by subst f;exact ⟨hM.1,hM.2.1,hM.2.2⟩)
  | 27,ho,hT0,hl,D,DL=>exact y9_ ho hT0 (aAe (m_ rfl E.g1) rfl hM)
  | 28,ho,hT0,hl,D,DL=>exact y9_ ho hT0 (aAe (i_ rfl (D 27 _ rfl rfl)) rfl hM)
  | 29,ho,hT0,hl,D,DL=>exact y9_ ho hT0 (aAe (aBF rfl (D 28 _ rfl rfl)) rfl hM)
  | 30,ho,hT0,hl,D,DL=>exact y9_ ho hT0 (aAe (aBx rfl (D 29 _ rfl rfl)) rfl hM)
  | 31,ho,hT0,hl,D,DL=>exact y9_ ho hT0 (aAe (aBb rfl (D 30 _ rfl rfl)) rfl hM)
  | 32,ho,hT0,hl,D,DL=>exact y9_ ho hT0 (aAe (aAo rfl (D 31 _ rfl rfl) ((nb.gw hX hM.1) 1 _ rfl)) rfl hM)
  | 33,ho,hT0,hl,D,DL=>exact y9_ ho hT0 (aAe (m_ rfl E.g1) rfl hM)
  | 34,ho,hT0,hl,D,DL=>exact y9_ ho hT0 (aAe (i_ rfl (D 33 _ rfl rfl)) rfl hM)
  | 35,ho,hT0,hl,D,DL=>exact y9_ ho hT0 (aAe (aBF rfl (D 34 _ rfl rfl)) rfl hM)
  | 36,ho,hT0,hl,D,DL=>exact y9_ ho hT0 (aAe (aBw rfl (D 35 _ rfl rfl)) rfl hM)
  | 37,ho,hT0,hl,D,DL=>exact y9_ ho hT0 (aAe (aBb rfl (D 36 _ rfl rfl)) rfl hM)
  | 38,ho,hT0,hl,D,DL=>exact y9_ ho hT0 (aAe (aAo rfl (D 37 _ rfl rfl) ((nb.gw hX hM.1) 3 _ rfl)) rfl hM)
  | 39,ho,hT0,hl,D,DL=>exact y9_ ho hT0 (aAe (aAS u3_ (D 32 _ rfl rfl) (D 38 _ rfl rfl) (by omega) (by omega) rfl) rfl hM)
  | 40,ho,hT0,hl,D,DL=>exact y9_ ho hT0 (aAe (m_ rfl E.g0) rfl hM)
  | 41,ho,hT0,hl,D,DL=>exact y9_ ho hT0 (aAe (i_ rfl (D 40 _ rfl rfl)) rfl hM)
  | 42,ho,hT0,hl,D,DL=>exact y9_ ho hT0 (aAe (aBF rfl (D 41 _ rfl rfl)) rfl hM)
  | 43,ho,hT0,hl,D,DL=>exact y9_ ho hT0 (aAe (aBx rfl (D 42 _ rfl rfl)) rfl hM)
  | 44,ho,hT0,hl,D,DL=>exact y9_ ho hT0 (aAe (aBb rfl (D 43 _ rfl rfl)) rfl hM)
  | 45,ho,hT0,hl,D,DL=>exact y9_ ho hT0 (aAe (aAo rfl (D 44 _ rfl rfl) ((nb.gw hY hM.1) 1 _ rfl)) rfl hM)
  | 46,ho,hT0,hl,D,DL=>exact y9_ ho hT0 (aAe (m_ rfl E.g0) rfl hM)
  | 47,ho,hT0,hl,D,DL=>exact y9_ ho hT0 (aAe (i_ rfl (D 46 _ rfl rfl)) rfl hM)
  | 48,ho,hT0,hl,D,DL=>exact y9_ ho hT0 (aAe (aBF rfl (D 47 _ rfl rfl)) rfl hM)
  | 49,ho,hT0,hl,D,DL=>exact y9_ ho hT0 (aAe (aBw rfl (D 48 _ rfl rfl)) rfl hM)
  | 50,ho,hT0,hl,D,DL=>exact y9_ ho hT0 (aAe (aBb rfl (D 49 _ rfl rfl)) rfl hM)
  | 51,ho,hT0,hl,D,DL=>exact y9_ ho hT0 (aAe (aAo rfl (D 50 _ rfl rfl) ((nb.gw hY hM.1) 3 _ rfl)) rfl hM)
  | 52,ho,hT0,hl,D,DL=>exact y9_ ho hT0 (aAe (aAS u3_ (D 45 _ rfl rfl) (D 51 _ rfl rfl) (by omega) (by omega) rfl) rfl hM)
  | 53,ho,hT0,hl,D,DL=>exact y9_ ho hT0 (aEN (F:=fun w'=>w2=w') (aAE (enters_of Tryz.func196 (by kernel_rfl) rfl) rfl rfl (D 39 _ rfl rfl) (D 52 _ rfl rfl)) (aE3 _ _ _) rfl fun w3 f=>by subst f;exact ⟨hM.1,hM.2.1,hM.2.2⟩)
  | 54,ho,hT0,hl,D,DL=>exact y9_ ho hT0 (aR0 ((aIa rfl (D 26 _ rfl rfl) (D 53 _ rfl rfl)).trans (by rw [hM.2.1 hl])) rfl ⟨hM.1.alloc _,fun h=>(by simp at h),fun _=>aCb (hM.2.1 hl).symm _⟩)
  | 55,ho,hT0,hl,D,DL =>
   obtain rfl:=Gi_ ho;obtain rfl:=Gi_ hT0;clear ho hT0;have hd:=DL 54 rfl;have hb:=hM.2.2 hd;exact aEN (F:=fun w'=>w2=w') (aBj (enters_of Tryz.func63 (by kernel_rfl) rfl) rfl rfl (D 54 _ rfl rfl)) (aP6 (aCe ((x.1.1)+(x.2.1)) ((y.1.1)+(y.2.1))) (aCe ((x.1.2)+(x.2.2)) ((y.1.2)+(y.2.2))) G w2 (by rw [aAk hb];rfl) (by rw [aAk hb];rfl)) rfl fun w3 f=>by subst f;exact ⟨hM.1,hM.2.1,hM.2.2⟩
  | 56,ho,hT0,hl,D,DL=>exact y9_ ho hT0 (aAe (a_ rfl (D 55 _ rfl rfl)) rfl hM)
  | i+57,ho,hT0,hl,D,DL=>exact absurd hT0 (by simp)
 ·intro a w2 E V hM;refine t_ (wr_ (aAu (E:=⟨E.size,aSP.mem (L:=[]) trivial,E.df⟩) (t:=4) rfl (V 56 _ rfl) ⟨rfl,hM.1⟩))
set_option maxRecDepth 100000 in
set_option maxHeartbeats 4000000 in
theorem aLW {p q:Nat}{x y:Bx}{w:World}(hX:nb w p x) (hY:nb w q y) (hx:okB x) (hy:okB y):Calls Tryz.prog 198 #[.pointer (some ⟨p,0,none⟩),.pointer (some ⟨q,0,none⟩)] w fun e w'=>e = .returned (.int .i64 (cfB x y)) /\ Gw w w':=by
 obtain ⟨⟨⟨x1,x2⟩,x3,x4⟩,⟨⟨x5,x6⟩,x7,x8⟩,x9,x10⟩:=hx;obtain ⟨⟨⟨y1,y2⟩,y3,y4⟩,⟨⟨y5,y6⟩,y7,y8⟩,y9,y10⟩:=hy;refine aAY Tryz.func198 rfl rfl (n:=32) (by decide) fun a E=>s_ (r_ (ep (v := .int .i64 0) E rfl (a_ rfl rfl) fun a E=>n_ (t_ (s_ (aBH (n:=32) (base:=[(1,.pointer (some ⟨q,0,none⟩)),(0,.pointer (some ⟨p,0,none⟩))]) (T:=[some (5,.pointer (some ⟨p,0,none⟩)),some (6,.pointer (some ⟨p,0,none⟩)),some (7,.pointer (some ⟨p,0,none⟩)),some (8,.pointer (some ⟨p,0,none⟩)),some (9,.pointer (some ⟨p,1,none⟩)),some (10,.int .i64 (x.1.2)),some (11,.pointer (some ⟨p,0,none⟩)),some (12,.pointer (some ⟨p,0,none⟩)),some (13,.pointer (some ⟨p,0,none⟩)),some (14,.pointer (some ⟨p,2,none⟩)),some (15,.pointer (some ⟨p,3,none⟩)),some (16,.int .i64 (x.2.2)),some (17,.int .i64 ((x.1.2)+(x.2.2))),some (18,.pointer (some ⟨q,0,none⟩)),some (19,.pointer (some ⟨q,0,none⟩)),some (20,.pointer (some ⟨q,0,none⟩)),some (21,.pointer (some ⟨q,0,none⟩)),some (22,.pointer (some ⟨q,1,none⟩)),some (23,.int .i64 (y.1.2)),some (24,.pointer (some ⟨q,0,none⟩)),some (25,.pointer (some ⟨q,0,none⟩)),some (26,.pointer (some ⟨q,0,none⟩)),some (27,.pointer (some ⟨q,2,none⟩)),some (28,.pointer (some ⟨q,3,none⟩)),some (29,.int .i64 (y.2.2)),some (30,.int .i64 ((y.1.2)+(y.2.2))),some (31,.int .i64 (aCe ((x.1.2)+(x.2.2)) ((y.1.2)+(y.2.2)))),some (4,.int .i64 (aCe ((x.1.2)+(x.2.2)) ((y.1.2)+(y.2.2))))]) (M:=fun _ w'=>Gw w w' /\ True) (by kernel_rfl) (by kernel_rfl) (by kernel_rfl) (E.of ⟨E.g2,E.g1,trivial⟩) ⟨(Gw.refl w).drew,trivial⟩ ?_ ?_)))))
 ·intro i o tt lst a w2 ho hT0 hl E D DL hM
  match i,ho,hT0,hl,D,DL with
  | 0,ho,hT0,hl,D,DL=>exact y9_ ho hT0 (aAe (m_ rfl E.g1) rfl hM)
  | 1,ho,hT0,hl,D,DL=>exact y9_ ho hT0 (aAe (i_ rfl (D 0 _ rfl rfl)) rfl hM)
  | 2,ho,hT0,hl,D,DL=>exact y9_ ho hT0 (aAe (aBF rfl (D 1 _ rfl rfl)) rfl hM)
  | 3,ho,hT0,hl,D,DL=>exact y9_ ho hT0 (aAe (aBx rfl (D 2 _ rfl rfl)) rfl hM)
  | 4,ho,hT0,hl,D,DL=>exact y9_ ho hT0 (aAe (aBb rfl (D 3 _ rfl rfl)) rfl hM)
  | 5,ho,hT0,hl,D,DL=>exact y9_ ho hT0 (aAe (aAo rfl (D 4 _ rfl rfl) ((nb.gw hX hM.1) 1 _ rfl)) rfl hM)
  | 6,ho,hT0,hl,D,DL=>exact y9_ ho hT0 (aAe (m_ rfl E.g1) rfl hM)
  | 7,ho,hT0,hl,D,DL=>exact y9_ ho hT0 (aAe (i_ rfl (D 6 _ rfl rfl)) rfl hM)
  | 8,ho,hT0,hl,D,DL=>exact y9_ ho hT0 (aAe (aBF rfl (D 7 _ rfl rfl)) rfl hM)
  | 9,ho,hT0,hl,D,DL=>exact y9_ ho hT0 (aAe (aBw rfl (D 8 _ rfl rfl)) rfl hM)
  | 10,ho,hT0,hl,D,DL=>exact y9_ ho hT0 (aAe (aBb rfl (D 9 _ rfl rfl)) rfl hM)
  | 11,ho,hT0,hl,D,DL=>exact y9_ ho hT0 (aAe (aAo rfl (D 10 _ rfl rfl) ((nb.gw hX hM.1) 3 _ rfl)) rfl hM)
  | 12,ho,hT0,hl,D,DL=>exact y9_ ho hT0 (aAe (aAS u3_ (D 5 _ rfl rfl) (D 11 _ rfl rfl) (by omega) (by omega) rfl) rfl hM)
  | 13,ho,hT0,hl,D,DL=>exact y9_ ho hT0 (aAe (m_ rfl E.g0) rfl hM)
  | 14,ho,hT0,hl,D,DL=>exact y9_ ho hT0 (aAe (i_ rfl (D 13 _ rfl rfl)) rfl hM)
  | 15,ho,hT0,hl,D,DL=>exact y9_ ho hT0 (aAe (aBF rfl (D 14 _ rfl rfl)) rfl hM)
  | 16,ho,hT0,hl,D,DL=>exact y9_ ho hT0 (aAe (aBx rfl (D 15 _ rfl rfl)) rfl hM)
  | 17,ho,hT0,hl,D,DL=>exact y9_ ho hT0 (aAe (aBb rfl (D 16 _ rfl rfl)) rfl hM)
  | 18,ho,hT0,hl,D,DL=>exact y9_ ho hT0 (aAe (aAo rfl (D 17 _ rfl rfl) ((nb.gw hY hM.1) 1 _ rfl)) rfl hM)
  | 19,ho,hT0,hl,D,DL=>exact y9_ ho hT0 (aAe (m_ rfl E.g0) rfl hM)
  | 20,ho,hT0,hl,D,DL=>exact y9_ ho hT0 (aAe (i_ rfl (D 19 _ rfl rfl)) rfl hM)
  | 21,ho,hT0,hl,D,DL=>exact y9_ ho hT0 (aAe (aBF rfl (D 20 _ rfl rfl)) rfl hM)
  | 22,ho,hT0,hl,D,DL=>exact y9_ ho hT0 (aAe (aBw rfl (D 21 _ rfl rfl)) rfl hM)
  | 23,ho,hT0,hl,D,DL=>exact y9_ ho hT0 (aAe (aBb rfl (D 22 _ rfl rfl)) rfl hM)
  | 24,ho,hT0,hl,D,DL=>exact y9_ ho hT0 (aAe (aAo rfl (D 23 _ rfl rfl) ((nb.gw hY hM.1) 3 _ rfl)) rfl hM)
  | 25,ho,hT0,hl,D,DL=>exact y9_ ho hT0 (aAe (aAS u3_ (D 18 _ rfl rfl) (D 24 _ rfl rfl) (by omega) (by omega) rfl) rfl hM)
  | 26,ho,hT0,hl,D,DL=>exact y9_ ho hT0 (aEN (F:=fun w'=>w2=w') (aAE (enters_of Tryz.func196 (by kernel_rfl) rfl) rfl rfl (D 12 _ rfl rfl) (D 25 _ rfl rfl)) (aE3 _ _ _) rfl fun w3 f=>by subst f;exact ⟨hM.1,trivial⟩)
  | 27,ho,hT0,hl,D,DL=>exact y9_ ho hT0 (aAe (a_ rfl (D 26 _ rfl rfl)) rfl hM)
  | i+28,ho,hT0,hl,D,DL=>exact absurd hT0 (by simp)
 ·intro a w2 E V hM;refine t_ (wr_ (aAu (E:=⟨E.size,aSP.mem (L:=[]) trivial,E.df⟩) (t:=4) rfl (V 27 _ rfl) ⟨rfl,hM.1⟩))
theorem aC3 {x y:Int}(h1 : -4194304<=x) (h2:x<=4194304) (h3 : -4194304<=y) (h4:y<=4194304) : -17592186044416<=x*y /\ x*y<=17592186044416:=by
  have key:∀ {a b:Int},0<=a->a<=4194304->0<=b->b<=4194304->0<=a*b /\ a*b<=17592186044416:=fun {a b} h1 h2 h3 h4=>by
    have:=Int.mul_le_mul h2 h4 h3 (by omega);exact ⟨Int.mul_nonneg h1 h3,by omega⟩
  rcases Int.le_total 0 x with hx | hx<;>rcases Int.le_total 0 y with hy | hy
  · have:=key hx h2 hy h4;omega
  · have:=key hx h2 (b := -y) (by omega) (by omega);rw [Int.mul_neg] at this;omega
  · have:=key (a := -x) (by omega) (by omega) hy h4;rw [Int.neg_mul] at this;omega
  · have:=key (a := -x) (b := -y) (by omega) (by omega) (by omega) (by omega);rw [Int.neg_mul_neg] at this;omega
theorem aGI (x y:Int) (w:World):Calls Tryz.prog 196 #[vI x,vI y] w fun e w'=>e = .returned (vI (aCe x y)) /\ Fr nF_ w w':=(aE3 x y w).mono fun e w' ⟨h1,h2⟩=>⟨h1,by rw [←h2];exact Fr.refl _ _⟩
def aB7 (a b c:Pt):Int:=(b.1-a.1)*(c.2-a.2)-(b.2-a.2)*(c.1-a.1)
def orP (a b c:Pt):Int:=bif [a,b,c].all aA7 then aCe (aB7 a b c) 0 else 0
def aCm:List (Int×Int)->Int
  | []=>0
  | p::l=>bif !(aCe p.1 p.2==0) then aCe p.1 p.2 else aCm l
def aB6 (a b:Pt):Int:=aCm [(a.1,b.1),(a.2,b.2)]
theorem aDN {w:World}{x y u v:Int}(hx : -4194304<=x /\ x<=4194304) (hy : -4194304<=y /\ y<=4194304) (hu : -4194304<=u /\ u<=4194304) (hv : -4194304<=v /\ v<=4194304):Calls Tryz.prog 158 #[.agg #[vI x,vI y],.agg #[vI u,vI v]] w fun e w'=>e = .returned (vI (x*u+y*v)) /\ Fr nF_ w w':=by
  have b1:=aC3 hx.1 hx.2 hu.1 hu.2;have b2:=aC3 hy.1 hy.2 hv.1 hv.2;refine beg Tryz.func158 rfl rfl [(0,.agg #[vI x,vI y]),(1,.agg #[vI u,vI v])] rfl rfl fun Z hZ=>?_;have hM:=Mm.nil nF_ w;refine aA1 0 0 2 [] (cs:=#[vI x,vI y]) (T:=240) (v:=fun b=>vP b 0) f0 hM fun aa w1 hM=>aA1 0 1 3 [] (cs:=#[vI u,vI v]) (T:=240) (v:=fun b=>vP b 0) f0 hM fun ab w1 hM=>rt1 4 (vI ((x*u)+(y*v))) rfl (fc (ldm 3 0 0 hM rfl rfl) (fc (ldm 3 1 0 hM rfl rfl) (fc (aEA x u u3_) (fc (ldm 3 0 1 hM rfl rfl) (fc (ldm 3 1 1 hM rfl rfl) (fc (aEA y v u3_) (fc (aA8 (x*u) (y*v) u3_) f0))))))) (hZ _ _ ⟨rfl,hM.fr⟩)
theorem aGe {w:World}{x y u v:Int}(hx : -4194304<=x /\ x<=4194304) (hy : -4194304<=y /\ y<=4194304) (hu : -4194304<=u /\ u<=4194304) (hv : -4194304<=v /\ v<=4194304):Calls Tryz.prog 160 #[.agg #[vI x,vI y],.agg #[vI u,vI v]] w fun e w'=>e = .returned (vI (x*v-y*u)) /\ Fr nF_ w w':=by
  have b1:=aC3 hx.1 hx.2 hv.1 hv.2;have b2:=aC3 hy.1 hy.2 hu.1 hu.2;refine beg Tryz.func160 rfl rfl [(0,.agg #[vI x,vI y]),(1,.agg #[vI u,vI v])] rfl rfl fun Z hZ=>?_;have hM:=Mm.nil nF_ w;refine aA1 0 0 2 [] (cs:=#[vI x,vI y]) (T:=240) (v:=fun b=>vP b 0) f0 hM fun aa w1 hM=>aA1 0 1 3 [] (cs:=#[vI u,vI v]) (T:=240) (v:=fun b=>vP b 0) f0 hM fun ab w1 hM=>rt1 4 (vI ((x*v)-(y*u))) rfl (fc (ldm 3 0 0 hM rfl rfl) (fc (ldm 3 1 1 hM rfl rfl) (fc (aEA x v u3_) (fc (ldm 3 0 1 hM rfl rfl) (fc (ldm 3 1 0 hM rfl rfl) (fc (aEA y u u3_) (fc (aDU (x*v) (y*u) u3_) f0))))))) (hZ _ _ ⟨rfl,hM.fr⟩)
theorem aAG (a b c:Pt) (w:World):Calls Tryz.prog 155 #[.agg #[vI a.1,vI a.2],.agg #[vI b.1,vI b.2],.agg #[vI c.1,vI c.2]] w fun e w'=>e = .returned (vI (orP a b c)) /\ Fr nF_ w w':=by
  refine beg Tryz.func155 rfl rfl [(0,.agg #[vI a.1,vI a.2]),(1,.agg #[vI b.1,vI b.2]),(2,.agg #[vI c.1,vI c.2])] rfl rfl fun Z hZ=>?_;have hM:=Mm.nil nF_ w;refine aA1 0 0 3 [] (cs:=#[vI a.1,vI a.2]) (T:=29) (v:=fun b=>vP b 0) f0 hM fun ac w1 hM=>aA1 0 1 4 [] (cs:=#[vI b.1,vI b.2]) (T:=29) (v:=fun b=>vP b 0) f0 hM fun ad w1 hM=>aA1 0 2 5 [] (cs:=#[vI c.1,vI c.2]) (T:=29) (v:=fun b=>vP b 0) f0 hM fun ae w1 hM=>aA1 1 3 11 [(8,.agg #[vI a.1,vI a.2]),(9,.agg #[vI b.1,vI b.2]),(10,.agg #[vI c.1,vI c.2])] (cs:=#[vI a.1,vI a.2,vI b.1,vI b.2,vI c.1,vI c.2]) (T:=29) (v:=fun b=>vL (some ⟨b,0,none⟩) 3 3) (fc (lam 29 0 0 2 hM rfl) (fc (lam 29 1 0 2 hM rfl) (fc (lam 29 2 0 2 hM rfl) f0))) hM fun ab w1 hM=>aAw 1 4 12 [] f0 hM (aCS (L:=[a,b,c]) (aBO (f:=ptL) (c:=2) (b:=ab) (hM.get 3 rfl) [a,b,c] 3 (fun _=>rfl) rfl rfl)) fun w1 hM=>seg 1 6 [(13,vB (!([a,b,c].all aA7)))] f0 ?_;cases aa:([a,b,c].all aA7)
  ·exact rt1 6 (vI 0) rfl f0 (hZ _ _ ⟨by unfold orP;rw [aa];rfl,hM.fr⟩)
  have ha:aA7 a=true:=List.all_eq_true.1 aa a (.head _);have ba:=aBg ha;have hb:aA7 b=true:=List.all_eq_true.1 aa b (.tail _ (.head _));have bb:=aBg hb;have hc:aA7 c=true:=List.all_eq_true.1 aa c (.tail _ (.tail _ (.head _)));have bc:=aBg hc;refine aAw 3 2 16 [(14,.agg #[vI a.1,vI a.2]),(15,.agg #[vI b.1,vI b.2])] (fc (lam 29 0 0 2 hM rfl) (fc (lam 29 1 0 2 hM rfl) f0)) hM (aEp ha hb _) fun w1 hM=>aAw 4 3 21 [(18,.func (.func 160) #[.agg #[vI (b.1-a.1),vI (b.2-a.2)]] #[]),(19,.agg #[vI a.1,vI a.2]),(20,.agg #[vI c.1,vI c.2])] (fc (lam 29 0 0 2 hM rfl) (fc (lam 29 2 0 2 hM rfl) f0)) hM (aEp ha hc _) fun w1 hM=>aAw 4 4 22 [] f0 hM (aGe (x:=(b.1-a.1)) (y:=(b.2-a.2)) (u:=(c.1-a.1)) (v:=(c.2-a.2)) ⟨by omega,by omega⟩ ⟨by omega,by omega⟩ ⟨by omega,by omega⟩ ⟨by omega,by omega⟩) fun w1 hM=>aAw 4 5 23 [] f0 hM (aGI (aB7 a b c) 0 _) fun w1 hM=>rt1 6 (vI (aCe (aB7 a b c) 0)) rfl f0 (hZ _ _ ⟨by unfold orP;rw [aa];rfl,hM.fr⟩)
abbrev aWb (Z:Ending->World->Prop):=AtO Tryz.prog (aAK Tryz.f242) (aBc (bodyPost Tryz.prog Tryz.f242 Z)) [] 21
theorem aJ9 {w:World}{p:Option Addr}{cap:Nat}{L:List (Int×Int)}(hs:SrcP ptL 2 w p cap L):Calls Tryz.prog 242 #[vL p L.length cap] w fun e w'=>e = .returned (vI (aCm L)) /\ Fr nF_ w w':=by
  have bb:=hs.bnd;refine beg Tryz.func242 rfl rfl [(0,vL p L.length cap)] rfl rfl fun Z hZ=>?_;have hM:=Mm.nil nF_ w;refine seg 2 0 [(6,vL p L.length cap),(7,vI (L.length:Int)),(8,vI 0)] f0 ?_
  have ae:∀ (aa:Nat) (i:Nat) (w2:World),i<=L.length->aCm L=aCm (L.drop i)->Mm nF_ w w2 []->aa=L.length-i->aWb Z (some (2,0)) [(8,vI (i:Int)),(7,vI (L.length:Int)),(6,vL p L.length cap)] w2:=by
   refine aCC fun aa af i w2 hi hr hM aj=>seg 2 1 [(9,vB (decide ((i:Int)<(L.length:Int))))] f0 ?_;cases ab:(decide ((i:Int)<(L.length:Int)))
   ·have ag:=df ab;exact rt1 2 (vI 0) rfl f0 (hZ _ _ ⟨by rw [hr,List.drop_of_length_le (by omega)];rfl,hM.fr⟩)
   have ag:=dt ab;obtain ⟨y,hy,ak,al,ah,ai⟩:=hs.el (i:=i) (by omega);refine aDq 3 2 4 [(11,.agg #[vI y.1,vI y.2])] [] 341 (.agg #[vI y.1,vI y.2]) (fc (ix 378 cap ah (gl hy)) (fc (la0 341 hM ai) f0)) hM fun ac w1 hM=>aAw 4 4 16 [(13,vI y.1),(15,vI y.2)] (fc (aEl 341 2 .i64 ac 0 0 (by decide)) (fc (ldm 3 0 0 hM rfl rfl) (fc (aEl 341 2 .i64 ac 0 1 (by decide)) (fc (ldm 3 0 1 hM rfl rfl) f0)))) hM (aGI y.1 y.2 _) fun w1 hM=>seg 5 2 [(5,vI (aCe y.1 y.2)),(18,vB (!((aCe y.1 y.2)==0)))] f0 ?_;cases ad:((aCe y.1 y.2)==0)
   ·exact rt1 2 (vI (aCe y.1 y.2)) rfl f0 (hZ _ _ ⟨by rw [hr,gd hy,aCm,ad];rfl,hM.fr⟩)
   refine seg 2 0 [(8,vI ((i:Int)+1))] (fc (aA8 (i:Int) 1 u3_) f0) (aAj _ (af _ (by have:=gl hy;omega) (i+1) _ (gl hy) (by rw [hr,gd hy,aCm,ad];rfl) (hM.pick []) rfl))
  exact aAj _ (ae _ 0 _ (Gg_ _) rfl hM rfl)
theorem aAD (a b:Pt) (w:World):Calls Tryz.prog 212 #[.agg #[vI a.1,vI a.2],.agg #[vI b.1,vI b.2]] w fun e w'=>e = .returned (vI (aB6 a b)) /\ Fr nF_ w w':=by
  refine beg Tryz.func212 rfl rfl [(0,.agg #[vI a.1,vI a.2]),(1,.agg #[vI b.1,vI b.2])] rfl rfl fun Z hZ=>?_;have hM:=Mm.nil nF_ w;refine aA1 0 0 2 [] (cs:=#[vI a.1,vI a.2]) (T:=29) (v:=fun b=>vP b 0) f0 hM fun ab w1 hM=>aA1 0 1 3 [] (cs:=#[vI b.1,vI b.2]) (T:=29) (v:=fun b=>vP b 0) f0 hM fun ac w1 hM=>aA1 1 10 15 [(9,.agg #[vI a.1,vI b.1]),(14,.agg #[vI a.2,vI b.2])] (cs:=#[vI a.1,vI b.1,vI a.2,vI b.2]) (T:=341) (v:=fun b=>vL (some ⟨b,0,none⟩) 2 2) (fc (ldm 3 0 0 hM rfl rfl) (fc (ldm 3 1 0 hM rfl rfl) (fc (ldm 3 0 1 hM rfl rfl) (fc (ldm 3 1 1 hM rfl rfl) f0)))) hM fun aa w1 hM=>aAw 1 11 16 [] f0 hM (aJ9 (L:=[(a.1,b.1),(a.2,b.2)]) (aBO (f:=ptL) (c:=2) (b:=aa) (hM.get 2 rfl) [(a.1,b.1),(a.2,b.2)] 2 (fun _=>rfl) rfl rfl)) fun w1 hM=>rt1 4 (vI (aB6 a b)) rfl f0 (hZ _ _ ⟨rfl,hM.fr⟩)
def aBn (a b:Pt):Bool:=(a.1==b.1)&&(a.2==b.2)
def aGx (s t:Pt×Pt):Bool:=aBn s.1 t.1&&aBn s.2 t.2
theorem aPE (a b c d:Int) (w:World):(Go.binOp .neq 29 (.agg #[vI a,vI b]) (.agg #[vI c,vI d])).run Tryz.prog w = .ok (.bool (!((a==c)&&(b==d)))) w:=by
  have u3:=u3_;have hS:Tryz.prog.underlying 29=some (.struct (Tryz.prog.fieldsOf 29)):=by kernel_rfl
  have hp:Tryz.prog.stoodInHeld 29=false:=by kernel_rfl
  rw [run_neq_struct,show (10000:Nat)=9999+1 from rfl,run_equalIn_agg w 9999 29 _ _ hS hp];simp only [Program.fieldsOf,u29_]
  go_simp
  by_cases h1:a=c<;>by_cases h2:b=d<;>simp [h1,h2]
theorem aXb (a b c d:Int) {w:World}:Ft.ok Tryz.prog w (.g2 (fun x y => .binOp .neq 29 x y 29) (.agg #[vI a,vI b]) (.agg #[vI c,vI d]) (vB (!((a==c)&&(b==d))))):=fun o ρ x y ho hx hy=>by
  have hm:Tryz.prog.eqGuardType Tryz.prog.depth 29=false:=by kernel_rfl
  simp only [execOp,ho,hx,hy,Sem.run_bind,run_eqGuard_agg w _ 29 _ _ _ _ hm,Result.andThen_ok,aPE,Sem.run_pure]
theorem aRb (d:Nat) (p q:Pt) (w:World):(Op.equalIn (d+2) 29 (.agg #[vI p.1,vI p.2]) (.agg #[vI q.1,vI q.2])).run Tryz.prog w = .ok (decide (p=q)) w:=by
  have u3:=u3_;have hS:Tryz.prog.underlying 29=some (.struct (Tryz.prog.fieldsOf 29)):=by kernel_rfl
  have hp:Tryz.prog.stoodInHeld 29=false:=by kernel_rfl
  rw [run_equalIn_agg w (d+1) 29 _ _ hS hp];simp only [Program.fieldsOf,u29_]
  go_simp
  obtain ⟨a,b⟩:=p;obtain ⟨c,d⟩:=q
  by_cases h1:a=c<;>by_cases h2:b=d<;>simp [h1,h2]
theorem aUp (d:Nat) (p q:Pt×Pt) (w:World):(Op.equalIn (d+3) 126 (.agg #[vI p.1.1,vI p.1.2,vI p.2.1,vI p.2.2]) (.agg #[vI q.1.1,vI q.1.2,vI q.2.1,vI q.2.2])).run Tryz.prog w = .ok (decide (p=q)) w:=by
  have hS:Tryz.prog.underlying 126=some (.struct (Tryz.prog.fieldsOf 126)):=by kernel_rfl
  have hp:Tryz.prog.stoodInHeld 126=false:=by kernel_rfl
  have a32:=Tryz.isAgg29;have z32:=Tryz.sizeOf29;rw [run_equalIn_agg w (d+2) 126 _ _ hS hp];simp only [Program.fieldsOf,Tryz.underlying126,Op.eqFields,Go.part,Sem.run_bind,a32,z32,Result.andThen_ok];have h1:=aRb d p.1 q.1 w;have h2:=aRb d p.2 q.2 w;obtain ⟨p1,p2⟩:=p;obtain ⟨q1,q2⟩:=q;simp only at h1 h2;have e1:∀ u v:Pt,(#[vI u.1,vI u.2,vI v.1,vI v.2]:Array Value).extract 0 (0+2)=#[vI u.1,vI u.2]:=fun _ _=>rfl;have e2:∀ u v:Pt,(#[vI u.1,vI u.2,vI v.1,vI v.2]:Array Value).extract 2 (2+2)=#[vI v.1,vI v.2]:=fun _ _=>rfl;have n1:("A" ≠ "_")=True:=by decide
  have n2:("B" ≠ "_")=True:=by decide
  simp only [n1,n2,if_true,Sem.run_bind,a32,z32,Result.andThen_ok,Sem.run_pure,e1,e2,h1]
  by_cases k1:p1=q1
  · simp only [k1,decide_true,Bool.not_true,Bool.false_eq_true,if_false,Sem.run_bind,a32,z32,Result.andThen_ok,if_true,Sem.run_pure,e2,h2]
    by_cases k2:p2=q2<;>simp [k2]
  · simp [k1]
theorem aNX (p q:Pt×Pt):decide (p=q)=aGx p q:=by
  obtain ⟨⟨a,b⟩,c,d⟩:=p;obtain ⟨⟨x,y⟩,u,v⟩:=q;unfold aGx aBn
  by_cases h1:a=x<;>by_cases h2:b=y<;>by_cases h3:c=u<;>by_cases h4:d=v<;>simp [h1,h2,h3,h4]
theorem aQb (s t:Pt×Pt) (w:World):(Go.binOp .eql 126 (.agg #[vI s.1.1,vI s.1.2,vI s.2.1,vI s.2.2]) (.agg #[vI t.1.1,vI t.1.2,vI t.2.1,vI t.2.2])).run Tryz.prog w = .ok (.bool (aGx s t)) w:=by
  rw [run_eql_struct,show (10000:Nat)=9997+3 from rfl,aUp,aNX];rfl
theorem aXC (s t:Pt×Pt) {w:World}:Ft.ok Tryz.prog w (.g2 (fun x y => .binOp .eql 126 x y 126) (.agg #[vI s.1.1,vI s.1.2,vI s.2.1,vI s.2.2]) (.agg #[vI t.1.1,vI t.1.2,vI t.2.1,vI t.2.2]) (vB (aGx s t))):=fun o ρ x y ho hx hy=>by
  have hm:Tryz.prog.eqGuardType Tryz.prog.depth 126=false:=by kernel_rfl
  simp only [execOp,ho,hx,hy,Sem.run_bind,run_eqGuard_agg w _ 126 _ _ _ _ hm,Result.andThen_ok,aQb,Sem.run_pure]
def aAd (s:Pt×Pt):Pt×Pt:=bif decide (0<aB6 s.1 s.2) then (s.2,s.1) else s
def onS (s:Pt×Pt) (p:Pt):Bool:=(orP s.1 s.2 p==0)&&decide (aB6 s.1 p<=0)&&decide (aB6 p s.2<=0)&&(!(aBn s.1 s.2)||aBn p s.1)
def onP (s:Pt×Pt) (p:Pt):Bool:=[s.1,s.2,p].all aA7&&onS (aAd s) p
def aEW (s t:Pt×Pt):Pt:=bif decide (0<aB6 t.1 s.1) then t.1 else s.1
def aBY (s t:Pt×Pt):Pt:=bif decide (aB6 t.2 s.2<0) then t.2 else s.2
def aFp (s t:Pt×Pt):Int :=
  bif aBn s.1 s.2 then bif !(onP t s.1) then 0 else bif aBn s.1 t.1||aBn s.1 t.2 then 1 else 2
  else bif aB6 (aEW s t) (aBY s t) == -1 then 5 else bif aB6 (aEW s t) (aBY s t)==0 then 1 else 0
def aEV (s t:Pt×Pt):Int:=bif aBn t.1 t.2 then aFp t s else aFp s t
def aCj (s t:Pt×Pt):Int :=
  bif aGx s t then 4
  else bif aBn s.1 s.2||aBn t.1 t.2||((orP s.1 s.2 t.1==0)&&(orP s.1 s.2 t.2==0)) then aEV s t
  else bif decide (0<orP s.1 s.2 t.1*orP s.1 s.2 t.2)||decide (0<orP t.1 t.2 s.1*orP t.1 t.2 s.2) then 0
  else bif decide (orP s.1 s.2 t.1*orP s.1 s.2 t.2<0)&&decide (orP t.1 t.2 s.1*orP t.1 t.2 s.2<0) then 3
  else bif (orP s.1 s.2 t.1*orP s.1 s.2 t.2==0)&&(orP t.1 t.2 s.1*orP t.1 t.2 s.2==0) then 1 else 2
def aAX (s t:Pt×Pt):Int:=bif !([s.1,s.2,t.1,t.2].all aA7) then 0 else aCj (aAd s) (aAd t)
theorem aQl (x y:Int) : -1<=aCe x y /\ aCe x y<=1:=by unfold aCe;split<;>first | omega | (split<;>omega)
theorem aNi (a b c:Pt) : -1<=orP a b c /\ orP a b c<=1:=by
  unfold orP
  cases [a,b,c].all aA7 with
  | true=>exact aQl _ _
  | false=>simp
theorem aHo (a b c d e f:Pt) : -17592186044416<=orP a b c*orP d e f /\ orP a b c*orP d e f<=17592186044416:=by
  have h1:=aNi a b c;have h2:=aNi d e f;exact aC3 (by omega) (by omega) (by omega) (by omega)
theorem aDc (s:Pt×Pt) (w:World):Calls Tryz.prog 154 #[.agg #[vI s.1.1,vI s.1.2,vI s.2.1,vI s.2.2]] w fun e w'=>e = .returned (vA (sgL (aAd s))) /\ Fr nF_ w w':=by
  refine beg Tryz.func154 rfl rfl [(0,.agg #[vI s.1.1,vI s.1.2,vI s.2.1,vI s.2.2])] rfl rfl fun Z hZ=>?_;have hM:=Mm.nil nF_ w;refine aA1 0 0 1 [] (cs:=#[vI s.1.1,vI s.1.2,vI s.2.1,vI s.2.2]) (T:=126) (v:=fun b=>vP b 0) f0 hM fun aa w1 hM=>aA1 0 1 2 [] (cs:=#[vI 0,vI 0,vI 0,vI 0]) (T:=126) (v:=fun b=>vP b 0) f0 hM fun ab w1 hM=>aAw 1 4 7 [(4,.agg #[vI s.1.1,vI s.1.2]),(6,.agg #[vI s.2.1,vI s.2.2])] (fc (lam 29 0 0 2 hM rfl) (fc (lam 29 0 2 2 hM rfl) f0)) hM (aAD s.1 s.2 _) fun w1 hM=>seg 1 6 [(8,vB (decide (0<(aB6 s.1 s.2))))] f0 ?_;cases h94:(decide (0<(aB6 s.1 s.2)))
  ·refine stm 3 1 [(15,.agg #[vI s.1.1,vI s.1.2,vI s.2.1,vI s.2.2])] 126 1 0 (.agg #[vI s.1.1,vI s.1.2,vI s.2.1,vI s.2.2]) (fc (lam 126 0 0 4 hM rfl) f0) hM rfl fun w1 hM=>?_;have hl9:=aBW 126 1 (P:=Tryz.prog) (n:=4) hM rfl rfl;exact aVv 2 126 (vA (sgL (aAd s))) rfl (by unfold aAd;rw [h94];exact hl9) f0 (hZ _ _ ⟨rfl,hM.fr⟩)
  refine stm 2 5 [(10,.agg #[vI s.2.1,vI s.2.2]),(12,.agg #[vI s.1.1,vI s.1.2]),(13,vP aa 0)] 29 0 0 (.agg #[vI s.2.1,vI s.2.2]) (fc (lam 29 0 2 2 hM rfl) (fc (lam 29 0 0 2 hM rfl) f0)) hM rfl fun w1 hM=>stm 2 7 [(14,vP aa 2)] 29 0 2 (.agg #[vI s.1.1,vI s.1.2]) f0 hM rfl fun w1 hM=>stm 3 1 [(15,.agg #[vI s.2.1,vI s.2.2,vI s.1.1,vI s.1.2])] 126 1 0 (.agg #[vI s.2.1,vI s.2.2,vI s.1.1,vI s.1.2]) (fc (lam 126 0 0 4 hM rfl) f0) hM rfl fun w1 hM=>?_;have hl9:=aBW 126 1 (P:=Tryz.prog) (n:=4) hM rfl rfl;exact aVv 2 126 (vA (sgL (aAd s))) rfl (by unfold aAd;rw [h94];exact hl9) f0 (hZ _ _ ⟨rfl,hM.fr⟩)
theorem aFQ (s:Pt×Pt) (p:Pt) (w:World):Calls Tryz.prog 213 #[.agg #[vI s.1.1,vI s.1.2,vI s.2.1,vI s.2.2],.agg #[vI p.1,vI p.2]] w fun e w'=>e = .returned (vB (onP s p)) /\ Fr nF_ w w':=by
  refine beg Tryz.func213 rfl rfl [(0,.agg #[vI s.1.1,vI s.1.2,vI s.2.1,vI s.2.2]),(1,.agg #[vI p.1,vI p.2])] rfl rfl fun Z hZ=>?_;have hM:=Mm.nil nF_ w;refine aA1 0 0 2 [] (cs:=#[vI s.1.1,vI s.1.2,vI s.2.1,vI s.2.2]) (T:=126) (v:=fun b=>vP b 0) f0 hM fun ae w1 hM=>aA1 0 1 3 [] (cs:=#[vI p.1,vI p.2]) (T:=29) (v:=fun b=>vP b 0) f0 hM fun af w1 hM=>aA1 1 5 10 [(6,.agg #[vI s.1.1,vI s.1.2]),(8,.agg #[vI s.2.1,vI s.2.2]),(9,.agg #[vI p.1,vI p.2])] (cs:=#[vI s.1.1,vI s.1.2,vI s.2.1,vI s.2.2,vI p.1,vI p.2]) (T:=29) (v:=fun b=>vL (some ⟨b,0,none⟩) 3 3) (fc (lam 29 0 0 2 hM rfl) (fc (lam 29 0 2 2 hM rfl) (fc (lam 29 1 0 2 hM rfl) f0))) hM fun ad w1 hM=>aAw 1 6 11 [] f0 hM (aCS (L:=[s.1,s.2,p]) (aBO (f:=ptL) (c:=2) (b:=ad) (hM.get 2 rfl) [s.1,s.2,p] 3 (fun _=>rfl) rfl rfl)) fun w1 hM=>seg 1 8 [(12,vB (!([s.1,s.2,p].all aA7)))] f0 ?_;cases h98:([s.1,s.2,p].all aA7)
  ·exact rt1 4 (vB false) rfl f0 (hZ _ _ ⟨by unfold onP onS;simp only [h98]<;>rfl,hM.fr⟩)
  refine aAw 3 1 14 [(13,.agg #[vI s.1.1,vI s.1.2,vI s.2.1,vI s.2.2])] (fc (lam 126 0 0 4 hM rfl) f0) hM (aDc s _) fun w1 hM=>stm 3 2 [] 126 0 0 (.agg #[vI (aAd s).1.1,vI (aAd s).1.2,vI (aAd s).2.1,vI (aAd s).2.2]) f0 hM rfl fun w1 hM=>aAw 4 5 20 [(16,.agg #[vI (aAd s).1.1,vI (aAd s).1.2]),(18,.agg #[vI (aAd s).2.1,vI (aAd s).2.2]),(19,.agg #[vI p.1,vI p.2])] (fc (lam 29 0 0 2 hM rfl) (fc (lam 29 0 2 2 hM rfl) (fc (lam 29 1 0 2 hM rfl) f0))) hM (aAG (aAd s).1 (aAd s).2 p _) fun w1 hM=>seg 4 8 [(22,vB ((orP (aAd s).1 (aAd s).2 p)==0))] f0 ?_;cases h99:((orP (aAd s).1 (aAd s).2 p)==0)
  ·exact rt1 4 (vB false) rfl f0 (hZ _ _ ⟨by unfold onP onS;simp only [h98,h99]<;>rfl,hM.fr⟩)
  refine aAw 4 11 26 [(24,.agg #[vI (aAd s).1.1,vI (aAd s).1.2]),(25,.agg #[vI p.1,vI p.2])] (fc (lam 29 0 0 2 hM rfl) (fc (lam 29 1 0 2 hM rfl) f0)) hM (aAD (aAd s).1 p _) fun w1 hM=>seg 4 15 [(29,vB (decide ((aB6 (aAd s).1 p)<=0)))] f0 ?_;cases aa:(decide ((aB6 (aAd s).1 p)<=0))
  ·exact rt1 4 (vB false) rfl f0 (hZ _ _ ⟨by unfold onP onS;simp only [h98,h99,aa]<;>rfl,hM.fr⟩)
  refine aAw 4 18 33 [(30,.agg #[vI p.1,vI p.2]),(32,.agg #[vI (aAd s).2.1,vI (aAd s).2.2])] (fc (lam 29 1 0 2 hM rfl) (fc (lam 29 0 2 2 hM rfl) f0)) hM (aAD p (aAd s).2 _) fun w1 hM=>seg 4 22 [(36,vB (decide ((aB6 p (aAd s).2)<=0)))] f0 ?_;cases ab:(decide ((aB6 p (aAd s).2)<=0))
  ·exact rt1 4 (vB false) rfl f0 (hZ _ _ ⟨by unfold onP onS;simp only [h98,h99,aa,ab]<;>rfl,hM.fr⟩)
  refine seg 4 28 [(42,vB (!(aBn (aAd s).1 (aAd s).2)))] (fc (lam 29 0 0 2 hM rfl) (fc (lam 29 0 2 2 hM rfl) (fc (aXb (aAd s).1.1 (aAd s).1.2 (aAd s).2.1 (aAd s).2.2) f0))) ?_;cases ac:(aBn (aAd s).1 (aAd s).2)
  ·exact rt1 4 (vB true) rfl f0 (hZ _ _ ⟨by unfold onP onS;simp only [h98,h99,aa,ab,ac]<;>rfl,hM.fr⟩)
  exact rt1 4 (vB (aBn p (aAd s).1)) rfl (fc (lam 29 1 0 2 hM rfl) (fc (lam 29 0 0 2 hM rfl) (fc (aIQ p.1 p.2 (aAd s).1.1 (aAd s).1.2) f0))) (hZ _ _ ⟨by unfold onP onS;simp only [h98,h99,aa,ab,ac]<;>rfl,hM.fr⟩)
end Go.Proofs.YtngjlnhojicjeaaGreatDoor
namespace Go.Pl
open Go.RowKit Go.Proofs.YtngjlnhojicjeaaGreatDoor
section
variable {P:Program}{w w0:World}{rd:Option Nat}{B:Code}{r n:Nat}{L:Frm}{ef:List Nat}{V:Lts->List (Option Value)}{F:Lts->List Ft}{ds:List Deferred}{F0:Nat->Prop}{Mf:Lts->List Bool->List Ent}
end
section
variable {P:Program}{w w0:World}{rd:Option Nat}{B:Code}{r n:Nat}{L:Frm}{ef:List Nat}{V:Lts->List (Option Value)}{F:Lts->List Ft}{ds:List Deferred}{F0:Nat->Prop}{Mf:Lts->List Bool->List Ent}
theorem aRo (p i:Nat) (T:TypeId) (j k m d:Nat) (b:Lts->Nat) (cs:Lts->List Bool->Array Value) (T0:TypeId) (us:Lts->List Value)
  (hj:∀ γ fr,(Mf γ (flg B r ef i fr))[j]?=some (bk (b γ) (cs γ (flg B r ef i fr)) T0):=by intro γ fr;kernel_rfl) (hv:∀ γ fr,((cs γ (flg B r ef i fr)).toList.drop k).take m=us γ:=by intro γ fr;kernel_rfl)
  (hm:∀ γ fr,Mf γ (flg B r ef i fr)=Mf (aCd γ p undef) ((flg B r ef i fr).set p true):=by intro γ fr;kernel_rfl)
  (hV:∀ γ,((V (aCd γ p undef))[p]?).getD none=some (vA (us γ)):=by intro γ;rfl) (hT:∀ γ,agT P T (us γ).length=true:=by intro γ;kernel_rfl)
  (hs:∀ γ,aTu (aAI B r) i (frX P w n B r L ef V F i γ)=aTt (aAI B r) i (.load T) (vP (b γ) k) (some d):=by intro γ;kernel_rfl):Arm rd P w n B r L ef V F ds F0 w0 Mf p i:=by
 intro γ fr a wm Q o ho E hw hM;obtain ⟨x,h1,h2,h3⟩:=aM2 ho E (hs γ)
 have hl:=aFD (P:=P) (w:=wm) (T:=T) (g:=b γ) (off:=k) (l:=us γ) (hT γ) (fun e u hu=>by
  rw [←hv γ fr] at hu;rw [aAk (hM.get j (hj γ fr))];have hi:=(List.getElem?_eq_some_iff.1 hu).1;rw [Gq_] at hi;rw [List.getElem?_take_of_lt (by omega),List.getElem?_drop,Array.getElem?_toList] at hu;exact hu)
 rw [hm] at hM;refine aDD (v:=vA (us γ)) (w':=wm) ?_ ⟨undef,γ.e p,by rw [aA6,hV,h3];rfl,by rw [aA6];exact hM⟩;simp only [execOp,h1,h2,Sem.run_bind,hl,Result.andThen_ok,Sem.run_pure]
end
end Go.Pl
namespace Go.Proofs.YtngjlnhojicjeaaGreatDoor
open Go.RowKit Go.Pl
theorem aD6 (s t:Pt×Pt) (w:World):Calls Tryz.prog 156 #[.agg #[vI s.1.1,vI s.1.2,vI s.2.1,vI s.2.2],.agg #[vI t.1.1,vI t.1.2,vI t.2.1,vI t.2.2]] w fun e w'=>e = .returned (vI (aEV s t)) /\ Fr nF_ w w':=by
  refine beg Tryz.func156 rfl rfl [(0,.agg #[vI s.1.1,vI s.1.2,vI s.2.1,vI s.2.2]),(1,.agg #[vI t.1.1,vI t.1.2,vI t.2.1,vI t.2.2])] rfl rfl fun Y hY=>?_;have hM:=Mm.nil nF_ w;refine aA1 0 0 2 [] (cs:=#[vI s.1.1,vI s.1.2,vI s.2.1,vI s.2.2]) (T:=126) (v:=fun b=>vP b 0) f0 hM fun an w1 hM=>aA1 0 1 3 [] (cs:=#[vI t.1.1,vI t.1.2,vI t.2.1,vI t.2.2]) (T:=126) (v:=fun b=>vP b 0) f0 hM fun ao w1 hM=>seg 1 5 [(11,vB (aBn t.1 t.2))] (fc (lam 29 1 0 2 hM rfl) (fc (lam 29 1 2 2 hM rfl) (fc (aIQ t.1.1 t.1.2 t.2.1 t.2.2) f0))) ?_;cases aa:(aBn t.1 t.2)
  rotate_left
  ·refine stm 2 2 [(12,.agg #[vI t.1.1,vI t.1.2,vI t.2.1,vI t.2.2]),(13,.agg #[vI s.1.1,vI s.1.2,vI s.2.1,vI s.2.2])] 126 0 0 (.agg #[vI t.1.1,vI t.1.2,vI t.2.1,vI t.2.2]) (fc (lam 126 1 0 4 hM rfl) (fc (lam 126 0 0 4 hM rfl) f0)) hM rfl fun w1 hM=>stm 2 3 [] 126 1 0 (.agg #[vI s.1.1,vI s.1.2,vI s.2.1,vI s.2.2]) f0 hM rfl fun w1 hM=>aAw 4 3 23 [(20,.agg #[vI s.1.1,vI s.1.2,vI s.2.1,vI s.2.2]),(22,.agg #[vI t.1.1,vI t.1.2])] (fc (lam 29 0 0 2 hM rfl) (fc (lam 29 0 2 2 hM rfl) (fc (rz (aIQ t.1.1 t.1.2 t.2.1 t.2.2) aa) (fc (lam 126 1 0 4 hM rfl) (fc (lam 29 0 0 2 hM rfl) f0))))) hM (aFQ s t.1 _) fun w1 hM=>seg 4 6 [(19,vB (!(onP s t.1)))] f0 ?_;cases af:(onP s t.1)
   ·exact rt1 4 (vI 0) rfl f0 (hY _ _ ⟨by unfold aEV aFp aEW aBY;simp only [aa,af,bs_]<;>rfl,hM.fr⟩)
   refine seg 6 6 [(31,vB (aBn t.1 s.1))] (fc (lam 29 0 0 2 hM rfl) (fc (lam 29 1 0 2 hM rfl) (fc (aIQ t.1.1 t.1.2 s.1.1 s.1.2) f0))) ?_;cases ah:(aBn t.1 s.1)
   rotate_left
   ·exact rt1 4 (vI 1) rfl f0 (hY _ _ ⟨by unfold aEV aFp aEW aBY;simp only [aa,af,ah,bs_]<;>rfl,hM.fr⟩)
   refine seg 6 13 [(25,vB (aBn t.1 s.2))] (fc (lam 29 0 0 2 hM rfl) (fc (lam 29 1 2 2 hM rfl) (fc (aIQ t.1.1 t.1.2 s.2.1 s.2.2) f0))) ?_;cases ap:(aBn t.1 s.2)
   ·exact rt1 4 (vI 2) rfl f0 (hY _ _ ⟨by unfold aEV aFp aEW aBY;simp only [aa,af,ah,ap,bs_]<;>rfl,hM.fr⟩)
   exact rt1 4 (vI 1) rfl f0 (hY _ _ ⟨by unfold aEV aFp aEW aBY;simp only [aa,af,ah,ap,bs_]<;>rfl,hM.fr⟩)
  refine seg 3 5 [(18,vB (aBn s.1 s.2))] (fc (lam 29 0 0 2 hM rfl) (fc (lam 29 0 2 2 hM rfl) (fc (aIQ s.1.1 s.1.2 s.2.1 s.2.2) f0))) ?_;cases ab:(aBn s.1 s.2)
  rotate_left
  ·refine aAw 4 3 23 [(20,.agg #[vI t.1.1,vI t.1.2,vI t.2.1,vI t.2.2]),(22,.agg #[vI s.1.1,vI s.1.2])] (fc (lam 126 1 0 4 hM rfl) (fc (lam 29 0 0 2 hM rfl) f0)) hM (aFQ t s.1 _) fun w1 hM=>seg 4 6 [(19,vB (!(onP t s.1)))] f0 ?_;cases ag:(onP t s.1)
   ·exact rt1 4 (vI 0) rfl f0 (hY _ _ ⟨by unfold aEV aFp aEW aBY;simp only [aa,ab,ag,bs_]<;>rfl,hM.fr⟩)
   refine seg 6 6 [(31,vB (aBn s.1 t.1))] (fc (lam 29 0 0 2 hM rfl) (fc (lam 29 1 0 2 hM rfl) (fc (aIQ s.1.1 s.1.2 t.1.1 t.1.2) f0))) ?_;cases ai:(aBn s.1 t.1)
   rotate_left
   ·exact rt1 4 (vI 1) rfl f0 (hY _ _ ⟨by unfold aEV aFp aEW aBY;simp only [aa,ab,ag,ai,bs_]<;>rfl,hM.fr⟩)
   refine seg 6 13 [(25,vB (aBn s.1 t.2))] (fc (lam 29 0 0 2 hM rfl) (fc (lam 29 1 2 2 hM rfl) (fc (aIQ s.1.1 s.1.2 t.2.1 t.2.2) f0))) ?_;cases aq:(aBn s.1 t.2)
   ·exact rt1 4 (vI 2) rfl f0 (hY _ _ ⟨by unfold aEV aFp aEW aBY;simp only [aa,ab,ag,ai,aq,bs_]<;>rfl,hM.fr⟩)
   exact rt1 4 (vI 1) rfl f0 (hY _ _ ⟨by unfold aEV aFp aEW aBY;simp only [aa,ab,ag,ai,aq,bs_]<;>rfl,hM.fr⟩)
  refine seg 9 0 [] f0 ?_;have hM:=hM.nl;have hM:=hM.nl;refine drx [4,5,6,7] (fun Z=>[some (vP (bn (Z 0)) 0),some (vP (bn (Z 1)) 0),none,none]) _ (fun Z l=>[bk an #[vI s.1.1,vI s.1.2,vI s.2.1,vI s.2.2] 126,bk ao #[vI t.1.1,vI t.1.2,vI t.2.1,vI t.2.2] 126,(bif l.getD 2 false then bk (bn (Z 0)) #[vI s.1.1,vI s.1.2] 29 else (bif l.getD 0 false then bk (bn (Z 0)) #[vI 0,vI 0] 29 else aEk)),(bif l.getD 3 false then bk (bn (Z 1)) #[vI s.2.1,vI s.2.2] 29 else (bif l.getD 1 false then bk (bn (Z 1)) #[vI 0,vI 0] 29 else aEk))]) (fun Z=>[(5,vP (bn (Z 0)) 0),(6,vP (bn (Z 1)) 0)]) hM (fun Z=>rfl) (fun Z l w5 hM=>(fc (lam 29 0 0 2 hM rfl) (fc (lam 29 0 2 2 hM rfl) f0))) ⟨aCZ 0 4 2 5 (fun Z=>#[vI 0,vI 0]) 29 (fun b=>vP b 0),aCZ 1 5 3 6 (fun Z=>#[vI 0,vI 0]) 29 (fun b=>vP b 0),aBd 2 6 29 2 0 (fun Z=>(bn (Z 0))) (fun Z l=>#[vI 0,vI 0]) 29 (fun Z => .agg #[vI s.1.1,vI s.1.2]),aBd 3 7 29 3 0 (fun Z=>(bn (Z 1))) (fun Z l=>#[vI 0,vI 0]) 29 (fun Z => .agg #[vI s.2.1,vI s.2.2]),trivial⟩ fun ar w1 hM=>?_;replace hM:Mm nF_ w w1 [bk an #[vI s.1.1,vI s.1.2,vI s.2.1,vI s.2.2] 126,bk ao #[vI t.1.1,vI t.1.2,vI t.2.1,vI t.2.2] 126,bk (bn (ar 0)) #[vI s.1.1,vI s.1.2] 29,bk (bn (ar 1)) #[vI s.2.1,vI s.2.2] 29]:=hM;refine aAw 10 3 45 [(43,.agg #[vI t.1.1,vI t.1.2]),(44,.agg #[vI s.1.1,vI s.1.2])] (fc (lam 29 1 0 2 hM rfl) (fc (lam 29 2 0 2 hM rfl) f0)) hM (aAD t.1 s.1 _) fun w1 hM=>seg 10 5 [(46,vB (decide (0<(aB6 t.1 s.1))))] f0 ?_;cases ac:(decide (0<(aB6 t.1 s.1)))
  ·refine aAw 12 3 52 [(50,.agg #[vI t.2.1,vI t.2.2]),(51,.agg #[vI s.2.1,vI s.2.2])] (fc (lam 29 1 2 2 hM rfl) (fc (lam 29 3 0 2 hM rfl) f0)) hM (aAD t.2 s.2 _) fun w1 hM=>seg 12 5 [(53,vB (decide ((aB6 t.2 s.2)<0)))] f0 ?_;cases ad:(decide ((aB6 t.2 s.2)<0))
   ·refine aAw 14 2 58 [(56,.agg #[vI s.1.1,vI s.1.2]),(57,.agg #[vI s.2.1,vI s.2.2])] (fc (lam 29 2 0 2 hM rfl) (fc (lam 29 3 0 2 hM rfl) f0)) hM (aAD s.1 s.2 _) fun w1 hM=>seg 15 2 [(59,vB ((aB6 s.1 s.2)==(-1)))] f0 ?_;cases aj:((aB6 s.1 s.2)==(-1))
    rotate_left
    ·exact rt1 4 (vI 5) rfl f0 (hY _ _ ⟨by unfold aEV aFp aEW aBY;simp only [aa,ab,ac,ad,aj,bs_]<;>rfl,hM.fr⟩)
    refine seg 17 2 [(61,vB ((aB6 s.1 s.2)==0))] f0 ?_;cases au:((aB6 s.1 s.2)==0)
    ·exact rt1 4 (vI 0) rfl f0 (hY _ _ ⟨by unfold aEV aFp aEW aBY;simp only [aa,ab,ac,ad,aj,au,bs_]<;>rfl,hM.fr⟩)
    exact rt1 4 (vI 1) rfl f0 (hY _ _ ⟨by unfold aEV aFp aEW aBY;simp only [aa,ab,ac,ad,aj,au,bs_]<;>rfl,hM.fr⟩)
   refine stm 13 2 [(55,.agg #[vI t.2.1,vI t.2.2])] 29 3 0 (.agg #[vI t.2.1,vI t.2.2]) (fc (lam 29 1 2 2 hM rfl) f0) hM rfl fun w1 hM=>aAw 14 2 58 [(56,.agg #[vI s.1.1,vI s.1.2]),(57,.agg #[vI t.2.1,vI t.2.2])] (fc (lam 29 2 0 2 hM rfl) (fc (lam 29 3 0 2 hM rfl) f0)) hM (aAD s.1 t.2 _) fun w1 hM=>seg 15 2 [(59,vB ((aB6 s.1 t.2)==(-1)))] f0 ?_;cases ak:((aB6 s.1 t.2)==(-1))
   rotate_left
   ·exact rt1 4 (vI 5) rfl f0 (hY _ _ ⟨by unfold aEV aFp aEW aBY;simp only [aa,ab,ac,ad,ak,bs_]<;>rfl,hM.fr⟩)
   refine seg 17 2 [(61,vB ((aB6 s.1 t.2)==0))] f0 ?_;cases av:((aB6 s.1 t.2)==0)
   ·exact rt1 4 (vI 0) rfl f0 (hY _ _ ⟨by unfold aEV aFp aEW aBY;simp only [aa,ab,ac,ad,ak,av,bs_]<;>rfl,hM.fr⟩)
   exact rt1 4 (vI 1) rfl f0 (hY _ _ ⟨by unfold aEV aFp aEW aBY;simp only [aa,ab,ac,ad,ak,av,bs_]<;>rfl,hM.fr⟩)
  refine stm 11 2 [(48,.agg #[vI t.1.1,vI t.1.2])] 29 2 0 (.agg #[vI t.1.1,vI t.1.2]) (fc (lam 29 1 0 2 hM rfl) f0) hM rfl fun w1 hM=>aAw 12 3 52 [(50,.agg #[vI t.2.1,vI t.2.2]),(51,.agg #[vI s.2.1,vI s.2.2])] (fc (lam 29 1 2 2 hM rfl) (fc (lam 29 3 0 2 hM rfl) f0)) hM (aAD t.2 s.2 _) fun w1 hM=>seg 12 5 [(53,vB (decide ((aB6 t.2 s.2)<0)))] f0 ?_;cases ae:(decide ((aB6 t.2 s.2)<0))
  ·refine aAw 14 2 58 [(56,.agg #[vI t.1.1,vI t.1.2]),(57,.agg #[vI s.2.1,vI s.2.2])] (fc (lam 29 2 0 2 hM rfl) (fc (lam 29 3 0 2 hM rfl) f0)) hM (aAD t.1 s.2 _) fun w1 hM=>seg 15 2 [(59,vB ((aB6 t.1 s.2)==(-1)))] f0 ?_;cases al:((aB6 t.1 s.2)==(-1))
   rotate_left
   ·exact rt1 4 (vI 5) rfl f0 (hY _ _ ⟨by unfold aEV aFp aEW aBY;simp only [aa,ab,ac,ae,al,bs_]<;>rfl,hM.fr⟩)
   refine seg 17 2 [(61,vB ((aB6 t.1 s.2)==0))] f0 ?_;cases aw:((aB6 t.1 s.2)==0)
   ·exact rt1 4 (vI 0) rfl f0 (hY _ _ ⟨by unfold aEV aFp aEW aBY;simp only [aa,ab,ac,ae,al,aw,bs_]<;>rfl,hM.fr⟩)
   exact rt1 4 (vI 1) rfl f0 (hY _ _ ⟨by unfold aEV aFp aEW aBY;simp only [aa,ab,ac,ae,al,aw,bs_]<;>rfl,hM.fr⟩)
  refine stm 13 2 [(55,.agg #[vI t.2.1,vI t.2.2])] 29 3 0 (.agg #[vI t.2.1,vI t.2.2]) (fc (lam 29 1 2 2 hM rfl) f0) hM rfl fun w1 hM=>aAw 14 2 58 [(56,.agg #[vI t.1.1,vI t.1.2]),(57,.agg #[vI t.2.1,vI t.2.2])] (fc (lam 29 2 0 2 hM rfl) (fc (lam 29 3 0 2 hM rfl) f0)) hM (aAD t.1 t.2 _) fun w1 hM=>seg 15 2 [(59,vB ((aB6 t.1 t.2)==(-1)))] f0 ?_;cases am:((aB6 t.1 t.2)==(-1))
  rotate_left
  ·exact rt1 4 (vI 5) rfl f0 (hY _ _ ⟨by unfold aEV aFp aEW aBY;simp only [aa,ab,ac,ae,am,bs_]<;>rfl,hM.fr⟩)
  refine seg 17 2 [(61,vB ((aB6 t.1 t.2)==0))] f0 ?_;cases ax:((aB6 t.1 t.2)==0)
  ·exact rt1 4 (vI 0) rfl f0 (hY _ _ ⟨by unfold aEV aFp aEW aBY;simp only [aa,ab,ac,ae,am,ax,bs_]<;>rfl,hM.fr⟩)
  exact rt1 4 (vI 1) rfl f0 (hY _ _ ⟨by unfold aEV aFp aEW aBY;simp only [aa,ab,ac,ae,am,ax,bs_]<;>rfl,hM.fr⟩)
theorem aFU (s t:Pt×Pt) (w:World):Calls Tryz.prog 112 #[.agg #[vI s.1.1,vI s.1.2,vI s.2.1,vI s.2.2],.agg #[vI t.1.1,vI t.1.2,vI t.2.1,vI t.2.2]] w fun e w'=>e = .returned (vI (aAX s t)) /\ Fr nF_ w w':=by
  refine beg Tryz.func112 rfl rfl [(0,.agg #[vI s.1.1,vI s.1.2,vI s.2.1,vI s.2.2]),(1,.agg #[vI t.1.1,vI t.1.2,vI t.2.1,vI t.2.2])] rfl rfl fun Y hY=>?_;have hM:=Mm.nil nF_ w;refine aA1 0 0 2 [] (cs:=#[vI s.1.1,vI s.1.2,vI s.2.1,vI s.2.2]) (T:=126) (v:=fun b=>vP b 0) f0 hM fun ao w1 hM=>aA1 0 1 3 [] (cs:=#[vI t.1.1,vI t.1.2,vI t.2.1,vI t.2.2]) (T:=126) (v:=fun b=>vP b 0) f0 hM fun ap w1 hM=>aA1 1 8 17 [(10,.agg #[vI s.1.1,vI s.1.2]),(12,.agg #[vI s.2.1,vI s.2.2]),(14,.agg #[vI t.1.1,vI t.1.2]),(16,.agg #[vI t.2.1,vI t.2.2])] (cs:=#[vI s.1.1,vI s.1.2,vI s.2.1,vI s.2.2,vI t.1.1,vI t.1.2,vI t.2.1,vI t.2.2]) (T:=29) (v:=fun b=>vL (some ⟨b,0,none⟩) 4 4) (fc (lam 29 0 0 2 hM rfl) (fc (lam 29 0 2 2 hM rfl) (fc (lam 29 1 0 2 hM rfl) (fc (lam 29 1 2 2 hM rfl) f0)))) hM fun au w1 hM=>aAw 1 9 18 [] f0 hM (aCS (L:=[s.1,s.2,t.1,t.2]) (aBO (f:=ptL) (c:=2) (b:=au) (hM.get 2 rfl) [s.1,s.2,t.1,t.2] 4 (fun _=>rfl) rfl rfl)) fun w1 hM=>seg 1 11 [(19,vB (!([s.1,s.2,t.1,t.2].all aA7)))] f0 ?_;cases aa:([s.1,s.2,t.1,t.2].all aA7)
  ·exact rt1 4 (vI 0) rfl f0 (hY _ _ ⟨by unfold aAX aCj;simp only [aa,bs_]<;>rfl,hM.fr⟩)
  refine seg 3 0 [] f0 (drx [0,1,2,3,4,5] (fun Z=>[some (.agg #[vI s.1.1,vI s.1.2,vI s.2.1,vI s.2.2]),some (.agg #[vI (aAd s).1.1,vI (aAd s).1.2,vI (aAd s).2.1,vI (aAd s).2.2]),some (.agg #[vI t.1.1,vI t.1.2,vI t.2.1,vI t.2.2]),some (.agg #[vI (aAd t).1.1,vI (aAd t).1.2,vI (aAd t).2.1,vI (aAd t).2.2]),none,none]) _ (fun Z l=>[bk ao #[(bif l.getD 4 false then vI (aAd s).1.1 else vI s.1.1),(bif l.getD 4 false then vI (aAd s).1.2 else vI s.1.2),(bif l.getD 4 false then vI (aAd s).2.1 else vI s.2.1),(bif l.getD 4 false then vI (aAd s).2.2 else vI s.2.2)] 126,bk ap #[(bif l.getD 5 false then vI (aAd t).1.1 else vI t.1.1),(bif l.getD 5 false then vI (aAd t).1.2 else vI t.1.2),(bif l.getD 5 false then vI (aAd t).2.1 else vI t.2.1),(bif l.getD 5 false then vI (aAd t).2.2 else vI t.2.2)] 126,bk au #[vI s.1.1,vI s.1.2,vI s.2.1,vI s.2.2,vI t.1.1,vI t.1.2,vI t.2.1,vI t.2.2] 29]) (fun Z=>[]) hM (fun Z=>rfl) (fun Z l w5 hM=>f0) ⟨aRo 0 0 126 0 0 4 20 (fun Z=>ao) (fun Z l=>#[(bif l.getD 4 false then vI (aAd s).1.1 else vI s.1.1),(bif l.getD 4 false then vI (aAd s).1.2 else vI s.1.2),(bif l.getD 4 false then vI (aAd s).2.1 else vI s.2.1),(bif l.getD 4 false then vI (aAd s).2.2 else vI s.2.2)]) 126 (fun Z=>[vI s.1.1,vI s.1.2,vI s.2.1,vI s.2.2]),aA0 1 1 21 (f:=154) (fun Z=>#[.agg #[vI s.1.1,vI s.1.2,vI s.2.1,vI s.2.2]]) (.agg #[vI (aAd s).1.1,vI (aAd s).1.2,vI (aAd s).2.1,vI (aAd s).2.2]) (fun Z fr wm hM=>(aDc s _)),aRo 2 2 126 1 0 4 22 (fun Z=>ap) (fun Z l=>#[(bif l.getD 5 false then vI (aAd t).1.1 else vI t.1.1),(bif l.getD 5 false then vI (aAd t).1.2 else vI t.1.2),(bif l.getD 5 false then vI (aAd t).2.1 else vI t.2.1),(bif l.getD 5 false then vI (aAd t).2.2 else vI t.2.2)]) 126 (fun Z=>[vI t.1.1,vI t.1.2,vI t.2.1,vI t.2.2]),aA0 3 3 23 (f:=154) (fun Z=>#[.agg #[vI t.1.1,vI t.1.2,vI t.2.1,vI t.2.2]]) (.agg #[vI (aAd t).1.1,vI (aAd t).1.2,vI (aAd t).2.1,vI (aAd t).2.2]) (fun Z fr wm hM=>(aDc t _)),aBd 4 4 126 0 0 (fun Z=>ao) (fun Z l=>#[(bif l.getD 4 false then vI (aAd s).1.1 else vI s.1.1),(bif l.getD 4 false then vI (aAd s).1.2 else vI s.1.2),(bif l.getD 4 false then vI (aAd s).2.1 else vI s.2.1),(bif l.getD 4 false then vI (aAd s).2.2 else vI s.2.2)]) 126 (fun Z => .agg #[vI (aAd s).1.1,vI (aAd s).1.2,vI (aAd s).2.1,vI (aAd s).2.2]),aBd 5 5 126 1 0 (fun Z=>ap) (fun Z l=>#[(bif l.getD 5 false then vI (aAd t).1.1 else vI t.1.1),(bif l.getD 5 false then vI (aAd t).1.2 else vI t.1.2),(bif l.getD 5 false then vI (aAd t).2.1 else vI t.2.1),(bif l.getD 5 false then vI (aAd t).2.2 else vI t.2.2)]) 126 (fun Z => .agg #[vI (aAd t).1.1,vI (aAd t).1.2,vI (aAd t).2.1,vI (aAd t).2.2]),trivial⟩ fun a9 w1 hM=>?_);replace hM:Mm nF_ w w1 [bk ao #[vI (aAd s).1.1,vI (aAd s).1.2,vI (aAd s).2.1,vI (aAd s).2.2] 126,bk ap #[vI (aAd t).1.1,vI (aAd t).1.2,vI (aAd t).2.1,vI (aAd t).2.2] 126,bk au #[vI s.1.1,vI s.1.2,vI s.2.1,vI s.2.2,vI t.1.1,vI t.1.2,vI t.2.1,vI t.2.2] 29]:=hM;refine seg 4 4 [(24,vB (aGx (aAd s) (aAd t)))] (fc (lam 126 0 0 4 hM rfl) (fc (lam 126 1 0 4 hM rfl) (fc (aXC (aAd s) (aAd t)) f0))) ?_;cases ab:(aGx (aAd s) (aAd t))
  rotate_left
  ·exact rt1 4 (vI 4) rfl f0 (hY _ _ ⟨by unfold aAX aCj;simp only [aa,ab,bs_]<;>rfl,hM.fr⟩)
  refine seg 6 6 [(34,vB (aBn (aAd s).1 (aAd s).2))] (fc (lam 29 0 0 2 hM rfl) (fc (lam 29 0 2 2 hM rfl) (fc (aIQ (aAd s).1.1 (aAd s).1.2 (aAd s).2.1 (aAd s).2.2) f0))) ?_;cases ac:(aBn (aAd s).1 (aAd s).2)
  rotate_left
  ·refine aAw 7 2 63 [(61,.agg #[vI (aAd s).1.1,vI (aAd s).1.2,vI (aAd s).2.1,vI (aAd s).2.2]),(62,.agg #[vI (aAd t).1.1,vI (aAd t).1.2,vI (aAd t).2.1,vI (aAd t).2.2])] (fc (lam 126 0 0 4 hM rfl) (fc (lam 126 1 0 4 hM rfl) f0)) hM (aD6 (aAd s) (aAd t) _) fun w1 hM=>rt1 4 (vI (aEV (aAd s) (aAd t))) rfl f0 (hY _ _ ⟨by unfold aAX aCj;simp only [aa,ab,ac,bs_]<;>rfl,hM.fr⟩)
  refine seg 6 13 [(41,vB (aBn (aAd t).1 (aAd t).2))] (fc (lam 29 1 0 2 hM rfl) (fc (lam 29 1 2 2 hM rfl) (fc (aIQ (aAd t).1.1 (aAd t).1.2 (aAd t).2.1 (aAd t).2.2) f0))) ?_;cases ad:(aBn (aAd t).1 (aAd t).2)
  rotate_left
  ·refine aAw 7 2 63 [(61,.agg #[vI (aAd s).1.1,vI (aAd s).1.2,vI (aAd s).2.1,vI (aAd s).2.2]),(62,.agg #[vI (aAd t).1.1,vI (aAd t).1.2,vI (aAd t).2.1,vI (aAd t).2.2])] (fc (lam 126 0 0 4 hM rfl) (fc (lam 126 1 0 4 hM rfl) f0)) hM (aD6 (aAd s) (aAd t) _) fun w1 hM=>rt1 4 (vI (aEV (aAd s) (aAd t))) rfl f0 (hY _ _ ⟨by unfold aAX aCj;simp only [aa,ab,ac,ad,bs_]<;>rfl,hM.fr⟩)
  refine aAw 6 19 48 [(43,.agg #[vI (aAd s).1.1,vI (aAd s).1.2]),(45,.agg #[vI (aAd s).2.1,vI (aAd s).2.2]),(47,.agg #[vI (aAd t).1.1,vI (aAd t).1.2])] (fc (lam 29 0 0 2 hM rfl) (fc (lam 29 0 2 2 hM rfl) (fc (lam 29 1 0 2 hM rfl) f0))) hM (aAG (aAd s).1 (aAd s).2 (aAd t).1 _) fun w1 hM=>seg 6 22 [(50,vB ((orP (aAd s).1 (aAd s).2 (aAd t).1)==0))] f0 ?_;cases ae:((orP (aAd s).1 (aAd s).2 (aAd t).1)==0)
  ·refine seg 8 0 [] f0 (drc [(5,vI (orP (aAd s).1 (aAd s).2 (aAd t).1)),(6,vI (orP (aAd s).1 (aAd s).2 (aAd t).2))] hM (fun w5 hM=>(fc (lam 29 0 0 2 hM rfl) (fc (lam 29 0 2 2 hM rfl) (fc (lam 29 1 0 2 hM rfl) (fc (tcl (aAG (aAd s).1 (aAd s).2 (aAd t).1 _)) (fc (lam 29 0 0 2 hM rfl) (fc (lam 29 0 2 2 hM rfl) (fc (lam 29 1 2 2 hM rfl) (fc (tcl (aAG (aAd s).1 (aAd s).2 (aAd t).2 _)) f0))))))))) fun w5 hM=>seg 9 0 [] f0 (drc [(7,vI (orP (aAd t).1 (aAd t).2 (aAd s).1)),(8,vI (orP (aAd t).1 (aAd t).2 (aAd s).2))] hM (fun w5 hM=>(fc (lam 29 1 0 2 hM rfl) (fc (lam 29 1 2 2 hM rfl) (fc (lam 29 0 0 2 hM rfl) (fc (tcl (aAG (aAd t).1 (aAd t).2 (aAd s).1 _)) (fc (lam 29 1 0 2 hM rfl) (fc (lam 29 1 2 2 hM rfl) (fc (lam 29 0 2 2 hM rfl) (fc (tcl (aAG (aAd t).1 (aAd t).2 (aAd s).2 _)) f0))))))))) fun w5 hM=>?_));have m1:=aHo (aAd s).1 (aAd s).2 (aAd t).1 (aAd s).1 (aAd s).2 (aAd t).2;have m2:=aHo (aAd t).1 (aAd t).2 (aAd s).1 (aAd t).1 (aAd t).2 (aAd s).2;refine seg 10 5 [(97,vB (decide (0<((orP (aAd s).1 (aAd s).2 (aAd t).1)*(orP (aAd s).1 (aAd s).2 (aAd t).2)))))] (fc (aEA (orP (aAd s).1 (aAd s).2 (aAd t).1) (orP (aAd s).1 (aAd s).2 (aAd t).2) u3_) f0) ?_;cases af:(decide (0<((orP (aAd s).1 (aAd s).2 (aAd t).1)*(orP (aAd s).1 (aAd s).2 (aAd t).2))))
   rotate_left
   ·have a1:=dt af;exact rt1 4 (vI 0) rfl f0 (hY _ _ ⟨by unfold aAX aCj;simp only [aa,ab,ac,ad,ae,af,bs_]<;>rfl,hM.fr⟩)
   have a1:=df af;refine seg 10 11 [(92,vB (decide (0<((orP (aAd t).1 (aAd t).2 (aAd s).1)*(orP (aAd t).1 (aAd t).2 (aAd s).2)))))] (fc (aEA (orP (aAd t).1 (aAd t).2 (aAd s).1) (orP (aAd t).1 (aAd t).2 (aAd s).2) u3_) f0) ?_;cases ah:(decide (0<((orP (aAd t).1 (aAd t).2 (aAd s).1)*(orP (aAd t).1 (aAd t).2 (aAd s).2))))
   rotate_left
   ·have a2:=dt ah;exact rt1 4 (vI 0) rfl f0 (hY _ _ ⟨by unfold aAX aCj;simp only [aa,ab,ac,ad,ae,af,ah,bs_]<;>rfl,hM.fr⟩)
   have a2:=df ah;refine seg 12 5 [(108,vB (decide (((orP (aAd s).1 (aAd s).2 (aAd t).1)*(orP (aAd s).1 (aAd s).2 (aAd t).2))<0)))] (fc (aEA (orP (aAd s).1 (aAd s).2 (aAd t).1) (orP (aAd s).1 (aAd s).2 (aAd t).2) u3_) f0) ?_;cases ak:(decide (((orP (aAd s).1 (aAd s).2 (aAd t).1)*(orP (aAd s).1 (aAd s).2 (aAd t).2))<0))
   ·have a3:=df ak;refine seg 14 5 [(119,vB (((orP (aAd s).1 (aAd s).2 (aAd t).1)*(orP (aAd s).1 (aAd s).2 (aAd t).2))==0))] (fc (aEA (orP (aAd s).1 (aAd s).2 (aAd t).1) (orP (aAd s).1 (aAd s).2 (aAd t).2) u3_) f0) ?_;cases av:(((orP (aAd s).1 (aAd s).2 (aAd t).1)*(orP (aAd s).1 (aAd s).2 (aAd t).2))==0)
    ·exact rt1 4 (vI 2) rfl f0 (hY _ _ ⟨by unfold aAX aCj;simp only [aa,ab,ac,ad,ae,af,ah,ak,av,bs_]<;>rfl,hM.fr⟩)
    refine seg 14 11 [(114,vB (((orP (aAd t).1 (aAd t).2 (aAd s).1)*(orP (aAd t).1 (aAd t).2 (aAd s).2))==0))] (fc (aEA (orP (aAd t).1 (aAd t).2 (aAd s).1) (orP (aAd t).1 (aAd t).2 (aAd s).2) u3_) f0) ?_;cases ax:(((orP (aAd t).1 (aAd t).2 (aAd s).1)*(orP (aAd t).1 (aAd t).2 (aAd s).2))==0)
    ·exact rt1 4 (vI 2) rfl f0 (hY _ _ ⟨by unfold aAX aCj;simp only [aa,ab,ac,ad,ae,af,ah,ak,av,ax,bs_]<;>rfl,hM.fr⟩)
    exact rt1 4 (vI 1) rfl f0 (hY _ _ ⟨by unfold aAX aCj;simp only [aa,ab,ac,ad,ae,af,ah,ak,av,ax,bs_]<;>rfl,hM.fr⟩)
   have a3:=dt ak;refine seg 12 11 [(103,vB (decide (((orP (aAd t).1 (aAd t).2 (aAd s).1)*(orP (aAd t).1 (aAd t).2 (aAd s).2))<0)))] (fc (aEA (orP (aAd t).1 (aAd t).2 (aAd s).1) (orP (aAd t).1 (aAd t).2 (aAd s).2) u3_) f0) ?_;cases aq:(decide (((orP (aAd t).1 (aAd t).2 (aAd s).1)*(orP (aAd t).1 (aAd t).2 (aAd s).2))<0))
   rotate_left
   ·exact rt1 4 (vI 3) rfl f0 (hY _ _ ⟨by unfold aAX aCj;simp only [aa,ab,ac,ad,ae,af,ah,ak,aq,bs_]<;>rfl,hM.fr⟩)
   refine seg 14 5 [(119,vB (((orP (aAd s).1 (aAd s).2 (aAd t).1)*(orP (aAd s).1 (aAd s).2 (aAd t).2))==0))] (fc (aEA (orP (aAd s).1 (aAd s).2 (aAd t).1) (orP (aAd s).1 (aAd s).2 (aAd t).2) u3_) f0) ?_;cases am:(((orP (aAd s).1 (aAd s).2 (aAd t).1)*(orP (aAd s).1 (aAd s).2 (aAd t).2))==0)
   ·have a4:=ef am;exact rt1 4 (vI 2) rfl f0 (hY _ _ ⟨by unfold aAX aCj;simp only [aa,ab,ac,ad,ae,af,ah,ak,aq,am,bs_]<;>rfl,hM.fr⟩)
   have a4:=et am;refine seg 14 11 [(114,vB (((orP (aAd t).1 (aAd t).2 (aAd s).1)*(orP (aAd t).1 (aAd t).2 (aAd s).2))==0))] (fc (aEA (orP (aAd t).1 (aAd t).2 (aAd s).1) (orP (aAd t).1 (aAd t).2 (aAd s).2) u3_) f0) ?_;cases ay:(((orP (aAd t).1 (aAd t).2 (aAd s).1)*(orP (aAd t).1 (aAd t).2 (aAd s).2))==0)
   ·exact rt1 4 (vI 2) rfl f0 (hY _ _ ⟨by unfold aAX aCj;simp only [aa,ab,ac,ad,ae,af,ah,ak,aq,am,ay,bs_]<;>rfl,hM.fr⟩)
   exact rt1 4 (vI 1) rfl f0 (hY _ _ ⟨by unfold aAX aCj;simp only [aa,ab,ac,ad,ae,af,ah,ak,aq,am,ay,bs_]<;>rfl,hM.fr⟩)
  refine aAw 6 28 57 [(52,.agg #[vI (aAd s).1.1,vI (aAd s).1.2]),(54,.agg #[vI (aAd s).2.1,vI (aAd s).2.2]),(56,.agg #[vI (aAd t).2.1,vI (aAd t).2.2])] (fc (lam 29 0 0 2 hM rfl) (fc (lam 29 0 2 2 hM rfl) (fc (lam 29 1 2 2 hM rfl) f0))) hM (aAG (aAd s).1 (aAd s).2 (aAd t).2 _) fun w1 hM=>seg 6 33 [(28,vB ((orP (aAd s).1 (aAd s).2 (aAd t).2)==0))] f0 ?_;cases ai:((orP (aAd s).1 (aAd s).2 (aAd t).2)==0)
  rotate_left
  ·refine aAw 7 2 63 [(61,.agg #[vI (aAd s).1.1,vI (aAd s).1.2,vI (aAd s).2.1,vI (aAd s).2.2]),(62,.agg #[vI (aAd t).1.1,vI (aAd t).1.2,vI (aAd t).2.1,vI (aAd t).2.2])] (fc (lam 126 0 0 4 hM rfl) (fc (lam 126 1 0 4 hM rfl) f0)) hM (aD6 (aAd s) (aAd t) _) fun w1 hM=>rt1 4 (vI (aEV (aAd s) (aAd t))) rfl f0 (hY _ _ ⟨by unfold aAX aCj;simp only [aa,ab,ac,ad,ae,ai,bs_]<;>rfl,hM.fr⟩)
  refine seg 8 0 [] f0 (drc [(5,vI (orP (aAd s).1 (aAd s).2 (aAd t).1)),(6,vI (orP (aAd s).1 (aAd s).2 (aAd t).2))] hM (fun w5 hM=>(fc (lam 29 0 0 2 hM rfl) (fc (lam 29 0 2 2 hM rfl) (fc (lam 29 1 0 2 hM rfl) (fc (tcl (aAG (aAd s).1 (aAd s).2 (aAd t).1 _)) (fc (lam 29 0 0 2 hM rfl) (fc (lam 29 0 2 2 hM rfl) (fc (lam 29 1 2 2 hM rfl) (fc (tcl (aAG (aAd s).1 (aAd s).2 (aAd t).2 _)) f0))))))))) fun w5 hM=>seg 9 0 [] f0 (drc [(7,vI (orP (aAd t).1 (aAd t).2 (aAd s).1)),(8,vI (orP (aAd t).1 (aAd t).2 (aAd s).2))] hM (fun w5 hM=>(fc (lam 29 1 0 2 hM rfl) (fc (lam 29 1 2 2 hM rfl) (fc (lam 29 0 0 2 hM rfl) (fc (tcl (aAG (aAd t).1 (aAd t).2 (aAd s).1 _)) (fc (lam 29 1 0 2 hM rfl) (fc (lam 29 1 2 2 hM rfl) (fc (lam 29 0 2 2 hM rfl) (fc (tcl (aAG (aAd t).1 (aAd t).2 (aAd s).2 _)) f0))))))))) fun w5 hM=>?_));have m1:=aHo (aAd s).1 (aAd s).2 (aAd t).1 (aAd s).1 (aAd s).2 (aAd t).2;have m2:=aHo (aAd t).1 (aAd t).2 (aAd s).1 (aAd t).1 (aAd t).2 (aAd s).2;refine seg 10 5 [(97,vB (decide (0<((orP (aAd s).1 (aAd s).2 (aAd t).1)*(orP (aAd s).1 (aAd s).2 (aAd t).2)))))] (fc (aEA (orP (aAd s).1 (aAd s).2 (aAd t).1) (orP (aAd s).1 (aAd s).2 (aAd t).2) u3_) f0) ?_;cases ag:(decide (0<((orP (aAd s).1 (aAd s).2 (aAd t).1)*(orP (aAd s).1 (aAd s).2 (aAd t).2))))
  rotate_left
  ·have a5:=dt ag;exact rt1 4 (vI 0) rfl f0 (hY _ _ ⟨by unfold aAX aCj;simp only [aa,ab,ac,ad,ae,ai,ag,bs_]<;>rfl,hM.fr⟩)
  have a5:=df ag;refine seg 10 11 [(92,vB (decide (0<((orP (aAd t).1 (aAd t).2 (aAd s).1)*(orP (aAd t).1 (aAd t).2 (aAd s).2)))))] (fc (aEA (orP (aAd t).1 (aAd t).2 (aAd s).1) (orP (aAd t).1 (aAd t).2 (aAd s).2) u3_) f0) ?_;cases aj:(decide (0<((orP (aAd t).1 (aAd t).2 (aAd s).1)*(orP (aAd t).1 (aAd t).2 (aAd s).2))))
  rotate_left
  ·have a6:=dt aj;exact rt1 4 (vI 0) rfl f0 (hY _ _ ⟨by unfold aAX aCj;simp only [aa,ab,ac,ad,ae,ai,ag,aj,bs_]<;>rfl,hM.fr⟩)
  have a6:=df aj;refine seg 12 5 [(108,vB (decide (((orP (aAd s).1 (aAd s).2 (aAd t).1)*(orP (aAd s).1 (aAd s).2 (aAd t).2))<0)))] (fc (aEA (orP (aAd s).1 (aAd s).2 (aAd t).1) (orP (aAd s).1 (aAd s).2 (aAd t).2) u3_) f0) ?_;cases al:(decide (((orP (aAd s).1 (aAd s).2 (aAd t).1)*(orP (aAd s).1 (aAd s).2 (aAd t).2))<0))
  ·have a7:=df al;refine seg 14 5 [(119,vB (((orP (aAd s).1 (aAd s).2 (aAd t).1)*(orP (aAd s).1 (aAd s).2 (aAd t).2))==0))] (fc (aEA (orP (aAd s).1 (aAd s).2 (aAd t).1) (orP (aAd s).1 (aAd s).2 (aAd t).2) u3_) f0) ?_;cases aw:(((orP (aAd s).1 (aAd s).2 (aAd t).1)*(orP (aAd s).1 (aAd s).2 (aAd t).2))==0)
   ·exact rt1 4 (vI 2) rfl f0 (hY _ _ ⟨by unfold aAX aCj;simp only [aa,ab,ac,ad,ae,ai,ag,aj,al,aw,bs_]<;>rfl,hM.fr⟩)
   refine seg 14 11 [(114,vB (((orP (aAd t).1 (aAd t).2 (aAd s).1)*(orP (aAd t).1 (aAd t).2 (aAd s).2))==0))] (fc (aEA (orP (aAd t).1 (aAd t).2 (aAd s).1) (orP (aAd t).1 (aAd t).2 (aAd s).2) u3_) f0) ?_;cases az:(((orP (aAd t).1 (aAd t).2 (aAd s).1)*(orP (aAd t).1 (aAd t).2 (aAd s).2))==0)
   ·exact rt1 4 (vI 2) rfl f0 (hY _ _ ⟨by unfold aAX aCj;simp only [aa,ab,ac,ad,ae,ai,ag,aj,al,aw,az,bs_]<;>rfl,hM.fr⟩)
   exact rt1 4 (vI 1) rfl f0 (hY _ _ ⟨by unfold aAX aCj;simp only [aa,ab,ac,ad,ae,ai,ag,aj,al,aw,az,bs_]<;>rfl,hM.fr⟩)
  have a7:=dt al;refine seg 12 11 [(103,vB (decide (((orP (aAd t).1 (aAd t).2 (aAd s).1)*(orP (aAd t).1 (aAd t).2 (aAd s).2))<0)))] (fc (aEA (orP (aAd t).1 (aAd t).2 (aAd s).1) (orP (aAd t).1 (aAd t).2 (aAd s).2) u3_) f0) ?_;cases ar:(decide (((orP (aAd t).1 (aAd t).2 (aAd s).1)*(orP (aAd t).1 (aAd t).2 (aAd s).2))<0))
  rotate_left
  ·exact rt1 4 (vI 3) rfl f0 (hY _ _ ⟨by unfold aAX aCj;simp only [aa,ab,ac,ad,ae,ai,ag,aj,al,ar,bs_]<;>rfl,hM.fr⟩)
  refine seg 14 5 [(119,vB (((orP (aAd s).1 (aAd s).2 (aAd t).1)*(orP (aAd s).1 (aAd s).2 (aAd t).2))==0))] (fc (aEA (orP (aAd s).1 (aAd s).2 (aAd t).1) (orP (aAd s).1 (aAd s).2 (aAd t).2) u3_) f0) ?_;cases an:(((orP (aAd s).1 (aAd s).2 (aAd t).1)*(orP (aAd s).1 (aAd s).2 (aAd t).2))==0)
  ·have a8:=ef an;exact rt1 4 (vI 2) rfl f0 (hY _ _ ⟨by unfold aAX aCj;simp only [aa,ab,ac,ad,ae,ai,ag,aj,al,ar,an,bs_]<;>rfl,hM.fr⟩)
  have a8:=et an;refine seg 14 11 [(114,vB (((orP (aAd t).1 (aAd t).2 (aAd s).1)*(orP (aAd t).1 (aAd t).2 (aAd s).2))==0))] (fc (aEA (orP (aAd t).1 (aAd t).2 (aAd s).1) (orP (aAd t).1 (aAd t).2 (aAd s).2) u3_) f0) ?_;cases a0:(((orP (aAd t).1 (aAd t).2 (aAd s).1)*(orP (aAd t).1 (aAd t).2 (aAd s).2))==0)
  ·exact rt1 4 (vI 2) rfl f0 (hY _ _ ⟨by unfold aAX aCj;simp only [aa,ab,ac,ad,ae,ai,ag,aj,al,ar,an,a0,bs_]<;>rfl,hM.fr⟩)
  exact rt1 4 (vI 1) rfl f0 (hY _ _ ⟨by unfold aAX aCj;simp only [aa,ab,ac,ad,ae,ai,ag,aj,al,ar,an,a0,bs_]<;>rfl,hM.fr⟩)
theorem aGN (a:Nat):IntKind.u64.wrap (a:Int)=((a%18446744073709551616:Nat):Int):=by
 show (a:Int)%_=_;rw [show ((2:Int) ^ IntKind.u64.bits)=18446744073709551616 by decide];omega
section
variable {w:World}
theorem aUZ (a b:Nat):Ft.ok Tryz.prog w (.g2 (fun x y => .binOp .add 164 x y 164) (v64 a) (v64 b) (v64 ((a+b)%18446744073709551616))):=fun o ρ x y ho hx hy=>by
 simp [execOp,ho,hx,hy,go_sem,u164_];rw [show (a:Int)+b=((a+b:Nat):Int) by omega,aGN];omega
theorem aUW (a b:Nat):Ft.ok Tryz.prog w (.g2 (fun x y => .binOp .mul 164 x y 164) (v64 a) (v64 b) (v64 (a*b%18446744073709551616))):=fun o ρ x y ho hx hy=>by
 simp [execOp,ho,hx,hy,go_sem,u164_];rw [show (a:Int)*b=((a*b:Nat):Int) by simp,aGN];simp
theorem aUO (a b:Nat) (hb:b<18446744073709551616):Ft.ok Tryz.prog w (.g2 (fun x y => .binOp .sub 164 x y 164) (v64 a) (v64 b) (v64 ((a+18446744073709551616-b)%18446744073709551616))):=fun o ρ x y ho hx hy=>by
 simp [execOp,ho,hx,hy,go_sem,u164_];have:=aGN (a+18446744073709551616-b)
 have e:IntKind.u64.wrap ((a:Int)-b)=IntKind.u64.wrap ((a+18446744073709551616-b:Nat):Int):=by
  show ((a:Int)-b)%_=((a+18446744073709551616-b:Nat):Int)%_;rw [show ((2:Int) ^ IntKind.u64.bits)=18446744073709551616 by decide];omega
 rw [e,this];omega
theorem aUS (a s:Nat) (hs:s<64):Ft.ok Tryz.prog w (.g2 (fun x y => .binOp .shl 164 x y 139) (v64 a) (v64 s) (v64 (a*2 ^ s%18446744073709551616))):=fun o ρ x y ho hx hy=>by
 simp [execOp,ho,hx,hy,go_sem];rw [show (a:Int)*2 ^ s=((a*2 ^ s:Nat):Int) by simp,aGN];simp
theorem aUR (a s:Nat) (hs:s<=64):Ft.ok Tryz.prog w (.g2 (fun x y => .binOp .shr 164 x y 139) (v64 a) (v64 s) (v64 (a / 2 ^ s))):=fun o ρ x y ho hx hy=>by
 simp [execOp,ho,hx,hy,go_sem,Nat.min_eq_left hs]
theorem aWf (a b:Nat) (hb:0<b) (ha:a<18446744073709551616):Ft.ok Tryz.prog w (.g2 (fun x y => .binOp .quo 164 x y 164) (v64 a) (v64 b) (v64 (a / b))):=fun o ρ x y ho hx hy=>by
 have hb2:¬ (b=0):=by omega
 simp [execOp,ho,hx,hy,go_sem,u164_,hb2];have:=aDZ (a:=a / b) (Nat.lt_of_le_of_lt (Nat.div_le_self _ _) ha);simpa using this
theorem aUX (a:Nat) (ha:a<18446744073709551616):Ft.ok Tryz.prog w (.g2 (fun x y => .binOp .and 164 x y 164) (v64 a) (.int .u64 4294967295) (v64 (a%4294967296))):=fun o ρ x y ho hx hy=>by
 have h:=aKY (a:=a) (b:=4294967295) ha (by omega);have e:a &&& 4294967295=a%4294967296:=Nat.and_two_pow_sub_one_eq_mod a 32;rw [e] at h;simp [execOp,ho,hx,hy,go_sem,u164_];simpa using h
end
end Go.Proofs.YtngjlnhojicjeaaGreatDoor
namespace Go.Pl
structure Kn (v1 v0 u1 u0 q r:Nat):Prop where
 eq:q*v1+r=u1
 ge:(u1*4294967296+u0) / (v1*4294967296+v0)<=q
 le:q<=4294967297
section
variable {v1 v0 u1 u0 q r:Nat}
theorem aNE (q:Nat):q*(v1*4294967296+v0)=q*v1*4294967296+q*v0:=by rw [Nat.mul_add,Nat.mul_assoc]
theorem aNF (h1:2147483648<=v1) (h0:v0<4294967296) (hu:u1<v1*4294967296+v0) (hu0:u0<4294967296):Kn v1 v0 u1 u0 (u1 / v1) (u1%v1):=by
 refine ⟨by rw [Nat.mul_comm];exact Nat.div_add_mod u1 v1,?_,?_⟩
 ·rw [Nat.le_div_iff_mul_le (by omega)];have hQ:(u1*4294967296+u0) / (v1*4294967296+v0)*(v1*4294967296+v0)<=u1*4294967296+u0:=Nat.div_mul_le_self _ _;rw [aNE] at hQ;omega
 ·have:u1 / v1<4294967298:=by
   rw [Nat.div_lt_iff_lt_mul (by omega)];omega
  omega
theorem aHv (hu:u1<v1*4294967296+v0) (hu0:u0<4294967296):(u1*4294967296+u0) / (v1*4294967296+v0)<4294967296:=by
 rw [Nat.div_lt_iff_lt_mul (by omega)];omega
theorem aJ2 (hV:0<v1) (h:Kn v1 v0 u1 u0 q r) (hq:q*v0<=4294967296*r+u0):q=(u1*4294967296+u0) / (v1*4294967296+v0):=by
 refine Nat.le_antisymm ?_ h.ge;rw [Nat.le_div_iff_mul_le (by omega),aNE];have:=h.eq;omega
theorem aFs (hV:0<v1) (h0:v0<4294967296) (h:Kn v1 v0 u1 u0 q r) (hq:q<=4294967296) (hr:4294967296<=r):q=(u1*4294967296+u0) / (v1*4294967296+v0):=by
 refine aJ2 hV h ?_;have h1:q*v0<=4294967296*v0:=Nat.mul_le_mul_right _ hq;omega
theorem aHw (hV:0<v1) (hu:u1<v1*4294967296+v0) (hu0:u0<4294967296) (h:Kn v1 v0 u1 u0 q r) (hc:4294967296<=q∨4294967296*r+u0<q*v0):1<=q /\ Kn v1 v0 u1 u0 (q-1) (r+v1) /\ q-1<=4294967296:=by
 have hlt:(u1*4294967296+u0) / (v1*4294967296+v0)<q:=by
  rcases hc with hc | hc
  ·have:=aHv hu hu0;omega
  ·rw [Nat.div_lt_iff_lt_mul (by omega),aNE];have:=h.eq;omega
 have hl:=h.le;have h1:1<=q:=Nat.lt_of_le_of_lt (Gg_ _) hlt;refine ⟨h1,⟨?_,Nat.le_sub_one_of_lt hlt,by omega⟩,by omega⟩;have:=h.eq;obtain ⟨p,rfl⟩:∃ p,q=p+1:=⟨q-1,by omega⟩;rw [Nat.add_mul,Nat.one_mul] at this;rw [Nat.add_sub_cancel];omega
set_option maxRecDepth 100000 in
theorem aTS {v u1 a b:Nat}(hv:0<v):(u1*18446744073709551616+(a*4294967296+b)) / v=(u1*4294967296+a) / v*4294967296+((u1*4294967296+a)%v*4294967296+b) / v:=by
 have h:=Nat.div_add_mod (u1*4294967296+a) v;obtain ⟨Q,hQ⟩:∃ Q,Q=(u1*4294967296+a) / v:=⟨_,rfl⟩;obtain ⟨R,hR⟩:∃ R,R=(u1*4294967296+a)%v:=⟨_,rfl⟩;rw [←hQ,←hR] at h;rw [←hQ,←hR]
 have e:u1*18446744073709551616+(a*4294967296+b)=(R*4294967296+b)+Q*4294967296*v:=by
  have:Q*4294967296*v=v*Q*4294967296:=by rw [Nat.mul_comm (Q*4294967296) v,Nat.mul_assoc]
  rw [this];omega
 rw [e,Nat.add_mul_div_right _ _ hv];omega
theorem aTT {a c d:Nat}(h:d<=a+c) (h2:a+c-d<18446744073709551616):(((a%18446744073709551616+c)%18446744073709551616)+18446744073709551616-d%18446744073709551616)%18446744073709551616=a+c-d:=by omega
theorem aPL {hi lo s:Nat}(hs:s<64) (hl:lo<18446744073709551616):(hi*18446744073709551616+lo)*2 ^ s=(hi*2 ^ s+lo / 2 ^ (64-s))*18446744073709551616+lo*2 ^ s%18446744073709551616:=by
 have e:(18446744073709551616:Nat)=2 ^ (64-s)*2 ^ s:=by rw [←Nat.pow_add,show 64-s+s=64 by omega]
 have h1:lo*2 ^ s / 18446744073709551616=lo / 2 ^ (64-s):=by
  rw [e,Nat.mul_div_mul_right _ _ (Nat.two_pow_pos s)]
 have h2:=Nat.div_add_mod (lo*2 ^ s) 18446744073709551616;rw [h1] at h2;rw [Nat.add_mul,Nat.mul_right_comm];rw [Nat.add_mul (hi*2 ^ s)];omega
end
end Go.Pl
namespace Go.Proofs.YtngjlnhojicjeaaGreatDoor
open Go.RowKit Go.Pl
theorem aGJ:∀ (f y:Nat),0<y->y<2 ^ f->f<=64->∃ s,s<64 /\ Lib.bitLen y+s=64 /\ 9223372036854775808<=y*2 ^ s /\ y*2 ^ s<18446744073709551616
 | 0,y,h0,h,_=>by rw [Nat.pow_zero] at h;omega
 | f+1,y,h0,h,hf=>by
  have h64:y<2 ^ 64:=Nat.lt_of_lt_of_le h (Nat.pow_le_pow_right (by omega) hf);have hb:=Lib.bitLen_half y (by omega) h64;rcases Nat.eq_zero_or_pos (y / 2) with h2 | h2
  ·have h1:y=1:=by omega
   subst h1;exact ⟨63,by omega,by decide,by decide,by decide⟩
  ·obtain ⟨s,k1,k2,k3,k4⟩:=aGJ f (y / 2) h2 (by rw [Nat.pow_succ] at h;omega) (by omega)
   have hs:1<=s:=by
    rcases Nat.eq_zero_or_pos s with e | e
    ·subst e;rw [Nat.pow_zero,Nat.mul_one] at k3;have:y<18446744073709551616:=h64;omega
    ·exact e
   obtain ⟨z,rfl⟩:∃ z,s=z+1:=⟨s-1,by omega⟩;rw [Nat.pow_succ] at k3 k4
   have e2:y / 2*(2 ^ z*2)+(y%2)*2 ^ z=y*2 ^ z:=by
    have:=Nat.div_add_mod y 2
    conv=>rhs;rw [←this]
    rw [Nat.add_mul,Nat.mul_comm 2 (y / 2),Nat.mul_assoc,Nat.mul_comm 2 (2 ^ z)]
   have hz2:2 ^ (z+1)<=2 ^ 63:=Nat.pow_le_pow_right (by omega) (by omega);have hp:=Nat.two_pow_pos z;have e3:y%2=0∨y%2=1:=by omega
   refine ⟨z,by omega,by omega,?_,?_⟩
   ·have:0<=(y%2)*2 ^ z:=Gg_ _;omega
   ·
    have k5:y / 2*(2 ^ z*2)+2 ^ z*2<=18446744073709551616:=by
     have hd:(y / 2+1)*(2 ^ z*2)=y / 2*(2 ^ z*2)+2 ^ z*2:=by rw [Nat.add_mul,Nat.one_mul]
     rw [←hd];have e4:(18446744073709551616:Nat)=2 ^ (64-(z+1))*(2 ^ z*2):=by rw [←Nat.pow_succ,←Nat.pow_add,show 64-(z+1)+(z+1)=64 by omega]
     rw [e4];refine Nat.mul_le_mul_right _ ?_;rw [e4] at k4;have:=Nat.lt_of_mul_lt_mul_right k4;omega
    have k6:(y%2)*2 ^ z<=2 ^ z:=by rcases e3 with e | e<;>rw [e]<;>omega
    omega
section
variable {w:World}
theorem aGT (a b r:Nat) {x y:Int}(h:(a+b)%18446744073709551616=r:=by omega) (hx:x=(a:Int):=by rfl) (hy:y=(b:Int):=by rfl):Ft.ok Tryz.prog w (.g2 (fun x y => .binOp .add 164 x y 164) (.int .u64 x) (.int .u64 y) (v64 r)):=by subst hx;subst hy;rw [←h];exact aUZ a b
theorem aF1 (a b r:Nat) {x y:Int}(h:a*b%18446744073709551616=r:=by omega) (hx:x=(a:Int):=by rfl) (hy:y=(b:Int):=by rfl):Ft.ok Tryz.prog w (.g2 (fun x y => .binOp .mul 164 x y 164) (.int .u64 x) (.int .u64 y) (v64 r)):=by subst hx;subst hy;rw [←h];exact aUW a b
theorem aHP (a b r:Nat) {x y:Int}(hb:b<18446744073709551616:=by omega) (h:(a+18446744073709551616-b)%18446744073709551616=r:=by omega) (hx:x=(a:Int):=by rfl) (hy:y=(b:Int):=by rfl):Ft.ok Tryz.prog w (.g2 (fun x y => .binOp .sub 164 x y 164) (.int .u64 x) (.int .u64 y) (v64 r)):=by subst hx;subst hy;rw [←h];exact aUO a b hb
theorem aUP (b:Nat) (hb:b<64):Ft.ok Tryz.prog w (.g2 (fun x y => .binOp .sub 139 x y 139) (.int .u64 64) (v64 b) (v64 (64-b))):=fun o ρ x y ho hx hy=>by
 have:=aDZ (a:=64-b) (by omega);rw [show ((64-b:Nat):Int)=64-(b:Int) by omega] at this;simp [execOp,ho,hx,hy,go_sem,Tryz.underlying139,this];omega
theorem aR1 (a s r:Nat) (hs:s<64) (h:a*2 ^ s%18446744073709551616=r):Ft.ok Tryz.prog w (.g2 (fun x y => .binOp .shl 164 x y 139) (v64 a) (v64 s) (v64 r)):=by rw [←h];exact aUS a s hs
theorem aOU (a s r:Nat) {y:Int}(hs:s<=64) (h:a / 2 ^ s=r) (hy:y=(s:Int):=by rfl):Ft.ok Tryz.prog w (.g2 (fun x y => .binOp .shr 164 x y 139) (v64 a) (.int .u64 y) (v64 r)):=by subst hy;rw [←h];exact aUR a s hs
theorem aTh (a b r:Nat) (hb:0<b) (ha:a<18446744073709551616) (h:a / b=r):Ft.ok Tryz.prog w (.g2 (fun x y => .binOp .quo 164 x y 164) (v64 a) (v64 b) (v64 r)):=by rw [←h];exact aWf a b hb ha
theorem aTi (a r:Nat) (ha:a<18446744073709551616) (h:a%4294967296=r):Ft.ok Tryz.prog w (.g2 (fun x y => .binOp .and 164 x y 164) (v64 a) (.int .u64 4294967295) (v64 r)):=by rw [←h];exact aUX a ha
theorem aWK (a s b r:Nat) (hb:b<2 ^ s) (h:a*2 ^ s+b=r) (hr:r<18446744073709551616):Ft.ok Tryz.prog w (.g2 (fun x y => .binOp .or 164 x y 164) (v64 (a*2 ^ s)) (v64 b) (v64 r)):=fun o ρ x y ho hx hy=>by
 have e:a*2 ^ s ||| b=r:=by rw [Nat.mul_comm a,←Nat.two_pow_add_eq_or_of_lt hb,←h,Nat.mul_comm a]
 have h2:=aJT (a:=a*2 ^ s) (b:=b) (by omega) (by omega);rw [e] at h2;simp only [execOp,ho,hx,hy]
 have h3:(Go.binOp .or 164 (v64 (a*2 ^ s)) (v64 b)).run Tryz.prog w = .ok (v64 r) w:=by
  simp [go_sem,u164_];simpa using h2
 simp [go_sem,u164_];simpa using h2
theorem aWJ (a b:Nat) (hb:0<b) (ha:a<18446744073709551616):Ft.ok Tryz.prog w (.g2 (fun x y => .binOp .rem 164 x y 164) (v64 a) (v64 b) (v64 (a%b))):=fun o ρ x y ho hx hy=>by
 have hb2:¬ (b=0):=by omega
 simp [execOp,ho,hx,hy,go_sem,u164_,hb2];exact Int.tmod_eq_emod_of_nonneg (by omega)
theorem aX6 (s:Nat) (h:s<64):Ft.ok Tryz.prog w (.g1 (.convert 3 139) (vI (s:Int)) (v64 s)):=fun o ρ x ho hx=>by
 simp [execOp,ho,hx,go_sem,aDZ (a:=s) (by omega)]
end
abbrev aQw (Z:Ending->World->Prop):=AtO Tryz.prog (aAK Tryz.f162) (aBc (bodyPost Tryz.prog Tryz.f162 Z)) [] 135
theorem aGd {w:World}{hi lo y:Nat}(hlt:hi<y) (hlo:lo<18446744073709551616) (hyW:y<18446744073709551616):Calls Tryz.prog 162 #[.int .u64 ((hi:Nat):Int),.int .u64 ((lo:Nat):Int),.int .u64 ((y:Nat):Int)] w fun e w'=>(∃ rem:Nat,e = .returned (.tuple #[v64 ((hi*18446744073709551616+lo) / y),v64 rem])) /\ Fr nF_ w w':=by
  obtain ⟨s,hs,hbl,hv1,hv2⟩:=aGJ 64 y (by omega) hyW (by omega);obtain ⟨v,hv⟩:∃ z,z=y*2 ^ s:=⟨_,rfl⟩;rw [←hv] at hv1 hv2;obtain ⟨t,ht⟩:∃ z,z=lo*2 ^ s%18446744073709551616:=⟨_,rfl⟩;have ht2:t<18446744073709551616:=by rw [ht];exact Nat.mod_lt _ (by omega)
  obtain ⟨u,hu⟩:∃ z,z=hi*2 ^ s+lo / 2 ^ (64-s):=⟨_,rfl⟩;have hsh:=aPL (hi:=hi) (lo:=lo) hs hlo;rw [←hu,←ht] at hsh;have huv:u<v:=by have h1:(hi*18446744073709551616+lo)*2 ^ s<y*18446744073709551616*2 ^ s:=Nat.mul_lt_mul_of_pos_right (by omega) (Nat.two_pow_pos s);rw [hsh,Nat.mul_right_comm,←hv] at h1;omega
  obtain ⟨v1,hv1e⟩:∃ z,z=v / 4294967296:=⟨_,rfl⟩;obtain ⟨v0,hv0e⟩:∃ z,z=v%4294967296:=⟨_,rfl⟩;obtain ⟨a1,ha1⟩:∃ z,z=t / 4294967296:=⟨_,rfl⟩;obtain ⟨a0,ha0⟩:∃ z,z=t%4294967296:=⟨_,rfl⟩;have hvv:v=v1*4294967296+v0:=by omega
  have hb1:2147483648<=v1:=by omega
  have hb2:v1<4294967296:=by omega
  have hb0:v0<4294967296:=by omega
  have hA1:a1<4294967296:=by omega
  have hA0:a0<4294967296:=by omega
  obtain ⟨R1,hR1⟩:∃ z,z=(u*4294967296+a1)%v:=⟨_,rfl⟩;have hR1v:R1<v:=by rw [hR1];exact Nat.mod_lt _ (by omega)
  have huv2:u<v1*4294967296+v0:=by omega
  have hRv2:R1<v1*4294967296+v0:=by omega
  have hk1:=aNF hb1 hb0 huv2 hA1;have hk2:=aNF hb1 hb0 hRv2 hA0;have hfin:(hi*18446744073709551616+lo) / y=(u*4294967296+a1) / v*4294967296+(R1*4294967296+a0) / v:=by rw [hR1,←aTS (by omega),show u*18446744073709551616+(a1*4294967296+a0)=(hi*18446744073709551616+lo)*2 ^ s by rw [hsh];omega,hv,Nat.mul_div_mul_right _ _ (Nat.two_pow_pos s)]
  have hz1:u / v1*v1+u%v1=u:=by have:=Nat.div_add_mod u v1;rw [Nat.mul_comm] at this;exact this
  have hz2:R1 / v1*v1+R1%v1=R1:=by have:=Nat.div_add_mod R1 v1;rw [Nat.mul_comm] at this;exact this
  have hlos:lo / 2 ^ (64-s)<2 ^ s:=by rw [Nat.div_lt_iff_lt_mul (Nat.two_pow_pos _),←Nat.pow_add,show s+(64-s)=64 by omega];exact hlo
  have hhs:hi*2 ^ s<18446744073709551616:=by have:=Nat.mul_le_mul_right (2 ^ s) (Nat.le_of_lt hlt);rw [←hv] at this;omega
  refine beg Tryz.func162 rfl rfl [(0,.int .u64 ((hi:Nat):Int)),(1,.int .u64 ((lo:Nat):Int)),(2,.int .u64 ((y:Nat):Int))] rfl rfl fun Z hZ=>?_;have hM:=Mm.nil nF_ w;refine seg 1 2 [(20,vB (((y:Nat):Int)==0))] f0 ?_;cases h12:(((y:Nat):Int)==0)
  rotate_left
  ·have ae:=et h12;exact absurd (et h12) (by omega)
  have ae:=ef h12;refine seg 3 3 [(24,vB (decide (((y:Nat):Int)<=((hi:Nat):Int))))] f0 ?_;cases h13:(decide (((y:Nat):Int)<=((hi:Nat):Int)))
  rotate_left
  ·have af:=dt h13;exact absurd (dt h13) (by omega)
  have af:=df h13;refine seg 5 2 [(27,vB (((hi:Nat):Int)==0))] f0 ?_;cases h14:(((hi:Nat):Int)==0)
  rotate_left
  ·have ag:=et h14;refine seg 6 0 [] f0 ?_;have hM:=hM.q ((Fr.refl _ _).drew);refine drq [(6,.int .u64 ((lo / y:Nat):Int)),(7,.int .u64 ((lo%y:Nat):Int))] rfl (fc (aWf lo y (by omega) hlo) (fc (aWJ lo y (by omega) hlo) f0)) ?_;have hz9:hi=0:=by have:=et h14;omega
   exact rt2 6 7 (.int .u64 ((lo / y:Nat):Int)) (.int .u64 ((lo%y:Nat):Int)) rfl rfl f0 (hZ _ _ ⟨⟨_,by rw [hz9,Nat.zero_mul,Nat.zero_add]⟩,hM.fr⟩)
  have ag:=ef h14;refine aAw 7 1 35 [(34,.int .u64 ((y:Nat):Int))] f0 hM ((Tryz.bits_LeadingZeros64 (y:Int) _ (by omega) (by omega)).mono fun e w9 ⟨h1,h2⟩=>⟨by rw [h1,show (64-(Lib.bitLen ((y:Nat):Int).toNat:Int))=(s:Int) by rw [Gt_];omega],by rw [h2];exact Fr.refl _ _⟩) fun w1 hM=>seg 17 0 [(8,.int .u64 ((s:Nat):Int)),(2,.int .u64 ((v:Nat):Int)),(9,.int .u64 ((v1:Nat):Int)),(10,.int .u64 ((v0:Nat):Int)),(11,.int .u64 ((u:Nat):Int)),(13,.int .u64 ((a1:Nat):Int)),(14,.int .u64 ((a0:Nat):Int)),(15,.int .u64 ((u / v1:Nat):Int)),(16,.int .u64 ((u%v1:Nat):Int))] (fc (aX6 s hs) (fc (aR1 y s v hs (by rw [←hv];omega)) (fc (aOU v 32 v1 (by omega) (by omega)) (fc (aTi v v0 hv2 hv0e.symm) (fc (aR1 hi s (hi*2 ^ s) hs (by omega)) (fc (aUP s hs) (fc (aOU lo (64-s) (lo / 2 ^ (64-s)) (by omega) rfl) (fc (aWK hi s (lo / 2 ^ (64-s)) u hlos hu.symm (by omega)) (fc (aR1 lo s t hs ht.symm) (fc (aOU t 32 a1 (by omega) (by omega)) (fc (aTi t a0 ht2 ha0.symm) (fc (aTh u v1 (u / v1) (by omega) (by omega) rfl) (fc (aF1 (u / v1) v1 (u / v1*v1)) (fc (aHP u (u / v1*v1) (u%v1)) f0)))))))))))))) ?_
  have cu15:∀ (qa:Nat) (w2:World),qa=(u*4294967296+a1) / (v1*4294967296+v0)->Mm nF_ w w2 []->aQw Z (some (21,0)) [(15,.int .u64 ((qa:Nat):Int)),(14,.int .u64 ((a0:Nat):Int)),(13,.int .u64 ((a1:Nat):Int)),(11,.int .u64 ((u:Nat):Int)),(10,.int .u64 ((v0:Nat):Int)),(9,.int .u64 ((v1:Nat):Int)),(2,.int .u64 ((v:Nat):Int)),(8,.int .u64 ((s:Nat):Int))] w2:=by
   intro qa w2 hqa hM;rw [←hvv] at hqa;have hqs:qa<4294967296:=by rw [hqa,hvv];exact aHv huv2 hA1
   have hdm:=Nat.div_add_mod (u*4294967296+a1) v;rw [←hqa,←hR1,Nat.mul_comm] at hdm;have hR1q:((u*4294967296%18446744073709551616+a1)%18446744073709551616+18446744073709551616-qa*v%18446744073709551616)%18446744073709551616=R1:=by rw [aTT (by omega) (by omega)];omega
   refine seg 24 0 [(17,.int .u64 ((R1:Nat):Int)),(18,.int .u64 ((R1 / v1:Nat):Int)),(16,.int .u64 ((R1%v1:Nat):Int))] (fc (aF1 u 4294967296 (u*4294967296%18446744073709551616) rfl) (fc (aGT (u*4294967296%18446744073709551616) a1 ((u*4294967296%18446744073709551616+a1)%18446744073709551616) rfl) (fc (aF1 qa v (qa*v%18446744073709551616) rfl) (fc (aHP ((u*4294967296%18446744073709551616+a1)%18446744073709551616) (qa*v%18446744073709551616) R1 (Nat.mod_lt _ (by omega)) hR1q) (fc (aTh R1 v1 (R1 / v1) (by omega) (by omega) rfl) (fc (aF1 (R1 / v1) v1 (R1 / v1*v1)) (fc (aHP R1 (R1 / v1*v1) (R1%v1)) f0))))))) ?_
   have cu16:∀ (qb:Nat) (w2:World),qb=(R1*4294967296+a0) / (v1*4294967296+v0)->Mm nF_ w w2 []->aQw Z (some (28,0)) [(18,.int .u64 ((qb:Nat):Int)),(17,.int .u64 ((R1:Nat):Int)),(15,.int .u64 ((qa:Nat):Int)),(14,.int .u64 ((a0:Nat):Int)),(2,.int .u64 ((v:Nat):Int)),(8,.int .u64 ((s:Nat):Int))] w2:=by
    intro qb w2 hqb hM;rw [←hvv] at hqb;have hqs2:qb<4294967296:=by rw [hqb,hvv];exact aHv hRv2 hA0
    exact rt2 6 7 (.int .u64 ((qa*4294967296+qb:Nat):Int)) (.int .u64 ((((R1*4294967296%18446744073709551616+a0)%18446744073709551616+18446744073709551616-qb*v%18446744073709551616)%18446744073709551616 / 2 ^ s:Nat):Int)) rfl rfl (fc (aF1 qa 4294967296 (qa*4294967296)) (fc (aGT (qa*4294967296) qb (qa*4294967296+qb)) (fc (aF1 R1 4294967296 (R1*4294967296%18446744073709551616) rfl) (fc (aGT (R1*4294967296%18446744073709551616) a0 ((R1*4294967296%18446744073709551616+a0)%18446744073709551616) rfl) (fc (aF1 qb v (qb*v%18446744073709551616) rfl) (fc (aHP ((R1*4294967296%18446744073709551616+a0)%18446744073709551616) (qb*v%18446744073709551616) (((R1*4294967296%18446744073709551616+a0)%18446744073709551616+18446744073709551616-qb*v%18446744073709551616)%18446744073709551616) (Nat.mod_lt _ (by omega)) rfl) (fc (aOU (((R1*4294967296%18446744073709551616+a0)%18446744073709551616+18446744073709551616-qb*v%18446744073709551616)%18446744073709551616) s (((R1*4294967296%18446744073709551616+a0)%18446744073709551616+18446744073709551616-qb*v%18446744073709551616)%18446744073709551616 / 2 ^ s) (by omega) rfl) f0))))))) (hZ _ _ ⟨⟨_,by rw [hfin,←hqa,←hqb]⟩,hM.fr⟩)
   have ah:∀ (aa:Nat) (q2:Nat) (r2:Nat) (w2:World),Kn v1 v0 R1 a0 q2 r2->r2<4294967296->Mm nF_ w w2 []->aa=4294967296-r2->aQw Z (some (24,0)) [(16,.int .u64 ((r2:Nat):Int)),(18,.int .u64 ((q2:Nat):Int)),(17,.int .u64 ((R1:Nat):Int)),(15,.int .u64 ((qa:Nat):Int)),(14,.int .u64 ((a0:Nat):Int)),(10,.int .u64 ((v0:Nat):Int)),(9,.int .u64 ((v1:Nat):Int)),(2,.int .u64 ((v:Nat):Int)),(8,.int .u64 ((s:Nat):Int))] w2:=by
    refine aCC fun aa ab q2 r2 w2 hkq2 hrq2 hM ar=>?_;have hlq2:=hkq2.le;have hmq2:q2*v0<=18446744073709551615:=by have:=Nat.mul_le_mul hlq2 (show v0<=4294967295 by omega);omega
    refine seg 24 3 [(104,vB (decide (4294967296<=((q2:Nat):Int))))] f0 ?_;cases h20:(decide (4294967296<=((q2:Nat):Int)))
    rotate_left
    ·have ai:=dt h20;have q2d:=aHw (by omega) hRv2 hA0 hkq2 (.inl (by omega));refine seg 27 2 [(18,.int .u64 ((q2-1:Nat):Int)),(16,.int .u64 ((r2+v1:Nat):Int)),(120,vB (decide (4294967296<=((r2+v1:Nat):Int))))] (fc (aHP q2 1 (q2-1)) (fc (aGT r2 v1 (r2+v1)) f0)) ?_;cases h23:(decide (4294967296<=((r2+v1:Nat):Int)))
     ·have aj:=df h23;refine seg 24 0 [] f0 (aAj _ (ab _ (by omega) (q2-1) (r2+v1) _ q2d.2.1 (by omega) hM rfl))
     have aj:=dt h23;refine seg 28 0 [] f0 (aAj _ (cu16 (q2-1) _ (aFs (by omega) hb0 q2d.2.1 q2d.2.2 (by omega)) hM))
    have ai:=df h20;refine seg 24 12 [(113,vB (decide (((4294967296*r2+a0:Nat):Int)<((q2*v0:Nat):Int))))] (fc (aF1 q2 v0 (q2*v0)) (fc (aF1 4294967296 r2 (4294967296*r2)) (fc (aGT (4294967296*r2) a0 (4294967296*r2+a0)) f0))) ?_;cases h21:(decide (((4294967296*r2+a0:Nat):Int)<((q2*v0:Nat):Int)))
    ·have ak:=df h21;refine seg 28 0 [] f0 (aAj _ (cu16 q2 _ (aJ2 (by omega) hkq2 (by omega)) hM))
    have ak:=dt h21;have q2d:=aHw (by omega) hRv2 hA0 hkq2 (.inr (by omega));refine seg 27 2 [(18,.int .u64 ((q2-1:Nat):Int)),(16,.int .u64 ((r2+v1:Nat):Int)),(120,vB (decide (4294967296<=((r2+v1:Nat):Int))))] (fc (aHP q2 1 (q2-1)) (fc (aGT r2 v1 (r2+v1)) f0)) ?_;cases h22:(decide (4294967296<=((r2+v1:Nat):Int)))
    ·have al:=df h22;refine seg 24 0 [] f0 (aAj _ (ab _ (by omega) (q2-1) (r2+v1) _ q2d.2.1 (by omega) hM rfl))
    have al:=dt h22;refine seg 28 0 [] f0 (aAj _ (cu16 (q2-1) _ (aFs (by omega) hb0 q2d.2.1 q2d.2.2 (by omega)) hM))
   exact aAj _ (ah _ (R1 / v1) (R1%v1) _ hk2 (by have:=Nat.mod_lt R1 (show 0<v1 by omega);omega) hM rfl)
  have am:∀ (ac:Nat) (q1:Nat) (r1:Nat) (w2:World),Kn v1 v0 u a1 q1 r1->r1<4294967296->Mm nF_ w w2 []->ac=4294967296-r1->aQw Z (some (17,0)) [(16,.int .u64 ((r1:Nat):Int)),(15,.int .u64 ((q1:Nat):Int)),(14,.int .u64 ((a0:Nat):Int)),(13,.int .u64 ((a1:Nat):Int)),(11,.int .u64 ((u:Nat):Int)),(10,.int .u64 ((v0:Nat):Int)),(9,.int .u64 ((v1:Nat):Int)),(2,.int .u64 ((v:Nat):Int)),(8,.int .u64 ((s:Nat):Int))] w2:=by
   refine aCC fun ac ad q1 r1 w2 hkq1 hrq1 hM au=>?_;have hlq1:=hkq1.le;have hmq1:q1*v0<=18446744073709551615:=by have:=Nat.mul_le_mul hlq1 (show v0<=4294967295 by omega);omega
   refine seg 17 3 [(69,vB (decide (4294967296<=((q1:Nat):Int))))] f0 ?_;cases h27:(decide (4294967296<=((q1:Nat):Int)))
   rotate_left
   ·have an:=dt h27;have q1d:=aHw (by omega) huv2 hA1 hkq1 (.inl (by omega));refine seg 20 2 [(15,.int .u64 ((q1-1:Nat):Int)),(16,.int .u64 ((r1+v1:Nat):Int)),(85,vB (decide (4294967296<=((r1+v1:Nat):Int))))] (fc (aHP q1 1 (q1-1)) (fc (aGT r1 v1 (r1+v1)) f0)) ?_;cases h30:(decide (4294967296<=((r1+v1:Nat):Int)))
    ·have ao:=df h30;refine seg 17 0 [] f0 (aAj _ (ad _ (by omega) (q1-1) (r1+v1) _ q1d.2.1 (by omega) hM rfl))
    have ao:=dt h30;refine seg 21 0 [] f0 (aAj _ (cu15 (q1-1) _ (aFs (by omega) hb0 q1d.2.1 q1d.2.2 (by omega)) hM))
   have an:=df h27;refine seg 17 12 [(78,vB (decide (((4294967296*r1+a1:Nat):Int)<((q1*v0:Nat):Int))))] (fc (aF1 q1 v0 (q1*v0)) (fc (aF1 4294967296 r1 (4294967296*r1)) (fc (aGT (4294967296*r1) a1 (4294967296*r1+a1)) f0))) ?_;cases h28:(decide (((4294967296*r1+a1:Nat):Int)<((q1*v0:Nat):Int)))
   ·have ap:=df h28;refine seg 21 0 [] f0 (aAj _ (cu15 q1 _ (aJ2 (by omega) hkq1 (by omega)) hM))
   have ap:=dt h28;have q1d:=aHw (by omega) huv2 hA1 hkq1 (.inr (by omega));refine seg 20 2 [(15,.int .u64 ((q1-1:Nat):Int)),(16,.int .u64 ((r1+v1:Nat):Int)),(85,vB (decide (4294967296<=((r1+v1:Nat):Int))))] (fc (aHP q1 1 (q1-1)) (fc (aGT r1 v1 (r1+v1)) f0)) ?_;cases h29:(decide (4294967296<=((r1+v1:Nat):Int)))
   ·have aq:=df h29;refine seg 17 0 [] f0 (aAj _ (ad _ (by omega) (q1-1) (r1+v1) _ q1d.2.1 (by omega) hM rfl))
   have aq:=dt h29;refine seg 21 0 [] f0 (aAj _ (cu15 (q1-1) _ (aFs (by omega) hb0 q1d.2.1 q1d.2.2 (by omega)) hM))
  exact aAj _ (am _ (u / v1) (u%v1) _ hk1 (by have:=Nat.mod_lt u (show 0<v1 by omega);omega) hM rfl)
def aC6 (a b c:Pt):Int:=(b.1-a.1)*(c.1-a.1)+(b.2-a.2)*(c.2-a.2)
def aAC (s:Pt×Pt) (p:Pt):Int :=
  bif !([s.1,s.2,p].all aA7) then 0
  else bif decide (aC6 s.1 s.2 p<=0) then aFg s.1 p
  else bif decide (aC6 s.1 s.2 s.2<=aC6 s.1 s.2 p) then aFg s.2 p
  else (((aB7 s.1 s.2 p).natAbs*(aB7 s.1 s.2 p).natAbs / (aC6 s.1 s.2 s.2).toNat:Nat):Int)
theorem m4 (a b c d:Int):(a*b)*(c*d)=(a*c)*(b*d):=by rw [Int.mul_assoc,Int.mul_assoc,Int.mul_left_comm b]
theorem aXh (a b c d:Int):(a*d-b*c)*(a*d-b*c)+(a*c+b*d)*(a*c+b*d)=(a*a+b*b)*(c*c+d*d):=by
  have e1:(a*d)*(a*d)=(a*a)*(d*d):=m4 ..;have e2:(b*c)*(b*c)=(b*b)*(c*c):=m4 ..;have e3:(a*c)*(a*c)=(a*a)*(c*c):=m4 ..;have e4:(b*d)*(b*d)=(b*b)*(d*d):=m4 ..;have e5:(a*d)*(b*c)=(a*c)*(b*d):=by rw [m4 a d b c,m4 a c b d,Int.mul_comm d c]
  have e6:(b*c)*(a*d)=(a*c)*(b*d):=by rw [Int.mul_comm,e5]
  have e7:(b*d)*(a*c)=(a*c)*(b*d):=Int.mul_comm ..;rw [Int.sub_mul,Int.mul_sub,Int.mul_sub,Int.add_mul,Int.mul_add,Int.mul_add,Int.add_mul,Int.mul_add,Int.mul_add];omega
theorem aOE (z:Int):((z.natAbs*z.natAbs:Nat):Int)=z*z:=by
  rw [Int.natCast_mul];exact Int.natAbs_mul_self' z
theorem aQ0 {a b c:Pt}{d:Nat}(ha:aA7 a=true) (hb:aA7 b=true) (hc:aA7 c=true) (hd:aC6 a b b=(d:Int)):(aB7 a b c).natAbs*(aB7 a b c).natAbs<=d*35184372088832:=by
  have ha:=aBg ha;have hb:=aBg hb;have hc:=aBg hc;have h1:=aXh (b.1-a.1) (b.2-a.2) (c.1-a.1) (c.2-a.2);have h2:=aES (x:=c.1-a.1) (by omega) (by omega);have h3:=aES (x:=c.2-a.2) (by omega) (by omega)
  have h4:0<=(aC6 a b c)*(aC6 a b c):=by
    rw [←aOE];exact Int.natCast_nonneg _
  have h5:aB7 a b c*aB7 a b c<=(d:Int)*35184372088832:=by
    have e:aB7 a b c*aB7 a b c+aC6 a b c*aC6 a b c=(d:Int)*((c.1-a.1)*(c.1-a.1)+(c.2-a.2)*(c.2-a.2)):=by
      rw [←hd];exact h1
    have h6:=Int.mul_le_mul_of_nonneg_left (c:=(d:Int)) (show (c.1-a.1)*(c.1-a.1)+(c.2-a.2)*(c.2-a.2)<=35184372088832 by omega) (by omega);omega
  rw [←aOE] at h5;omega
theorem aVc {P:Program}{w:World}{t:TypeId}(m:Int) (ht:P.underlying t=some (.int .i64)) (h : -9223372036854775808 <= -m /\ -m<=9223372036854775807:=by omega):Ft.ok P w (.g1 (fun x => .unOp .neg t x) (.int .i64 m) (.int .i64 (-m))):=fun o ρ x ho hx=>by
  simp [execOp,ho,hx,go_sem,ht,IntWalk.i64_in _ h]
theorem aLo {w:World}(a:Nat) {z:Int}(h:a<9223372036854775808) (hz:z=(a:Int)):Ft.ok Tryz.prog w (.g1 (.convert 3 164) (vI z) (v64 a)):=by subst hz;exact aWe a h
theorem aBQ (s:Pt×Pt) (p:Pt) (w:World):Calls Tryz.prog 113 #[.agg #[vI s.1.1,vI s.1.2,vI s.2.1,vI s.2.2],.agg #[vI p.1,vI p.2]] w fun e w'=>e = .returned (vI (aAC s p)) /\ Fr nF_ w w':=by
  refine beg Tryz.func113 rfl rfl [(0,.agg #[vI s.1.1,vI s.1.2,vI s.2.1,vI s.2.2]),(1,.agg #[vI p.1,vI p.2])] rfl rfl fun Y hY=>?_;have hM:=Mm.nil nF_ w;refine aA1 0 0 2 [] (cs:=#[vI s.1.1,vI s.1.2,vI s.2.1,vI s.2.2]) (T:=126) (v:=fun b=>vP b 0) f0 hM fun ae w1 hM=>aA1 0 1 3 [] (cs:=#[vI p.1,vI p.2]) (T:=29) (v:=fun b=>vP b 0) f0 hM fun af w1 hM=>aA1 1 5 18 [(14,.agg #[vI s.1.1,vI s.1.2]),(16,.agg #[vI s.2.1,vI s.2.2]),(17,.agg #[vI p.1,vI p.2])] (cs:=#[vI s.1.1,vI s.1.2,vI s.2.1,vI s.2.2,vI p.1,vI p.2]) (T:=29) (v:=fun b=>vL (some ⟨b,0,none⟩) 3 3) (fc (lam 29 0 0 2 hM rfl) (fc (lam 29 0 2 2 hM rfl) (fc (lam 29 1 0 2 hM rfl) f0))) hM fun ad w1 hM=>aAw 1 6 19 [] f0 hM (aCS (L:=[s.1,s.2,p]) (aBO (f:=ptL) (c:=2) (b:=ad) (hM.get 2 rfl) [s.1,s.2,p] 3 (fun _=>rfl) rfl rfl)) fun w1 hM=>seg 1 8 [(20,vB (!([s.1,s.2,p].all aA7)))] f0 ?_;cases aa:([s.1,s.2,p].all aA7)
  ·exact rt1 4 (vI 0) rfl f0 (hY _ _ ⟨by unfold aAC;simp only [aa]<;>rfl,hM.fr⟩)
  have ha:aA7 s.1=true:=List.all_eq_true.1 aa (s.1) (.head _);have ba:=aBg ha;have hb:aA7 s.2=true:=List.all_eq_true.1 aa (s.2) (.tail _ (.head _));have bb:=aBg hb;have hc:aA7 p=true:=List.all_eq_true.1 aa (p) (.tail _ (.tail _ (.head _)));have bc:=aBg hc;have ku:=aC3 (x:=(s.2.1-s.1.1)) (y:=(p.2-s.1.2)) (by omega) (by omega) (by omega) (by omega);have kv:=aC3 (x:=(s.2.2-s.1.2)) (y:=(p.1-s.1.1)) (by omega) (by omega) (by omega) (by omega);have kx:=aC3 (x:=(s.2.1-s.1.1)) (y:=(s.2.1-s.1.1)) (by omega) (by omega) (by omega) (by omega);have ky:=aC3 (x:=(s.2.2-s.1.2)) (y:=(s.2.2-s.1.2)) (by omega) (by omega) (by omega) (by omega);have htr : -35184372088832<=aB7 s.1 s.2 p /\ aB7 s.1 s.2 p<=35184372088832:=by unfold aB7;omega
  have hdd:aC6 s.1 s.2 s.2<=35184372088832:=by unfold aC6;omega
  refine seg 3 0 [] f0 ?_;have hM:=hM.nl;have hM:=hM.nl;refine drx [4,8,9,10,11,12] (fun Z=>[some (.agg #[vI (s.2.1-s.1.1),vI (s.2.2-s.1.2)]),some (.agg #[vI (p.1-s.1.1),vI (p.2-s.1.2)]),some (vP (bn (Z 2)) 0),some (vP (bn (Z 3)) 0),none,none]) _ (fun Z l=>[bk ae #[vI s.1.1,vI s.1.2,vI s.2.1,vI s.2.2] 126,bk af #[vI p.1,vI p.2] 29,bk ad #[vI s.1.1,vI s.1.2,vI s.2.1,vI s.2.2,vI p.1,vI p.2] 29,(bif l.getD 4 false then bk (bn (Z 2)) #[vI (s.2.1-s.1.1),vI (s.2.2-s.1.2)] 240 else (bif l.getD 2 false then bk (bn (Z 2)) #[vI 0,vI 0] 240 else aEk)),(bif l.getD 5 false then bk (bn (Z 3)) #[vI (p.1-s.1.1),vI (p.2-s.1.2)] 240 else (bif l.getD 3 false then bk (bn (Z 3)) #[vI 0,vI 0] 240 else aEk))]) (fun Z=>[(5,vP (bn (Z 2)) 0),(6,vP (bn (Z 3)) 0)]) hM (fun Z=>rfl) (fun Z l w5 hM=>(fc (lam 29 0 0 2 hM rfl) (fc (lam 29 0 2 2 hM rfl) (fc (lam 29 0 0 2 hM rfl) (fc (lam 29 1 0 2 hM rfl) f0))))) ⟨aA0 0 4 25 (f:=157) (fun Z=>#[.agg #[vI s.1.1,vI s.1.2],.agg #[vI s.2.1,vI s.2.2]]) (.agg #[vI (s.2.1-s.1.1),vI (s.2.2-s.1.2)]) (fun Z fr wm hM=>(aEp ha hb _)),aA0 1 8 29 (f:=157) (fun Z=>#[.agg #[vI s.1.1,vI s.1.2],.agg #[vI p.1,vI p.2]]) (.agg #[vI (p.1-s.1.1),vI (p.2-s.1.2)]) (fun Z fr wm hM=>(aEp ha hc _)),aCZ 2 9 3 5 (fun Z=>#[vI 0,vI 0]) 240 (fun b=>vP b 0),aCZ 3 10 4 6 (fun Z=>#[vI 0,vI 0]) 240 (fun b=>vP b 0),aBd 4 11 240 3 0 (fun Z=>(bn (Z 2))) (fun Z l=>#[vI 0,vI 0]) 240 (fun Z => .agg #[vI (s.2.1-s.1.1),vI (s.2.2-s.1.2)]),aBd 5 12 240 4 0 (fun Z=>(bn (Z 3))) (fun Z l=>#[vI 0,vI 0]) 240 (fun Z => .agg #[vI (p.1-s.1.1),vI (p.2-s.1.2)]),trivial⟩ fun ag w1 hM=>?_;replace hM:Mm nF_ w w1 [bk ae #[vI s.1.1,vI s.1.2,vI s.2.1,vI s.2.2] 126,bk af #[vI p.1,vI p.2] 29,bk ad #[vI s.1.1,vI s.1.2,vI s.2.1,vI s.2.2,vI p.1,vI p.2] 29,bk (bn (ag 2)) #[vI (s.2.1-s.1.1),vI (s.2.2-s.1.2)] 240,bk (bn (ag 3)) #[vI (p.1-s.1.1),vI (p.2-s.1.2)] 240]:=hM;refine aAw 4 2 32 [(30,.agg #[vI (s.2.1-s.1.1),vI (s.2.2-s.1.2)]),(31,.agg #[vI (p.1-s.1.1),vI (p.2-s.1.2)])] (fc (lam 240 3 0 2 hM rfl) (fc (lam 240 4 0 2 hM rfl) f0)) hM (aDN (x:=(s.2.1-s.1.1)) (y:=(s.2.2-s.1.2)) (u:=(p.1-s.1.1)) (v:=(p.2-s.1.2)) ⟨by omega,by omega⟩ ⟨by omega,by omega⟩ ⟨by omega,by omega⟩ ⟨by omega,by omega⟩) fun w1 hM=>seg 5 3 [(7,vI (aC6 s.1 s.2 p)),(33,vB (decide ((aC6 s.1 s.2 p)<=0)))] f0 ?_;cases ab:(decide ((aC6 s.1 s.2 p)<=0))
  rotate_left
  ·have ai:=dt ab;refine aAw 6 3 39 [(37,.agg #[vI s.1.1,vI s.1.2]),(38,.agg #[vI p.1,vI p.2])] (fc (lam 29 0 0 2 hM rfl) (fc (lam 29 1 0 2 hM rfl) f0)) hM (aGF s.1 p _) fun w1 hM=>rt1 4 (vI (aFg s.1 p)) rfl f0 (hY _ _ ⟨by unfold aAC;simp only [aa,ab]<;>rfl,hM.fr⟩)
  have ai:=df ab;refine aAw 7 3 44 [(41,vI (aC6 s.1 s.2 p)),(42,.agg #[vI (s.2.1-s.1.1),vI (s.2.2-s.1.2)]),(43,.agg #[vI (s.2.1-s.1.1),vI (s.2.2-s.1.2)])] (fc (lam 240 3 0 2 hM rfl) (fc (lam 240 3 0 2 hM rfl) f0)) hM (aDN (x:=(s.2.1-s.1.1)) (y:=(s.2.2-s.1.2)) (u:=(s.2.1-s.1.1)) (v:=(s.2.2-s.1.2)) ⟨by omega,by omega⟩ ⟨by omega,by omega⟩ ⟨by omega,by omega⟩ ⟨by omega,by omega⟩) fun w1 hM=>seg 7 6 [(40,vB (decide ((aC6 s.1 s.2 s.2)<=(aC6 s.1 s.2 p))))] f0 ?_;cases ac:(decide ((aC6 s.1 s.2 s.2)<=(aC6 s.1 s.2 p)))
  rotate_left
  ·have aj:=dt ac;refine aAw 8 3 49 [(47,.agg #[vI s.2.1,vI s.2.2]),(48,.agg #[vI p.1,vI p.2])] (fc (lam 29 0 2 2 hM rfl) (fc (lam 29 1 0 2 hM rfl) f0)) hM (aGF s.2 p _) fun w1 hM=>rt1 4 (vI (aFg s.2 p)) rfl f0 (hY _ _ ⟨by unfold aAC;simp only [aa,ab,ac]<;>rfl,hM.fr⟩)
  have aj:=df ac;obtain ⟨dn,hdn⟩:∃ z:Nat,aC6 s.1 s.2 s.2=(z:Int):=⟨(aC6 s.1 s.2 s.2).toNat,by omega⟩;obtain ⟨kn,hkn⟩:∃ z,z=(aB7 s.1 s.2 p).natAbs:=⟨_,rfl⟩;have hsq:=aQ0 ha hb hc hdn;rw [←hkn] at hsq;have hlt:kn*kn / 18446744073709551616<dn:=by rw [Nat.div_lt_iff_lt_mul (by omega)];omega
  have hkk:kn*kn / 18446744073709551616*18446744073709551616+kn*kn%18446744073709551616=kn*kn:=by rw [Nat.mul_comm (kn*kn / 18446744073709551616)];exact Nat.div_add_mod _ _
  refine aAw 9 2 52 [(50,.agg #[vI (s.2.1-s.1.1),vI (s.2.2-s.1.2)]),(51,.agg #[vI (p.1-s.1.1),vI (p.2-s.1.2)])] (fc (lam 240 3 0 2 hM rfl) (fc (lam 240 4 0 2 hM rfl) f0)) hM (aGe (x:=(s.2.1-s.1.1)) (y:=(s.2.2-s.1.2)) (u:=(p.1-s.1.1)) (v:=(p.2-s.1.2)) ⟨by omega,by omega⟩ ⟨by omega,by omega⟩ ⟨by omega,by omega⟩ ⟨by omega,by omega⟩) fun w1 hM=>seg 10 2 [(8,vI (aB7 s.1 s.2 p)),(54,vB (decide ((aB7 s.1 s.2 p)<0)))] f0 ?_;cases ah:(decide ((aB7 s.1 s.2 p)<0))
  ·have ak:=df ah;refine aAw 12 4 62 [(59,.int .u64 ((kn:Nat):Int)),(61,.int .u64 ((kn:Nat):Int))] (fc (aLo kn (z:=(aB7 s.1 s.2 p)) (by omega) (by omega)) (fc (aLo kn (z:=(aB7 s.1 s.2 p)) (by omega) (by omega)) f0)) hM ((Tryz.bits_Mul64 kn kn (by omega) (by omega) _).mono fun e w9 ⟨h1,h2⟩=>⟨h1,by rw [h2];exact Fr.refl _ _⟩) fun w1 hM=>aAw 13 4 70 [(66,.int .u64 ((kn*kn / 18446744073709551616:Nat):Int)),(67,.int .u64 ((kn*kn%18446744073709551616:Nat):Int)),(68,.agg #[vI (s.2.1-s.1.1),vI (s.2.2-s.1.2)]),(69,.agg #[vI (s.2.1-s.1.1),vI (s.2.2-s.1.2)])] (fc (lam 240 3 0 2 hM rfl) (fc (lam 240 3 0 2 hM rfl) f0)) hM (aDN (x:=(s.2.1-s.1.1)) (y:=(s.2.2-s.1.2)) (u:=(s.2.1-s.1.1)) (v:=(s.2.2-s.1.2)) ⟨by omega,by omega⟩ ⟨by omega,by omega⟩ ⟨by omega,by omega⟩ ⟨by omega,by omega⟩) fun w1 hM=>cal 13 6 72 [(71,.int .u64 ((dn:Nat):Int))] (K:=fun u w8=>∃ rem:Nat,u = .tuple #[v64 ((kn*kn / 18446744073709551616*18446744073709551616+kn*kn%18446744073709551616) / dn),v64 rem] /\ Fr nF_ w1 w8) (fc (aLo dn (z:=(aC6 s.1 s.2 s.2)) (by omega) (by omega)) f0) ((aGd hlt (Nat.mod_lt _ (by omega)) (by omega)).mono fun e w8 ⟨⟨rem,h1⟩,h2⟩=>⟨_,h1,rem,rfl,h2⟩) fun u w1 ⟨rem,hu,f1⟩=>?_;subst hu;have hM:=hM.q f1;have hqs9:(kn*kn / 18446744073709551616*18446744073709551616+kn*kn%18446744073709551616) / dn<9223372036854775808:=by rw [hkk];exact Nat.lt_of_le_of_lt (Nat.div_le_of_le_mul hsq) (by omega)
   exact rt1 4 (vI (((kn*kn / 18446744073709551616*18446744073709551616+kn*kn%18446744073709551616) / dn:Nat):Int)) rfl (fc (aUU ((kn*kn / 18446744073709551616*18446744073709551616+kn*kn%18446744073709551616) / dn) hqs9) f0) (hY _ _ ⟨by unfold aAC;rw [aa,ab,ac,←hkn,hdn,Gt_,hkk];rfl,hM.fr⟩)
  have ak:=dt ah;refine aAw 12 4 62 [(8,vI (-(aB7 s.1 s.2 p))),(59,.int .u64 ((kn:Nat):Int)),(61,.int .u64 ((kn:Nat):Int))] (fc (aVc (aB7 s.1 s.2 p) u3_) (fc (aLo kn (z:=(-(aB7 s.1 s.2 p))) (by omega) (by omega)) (fc (aLo kn (z:=(-(aB7 s.1 s.2 p))) (by omega) (by omega)) f0))) hM ((Tryz.bits_Mul64 kn kn (by omega) (by omega) _).mono fun e w9 ⟨h1,h2⟩=>⟨h1,by rw [h2];exact Fr.refl _ _⟩) fun w1 hM=>aAw 13 4 70 [(66,.int .u64 ((kn*kn / 18446744073709551616:Nat):Int)),(67,.int .u64 ((kn*kn%18446744073709551616:Nat):Int)),(68,.agg #[vI (s.2.1-s.1.1),vI (s.2.2-s.1.2)]),(69,.agg #[vI (s.2.1-s.1.1),vI (s.2.2-s.1.2)])] (fc (lam 240 3 0 2 hM rfl) (fc (lam 240 3 0 2 hM rfl) f0)) hM (aDN (x:=(s.2.1-s.1.1)) (y:=(s.2.2-s.1.2)) (u:=(s.2.1-s.1.1)) (v:=(s.2.2-s.1.2)) ⟨by omega,by omega⟩ ⟨by omega,by omega⟩ ⟨by omega,by omega⟩ ⟨by omega,by omega⟩) fun w1 hM=>cal 13 6 72 [(71,.int .u64 ((dn:Nat):Int))] (K:=fun u w8=>∃ rem:Nat,u = .tuple #[v64 ((kn*kn / 18446744073709551616*18446744073709551616+kn*kn%18446744073709551616) / dn),v64 rem] /\ Fr nF_ w1 w8) (fc (aLo dn (z:=(aC6 s.1 s.2 s.2)) (by omega) (by omega)) f0) ((aGd hlt (Nat.mod_lt _ (by omega)) (by omega)).mono fun e w8 ⟨⟨rem,h1⟩,h2⟩=>⟨_,h1,rem,rfl,h2⟩) fun u w1 ⟨rem,hu,f1⟩=>?_;subst hu;have hM:=hM.q f1;have hqs9:(kn*kn / 18446744073709551616*18446744073709551616+kn*kn%18446744073709551616) / dn<9223372036854775808:=by rw [hkk];exact Nat.lt_of_le_of_lt (Nat.div_le_of_le_mul hsq) (by omega)
  exact rt1 4 (vI (((kn*kn / 18446744073709551616*18446744073709551616+kn*kn%18446744073709551616) / dn:Nat):Int)) rfl (fc (aUU ((kn*kn / 18446744073709551616*18446744073709551616+kn*kn%18446744073709551616) / dn) hqs9) f0) (hY _ _ ⟨by unfold aAC;rw [aa,ab,ac,←hkn,hdn,Gt_,hkk];rfl,hM.fr⟩)
def rnP (p:Pt):Bool:=decide (-2097152<=min p.1 p.2)&&decide (max p.1 p.2<=2097152)
def aL9 (L:List Pt):Bool:=decide (3<=(L.length:Int))&&decide ((L.length:Int)<=2000) && !(L.any fun p => !(rnP p))
def btw (a n b:Int):Bool:=decide (min a b<=n)&&decide (n<=max a b)
def aC0 (a b c:Pt):Int:=(b.1-a.1)*(c.2-b.2)-(b.2-a.2)*(c.1-b.1)
theorem aJt {p:Pt}(h:rnP p=true) : -2097152<=p.1 /\ p.1<=2097152 /\ -2097152<=p.2 /\ p.2<=2097152:=by
  unfold rnP at h;simp only [Ga_,decide_eq_true_eq] at h;omega
theorem aFJ (p:Pt) (w:World):Calls Tryz.prog 178 #[.agg #[vI p.1,vI p.2]] w fun e w'=>e = .returned (vB (rnP p)) /\ Fr nF_ w w':=by
  refine beg Tryz.func178 rfl rfl [(0,.agg #[vI p.1,vI p.2])] rfl rfl fun Z hZ=>?_;have hM:=Mm.nil nF_ w;refine aA1 0 0 1 [] (cs:=#[vI p.1,vI p.2]) (T:=29) (v:=fun b=>vP b 0) f0 hM fun ab w1 hM=>seg 1 7 [(9,vB (decide ((-2097152)<=(min p.1 p.2))))] (fc (ldm 3 0 0 hM rfl rfl) (fc (ldm 3 0 1 hM rfl rfl) (fc (aOJ 3 p.1 p.2) f0))) ?_;cases aa:(decide ((-2097152)<=(min p.1 p.2)))
  ·exact rt1 2 (vB false) rfl f0 (hZ _ _ ⟨by unfold rnP;simp only [aa]<;>rfl,hM.fr⟩)
  exact rt1 2 (vB (decide ((max p.1 p.2)<=2097152))) rfl (fc (ldm 3 0 0 hM rfl rfl) (fc (ldm 3 0 1 hM rfl rfl) (fc (aTj 3 p.1 p.2) f0))) (hZ _ _ ⟨by unfold rnP;simp only [aa]<;>rfl,hM.fr⟩)
theorem aL7 (p:Pt) (w:World):Calls Tryz.prog 177 #[.agg #[vI p.1,vI p.2]] w fun e w'=>e = .returned (vB (!(rnP p))) /\ Fr nF_ w w':=by
  refine beg Tryz.func177 rfl rfl [(0,.agg #[vI p.1,vI p.2])] rfl rfl fun Z hZ=>?_;have hM:=Mm.nil nF_ w;refine aA1 0 0 1 [] (cs:=#[vI p.1,vI p.2]) (T:=29) (v:=fun b=>vP b 0) f0 hM fun aa w1 hM=>aAw 1 1 4 [(3,.agg #[vI p.1,vI p.2])] (fc (lam 29 0 0 2 hM rfl) f0) hM (aFJ p _) fun w1 hM=>rt1 2 (vB (!(rnP p))) rfl f0 (hZ _ _ ⟨rfl,hM.fr⟩)
abbrev aWc (Z:Ending->World->Prop):=AtO Tryz.prog (aAK Tryz.f225) (aBc (bodyPost Tryz.prog Tryz.f225 Z)) [] 19
theorem aLM {w:World}{B:Nat}{p:Option Addr}{cap:Nat}{L:List Pt}{f:FuncId}{caps:Array Value}{G:Nat->Prop}(hs:SrcB ptL 2 w B p cap L) (hG:∀ k,G k->B<=k) (eg:aIR Tryz.prog f) (I:Nat->World->Prop) (q:Nat->Bool) (h0:I 0 w) (step:∀ i x w1,L[i]?=some x->(∀ j,j<i->q j=false)->I i w1->Fr G w w1->Calls Tryz.prog f (#[vA (ptL x)]++caps) w1 fun e w2=>e = .returned (vB (q i)) /\ I (i+1) w2 /\ Fr G w1 w2):Calls Tryz.prog 225 #[vL p L.length cap,.func (.func f) #[] caps] w fun e w'=>(∃ z,e = .returned (vI z) /\ Fst L q I w' z) /\ Fr G w w':=by
  have bb:=hs.bnd;refine beg Tryz.func225 rfl rfl [(0,vL p L.length cap),(1,.func (.func f) #[] caps)] rfl rfl fun Z hZ=>?_;have hM:=Mm.nil G w;refine seg 2 0 [(7,vI (L.length:Int)),(8,vI 0)] f0 ?_
  have af:∀ (ac:Nat) (i:Nat) (w2:World),i<=L.length->(∀ j,j<i->q j=false)->I i w2->Mm G w w2 []->ac=L.length-i->aWc Z (some (2,0)) [(8,vI (i:Int)),(7,vI (L.length:Int)),(0,vL p L.length cap),(1,.func (.func f) #[] caps)] w2:=by
   refine aCC fun ac ag i w2 hi hq hI hM ak=>seg 2 1 [(9,vB (decide ((i:Int)<(L.length:Int))))] f0 ?_;cases ad:(decide ((i:Int)<(L.length:Int)))
   ·have ah:=df ad;exact rt1 4 (vI (-1)) rfl f0 (hZ _ _ ⟨⟨_,rfl,.end_ (by omega) hq hI⟩,hM.fr⟩)
   have ah:=dt ad;obtain ⟨ab,aa,al,am,ai,aj,n110⟩:=(hs).eb hG (i:=i) (by omega);refine aS6 4 5 16 [(5,vI (i:Int)),(11,.func (.func f) #[] caps),(15,.agg #[vI ab.1,vI ab.2])] #[29] (K:=fun u w9=>u=vB (q i) /\ I (i+1) w9 /\ Fr G w2 w9) (by decide) (fc (ix 100 cap ai (gl aa)) (fc (la0 29 hM aj n110) f0)) eg ((step i ab _ aa hq hI hM.fr).mono fun e w9 h=>⟨_,h.1,rfl,h.2⟩) fun u w1 ⟨hu,hI,f1⟩=>?_;subst hu;have hM:=hM.g f1;cases ae:(q i)
   ·refine seg 2 0 [(8,vI ((i:Int)+1))] (fc (aA8 (i:Int) 1 u3_) f0) (aAj _ (ag _ (by omega) (i+1) _ (gl aa) (fun j hj=>by rcases Nat.lt_succ_iff_lt_or_eq.1 hj with h | h;exact hq j h;rw [h];exact ae) hI hM rfl))
   exact rt1 4 (vI (i:Int)) rfl f0 (hZ _ _ ⟨⟨_,rfl,.some i (gl aa) ae hq hI⟩,hM.fr⟩)
  exact aAj _ (af _ 0 _ (Gg_ _) (fun _ h=>absurd h (Nat.not_lt_zero _)) h0 hM rfl)
theorem aOo {w:World}{B:Nat}{p:Option Addr}{cap:Nat}{L:List Pt}{f:FuncId}{caps:Array Value}{G:Nat->Prop}(hs:SrcB ptL 2 w B p cap L) (hG:∀ k,G k->B<=k) (eg:aIR Tryz.prog f) (I:Nat->World->Prop) (q:Nat->Bool) (h0:I 0 w) (step:∀ i x w1,L[i]?=some x->(∀ j,j<i->q j=false)->I i w1->Fr G w w1->Calls Tryz.prog f (#[vA (ptL x)]++caps) w1 fun e w2=>e = .returned (vB (q i)) /\ I (i+1) w2 /\ Fr G w1 w2):Calls Tryz.prog 176 #[vL p L.length cap,.func (.func f) #[] caps] w fun e w'=>(∃ z,e = .returned (vB (decide (0<=z))) /\ Fst L q I w' z) /\ Fr G w w':=by
  refine beg Tryz.func176 rfl rfl [(0,vL p L.length cap),(1,.func (.func f) #[] caps)] rfl rfl fun Z hZ=>?_;have hM:=Mm.nil G w;refine cal 1 2 7 [(5,vL p L.length cap),(6,.func (.func f) #[] caps)] (K:=fun u w8=>∃ z,u=vI z /\ Fst L q I w8 z /\ Fr G w w8) f0 ((aLM hs hG eg I q h0 step).mono fun e w9 h=>⟨_,h.1.choose_spec.1,_,rfl,h.1.choose_spec.2,h.2⟩) fun u w1 ⟨z,hu,hz,f1⟩=>?_;subst hu;have hM:=hM.g f1;exact rt1 4 (vB (decide (0<=z))) rfl f0 (hZ _ _ ⟨⟨_,rfl,hz⟩,hM.fr⟩)
theorem aHl {w:World}{p:Option Addr}{cap:Nat}{L:List Pt}(hs:SrcP ptL 2 w p cap L):Calls Tryz.prog 128 #[vL p L.length cap] w fun e w'=>e = .returned (vB (aL9 L)) /\ Fr nF_ w w':=by
  refine beg Tryz.func128 rfl rfl [(0,vL p L.length cap)] rfl rfl fun Z hZ=>?_;have hM:=Mm.nil nF_ w;refine seg 1 4 [(6,vB (decide (3<=(L.length:Int))))] f0 ?_;cases aa:(decide (3<=(L.length:Int)))
  ·exact rt1 2 (vB false) rfl f0 (hZ _ _ ⟨by unfold aL9;simp only [aa]<;>rfl,hM.fr⟩)
  refine seg 1 9 [(11,vB (decide ((L.length:Int)<=2000)))] f0 ?_;cases ab:(decide ((L.length:Int)<=2000))
  ·exact rt1 2 (vB false) rfl f0 (hZ _ _ ⟨by unfold aL9;simp only [aa,ab]<;>rfl,hM.fr⟩)
  refine aAw 1 10 13 [(12,vL p L.length cap)] f0 hM ((aOo (caps:=#[]) (hs.b hM.fr) (G:=fun _=>False) (fun _ h=>h.elim) (enters_of Tryz.func177 (by kernel_rfl) rfl) (fun _ _=>True) (atQ L fun p => !(rnP p)) trivial (fun i x w1 hx _ _ f=>(aL7 x w1).mono fun e w2 h=>⟨by rw [h.1];unfold atQ;rw [hx],trivial,h.2⟩)).mono fun e w9 h=>⟨by obtain ⟨z,h1,h2⟩:=h.1;rw [h1,aH0 h2],h.2⟩) fun w1 hM=>rt1 2 (vB (!(L.any fun p => !(rnP p)))) rfl f0 (hZ _ _ ⟨by unfold aL9;simp only [aa,ab]<;>rfl,hM.fr⟩)
theorem aE6 (a n b:Int) (w:World):Calls Tryz.prog 232 #[vI a,vI n,vI b] w fun e w'=>e = .returned (vB (btw a n b)) /\ Fr nF_ w w':=by
  refine beg Tryz.func232 rfl rfl [(0,vI a),(1,vI n),(2,vI b)] rfl rfl fun Z hZ=>?_;have hM:=Mm.nil nF_ w;refine seg 1 6 [(12,vB (decide ((min a b)<=n)))] (fc (aOJ 3 a b) f0) ?_;cases aa:(decide ((min a b)<=n))
  ·exact rt1 6 (vB false) rfl f0 (hZ _ _ ⟨by unfold btw;simp only [aa]<;>rfl,hM.fr⟩)
  exact rt1 6 (vB (decide (n<=(max a b)))) rfl (fc (aTj 3 a b) f0) (hZ _ _ ⟨by unfold btw;simp only [aa]<;>rfl,hM.fr⟩)
theorem aLp {a b c:Pt}(ha:rnP a=true) (hb:rnP b=true) (hc:rnP c=true) (w:World):Calls Tryz.prog 231 #[.agg #[vI a.1,vI a.2],.agg #[vI b.1,vI b.2],.agg #[vI c.1,vI c.2]] w fun e w'=>e = .returned (vI (aC0 a b c)) /\ Fr nF_ w w':=by
  have ba:=aJt ha;have bb:=aJt hb;have bc:=aJt hc;have k1:=aC3 (x:=(b.1-a.1)) (y:=(c.2-b.2)) (by omega) (by omega) (by omega) (by omega);have k2:=aC3 (x:=(b.2-a.2)) (y:=(c.1-b.1)) (by omega) (by omega) (by omega) (by omega);refine beg Tryz.func231 rfl rfl [(0,.agg #[vI a.1,vI a.2]),(1,.agg #[vI b.1,vI b.2]),(2,.agg #[vI c.1,vI c.2])] rfl rfl fun Z hZ=>?_;have hM:=Mm.nil nF_ w;refine aA1 0 0 3 [] (cs:=#[vI a.1,vI a.2]) (T:=29) (v:=fun b=>vP b 0) f0 hM fun aa w1 hM=>aA1 0 1 4 [] (cs:=#[vI b.1,vI b.2]) (T:=29) (v:=fun b=>vP b 0) f0 hM fun ab w1 hM=>aA1 0 2 5 [] (cs:=#[vI c.1,vI c.2]) (T:=29) (v:=fun b=>vP b 0) f0 hM fun ac w1 hM=>rt1 6 (vI (((b.1-a.1)*(c.2-b.2))-((b.2-a.2)*(c.1-b.1)))) rfl (fc (ldm 3 1 0 hM rfl rfl) (fc (ldm 3 0 0 hM rfl rfl) (fc (aDU b.1 a.1 u3_) (fc (ldm 3 2 1 hM rfl rfl) (fc (ldm 3 1 1 hM rfl rfl) (fc (aDU c.2 b.2 u3_) (fc (aEA (b.1-a.1) (c.2-b.2) u3_) (fc (ldm 3 1 1 hM rfl rfl) (fc (ldm 3 0 1 hM rfl rfl) (fc (aDU b.2 a.2 u3_) (fc (ldm 3 2 0 hM rfl rfl) (fc (ldm 3 1 0 hM rfl rfl) (fc (aDU c.1 b.1 u3_) (fc (aEA (b.2-a.2) (c.1-b.1) u3_) (fc (aDU ((b.1-a.1)*(c.2-b.2)) ((b.2-a.2)*(c.1-b.1)) u3_) f0))))))))))))))) (hZ _ _ ⟨rfl,hM.fr⟩)
end Go.Proofs.YtngjlnhojicjeaaGreatDoor
