/- Part 4 of the proof. -/
import Derived.Test.YtnhljdeohelgjaaGreatDoorB3
import Derived.Test.YtnhljdeohelgjaaGreatDoorProg
set_option linter.unusedVariables false
set_option linter.unusedSimpArgs false
namespace Go.Proofs.YtnhljdeohelgjaaGreatDoor
open Go.RowKit Go.Pl
def fwd (a b:Bys):List Bys→Bool
  | x::y::t=>((x==a)&&(y==b))||fwd a b (y::t)
  | _=>false
theorem aMD {a b x y:Bys}{rs:List Bys}{m:Nat}(hx:rs[m]?=some x) (hy:rs[m+1]?=some y):fwd a b (rs.drop m)=(((x==a)&&(y==b))||fwd a b (rs.drop (m+1))):=by
  rw [gd hx,gd hy];rfl
theorem aQF {a b:Bys}{rs:List Bys}{m:Nat}(h:rs.length≤m+1):fwd a b (rs.drop m)=false:=by
  have:(rs.drop m).length≤1:=by rw [List.length_drop];omega
  cases h1:rs.drop m with
  | nil=>rfl
  | cons x t =>
    cases t with
    | nil=>rfl
    | cons y t=>rw [h1] at this;simp at this
abbrev A99 (Φ:Ending→World→Prop):=AtO Tryz.prog (aAr Tryz.f89) (aA2 (bodyPost Tryz.prog Tryz.f89 Φ)) [] 32
theorem aGW {w:World}{cl ow li:Bool}{sp:Int}{hv:Value}{pr:Option Addr}{cr:Nat}{rs:List Bys}(hs:SrcP stL 1 w pr cr rs) (a b:Bys):Calls Tryz.prog 89 #[.agg #[vB cl,vB ow,vB li,vI sp,hv,vL pr rs.length cr],vS a,vS b] w fun e w'=>e = .returned (vB (fwd a b rs))∧Fr (fun _=>False) w w':=by
  have bb:=hs.bnd;refine beg Tryz.func89 rfl rfl [(0,.agg #[vB cl,vB ow,vB li,vI sp,hv,vL pr rs.length cr]),(1,vS a),(2,vS b)] rfl rfl fun Φ hΦ=>?_;have hM:=Mm.nil (fun _=>False) w;refine aAn 0 0 3 [] (cs:=#[vB cl,vB ow,vB li,vI sp,hv,vL pr rs.length cr]) (T:=103) (v:=fun b=>vP b 0) f0 hM fun ac w1 hM=>seg 2 0 [(7,vI 1)] f0 ?_
  have ag:∀ (ad:Nat) (m:Nat) (w2:World),m≤rs.length→fwd a b rs=fwd a b (rs.drop m)→Mm (fun _=>False) w w2 [bk ac #[vB cl,vB ow,vB li,vI sp,hv,vL pr rs.length cr] 103]→ad=rs.length-m→A99 Φ (some (2,0)) [(7,vI ((m:Int)+1)),(3,vP ac 0),(1,vS a),(2,vS b)] w2:=by
   refine aBh fun ad ae m w2 hm hf hM ao=>seg 2 5 [(12,vB (decide (((m:Int)+1)<(rs.length:Int))))] (fc (ldm 27 0 5 hM rfl rfl) f0) ?_;cases af:(decide (((m:Int)+1)<(rs.length:Int)))
   ·have ah:=df af;exact rt1 6 (vB false) rfl f0 (hΦ _ _ ⟨by rw [hf,aQF (by omega)],hM.fr⟩)
   have ah:=dt af;obtain ⟨y1,hy1,ap,aq,ai,aj⟩:=hs.el (i:=m) (by omega);refine seg 4 9 [(23,vB (y1==a))] (fc (ldm 27 0 5 hM rfl rfl) (fc (aC8 ((m:Int)+1) 1 u3_) (fc (ix 27 cr ai (gl hy1) (z:=(((m:Int)+1)-1)) (hz:=(by omega))) (fc (ld0 9 hM (aj 0 _ rfl)) (fc (seq 9 y1 a) f0))))) ?_;cases aa:(y1==a)
   ·have ak:=ef aa;refine seg 2 0 [(7,vI (((m:Int)+1)+1))] (fc (aAh ((m:Int)+1) 1 u3_) f0) ?_;obtain ⟨y2,hy2,ar,au,av,aw⟩:=hs.el (i:=(m+1)) (by omega);exact aAb _ (ae _ (by omega) (m+1) _ (by have:=gl hy2;omega) (by rw [hf,aMD hy1 hy2];simp only [aa]<;>rfl) hM rfl)
   have ak:=et aa;obtain ⟨y2,hy2,ax,ay,al,am⟩:=hs.el (i:=(m+1)) (by omega);refine seg 4 17 [(31,vB (y2==b))] (fc (ldm 27 0 5 hM rfl rfl) (fc (ix 27 cr al (gl hy2)) (fc (ld0 9 hM (am 0 _ rfl)) (fc (seq 9 y2 b) f0)))) ?_;cases ab:(y2==b)
   ·have an:=ef ab;refine seg 2 0 [(7,vI (((m:Int)+1)+1))] (fc (aAh ((m:Int)+1) 1 u3_) f0) (aAb _ (ae _ (by omega) (m+1) _ (by have:=gl hy2;omega) (by rw [hf,aMD hy1 hy2];simp only [aa,ab]<;>rfl) hM rfl))
   have an:=et ab;exact rt1 6 (vB true) rfl f0 (hΦ _ _ ⟨by rw [hf,aMD hy1 hy2];simp only [aa,ab]<;>rfl,hM.fr⟩)
  exact aAb _ (ag _ 0 _ (Nat.zero_le _) rfl hM rfl)
structure StF (w:World) (bs ca bo br bb no nr nb:Nat) (qa:Option Addr) (prof:Bys) (os:List ObR) (T:aDI) (T2:RdT):Prop where
  blk:w.heap[bs]?=some (.cells #[vS prof,vL qa (AS os).length ca,.map (some bo),.map (some br),.map (some bb)] 66 (0,0))
  arcs:SrcP arL 4 w qa ca (AS os)
  out:aCj Tryz.prog 9 w bo no (aCg T)
  rows:∀ x∈T,Src inL 1 w x.2.1 x.2.2
  rds:aCj Tryz.prog 9 w br nr (rdF prof T2)
  hrs:∀ x∈T2,Src spL 2 w x.2 (aAc x.1.o)
  refs:∀ x∈T2,SrcP stL 1 w x.1.pr x.1.cr x.1.o.refs
  ban:aCj Tryz.prog 104 w bb nb (setT (aB8 prof os))
  ok:∀ a∈AS os,ArcB a
theorem StF.fr {w w':World}{bs ca bo br bb no nr nb:Nat}{qa:Option Addr}{prof:Bys}{os:List ObR}{T:aDI}{T2:RdT}(h:StF w bs ca bo br bb no nr nb qa prof os T T2) (f:Fr (fun _=>False) w w'):StF w' bs ca bo br bb no nr nb qa prof os T T2 :=
  ⟨f.obj h.blk id,h.arcs.fr f,h.out.fr f id,fun x hx=>(h.rows x hx).fr f,h.rds.fr f id,fun x hx=>(h.hrs x hx).fr f,fun x hx=>(h.refs x hx).fr f,h.ban.fr f id,h.ok⟩
def aD6 (prof:Bys) (os:List ObR) (a b:Arc):Bool:=(a.2.1==b.1) && !((aB8 prof os).contains (a.2.2.1,a.2.1,b.2.2.1))
theorem aHc {w:World}{bs ca bo br bb no nr nb:Nat}{qa:Option Addr}{prof:Bys}{os:List ObR}{T:aDI}{T2:RdT}(hS:StF w bs ca bo br bb no nr nb qa prof os T T2) {i k:Nat}(hi:i<(AS os).length) (hk:k<(AS os).length):Calls Tryz.prog 46 #[vP bs 0,vI (i:Int),vI (k:Int)] w fun e w'=>(∃ a b,(AS os)[i]?=some a∧(AS os)[k]?=some b∧e = .returned (vB (aD6 prof os a b)))∧Fr (fun _=>False) w w':=by
  have bb9:=hS.arcs.bnd;refine beg Tryz.func46 rfl rfl [(0,vP bs 0),(1,vI (i:Int)),(2,vI (k:Int))] rfl rfl fun Φ hΦ=>?_;have hM:=Mm.nil (fun _=>False) w;obtain ⟨a9,ha9⟩:=geb (l:=AS os) (i:=i) hi;obtain ⟨b9,hb9⟩:=geb (l:=AS os) (i:=k) hk;refine seg 1 0 [] f0 ?_;obtain ⟨a,ha,ah,ai,ac,ad⟩:=hS.arcs.el (i:=i) (by omega);obtain ⟨b,hb,aj,ak,ae,af⟩:=hS.arcs.el (i:=k) (by omega);have hM:=hM.nl;have hM:=hM.nl;refine drx [14,15,16,17] (fun γ=>[some (vP (bn (γ 0)) 0),some (vP (bn (γ 1)) 0),none,none]) _ (fun γ l=>[(bif l.getD 2 false then bk (bn (γ 0)) #[vS a.1,vS a.2.1,vS a.2.2.1,vI a.2.2.2] 68 else (bif l.getD 0 false then bk (bn (γ 0)) #[vS [],vS [],vS [],vI 0] 68 else aEc)),(bif l.getD 3 false then bk (bn (γ 1)) #[vS b.1,vS b.2.1,vS b.2.2.1,vI b.2.2.2] 68 else (bif l.getD 1 false then bk (bn (γ 1)) #[vS [],vS [],vS [],vI 0] 68 else aEc))]) (fun γ=>[(7,vP (bn (γ 0)) 0),(8,vP (bn (γ 1)) 0)]) hM (fun γ=>rfl) (fun γ l w5 hM=>(fc (ld0 34 hM (bx hS.blk 1 rfl)) (fc (ix 34 ca ac (gl ha)) (fc (la0 68 hM ad) (fc (ld0 34 hM (bx hS.blk 1 rfl)) (fc (ix 34 ca ae (gl hb)) (fc (la0 68 hM af) f0))))))) ⟨aBY 0 14 0 7 (fun γ=>#[vS [],vS [],vS [],vI 0]) 68 (fun b=>vP b 0),aBY 1 15 1 8 (fun γ=>#[vS [],vS [],vS [],vI 0]) 68 (fun b=>vP b 0),aA6 2 16 68 0 0 (fun γ=>(bn (γ 0))) (fun γ l=>#[vS [],vS [],vS [],vI 0]) 68 (fun γ => .agg #[vS a.1,vS a.2.1,vS a.2.2.1,vI a.2.2.2]),aA6 3 17 68 1 0 (fun γ=>(bn (γ 1))) (fun γ l=>#[vS [],vS [],vS [],vI 0]) 68 (fun γ => .agg #[vS b.1,vS b.2.1,vS b.2.2.1,vI b.2.2.2]),trivial⟩ fun ab w1 hM=>?_;replace hM:Mm (fun _=>False) w w1 [bk (bn (ab 0)) #[vS a.1,vS a.2.1,vS a.2.2.1,vI a.2.2.2] 68,bk (bn (ab 1)) #[vS b.1,vS b.2.1,vS b.2.2.1,vI b.2.2.2] 68]:=hM;refine seg 2 0 [] f0 ?_;cases aa:(a.2.1==b.1)
  ·have ag:=ef aa;have hM:=hM.q ((Fr.refl _ _).drew);refine drq [(6,vB false)] rfl (fc (ldm 9 0 1 hM rfl rfl) (fc (ldm 9 1 0 hM rfl rfl) (fc (rz (seq 9 a.2.1 b.1) aa) f0))) (rt1 6 (vB false) rfl f0 (hΦ _ _ ⟨⟨a,b,ha,hb,by unfold aD6;simp only [aa]<;>rfl⟩,hM.fr⟩))
  have ag:=et aa;have hM:=hM.q ((Fr.refl _ _).drew);refine drq [(6,vB (!((aB8 prof os).contains (a.2.2.1,a.2.1,b.2.2.1))))] rfl (fc (ldm 9 0 1 hM rfl rfl) (fc (ldm 9 1 0 hM rfl rfl) (fc (rz (seq 9 a.2.1 b.1) aa) (fc (ld0 64 hM (bx hS.blk 4 rfl)) (fc (ldm 9 0 2 hM rfl rfl) (fc (ldm 9 0 1 hM rfl rfl) (fc (ldm 9 1 2 hM rfl rfl) (fc (rz2 (lkN 64 (.agg #[vS a.2.2.1,vS a.2.1,vS b.2.2.1]) (vB false) (hS.ban.fr hM.fr id) aP6 Tryz.underlying64 (aP8 (a:=(a.2.2.1,a.2.1,b.2.2.1)) (hS.ok a (gm ha)).f3 (hS.ok a (gm ha)).f2 (hS.ok b (gm hb)).f3) (aN1 _)) (aLF (aB8 prof os) (a.2.2.1,a.2.1,b.2.2.1))) f0)))))))) (rt1 6 (vB (!((aB8 prof os).contains (a.2.2.1,a.2.1,b.2.2.1)))) rfl f0 (hΦ _ _ ⟨⟨a,b,ha,hb,by unfold aD6;simp only [aa]<;>rfl⟩,hM.fr⟩))
def aRE:Road:={ closed:=false,oneway:=false,limited:=false,speed:=0,hours:=[],refs:=[] }
def aFJ (prof:Bys) (os:List ObR) (id:Bys):Road:=match (aBv os).find? fun b=>b.o.id==id with
  | some b=>aAp prof b.o
  | none=>aRE
theorem aQp {prof:Bys}{os:List ObR}{T2:RdT}(h:T2.map (·.1)=aBv os) (id:Bys):(aBv os).find? (fun b=>b.o.id==id)=(T2.find? fun x=>x.1.o.id==id).map (·.1):=by
  rw [←h,List.find?_map];rfl
theorem aLg {os:List ObR}{a:Arc}(h:a∈AS os):∃ b,(aBv os).find? (fun b=>b.o.id==a.2.2.1)=some b:=by
  have ha:=aDa h;unfold aAm at ha;rw [List.mem_flatMap] at ha;obtain ⟨b,hb,ha⟩:=ha;unfold aC7 at ha
  cases hk:b.o.kind==2 with
  | false=>rw [hk] at ha;cases ha
  | true =>
    rw [hk] at ha
    have hid:a.2.2.1=b.o.id:=by
      have key:∀ (l:List Ob) (rs:List Bys),a∈aFH l b.o.id rs→a.2.2.1=b.o.id:=by
        intro l rs
        induction rs with
        | nil=>intro h;cases h
        | cons x t ih =>
          intro h
          cases t with
          | nil=>cases h
          | cons y t =>
            unfold aFH at h;rcases List.mem_cons.1 h with rfl | h
            · rfl
            · rcases List.mem_cons.1 h with rfl | h
              · rfl
              · exact ih h
      cases hw:aFC (aAw (aAa os)) os b.o.id with
      | none=>rw [hw] at ha;cases ha
      | some c=>rw [hw] at ha;exact key _ _ ha
    cases hf:(aBv os).find? (fun b=>b.o.id==a.2.2.1) with
    | some c=>exact ⟨c,rfl⟩
    | none =>
      have:=List.find?_eq_none.1 hf b (by unfold aBv;rw [List.mem_reverse,List.mem_filter];exact ⟨hb,hk⟩);simp [hid] at this
def aBq (prof:Bys) (os:List ObR) (a:Arc) (minute:Int):Option Int :=
  let r:=aFJ prof os a.2.2.1
  bif r.closed||(r.oneway && !fwd a.1 a.2.1 r.refs)||decide (1000000000<minute) then none
  else bif r.limited then
    (bif !((aAu r.hours minute).2)||decide (1000000000<(aAu r.hours minute).1) then none else some ((aAu r.hours minute).1+(a.2.2.2+r.speed-1) / r.speed))
  else some (minute+(a.2.2.2+r.speed-1) / r.speed)
theorem aEd {l:List Sp}{m:Int}(h:(aAu l m).2=true):m≤(aAu l m).1:=by
  unfold aAu at h ⊢
  split at h
  · rename_i hc
    rw [if_pos hc];simp only [Bool.and_eq_true] at hc;show m≤aB1 l m;unfold aB1
    cases hf:l.find? (fun s=>decide (m%10080<s.2)) with
    | some s=>show m≤m+max 0 (s.1-m%10080);omega
    | none =>
      show m≤m-m%10080+10080+(l.headD (0,0)).1
      cases l with
      | nil=>simp at hc
      | cons s l =>
        have:=(aBr.1 hc.1.1).1;show m≤m-m%10080+10080+s.1;omega
  · cases h
theorem aHy (s:Bys):1≤aA7 s∧aA7 s≤9999999:=by
  unfold aA7
  split
  · rename_i n _
    cases h:decide (n<1)||decide (9999999<n) || !(Lib.itoa n==s) with
    | true=>exact ⟨by show (1:Int)≤100;omega,by show (100:Int)≤_;omega⟩
    | false =>
      simp only [Bool.or_eq_false_iff,decide_eq_false_iff_not] at h;show 1≤n∧n≤9999999;omega
  · omega
theorem aE2 (o:Ob):(aAc o).length≤400000000:=by
  unfold aAc aFv;rcases aFh (aA8 o.tags [104,111,117,114,115]).1 with ⟨c,x,hp,-⟩ | ⟨l,hp,-,hl⟩
  · rw [hp];simp
  · rw [hp];show l.length≤_;omega
theorem aPI (w:World):(zeroValue 103).run Tryz.prog w = .ok (.agg #[vB false,vB false,vB false,vI 0,vL none 0 0,vL none 0 0]) w:=by kernel_rfl
theorem aQo {prof:Bys}{os:List ObR}{T2:RdT}{a:Arc}(hT:T2.map (·.1)=aBv os) (ha:a∈AS os) (z:Value):∃ x∈T2,(rdF prof T2 (vS a.2.2.1)).getD z=aEH prof x.1 x.2∧aFJ prof os a.2.2.1=aAp prof x.1.o:=by
  obtain ⟨b,hb⟩:=aLg ha;have h2:=aQp (prof:=prof) hT a.2.2.1;rw [hb] at h2;rw [aPw]
  cases hf:T2.find? (fun x=>x.1.o.id==a.2.2.1) with
  | none=>rw [hf] at h2;cases h2
  | some x =>
    rw [hf] at h2;refine ⟨x,List.mem_of_find?_eq_some hf,rfl,?_⟩;unfold aFJ;rw [hb,Option.some.inj h2]
theorem aKv {w:World}{bs ca bo br bb no nr nb:Nat}{qa:Option Addr}{prof:Bys}{os:List ObR}{T:aDI}{T2:RdT}(hS:StF w bs ca bo br bb no nr nb qa prof os T T2) (hT2:T2.map (·.1)=aBv os) {i:Nat}(hi:i<(AS os).length) {mi:Int}(hm0:0≤mi) (hm1:mi≤4000000000000000000):Calls Tryz.prog 42 #[vP bs 0,vI (i:Int),vI mi] w fun e w'=>(∃ a,(AS os)[i]?=some a∧e = .returned (match aBq prof os a mi with | some n => .tuple #[vI n,vB true] | none => .tuple #[vI 0,vB false]))∧Fr (fun _=>False) w w':=by
  have bb9:=hS.arcs.bnd;refine beg Tryz.func42 rfl rfl [(0,vP bs 0),(1,vI (i:Int)),(2,vI mi)] rfl rfl fun Φ hΦ=>?_;have hM:=Mm.nil (fun _=>False) w;obtain ⟨a,ha,av,aw,am,an⟩:=hS.arcs.el (i:=i) (by omega);refine aBD 1 7 8 [(18,.agg #[vS a.1,vS a.2.1,vS a.2.2.1,vI a.2.2.2])] [] 68 (.agg #[vS a.1,vS a.2.1,vS a.2.2.1,vI a.2.2.2]) (fc (ld0 34 hM (bx hS.blk 1 rfl)) (fc (ix 34 ca am (gl ha)) (fc (la0 68 hM an) f0))) hM fun al w1 hM=>?_;have hab:=hS.ok a (gm ha);obtain ⟨x,hx,hxv,hxr⟩:=aQo (prof:=prof) hT2 (gm ha) (.agg #[vB false,vB false,vB false,vI 0,vL none 0 0,vL none 0 0]);have hsp:=aHy (aA8 x.1.o.tags [115,112,101,101,100]).1;have hl1:=hab.pos;have hl2:=hab.lt;obtain ⟨spd,hspd⟩:∃ z,z=(aAp prof x.1.o).speed:=⟨_,rfl⟩;have hs1:1≤spd∧spd≤9999999:=hspd▸hsp;obtain ⟨qh,ch,hhv,-⟩:=(hS.hrs x hx).op;have hxw:(rdF prof T2 (vS a.2.2.1)).getD (.agg #[vB false,vB false,vB false,vI 0,vL none 0 0,vL none 0 0]) = .agg #[vB (aAp prof x.1.o).closed,vB (aAp prof x.1.o).oneway,vB (aAp prof x.1.o).limited,vI spd,vL qh (aAc x.1.o).length ch,vL x.1.pr x.1.o.refs.length x.1.cr]:=by rw [hxv,hspd,hhv]
  refine seg 2 0 [] f0 ?_;have hM:=hM.nl;refine drx [7,8] (fun γ=>[some (vP (bn (γ 0)) 0),none]) _ (fun γ l=>[bk al #[vS a.1,vS a.2.1,vS a.2.2.1,vI a.2.2.2] 68,(bif l.getD 1 false then bk (bn (γ 0)) #[vB (aAp prof x.1.o).closed,vB (aAp prof x.1.o).oneway,vB (aAp prof x.1.o).limited,vI spd,vL qh (aAc x.1.o).length ch,vL x.1.pr x.1.o.refs.length x.1.cr] 103 else (bif l.getD 0 false then bk (bn (γ 0)) #[vB false,vB false,vB false,vI 0,vL none 0 0,vL none 0 0] 103 else aEc))]) (fun γ=>[(9,vP (bn (γ 0)) 0)]) hM (fun γ=>rfl) (fun γ l w5 hM=>(fc (ld0 63 hM (bx hS.blk 3 rfl)) (fc (ldm 9 0 2 hM rfl rfl) (fc (rz2 (lkN 63 (vS a.2.2.1) (.agg #[vB false,vB false,vB false,vI 0,vL none 0 0,vL none 0 0]) (hS.rds.fr hM.fr id) aDw u63_ (aDx hab.f3) (aPI _)) hxw) f0)))) ⟨aBY 0 7 1 9 (fun γ=>#[vB false,vB false,vB false,vI 0,vL none 0 0,vL none 0 0]) 103 (fun b=>vP b 0),aA6 1 8 103 1 0 (fun γ=>(bn (γ 0))) (fun γ l=>#[vB false,vB false,vB false,vI 0,vL none 0 0,vL none 0 0]) 103 (fun γ => .agg #[vB (aAp prof x.1.o).closed,vB (aAp prof x.1.o).oneway,vB (aAp prof x.1.o).limited,vI spd,vL qh (aAc x.1.o).length ch,vL x.1.pr x.1.o.refs.length x.1.cr]),trivial⟩ fun ao w1 hM=>?_;replace hM:Mm (fun _=>False) w w1 [bk al #[vS a.1,vS a.2.1,vS a.2.2.1,vI a.2.2.2] 68,bk (bn (ao 0)) #[vB (aAp prof x.1.o).closed,vB (aAp prof x.1.o).oneway,vB (aAp prof x.1.o).limited,vI spd,vL qh (aAc x.1.o).length ch,vL x.1.pr x.1.o.refs.length x.1.cr] 103]:=hM;refine seg 3 3 [(28,vB (aAp prof x.1.o).closed)] (fc (ldm 4 1 0 hM rfl rfl) f0) ?_
  cases aa:(aAp prof x.1.o).closed with
  | false =>
   refine seg 3 6 [(31,vB (aAp prof x.1.o).oneway)] (fc (ldm 4 1 1 hM rfl rfl) f0) ?_
   cases ab:(aAp prof x.1.o).oneway with
   | false =>
    refine seg 3 19 [(44,vB (decide (1000000000<mi)))] f0 ?_;cases ac:(decide (1000000000<mi))
    rotate_left
    ·have ap:=dt ac;exact rt2 6 7 (vI 0) (vB false) rfl rfl f0 (hΦ _ _ ⟨⟨a,ha,by unfold aBq;simp only [hxr,show (aAp prof x.1.o).refs=x.1.o.refs from rfl,show (aAp prof x.1.o).hours=aAc x.1.o from rfl,←hspd,aa,ab,ac]<;>rfl⟩,hM.fr⟩)
    have ap:=df ac;refine seg 5 2 [(46,vB (aAp prof x.1.o).limited)] (fc (ldm 4 1 2 hM rfl rfl) f0) ?_
    cases af:(aAp prof x.1.o).limited with
    | false =>
     have hq0:0≤((a.2.2.2+spd)-1) / spd:=Int.ediv_nonneg (by omega) (by omega);have hq1:((a.2.2.2+spd)-1) / spd≤(a.2.2.2+spd)-1:=Int.ediv_le_self _ (by omega);exact rt2 6 7 (vI (mi+(((a.2.2.2+spd)-1) / spd))) (vB true) rfl rfl (fc (ldm 3 0 3 hM rfl rfl) (fc (ldm 3 1 3 hM rfl rfl) (fc (aAh a.2.2.2 spd u3_) (fc (aC8 (a.2.2.2+spd) 1 u3_) (fc (ldm 3 1 3 hM rfl rfl) (fc (aS5 ((a.2.2.2+spd)-1) spd u3_) (fc (aAh mi (((a.2.2.2+spd)-1) / spd) u3_) f0))))))) (hΦ _ _ ⟨⟨a,ha,by unfold aBq;simp only [hxr,show (aAp prof x.1.o).refs=x.1.o.refs from rfl,show (aAp prof x.1.o).hours=aAc x.1.o from rfl,←hspd,aa,ab,ac,af]<;>rfl⟩,hM.fr⟩)
    | true =>
     refine aAq 6 3 51 [(49,vL qh (aAc x.1.o).length ch),(50,vI mi)] (fc (ldm 98 1 4 hM rfl rfl) f0) hM (aEy (hhv▸(hS.hrs x hx).fr hM.fr) (aE2 _) mi) fun w1 hM=>seg 7 3 [(10,vI (aAu (aAc x.1.o) mi).1),(56,vB (!(aAu (aAc x.1.o) mi).2))] f0 ?_
     cases ag:(aAu (aAc x.1.o) mi).2 with
     | false =>
      exact rt2 6 7 (vI 0) (vB false) rfl rfl f0 (hΦ _ _ ⟨⟨a,ha,by unfold aBq;simp only [hxr,show (aAp prof x.1.o).refs=x.1.o.refs from rfl,show (aAp prof x.1.o).hours=aAc x.1.o from rfl,←hspd,aa,ab,ac,af,ag]<;>rfl⟩,hM.fr⟩)
     | true =>
      refine seg 7 6 [(59,vB (decide (1000000000<(aAu (aAc x.1.o) mi).1)))] f0 ?_;cases ah:(decide (1000000000<(aAu (aAc x.1.o) mi).1))
      rotate_left
      ·have aq:=dt ah;exact rt2 6 7 (vI 0) (vB false) rfl rfl f0 (hΦ _ _ ⟨⟨a,ha,by unfold aBq;simp only [hxr,show (aAp prof x.1.o).refs=x.1.o.refs from rfl,show (aAp prof x.1.o).hours=aAc x.1.o from rfl,←hspd,aa,ab,ac,af,ag,ah]<;>rfl⟩,hM.fr⟩)
      have aq:=df ah;have hng:=aEd ag;have hq0:0≤((a.2.2.2+spd)-1) / spd:=Int.ediv_nonneg (by omega) (by omega);have hq1:((a.2.2.2+spd)-1) / spd≤(a.2.2.2+spd)-1:=Int.ediv_le_self _ (by omega);exact rt2 6 7 (vI ((aAu (aAc x.1.o) mi).1+(((a.2.2.2+spd)-1) / spd))) (vB true) rfl rfl (fc (ldm 3 0 3 hM rfl rfl) (fc (ldm 3 1 3 hM rfl rfl) (fc (aAh a.2.2.2 spd u3_) (fc (aC8 (a.2.2.2+spd) 1 u3_) (fc (ldm 3 1 3 hM rfl rfl) (fc (aS5 ((a.2.2.2+spd)-1) spd u3_) (fc (aAh (aAu (aAc x.1.o) mi).1 (((a.2.2.2+spd)-1) / spd) u3_) f0))))))) (hΦ _ _ ⟨⟨a,ha,by unfold aBq;simp only [hxr,show (aAp prof x.1.o).refs=x.1.o.refs from rfl,show (aAp prof x.1.o).hours=aAc x.1.o from rfl,←hspd,aa,ab,ac,af,ag,ah]<;>rfl⟩,hM.fr⟩)
   | true =>
    refine aAq 3 11 37 [(32,.agg #[vB (aAp prof x.1.o).closed,vB (aAp prof x.1.o).oneway,vB (aAp prof x.1.o).limited,vI spd,vL qh (aAc x.1.o).length ch,vL x.1.pr x.1.o.refs.length x.1.cr]),(34,vS a.1),(36,vS a.2.1)] (fc (lam 103 1 0 6 hM rfl) (fc (ldm 9 0 0 hM rfl rfl) (fc (ldm 9 0 1 hM rfl rfl) f0))) hM (aGW (cl:=(aAp prof x.1.o).closed) (ow:=(aAp prof x.1.o).oneway) (li:=(aAp prof x.1.o).limited) (sp:=spd) (hv:=vL qh (aAc x.1.o).length ch) ((hS.refs x hx).fr hM.fr) a.1 a.2.1) fun w1 hM=>seg 3 16 [(41,vB (!(fwd a.1 a.2.1 x.1.o.refs)))] f0 ?_;cases ae:(fwd a.1 a.2.1 x.1.o.refs)
    ·exact rt2 6 7 (vI 0) (vB false) rfl rfl f0 (hΦ _ _ ⟨⟨a,ha,by unfold aBq;simp only [hxr,show (aAp prof x.1.o).refs=x.1.o.refs from rfl,show (aAp prof x.1.o).hours=aAc x.1.o from rfl,←hspd,aa,ab,ae]<;>rfl⟩,hM.fr⟩)
    refine seg 3 19 [(44,vB (decide (1000000000<mi)))] f0 ?_;cases ad:(decide (1000000000<mi))
    rotate_left
    ·have ar:=dt ad;exact rt2 6 7 (vI 0) (vB false) rfl rfl f0 (hΦ _ _ ⟨⟨a,ha,by unfold aBq;simp only [hxr,show (aAp prof x.1.o).refs=x.1.o.refs from rfl,show (aAp prof x.1.o).hours=aAc x.1.o from rfl,←hspd,aa,ab,ae,ad]<;>rfl⟩,hM.fr⟩)
    have ar:=df ad;refine seg 5 2 [(46,vB (aAp prof x.1.o).limited)] (fc (ldm 4 1 2 hM rfl rfl) f0) ?_
    cases ai:(aAp prof x.1.o).limited with
    | false =>
     have hq0:0≤((a.2.2.2+spd)-1) / spd:=Int.ediv_nonneg (by omega) (by omega);have hq1:((a.2.2.2+spd)-1) / spd≤(a.2.2.2+spd)-1:=Int.ediv_le_self _ (by omega);exact rt2 6 7 (vI (mi+(((a.2.2.2+spd)-1) / spd))) (vB true) rfl rfl (fc (ldm 3 0 3 hM rfl rfl) (fc (ldm 3 1 3 hM rfl rfl) (fc (aAh a.2.2.2 spd u3_) (fc (aC8 (a.2.2.2+spd) 1 u3_) (fc (ldm 3 1 3 hM rfl rfl) (fc (aS5 ((a.2.2.2+spd)-1) spd u3_) (fc (aAh mi (((a.2.2.2+spd)-1) / spd) u3_) f0))))))) (hΦ _ _ ⟨⟨a,ha,by unfold aBq;simp only [hxr,show (aAp prof x.1.o).refs=x.1.o.refs from rfl,show (aAp prof x.1.o).hours=aAc x.1.o from rfl,←hspd,aa,ab,ae,ad,ai]<;>rfl⟩,hM.fr⟩)
    | true =>
     refine aAq 6 3 51 [(49,vL qh (aAc x.1.o).length ch),(50,vI mi)] (fc (ldm 98 1 4 hM rfl rfl) f0) hM (aEy (hhv▸(hS.hrs x hx).fr hM.fr) (aE2 _) mi) fun w1 hM=>seg 7 3 [(10,vI (aAu (aAc x.1.o) mi).1),(56,vB (!(aAu (aAc x.1.o) mi).2))] f0 ?_
     cases aj:(aAu (aAc x.1.o) mi).2 with
     | false =>
      exact rt2 6 7 (vI 0) (vB false) rfl rfl f0 (hΦ _ _ ⟨⟨a,ha,by unfold aBq;simp only [hxr,show (aAp prof x.1.o).refs=x.1.o.refs from rfl,show (aAp prof x.1.o).hours=aAc x.1.o from rfl,←hspd,aa,ab,ae,ad,ai,aj]<;>rfl⟩,hM.fr⟩)
     | true =>
      refine seg 7 6 [(59,vB (decide (1000000000<(aAu (aAc x.1.o) mi).1)))] f0 ?_;cases ak:(decide (1000000000<(aAu (aAc x.1.o) mi).1))
      rotate_left
      ·have au:=dt ak;exact rt2 6 7 (vI 0) (vB false) rfl rfl f0 (hΦ _ _ ⟨⟨a,ha,by unfold aBq;simp only [hxr,show (aAp prof x.1.o).refs=x.1.o.refs from rfl,show (aAp prof x.1.o).hours=aAc x.1.o from rfl,←hspd,aa,ab,ae,ad,ai,aj,ak]<;>rfl⟩,hM.fr⟩)
      have au:=df ak;have hng:=aEd aj;have hq0:0≤((a.2.2.2+spd)-1) / spd:=Int.ediv_nonneg (by omega) (by omega);have hq1:((a.2.2.2+spd)-1) / spd≤(a.2.2.2+spd)-1:=Int.ediv_le_self _ (by omega);exact rt2 6 7 (vI ((aAu (aAc x.1.o) mi).1+(((a.2.2.2+spd)-1) / spd))) (vB true) rfl rfl (fc (ldm 3 0 3 hM rfl rfl) (fc (ldm 3 1 3 hM rfl rfl) (fc (aAh a.2.2.2 spd u3_) (fc (aC8 (a.2.2.2+spd) 1 u3_) (fc (ldm 3 1 3 hM rfl rfl) (fc (aS5 ((a.2.2.2+spd)-1) spd u3_) (fc (aAh (aAu (aAc x.1.o) mi).1 (((a.2.2.2+spd)-1) / spd) u3_) f0))))))) (hΦ _ _ ⟨⟨a,ha,by unfold aBq;simp only [hxr,show (aAp prof x.1.o).refs=x.1.o.refs from rfl,show (aAp prof x.1.o).hours=aAc x.1.o from rfl,←hspd,aa,ab,ae,ad,ai,aj,ak]<;>rfl⟩,hM.fr⟩)
  | true =>
   exact rt2 6 7 (vI 0) (vB false) rfl rfl f0 (hΦ _ _ ⟨⟨a,ha,by unfold aBq;simp only [hxr,show (aAp prof x.1.o).refs=x.1.o.refs from rfl,show (aAp prof x.1.o).hours=aAc x.1.o from rfl,←hspd,aa]<;>rfl⟩,hM.fr⟩)
def reL (x:Nat×Int):List Value:=[vI (x.1:Int),vI x.2]
theorem reT:ElT Tryz.prog reL 2 108 115:=⟨fun _=>rfl,by decide,fun x u hu=>by
 unfold reL at hu;rcases List.mem_cons.1 hu with rfl | hu
 ·rfl
 ·rw [List.mem_singleton] at hu;subst hu;rfl,Tryz.underlying108,aBj (by kernel_rfl)⟩
abbrev QM (q:Nat) (v:Value) (X:List (Nat×Int)):List Ent:=[bk q #[v] 108,rw_ reL 2 115 v X]
section
variable {w:World}{q n c:Nat}{p:Option Addr}
theorem aII (h:w.heap[q]?=some (.cells #[vL p n c] 108 (0,0))):(Instr.loadAt 108 (vP q 0)).run Tryz.prog w = .ok (vL p n c) w:=aBi (by kernel_rfl) (bx h 0 rfl)
theorem aQ4:Mth Tryz.prog w 106 (vP q 0) "Push" 315 (vP q 0):=by unfold Mth;kernel_rfl
theorem aRS:Mth Tryz.prog w 106 (vP q 0) "Pop" 314 (vP q 0):=by unfold Mth;kernel_rfl
theorem aMr (h:w.heap[q]?=some (.cells #[vL p n c] 108 (0,0))):Mth Tryz.prog w 106 (vP q 0) "Len" 312 (vL p n c):=by
 have e:(method (Tryz.prog.types.size+100) 106 (vP q 0) "Len").run Tryz.prog w=(do let x←Instr.loadAt 108 (vP q 0);pure (312,x):Sem (FuncId×Value)).run Tryz.prog w:=by kernel_rfl
 show (method (Tryz.prog.types.size+100) 106 (vP q 0) "Len").run Tryz.prog w=_;rw [e];simp [Sem.run_bind,aII h]
theorem aFo (h:w.heap[q]?=some (.cells #[vL p n c] 108 (0,0))):Mth Tryz.prog w 106 (vP q 0) "Less" 313 (vL p n c):=by
 have e:(method (Tryz.prog.types.size+100) 106 (vP q 0) "Less").run Tryz.prog w=(do let x←Instr.loadAt 108 (vP q 0);pure (313,x):Sem (FuncId×Value)).run Tryz.prog w:=by kernel_rfl
 show (method (Tryz.prog.types.size+100) 106 (vP q 0) "Less").run Tryz.prog w=_;rw [e];simp [Sem.run_bind,aII h]
theorem aFn (h:w.heap[q]?=some (.cells #[vL p n c] 108 (0,0))):Mth Tryz.prog w 106 (vP q 0) "Swap" 316 (vL p n c):=by
 have e:(method (Tryz.prog.types.size+100) 106 (vP q 0) "Swap").run Tryz.prog w=(do let x←Instr.loadAt 108 (vP q 0);pure (316,x):Sem (FuncId×Value)).run Tryz.prog w:=by kernel_rfl
 show (method (Tryz.prog.types.size+100) 106 (vP q 0) "Swap").run Tryz.prog w=_;rw [e];simp [Sem.run_bind,aII h]
theorem aUf (j:Nat) (hj:j≤4000000000000000000):Ft.ok Tryz.prog w (.g2 (fun x y => .binOp .quo 3 x y 3) (vI ((j:Int)-1)) (vI 2) (vI (((j-1) / 2:Nat):Int))):=fun o ρ x y ho hx hy=>by
 have e:Int.tdiv ((j:Int)-1) 2=(((j-1) / 2:Nat):Int):=by
  cases j with
  | zero=>rfl
  | succ k =>
   rw [show ((k+1:Nat):Int)-1=(k:Int) by omega];rfl
 have hw:IntKind.i64.wrap (((j-1:Nat):Int) / 2)=((j-1:Nat):Int) / 2:=IntWalk.i64_in _ ⟨by omega,by omega⟩;simp [execOp,ho,hx,hy,go_sem,u3_,e,hw]
end
theorem aE0 {w:World}{p:Option Addr}{n c:Nat}:Calls Tryz.prog 312 #[vL p n c] w fun e w'=>e = .returned (vI (n:Int))∧Fr (fun _=>False) w w':=by
 refine beg Tryz.func312 rfl rfl [(0,vL p n c)] rfl rfl fun Φ hΦ=>?_;have hM:=Mm.nil (fun _=>False) w;exact rt1 2 (vI (n:Int)) rfl f0 (hΦ _ _ ⟨rfl,hM.fr⟩)
theorem aBV {w:World}{p:Option Addr}{c i j:Nat}{X:List (Nat×Int)}(hs:SrcP reL 2 w p c X) (hi:i<X.length) (hj:j<X.length):Calls Tryz.prog 313 #[vL p X.length c,vI (i:Int),vI (j:Int)] w fun e w'=>(∃ b,e = .returned (vB b))∧Fr (fun _=>False) w w':=by
 have bb:=hs.bnd;refine beg Tryz.func313 rfl rfl [(0,vL p X.length c),(1,vI (i:Int)),(2,vI (j:Int))] rfl rfl fun Φ hΦ=>?_;have hM:=Mm.nil (fun _=>False) w;refine seg 1 0 [] f0 ?_;have hM:=hM.q ((Fr.refl _ _).drew);obtain ⟨y3,hy3,g3,o3,q3,r3⟩:=hs.el (i:=i) (by omega);obtain ⟨y4,hy4,g4,o4,q4,r4⟩:=hs.el (i:=j) (by omega);refine drq [(6,vB (decide (y3.2<y4.2)))] rfl (fc (ix 108 c q3 (gl hy3)) (fc (ld0 3 hM (r3 1 _ rfl)) (fc (ix 108 c q4 (gl hy4)) (fc (ld0 3 hM (r4 1 _ rfl)) f0)))) (rt1 6 (vB (decide (y3.2<y4.2))) rfl f0 (hΦ _ _ ⟨⟨_,rfl⟩,hM.fr⟩))
theorem aBQ {w:World}{G:Nat→Prop}{p:Option Addr}{c i j:Nat}{X:List (Nat×Int)}{x y:Nat×Int}(hM0:Mm G w w [rw_ reL 2 115 (vL p X.length c) X]) (hx:X[i]?=some x) (hy:X[j]?=some y):Calls Tryz.prog 316 #[vL p X.length c,vI (i:Int),vI (j:Int)] w fun e w'=>∃ (u:Value) (Mn:List Ent),e = .returned u∧(u = .tuple #[]∧Mn=[rw_ reL 2 115 (vL p X.length c) ((X.set i y).set j x)])∧Mm G w w' Mn:=by
 have hi9:=gl hx;have hj9:=gl hy;refine beg Tryz.func316 rfl rfl [(0,vL p X.length c),(1,vI (i:Int)),(2,vI (j:Int))] rfl rfl fun Φ hΦ=>?_;have hM:=hM0;refine seg 0 0 [] f0 ?_;obtain ⟨ad,aa,-⟩:=hM.el reT (j:=0) rfl hy;obtain ⟨ae,ab,-⟩:=hM.el reT (j:=0) rfl hx;obtain ⟨y13,ac⟩:=geb (l:=(X.set i y)) (i:=j) (by simp only [List.length_set];omega);refine drx [7,11,13,15] (fun γ=>[some (.agg #[vI (y.1:Int),vI y.2]),some (.agg #[vI (x.1:Int),vI x.2]),none,none]) _ (fun γ l=>[rw_ reL 2 115 (vL p X.length c) (bif l.getD 3 false then ((X.set i y).set j x) else (bif l.getD 2 false then (X.set i y) else X))]) (fun γ=>[]) hM (fun γ=>rfl) (fun γ l w5 hM=>(fc (ix 108 c aa (gl hy)) (fc (ix 108 c ab (gl hx)) (fc (ix 108 c ab (gl hx)) (fc (ix 108 c aa (gl hy)) f0))))) ⟨aPH (m:=X.length) (cap:=c) 0 7 115 0 0 2 j 13 X reT aa hy,aPH (m:=X.length) (cap:=c) 1 11 115 0 0 2 i 17 X reT ab hx,aF8 (m:=X.length) (cap:=c) 2 13 115 0 0 i X y (fun γ => .agg #[vI (y.1:Int),vI y.2]) reT ab hx (fun γ=>rfl),aF8 (m:=X.length) (cap:=c) 3 15 115 0 0 j (X.set i y) x (fun γ => .agg #[vI (x.1:Int),vI x.2]) reT aa ac (fun γ=>rfl),trivial⟩ fun af w1 hM=>?_;replace hM:Mm G w w1 [_]:=hM;exact rt0 rfl f0 (hΦ _ _ ⟨_,_,rfl,⟨rfl,rfl⟩,hM⟩)
section
variable {P:Program}{n:Nat}{w:World}
theorem aRf {α:Type}{f:α→List Value}{c:Nat}{o:Oper}{a:Act}{x y:Operand}{T E:TypeId}{B' G:Nat}{v:Value}{A S:List α}{q:Option Addr}{cap:Nat}(X:ElT P f c T E) (hby:∀ i,P.info? E=some i→i.bytes≤35) (ho:o.op = .call { callee := .builtin .append,args:=#[x,y],argTypes:=#[T,T] }) (hx:a.eval x=v) (hv:ow f c E w B' v A) (hy:a.eval y = .slice q S.length cap) (hsrc:aCM f c w G q S) (hq:q≠none) (hl:A.length+S.length≤4000000000000) (hB:B'≤w.heap.size) :
  ∃ w' v',(execOp a.eval o).run P w = .ok (.value v') w'∧ow f c E w' B' v' (A++S)∧Fr (fun k=>v.ownBlock=some k) w w'∧(v'.ownBlock=v.ownBlock∨v'.ownBlock=some w.heap.size):=by
 obtain ⟨i,z,hi,hz,hs,hzs,-⟩:=X.info;have hby:=hby i hi;obtain ⟨ad,rfl⟩:=Option.ne_none_iff_exists'.1 hq
 obtain ⟨v',w',hr,c1,c2,_,c4⟩:=run_append_own_at (P:=P) w B' T o.type E i z c _ X.hT hi hz hs rfl hzs X.pos v A.length _ hv ad S.length cap (S.flatMap f) (aBK X.len S) (fun j u hu=>by
  have hj:=(List.getElem?_eq_some_iff.1 hu).1;rw [aBK X.len] at hj;rcases hsrc with rfl | ⟨g,off,h2,_,h3⟩
  ·simp at hj
  ·obtain rfl:=Option.some.inj h2;have hm:j%c<c:=Nat.mod_lt _ X.pos;have hdv:j / c<S.length:=(Nat.div_lt_iff_lt_mul X.pos).2 hj;have e:j / c*c+j%c=j:=by rw [Nat.mul_comm];exact Nat.div_add_mod j c
   obtain ⟨s,hs⟩:∃ s,S[j / c]?=some s:=⟨_,List.getElem?_eq_getElem hdv⟩;have hfl:=aCG X.len S (j / c) s hs (j%c) hm;rw [e,hu] at hfl;have:=h3 _ s hs (j%c) u hfl.symm;rw [Addr.add_mid,←e,←Nat.add_assoc];exact this) (fun u hu=>by
  obtain ⟨s,_,hs⟩:=List.mem_flatMap.1 hu;exact X.one s u hs) (by unfold maxLen;omega) (by
  have:=Nat.mul_le_mul (Nat.le_refl (A.length+S.length)) hby
  omega) hB
 refine ⟨w',v',?_,?_,(Fr.refl _ _).grown c2 fun k hk _=>hk,c4⟩
 ·simp only [execOp,ho,resolve,invoke,builtin,Sem.run_bind,Sem.run_pure,Result.andThen_ok,List.map_toArray,List.map_cons,List.map_nil,hx,hy,hr]
 ·unfold ow;rw [List.length_append,List.flatMap_append];exact c1
end
section
variable {P:Program}{w w0:World}{rd:Option Nat}{B:Code}{r n:Nat}{L:Frm}{ef:List Nat}{V:Lts→List (Option Value)}{F:Lts→List Ft}{ds:List Deferred}{F0:Nat→Prop}{Mf:Lts→List Bool→List Ent}
theorem aPh {α:Type}{f:α→List Value}{c:Nat}(p i j d:Nat) (T E:TypeId) (G:Nat) (v:Lts→Value) (A S:List α) (q:Lts→Nat) (cap:Nat) (X:ElT P f c T E) (hby:∀ i,P.info? E=some i→i.bytes≤35) (hl:A.length+S.length≤4000000000000)
  (hsrc:∀ γ fr wm,Mm F0 w0 wm (Mf γ (flg B r ef i fr))→aCM f c wm (q γ+1) (some ⟨q γ,0,none⟩) S)
  (hj:∀ γ fr,(Mf γ (flg B r ef i fr))[j]?=some (rw_ f c E (v γ) A):=by intro γ fr;kernel_rfl)
  (hm:∀ γ fr p' c',(Mf γ (flg B r ef i fr)).set j (rw_ f c E (vL p' (A++S).length c') (A++S))=Mf (aB6 γ p (vL p' (A++S).length c')) ((flg B r ef i fr).set p true):=by intro γ fr p' c';kernel_rfl)
  (hV:∀ γ p' c',((V (aB6 γ p (vL p' (A++S).length c')))[p]?).getD none=some (vL p' (A++S).length c'):=by intro γ p' c';rfl)
  (hs:∀ γ,aNu (aAz B r) i (frX P w n B r L ef V F i γ)=aNt (aAz B r) i (fun x y => .call { callee := .builtin .append,args:=#[x,y],argTypes:=#[T,T] }) (v γ) (.slice (some ⟨q γ,0,none⟩) S.length cap) (some d):=by intro γ;kernel_rfl):Arm rd P w n B r L ef V F ds F0 w0 Mf p i:=by
 intro γ fr a wm Q o ho En hw hM;obtain ⟨x,y,h1,h2,h3,h4⟩:=aE9 ho En (hs γ);have hrow:ow f c E wm 0 (v γ) A:=hM.get j (hj γ fr);obtain ⟨w',v',g1,g2,g3,g4⟩:=aRf X hby h1 h2 hrow h3 (hsrc γ fr wm hM) (by simp) hl (Nat.zero_le _)
 have hM':=hM.put (w':=w') j (e':=rw_ f c E v' (A++S)) (hj γ fr) g3 (fun k _ e=>e) g2 (fun k e=>by
  have e:v'.ownBlock=some k:=e;rcases g4 with h3 | h3
  ·exact .inl (by rw [h3] at e;exact e)
  ·rw [h3] at e;cases e;exact .inr (Nat.le_refl _))
 obtain ⟨p',c',hv,-⟩:=g2.src X.len;subst hv;rw [hm] at hM';exact aC9 g1 ⟨vL p' (A++S).length c',γ.e p,by rw [aAo,hV,h4];rfl,by rw [aAo];exact hM'⟩
end
theorem aSY:∀ i,Tryz.prog.info? 115=some i→i.bytes≤35:=by
 intro i h;have e:(Tryz.prog.info? 115).map (·.bytes)=some 16:=by kernel_rfl
 rw [h] at e;have e:i.bytes=16:=by simpa using e
 omega
theorem aIA {w:World}{G:Nat→Prop}{q:Nat}{p:Option Addr}{c:Nat}{X:List (Nat×Int)}(hM0:Mm G w w (QM q (vL p X.length c) X)) (hl:X.length<4000000000000) (x:Nat×Int):Calls Tryz.prog 315 #[vP q 0,.iface 115 (.agg #[vI (x.1:Int),vI x.2])] w fun e w'=>∃ (u:Value) (Mn:List Ent),e = .returned u∧(u = .tuple #[]∧∃ v,Mn=QM q v (X++[x]))∧Mm G w w' Mn:=by
 refine beg Tryz.func315 rfl rfl [(0,vP q 0),(1,.iface 115 (.agg #[vI (x.1:Int),vI x.2]))] rfl rfl fun Φ hΦ=>?_;have hM:=hM0;refine seg 0 0 [] f0 ?_;have hM:=hM.nl;refine drx [3,6,7,9] (fun γ=>[some (vL p X.length c),some (vL (some ⟨(bn (γ 1)),0,none⟩) 1 1),some (vL (slp (γ 2)) (X++[x]).length (slc (γ 2))),none]) _ (fun γ l=>[bk q #[(bif l.getD 3 false then vL (slp (γ 2)) (X++[x]).length (slc (γ 2)) else vL p X.length c)] 108,(bif l.getD 2 false then rw_ reL 2 115 (vL (slp (γ 2)) (X++[x]).length (slc (γ 2))) (X++[x]) else rw_ reL 2 115 (vL p X.length c) X),(bif l.getD 1 false then bk (bn (γ 1)) #[vI (x.1:Int),vI x.2] 115 else aEc)]) (fun γ=>[]) hM (fun γ=>rfl) (fun γ l w5 hM=>f0) ⟨aHb 0 3 108 0 0 7 (fun γ=>q) (fun γ l=>#[(bif l.getD 3 false then vL (slp (γ 2)) (X++[x]).length (slc (γ 2)) else vL p X.length c)]) 108 (fun γ=>vL p X.length c),aBY 1 6 2 10 (fun γ=>#[vI (x.1:Int),vI x.2]) 115 (fun b=>vL (some ⟨b,0,none⟩) 1 1),aPh 2 7 1 11 108 115 0 (fun γ=>vL p X.length c) X [x] (fun γ=>(bn (γ 1))) 1 reT aSY (by simp;omega) (fun γ fr wm hM=>aAE (f:=reL) (x:=x) (hM.get 2 (e:=bk ((bn (γ 1))) (reL x).toArray 115) (by kernel_rfl)) (Nat.lt_succ_self _)),aA6 3 9 108 0 0 (fun γ=>q) (fun γ l=>#[(bif l.getD 3 false then vL (slp (γ 2)) (X++[x]).length (slc (γ 2)) else vL p X.length c)]) 108 (fun γ=>vL (slp (γ 2)) (X++[x]).length (slc (γ 2))),trivial⟩ fun aa w1 hM=>?_;replace hM:Mm G w w1 [bk q #[vL (slp (aa 2)) (X++[x]).length (slc (aa 2))] 108,_,bk (bn (aa 1)) #[vI (x.1:Int),vI x.2] 115]:=hM;exact rt0 rfl f0 (hΦ _ _ ⟨_,_,rfl,⟨rfl,_,rfl⟩,hM.pick [0,1]⟩)
theorem aKs {w:World}{G:Nat→Prop}{q n:Nat}{p:Option Addr}{c:Nat}{Y:List (Nat×Int)}{x:Nat×Int}(hn:n=Y.length+1) (hM0:Mm G w w (QM q (vL p n c) (Y++[x]))):Calls Tryz.prog 314 #[vP q 0] w fun e w'=>∃ (u:Value) (Mn:List Ent),e = .returned u∧(u = .iface 115 (.agg #[vI (x.1:Int),vI x.2])∧∃ v,Mn=QM q v Y)∧Mm G w w' Mn:=by
 have hn0:(Y++[x]).length=Y.length+1:=by simp
 have hx:(Y++[x])[n-1]?=some x:=by rw [hn];simp
 have hM:=hM0;obtain ⟨g,eg,-⟩:=hM.el reT (j:=1) rfl hx;subst eg;obtain ⟨pc,cc,ec,sc⟩:=(hM.src (j:=1) rfl reT.len).op;have bc:=sc.bnd;have hcc:=sc.le
 injection ec with ec1 ec2 ec3
 subst ec3;clear ec1 ec2 sc;refine beg Tryz.func314 rfl rfl [(0,vP q 0)] rfl rfl fun Φ hΦ=>?_
 skip
 obtain ⟨ab,aa,-⟩:=hM.el reT (j:=1) rfl hx;refine aBD 2 6 4 [(3,vL (some ⟨g,0,none⟩) n c),(13,.agg #[vI (x.1:Int),vI x.2])] [] 115 (.agg #[vI (x.1:Int),vI x.2]) (fc (ldm 108 0 0 hM rfl rfl) (fc (aC8 (n:Int) 1 u3_) (fc (ix 108 c aa (show n-1<n by omega) (z:=((n:Int)-1)) (hz:=(by omega))) (fc (lar 115 1 0 2 reT hM rfl aa hx) f0)))) hM fun ac w1 hM=>stm 3 7 [(19,vL (some ⟨g,0,none⟩) (n-1) c),(20,vP q 0)] 108 0 0 (vL (some ⟨g,0,none⟩) (n-1) c) (fc (aC8 (n:Int) 1 u3_) (fc (aTV 108 (z:=((n:Int)-1)) (g:=g) (n:=n) (cap:=c) (i:=n-1) (by omega) (by omega) (by omega) Tryz.underlying108) f0)) hM rfl fun w1 hM=>?_;have hM:=hM.popE (j:=1) reT.len rfl;exact rt1 2 (.iface 115 (.agg #[vI (x.1:Int),vI x.2])) rfl (fc (lam 115 2 0 2 hM rfl) f0) (hΦ _ _ ⟨_,_,rfl,⟨rfl,_,rfl⟩,hM.pick [0,1]⟩)
theorem aRy {P:Program}{w:World}{t:TypeId}(m n k:Int) (ht:P.underlying t=some (.int .i64)) (e:m-n=k) (h : -9223372036854775808≤m-n∧m-n≤9223372036854775807:=by omega):Ft.ok P w (.g2 (fun x y => .binOp .sub t x y t) (vI m) (vI n) (vI k)):=e▸aC8 m n ht h
abbrev aUX (Φ:Ending→World→Prop):=AtO Tryz.prog (aAr Tryz.f91) (aA2 (bodyPost Tryz.prog Tryz.f91 Φ)) [] 23
theorem aNC {w:World}{G:Nat→Prop}{q j0:Nat}{v:Value}{X:List (Nat×Int)}(hM0:Mm G w w (QM q v X)) (hl:X.length≤4000000000000) (hj0:j0<X.length):Calls Tryz.prog 91 #[.iface 106 (vP q 0),vI (j0:Int)] w fun e w'=>∃ (u:Value) (Mn:List Ent),e = .returned u∧(u = .tuple #[]∧∃ v' X',X'.Perm X∧Mn=QM q v' X')∧Mm G w w' Mn:=by
  refine beg Tryz.func91 rfl rfl [(0,.iface 106 (vP q 0)),(1,vI (j0:Int))] rfl rfl fun Φ hΦ=>?_;have hM:=hM0;refine seg 0 0 [] f0 ?_
  have af:∀ (aa:Nat) (v1:Value) (X1:List (Nat×Int)) (j:Nat) (w2:World),X1.Perm X→j<X1.length→Mm G w w2 [bk q #[v1] 108,rw_ reL 2 115 v1 X1]→aa=j→aUX Φ (some (0,0)) [(0,.iface 106 (vP q 0)),(1,vI (j:Int))] w2:=by
   refine aBh fun aa ag v1 X1 j w2 hp hj hM ai=>?_;have hle:=hp.length_eq;obtain ⟨ab,ac,e21,s21⟩:=(hM.src (j:=1) rfl reT.len).op;subst e21;refine seg 1 4 [(4,vI (((j-1) / 2:Nat):Int)),(11,vB ((((j-1) / 2:Nat):Int)==(j:Int)))] (fc (aC8 (j:Int) 1 u3_) (fc (aUf j (by omega)) f0)) ?_;cases h22:((((j-1) / 2:Nat):Int)==(j:Int))
   rotate_left
   ·have ah:=et h22;exact rt0 rfl f0 (hΦ _ _ ⟨_,_,rfl,⟨rfl,_,_,hp,rfl⟩,hM⟩)
   have ah:=ef h22
   have hj1:1≤j:=by
     have h9:¬ ((((j-1) / 2:Nat):Int)=(j:Int)):=fun e=>by rw [e] at h22;simp at h22
     omega
   refine aNx 1 7 15 [(12,.iface 106 (vP q 0)),(13,vI (j:Int)),(14,vI (((j-1) / 2:Nat):Int))] "Less" #[3,3] (by decide) f0 (aFo (hM.get 0 rfl)) (enters_of Tryz.func313 (by kernel_rfl) rfl) (K:=fun u w8=>(∃ b,u=vB b)∧Fr (fun _=>False) _ w8) ((aBV ((hM.src (j:=1) rfl reT.len).p.2) (i:=j) (j:=((j-1) / 2)) (by omega) (by omega)).mono fun e w8 ⟨⟨b,h1⟩,h2⟩=>⟨_,h1,⟨b,rfl⟩,h2⟩) fun u w1 ⟨⟨ad,hu⟩,f1⟩=>?_;have hM:=hM.q f1;subst hu;refine seg 1 10 [(17,vB (!ad))] f0 ?_
   cases h24:ad with
   | false =>
    exact rt0 rfl f0 (hΦ _ _ ⟨_,_,rfl,⟨rfl,_,_,hp,rfl⟩,hM⟩)
   | true =>
    obtain ⟨x25,hx25⟩:=geb (l:=X1) (i:=((j-1) / 2)) (by omega);obtain ⟨y25,ae⟩:=geb (l:=X1) (i:=j) (by omega);refine aNx 2 3 21 [(18,.iface 106 (vP q 0)),(19,vI (((j-1) / 2:Nat):Int)),(20,vI (j:Int))] "Swap" #[3,3] (by decide) f0 (aFn (hM.get 0 rfl)) (enters_of Tryz.func316 (by kernel_rfl) rfl) (aQ5 (K:=fun u Mn=>u = .tuple #[]∧Mn=[rw_ reL 2 115 (vL ab X1.length ac) ((X1.set ((j-1) / 2) y25).set j x25)]) [0] [1] hM rfl rfl (by decide) (fun hm=>(aBQ hm hx25 ae))) fun u w1 ⟨Mn,hK,hM⟩=>?_;obtain ⟨rfl,rfl⟩:=hK;refine seg 0 0 [(1,vI (((j-1) / 2:Nat):Int))] f0 (aAb _ (ag _ (by omega) (vL ab X1.length ac) ((X1.set ((j-1) / 2) y25).set j x25) ((j-1) / 2) _ ((aDR hx25 ae).trans hp) (by rw [List.length_set,List.length_set];omega) hM rfl))
  exact aAb _ (af _ v X j0 _ (List.Perm.refl _) hj0 hM rfl)
abbrev aUW (Φ:Ending→World→Prop):=AtO Tryz.prog (aAr Tryz.f92) (aA2 (bodyPost Tryz.prog Tryz.f92 Φ)) [] 48
theorem aKF {w:World}{G:Nat→Prop}{q n:Nat}{v:Value}{X:List (Nat×Int)}(hM0:Mm G w w (QM q v X)) (hl:X.length≤4000000000000) (hn:n≤X.length):Calls Tryz.prog 92 #[.iface 106 (vP q 0),vI 0,vI (n:Int)] w fun e w'=>∃ (u:Value) (Mn:List Ent),e = .returned u∧((∃ b,u=vB b)∧∃ v' X',X'.Perm X∧Mn=QM q v' X')∧Mm G w w' Mn:=by
  refine beg Tryz.func92 rfl rfl [(0,.iface 106 (vP q 0)),(1,vI 0),(2,vI (n:Int))] rfl rfl fun Φ hΦ=>?_;have hM:=hM0;refine seg 2 0 [(7,vI 0)] f0 ?_
  have al:∀ (ad:Nat) (v1:Value) (X1:List (Nat×Int)) (i:Nat) (w2:World),X1.Perm X→i≤n→Mm G w w2 [bk q #[v1] 108,rw_ reL 2 115 v1 X1]→ad=n-i→aUW Φ (some (2,0)) [(7,vI (i:Int)),(0,.iface 106 (vP q 0)),(1,vI 0),(2,vI (n:Int))] w2:=by
   refine aBh fun ad ac v1 X1 i w2 hp hi hM ap=>?_;have hle:=hp.length_eq;obtain ⟨aa,ab,e29,s29⟩:=(hM.src (j:=1) rfl reT.len).op;subst e29;refine seg 3 4 [(8,vI ((2*(i:Int))+1)),(18,vB (decide ((n:Int)≤((2*(i:Int))+1))))] (fc (aNs 2 (i:Int) u3_) (fc (aAh (2*(i:Int)) 1 u3_) f0)) ?_;cases h30:(decide ((n:Int)≤((2*(i:Int))+1)))
   rotate_left
   ·have am:=dt h30;exact rt1 6 (vB (decide (0<(i:Int)))) rfl f0 (hΦ _ _ ⟨_,_,rfl,⟨⟨_,rfl⟩,_,_,hp,rfl⟩,hM⟩)
   have am:=df h30;refine seg 3 7 [(21,vB (decide (((2*(i:Int))+1)<0)))] f0 ?_;cases h31:(decide (((2*(i:Int))+1)<0))
   rotate_left
   ·have an:=dt h31;omega
   have an:=df h31;refine seg 6 4 [(9,vI ((2*(i:Int))+1)),(10,vI (((2*(i:Int))+1)+1)),(28,vB (decide ((((2*(i:Int))+1)+1)<(n:Int))))] (fc (aAh ((2*(i:Int))+1) 1 u3_) f0) ?_;cases h32:(decide ((((2*(i:Int))+1)+1)<(n:Int)))
   ·have ao:=df h32;refine aNx 8 3 38 [(35,.iface 106 (vP q 0)),(36,vI ((2*(i:Int))+1)),(37,vI (i:Int))] "Less" #[3,3] (by decide) f0 (aFo (hM.get 0 rfl)) (enters_of Tryz.func313 (by kernel_rfl) rfl) (K:=fun u w8=>(∃ b,u=vB b)∧Fr (fun _=>False) _ w8) ((aBV ((hM.src (j:=1) rfl reT.len).p.2) (i:=(2*i+1)) (j:=i) (by omega) (by omega)).mono fun e w8 ⟨⟨b,h1⟩,h2⟩=>⟨_,h1,⟨b,rfl⟩,h2⟩) fun u w1 ⟨⟨ae,hu⟩,f1⟩=>?_;have hM:=hM.q f1;subst hu;refine seg 8 5 [(39,vB (!ae))] f0 ?_
    cases h34:ae with
    | false =>
     exact rt1 6 (vB (decide (0<(i:Int)))) rfl f0 (hΦ _ _ ⟨_,_,rfl,⟨⟨_,rfl⟩,_,_,hp,rfl⟩,hM⟩)
    | true =>
     obtain ⟨x35,hx35⟩:=geb (l:=X1) (i:=i) (by omega);obtain ⟨y35,af⟩:=geb (l:=X1) (i:=(2*i+1)) (by omega);refine aNx 9 3 43 [(40,.iface 106 (vP q 0)),(41,vI (i:Int)),(42,vI ((2*(i:Int))+1))] "Swap" #[3,3] (by decide) f0 (aFn (hM.get 0 rfl)) (enters_of Tryz.func316 (by kernel_rfl) rfl) (aQ5 (K:=fun u Mn=>u = .tuple #[]∧Mn=[rw_ reL 2 115 (vL aa X1.length ab) ((X1.set i y35).set (2*i+1) x35)]) [0] [1] hM rfl rfl (by decide) (fun hm=>(aBQ hm hx35 af))) fun u w1 ⟨Mn,hK,hM⟩=>?_;obtain ⟨rfl,rfl⟩:=hK;refine seg 2 0 [(7,vI ((2*(i:Int))+1))] f0 (aAb _ (ac _ (by omega) (vL aa X1.length ab) ((X1.set i y35).set (2*i+1) x35) (2*i+1) _ ((aDR hx35 af).trans hp) (by omega) hM rfl))
   have ao:=dt h32;refine aNx 6 7 32 [(29,.iface 106 (vP q 0)),(30,vI (((2*(i:Int))+1)+1)),(31,vI ((2*(i:Int))+1))] "Less" #[3,3] (by decide) f0 (aFo (hM.get 0 rfl)) (enters_of Tryz.func313 (by kernel_rfl) rfl) (K:=fun u w8=>(∃ b,u=vB b)∧Fr (fun _=>False) _ w8) ((aBV ((hM.src (j:=1) rfl reT.len).p.2) (i:=(2*i+1+1)) (j:=(2*i+1)) (by omega) (by omega)).mono fun e w8 ⟨⟨b,h1⟩,h2⟩=>⟨_,h1,⟨b,rfl⟩,h2⟩) fun u w1 ⟨⟨ag,hu⟩,f1⟩=>?_;have hM:=hM.q f1;subst hu;refine seg 6 9 [(33,vB ag)] f0 ?_
   cases h37:ag with
   | false =>
    refine aNx 8 3 38 [(35,.iface 106 (vP q 0)),(36,vI ((2*(i:Int))+1)),(37,vI (i:Int))] "Less" #[3,3] (by decide) f0 (aFo (hM.get 0 rfl)) (enters_of Tryz.func313 (by kernel_rfl) rfl) (K:=fun u w8=>(∃ b,u=vB b)∧Fr (fun _=>False) _ w8) ((aBV ((hM.src (j:=1) rfl reT.len).p.2) (i:=(2*i+1)) (j:=i) (by omega) (by omega)).mono fun e w8 ⟨⟨b,h1⟩,h2⟩=>⟨_,h1,⟨b,rfl⟩,h2⟩) fun u w1 ⟨⟨ah,hu⟩,f1⟩=>?_;have hM:=hM.q f1;subst hu;refine seg 8 5 [(39,vB (!ah))] f0 ?_
    cases h39:ah with
    | false =>
     exact rt1 6 (vB (decide (0<(i:Int)))) rfl f0 (hΦ _ _ ⟨_,_,rfl,⟨⟨_,rfl⟩,_,_,hp,rfl⟩,hM⟩)
    | true =>
     obtain ⟨x40,hx40⟩:=geb (l:=X1) (i:=i) (by omega);obtain ⟨y40,ai⟩:=geb (l:=X1) (i:=(2*i+1)) (by omega);refine aNx 9 3 43 [(40,.iface 106 (vP q 0)),(41,vI (i:Int)),(42,vI ((2*(i:Int))+1))] "Swap" #[3,3] (by decide) f0 (aFn (hM.get 0 rfl)) (enters_of Tryz.func316 (by kernel_rfl) rfl) (aQ5 (K:=fun u Mn=>u = .tuple #[]∧Mn=[rw_ reL 2 115 (vL aa X1.length ab) ((X1.set i y40).set (2*i+1) x40)]) [0] [1] hM rfl rfl (by decide) (fun hm=>(aBQ hm hx40 ai))) fun u w1 ⟨Mn,hK,hM⟩=>?_;obtain ⟨rfl,rfl⟩:=hK;refine seg 2 0 [(7,vI ((2*(i:Int))+1))] f0 (aAb _ (ac _ (by omega) (vL aa X1.length ab) ((X1.set i y40).set (2*i+1) x40) (2*i+1) _ ((aDR hx40 ai).trans hp) (by omega) hM rfl))
   | true =>
    refine aNx 8 3 38 [(9,vI (((2*(i:Int))+1)+1)),(35,.iface 106 (vP q 0)),(36,vI (((2*(i:Int))+1)+1)),(37,vI (i:Int))] "Less" #[3,3] (by decide) f0 (aFo (hM.get 0 rfl)) (enters_of Tryz.func313 (by kernel_rfl) rfl) (K:=fun u w8=>(∃ b,u=vB b)∧Fr (fun _=>False) _ w8) ((aBV ((hM.src (j:=1) rfl reT.len).p.2) (i:=(2*i+1+1)) (j:=i) (by omega) (by omega)).mono fun e w8 ⟨⟨b,h1⟩,h2⟩=>⟨_,h1,⟨b,rfl⟩,h2⟩) fun u w1 ⟨⟨aj,hu⟩,f1⟩=>?_;have hM:=hM.q f1;subst hu;refine seg 8 5 [(39,vB (!aj))] f0 ?_
    cases h42:aj with
    | false =>
     exact rt1 6 (vB (decide (0<(i:Int)))) rfl f0 (hΦ _ _ ⟨_,_,rfl,⟨⟨_,rfl⟩,_,_,hp,rfl⟩,hM⟩)
    | true =>
     obtain ⟨x43,hx43⟩:=geb (l:=X1) (i:=i) (by omega);obtain ⟨y43,ak⟩:=geb (l:=X1) (i:=(2*i+1+1)) (by omega);refine aNx 9 3 43 [(40,.iface 106 (vP q 0)),(41,vI (i:Int)),(42,vI (((2*(i:Int))+1)+1))] "Swap" #[3,3] (by decide) f0 (aFn (hM.get 0 rfl)) (enters_of Tryz.func316 (by kernel_rfl) rfl) (aQ5 (K:=fun u Mn=>u = .tuple #[]∧Mn=[rw_ reL 2 115 (vL aa X1.length ab) ((X1.set i y43).set (2*i+1+1) x43)]) [0] [1] hM rfl rfl (by decide) (fun hm=>(aBQ hm hx43 ak))) fun u w1 ⟨Mn,hK,hM⟩=>?_;obtain ⟨rfl,rfl⟩:=hK;refine seg 2 0 [(7,vI (((2*(i:Int))+1)+1))] f0 (aAb _ (ac _ (by omega) (vL aa X1.length ab) ((X1.set i y43).set (2*i+1+1) x43) (2*i+1+1) _ ((aDR hx43 ak).trans hp) (by omega) hM rfl))
  exact aAb _ (al _ v X 0 _ (List.Perm.refl _) (Nat.zero_le _) hM rfl)
theorem aIM {w:World}{G:Nat→Prop}{q:Nat}{v:Value}{X:List (Nat×Int)}(hM0:Mm G w w (QM q v X)) (hl:X.length<4000000000000) (x:Nat×Int):Calls Tryz.prog 44 #[.iface 106 (vP q 0),.iface 115 (.agg #[vI (x.1:Int),vI x.2])] w fun e w'=>∃ (u:Value) (Mn:List Ent),e = .returned u∧(u = .tuple #[]∧∃ v' X',X'.Perm (X++[x])∧Mn=QM q v' X')∧Mm G w w' Mn:=by
  refine beg Tryz.func44 rfl rfl [(0,.iface 106 (vP q 0)),(1,.iface 115 (.agg #[vI (x.1:Int),vI x.2]))] rfl rfl fun Φ hΦ=>?_;have hM:=hM0;obtain ⟨aa,ab,e44,s44⟩:=(hM.src (j:=1) rfl reT.len).op;subst e44;have hlx:(X++[x]).length=X.length+1:=by simp
  refine aUC 0 2 6 [(4,.iface 106 (vP q 0)),(5,.iface 115 (.agg #[vI (x.1:Int),vI x.2]))] "Push" #[20] (by decide) f0 aQ4 (enters_of Tryz.func315 (by kernel_rfl) rfl) (aQ5 (K:=fun u Mn=>u = .tuple #[]∧∃ v,Mn=QM q v (X++[x])) [] [0,1] hM rfl rfl (by decide) (fun hm=>(aIA hm hl x))) fun u w1 ⟨Mn,hK,hM⟩=>?_;obtain ⟨rfl,v45,rfl⟩:=hK;obtain ⟨ac,ad,e46,s46⟩:=(hM.src (j:=1) rfl reT.len).op;subst e46;refine aSB 1 2 9 [(7,.iface 106 (vP q 0)),(8,.iface 106 (vP q 0))] "Len" #[] (by decide) f0 (aMr (hM.get 0 rfl)) (enters_of Tryz.func312 (by kernel_rfl) rfl) (aSH aE0) fun u w1 ⟨hu,f1⟩=>?_;subst hu;have hM:=hM.q f1;refine aB3 1 4 11 [(10,vI (X.length:Int))] (K:=fun u Mn=>u = .tuple #[]∧∃ v' X',X'.Perm (X++[x])∧Mn=QM q v' X') [] [0,1] (fc (aRy ((X++[x]).length:Int) 1 (X.length:Int) u3_ (by omega)) f0) hM rfl rfl (by decide) (fun hm=>(aNC (j0:=X.length) hm (by omega) (by omega))) fun u Mn w1 hK hM=>?_;obtain ⟨rfl,v47,Y48,hY48,rfl⟩:=hK;obtain ⟨ae,af,e49,s49⟩:=(hM.src (j:=1) rfl reT.len).op;subst e49;exact rt0 rfl f0 (hΦ _ _ ⟨_,_,rfl,⟨rfl,_,_,hY48,rfl⟩,hM⟩)
theorem aKB {w:World}{G:Nat→Prop}{q:Nat}{v:Value}{X:List (Nat×Int)}(hM0:Mm G w w (QM q v X)) (hl:X.length≤4000000000000) (h0:0<X.length):Calls Tryz.prog 45 #[.iface 106 (vP q 0)] w fun e w'=>∃ (u:Value) (Mn:List Ent),e = .returned u∧(∃ x v' X',X.Perm (x::X')∧u = .iface 115 (.agg #[vI (x.1:Int),vI x.2])∧Mn=QM q v' X')∧Mm G w w' Mn:=by
  refine beg Tryz.func45 rfl rfl [(0,.iface 106 (vP q 0))] rfl rfl fun Φ hΦ=>?_;have hM:=hM0;obtain ⟨ab,ac,e50,s50⟩:=(hM.src (j:=1) rfl reT.len).op;subst e50;refine aSB 1 1 5 [(4,.iface 106 (vP q 0))] "Len" #[] (by decide) f0 (aMr (hM.get 0 rfl)) (enters_of Tryz.func312 (by kernel_rfl) rfl) (aSH aE0) fun u w1 ⟨hu,f1⟩=>?_;subst hu;have hM:=hM.q f1;obtain ⟨x51,hx51⟩:=geb (l:=X) (i:=0) (by omega);obtain ⟨y51,aa⟩:=geb (l:=X) (i:=(X.length-1)) (by omega);refine aNx 2 2 9 [(3,vI ((X.length-1:Nat):Int)),(7,.iface 106 (vP q 0)),(8,vI ((X.length-1:Nat):Int))] "Swap" #[3,3] (by decide) (fc (aRy (X.length:Int) 1 ((X.length-1:Nat):Int) u3_ (by omega)) f0) (aFn (hM.get 0 rfl)) (enters_of Tryz.func316 (by kernel_rfl) rfl) (aQ5 (K:=fun u Mn=>u = .tuple #[]∧Mn=[rw_ reL 2 115 (vL ab X.length ac) ((X.set 0 y51).set (X.length-1) x51)]) [0] [1] hM rfl rfl (by decide) (fun hm=>(aBQ hm hx51 aa))) fun u w1 ⟨Mn,hK,hM⟩=>?_;obtain ⟨rfl,rfl⟩:=hK;refine aB3 3 2 12 [(10,.iface 106 (vP q 0)),(11,vI ((X.length-1:Nat):Int))] (K:=fun u Mn=>(∃ b,u=vB b)∧∃ v' X',X'.Perm ((X.set 0 y51).set (X.length-1) x51)∧Mn=QM q v' X') [] [0,1] f0 hM rfl rfl (by decide) (fun hm=>(aKF (n:=(X.length-1)) hm (by simp only [List.length_set];omega) (by simp only [List.length_set];omega))) fun u Mn w1 hK hM=>?_;obtain ⟨⟨_,rfl⟩,v52,Y53,hY53,rfl⟩:=hK;obtain ⟨ad,ae,e55,s55⟩:=(hM.src (j:=1) rfl reT.len).op;subst e55;have hpm:=hY53.trans (aDR hx51 aa);have hln:=hpm.length_eq;obtain ⟨Z,x,hZ⟩:∃ Z x,Y53=Z++[x]:=⟨_,_,(List.dropLast_concat_getLast (l:=Y53) (by intro e;rw [e] at hln;simp only [List.length_set,List.length_nil] at hln;omega)).symm⟩;subst hZ;refine aSB 4 1 14 [(13,.iface 106 (vP q 0))] "Pop" #[] (by decide) f0 aRS (enters_of Tryz.func314 (by kernel_rfl) rfl) (aQ5 (K:=fun u Mn=>u = .iface 115 (.agg #[vI (x.1:Int),vI x.2])∧∃ v,Mn=QM q v Z) [] [0,1] hM rfl rfl (by decide) (fun hm=>(aKs (by simp) hm))) fun u w1 ⟨Mn,hK,hM⟩=>?_;obtain ⟨rfl,v56,rfl⟩:=hK;exact rt1 2 (.iface 115 (.agg #[vI (x.1:Int),vI x.2])) rfl f0 (hΦ _ _ ⟨_,_,rfl,⟨x,_,Z,hpm.symm.trans (List.perm_append_comm (l₁:=Z) (l₂:=[x])),rfl,rfl⟩,hM⟩)
end Go.Proofs.YtnhljdeohelgjaaGreatDoor
namespace Go.Pl
open Go.RowKit
structure NetW where
 n:Nat
 st:Nat→Bool
 ps:Nat→Int→Option Int
 al:Nat→Nat→Bool
structure NetW.Ok (N:NetW) (B:Int):Prop where
 gt:∀ {i:Nat}{m x:Int},i<N.n→0≤m→N.ps i m=some x→m<x
 mono:∀ {i:Nat}{m m' x:Int},0≤m→m≤m'→N.ps i m'=some x→∃ y,y≤x∧N.ps i m=some y
 le:∀ {i:Nat}{m x:Int},i<N.n→0≤m→N.ps i m=some x→x≤B
inductive Rch (N:NetW) (m0:Int):Nat→Int→Prop
 | base {i:Nat}{x:Int}:i<N.n→N.st i=true→N.ps i m0=some x→Rch N m0 i x
 | step {i k:Nat}{m x:Int}:Rch N m0 i m→k<N.n→N.al i k=true→N.ps k m=some x→Rch N m0 k x
theorem Rch.lt {N:NetW}{m0:Int}{i:Nat}{m:Int}(h:Rch N m0 i m):i<N.n:=by cases h<;>assumption
theorem Rch.ge {N:NetW}{B m0:Int}(hN:N.Ok B) (h0:0≤m0) {i:Nat}{m:Int}(h:Rch N m0 i m):m0<m:=by
 induction h with
 | base h1 h2 h3=>exact hN.gt h1 h0 h3
 | step h1 h2 h3 h4 ih=>have:=hN.gt h2 (by omega) h4;omega
theorem Rch.le {N:NetW}{B m0:Int}(hN:N.Ok B) (h0:0≤m0) {i:Nat}{m:Int}(h:Rch N m0 i m):m≤B:=by
 cases h with
 | base h1 h2 h3=>exact hN.le h1 h0 h3
 | step h1 h2 h3 h4=>exact hN.le h2 (by have:=h1.ge hN h0;omega) h4
def Cl (N:NetW) (t:Nat→Option Int) (i:Nat) (m:Int):Prop:=∀ k,k<N.n→N.al i k=true→∀ x,N.ps k m=some x→∃ y,y≤x∧t k=some y
structure Tab (N:NetW) (m0:Int) (t:Nat→Option Int):Prop where
 snd:∀ i m,t i=some m→Rch N m0 i m
 bas:∀ i,i<N.n→N.st i=true→∀ x,N.ps i m0=some x→∃ y,y≤x∧t i=some y
 stp:∀ i m,t i=some m→Cl N t i m
theorem Tab.le {N:NetW}{B m0:Int}(hN:N.Ok B) (h0:0≤m0) {t:Nat→Option Int}(hT:Tab N m0 t) {i:Nat}{m:Int}(h:Rch N m0 i m):∃ y,y≤m∧t i=some y:=by
 induction h with
 | base a b c=>exact hT.bas _ a b _ c
 | step a b c d ih =>
  obtain ⟨u,hu,ht⟩:=ih;have hg:=(hT.snd _ _ ht).ge hN h0;obtain ⟨z,hz,d⟩:=hN.mono (by omega) hu d;obtain ⟨y,hy,e⟩:=hT.stp _ _ ht _ b c _ d;exact ⟨y,by omega,e⟩
theorem Tab.least {N:NetW}{B m0:Int}(hN:N.Ok B) (h0:0≤m0) {t:Nat→Option Int}(hT:Tab N m0 t) {i:Nat}{m y:Int}(h:Rch N m0 i m) (e:t i=some y):y≤m:=by
 obtain ⟨z,hz,e2⟩:=hT.le hN h0 h;rw [e] at e2;cases e2;exact hz
theorem Tab.uniq {N:NetW}{B m0:Int}(hN:N.Ok B) (h0:0≤m0) {t u:Nat→Option Int}(hT:Tab N m0 t) (hU:Tab N m0 u):t=u:=by
 funext i
 cases ht:t i with
 | none =>
  cases hu:u i with
  | none=>rfl
  | some m =>
   obtain ⟨y,_,e⟩:=hT.le hN h0 (hU.snd _ _ hu);rw [ht] at e;cases e
 | some m =>
  obtain ⟨y,hy,e⟩:=hU.le hN h0 (hT.snd _ _ ht);have:=hT.least hN h0 (hU.snd _ _ e) ht;rw [e];congr 1;omega
def TLe (t' t:Nat→Option Int):Prop:=∀ i m,t i=some m→∃ y,y≤m∧t' i=some y
theorem TLe.refl (t:Nat→Option Int):TLe t t:=fun i m h=>⟨m,Int.le_refl _,h⟩
theorem TLe.trans {a b c:Nat→Option Int}(h:TLe a b) (k:TLe b c):TLe a c:=fun i m e=>by
 obtain ⟨y,hy,e⟩:=k i m e;obtain ⟨z,hz,e⟩:=h i y e;exact ⟨z,by omega,e⟩
theorem Cl.mono {N:NetW}{t t':Nat→Option Int}{i:Nat}{m:Int}(h:Cl N t i m) (k:TLe t' t):Cl N t' i m:=fun j hj ha x hx=>by
 obtain ⟨y,hy,e⟩:=h j hj ha x hx;obtain ⟨z,hz,e⟩:=k j y e;exact ⟨z,by omega,e⟩
def bet (t:Nat→Option Int) (i:Nat) (x:Int):Bool:=match t i with
 | some o=>decide (x<o)
 | none=>true
def aJl (t:Nat→Option Int) (i:Nat) (x:Int):Nat→Option Int:=fun k=>bif Nat.beq k i then some x else t k
theorem aBP (t:Nat→Option Int) (i:Nat) (x:Int):aJl t i x i=some x:=by unfold aJl;simp
theorem aCq (t:Nat→Option Int) {i k:Nat}(x:Int) (h:k≠i):aJl t i x k=t k:=by
 unfold aJl;rw [show Nat.beq k i=false from by cases e:Nat.beq k i with | false=>rfl | true=>exact absurd (Nat.eq_of_beq_eq_true e) h];rfl
theorem aLu {t:Nat→Option Int}{i:Nat}{x:Int}(h:bet t i x=true):TLe (aJl t i x) t:=fun k m e=>by
 by_cases hk:k=i
 ·subst hk;refine ⟨x,?_,aBP _ _ _⟩;unfold bet at h;rw [e] at h;have:=of_decide_eq_true h;omega
 ·exact ⟨m,Int.le_refl _,by rw [aCq _ _ hk];exact e⟩
theorem aSv {t:Nat→Option Int}{i:Nat}{x:Int}(h:bet t i x=false):∃ y,y≤x∧t i=some y:=by
 unfold bet at h
 split at h
 ·rename_i o e;have:=of_decide_eq_false h;exact ⟨o,by omega,e⟩
 ·cases h
structure TInv (N:NetW) (m0:Int) (t:Nat→Option Int) (W:List (Nat×Int)) (X:Nat→Int→Prop):Prop where
 snd:∀ i m,t i=some m→Rch N m0 i m
 wait:∀ x∈W,Rch N m0 x.1 x.2∧∃ m,m≤x.2∧t x.1=some m
 don:∀ i m,t i=some m→(i,m)∈W∨Cl N t i m∨X i m
theorem TInv.nil (N:NetW) (m0:Int) (X:Nat→Int→Prop):TInv N m0 (fun _=>none) [] X:=⟨fun _ _ h=>(by cases h),fun _ h=>(by cases h),fun _ _ h=>(by cases h)⟩
theorem TInv.put {N:NetW}{m0:Int}{t:Nat→Option Int}{W W':List (Nat×Int)}{X:Nat→Int→Prop}(h:TInv N m0 t W X) {i:Nat}{x:Int}(hb:bet t i x=true) (hr:Rch N m0 i x) (hW:W'.Perm (W++[(i,x)])):TInv N m0 (aJl t i x) W' X:=by
 have hle:=aLu hb;refine ⟨fun k m e=>?_,fun y hy=>?_,fun k m e=>?_⟩
 ·by_cases hk:k=i
  ·subst hk;rw [aBP] at e;cases e;exact hr
  ·rw [aCq _ _ hk] at e;exact h.snd k m e
 ·rcases List.mem_append.1 (hW.mem_iff.1 hy) with hy | hy
  ·obtain ⟨h1,m,hm,e⟩:=h.wait y hy;obtain ⟨z,hz,e⟩:=hle _ _ e;exact ⟨h1,z,by omega,e⟩
  ·rw [List.mem_singleton] at hy;subst hy;exact ⟨hr,x,Int.le_refl _,aBP _ _ _⟩
 ·by_cases hk:k=i
  ·subst hk;rw [aBP] at e;cases e;exact .inl (hW.mem_iff.2 (by simp))
  ·rw [aCq _ _ hk] at e;rcases h.don k m e with h1 | h1 | h1
   ·exact .inl (hW.mem_iff.2 (List.mem_append_left _ h1))
   ·exact .inr (.inl (h1.mono hle))
   ·exact .inr (.inr h1)
theorem TInv.stale {N:NetW}{m0:Int}{t:Nat→Option Int}{W W':List (Nat×Int)}{X:Nat→Int→Prop}(h:TInv N m0 t W X) {x:Nat×Int}(hW:W.Perm (x::W')) {m:Int}(e:t x.1=some m) (hm:m<x.2):TInv N m0 t W' X :=
 ⟨h.snd,fun y hy=>h.wait y (hW.mem_iff.2 (.tail _ hy)),fun i k ek=>by
  rcases h.don i k ek with h1 | h1 | h1
  ·rcases List.mem_cons.1 (hW.mem_iff.1 h1) with h2 | h2
   ·subst h2;rw [e] at ek;cases ek;exact absurd hm (Int.lt_irrefl _)
   ·exact .inl h2
  ·exact .inr (.inl h1)
  ·exact .inr (.inr h1)⟩
theorem TInv.pop {N:NetW}{m0:Int}{t:Nat→Option Int}{W W':List (Nat×Int)}(h:TInv N m0 t W fun _ _=>False) {x:Nat×Int}(hW:W.Perm (x::W')):TInv N m0 t W' fun i m=>(i,m)=x :=
 ⟨h.snd,fun y hy=>h.wait y (hW.mem_iff.2 (.tail _ hy)),fun i k ek=>by
  rcases h.don i k ek with h1 | h1 | h1
  ·rcases List.mem_cons.1 (hW.mem_iff.1 h1) with h2 | h2
   ·exact .inr (.inr h2)
   ·exact .inl h2
  ·exact .inr (.inl h1)
  ·exact h1.elim⟩
theorem TInv.close {N:NetW}{m0:Int}{t:Nat→Option Int}{W:List (Nat×Int)}{x:Nat×Int}(h:TInv N m0 t W fun i m=>(i,m)=x) (hc:Cl N t x.1 x.2):TInv N m0 t W fun _ _=>False :=
 ⟨h.snd,h.wait,fun i k ek=>by
  rcases h.don i k ek with h1 | h1 | h1
  ·exact .inl h1
  ·exact .inr (.inl h1)
  ·cases h1;exact .inr (.inl hc)⟩
theorem TInv.tab {N:NetW}{m0:Int}{t:Nat→Option Int}(h:TInv N m0 t [] fun _ _=>False) (hb:∀ i,i<N.n→N.st i=true→∀ x,N.ps i m0=some x→∃ y,y≤x∧t i=some y):Tab N m0 t :=
 ⟨h.snd,hb,fun i m e=>by
  rcases h.don i m e with h1 | h1 | h1
  ·cases h1
  ·exact h1
  ·exact h1.elim⟩
def ClL (N:NetW) (t:Nat→Option Int) (al:Nat→Bool) (m:Int) (l:List Nat):Prop:=∀ k∈l,al k=true→∀ x,N.ps k m=some x→∃ y,y≤x∧t k=some y
theorem ClL.nil (N:NetW) (t:Nat→Option Int) (al:Nat→Bool) (m:Int):ClL N t al m []:=fun _ h=>(by cases h)
theorem ClL.mono {N:NetW}{t t':Nat→Option Int}{al:Nat→Bool}{m:Int}{l:List Nat}(h:ClL N t al m l) (k:TLe t' t):ClL N t' al m l:=fun j hj ha x hx=>by
 obtain ⟨y,hy,e⟩:=h j hj ha x hx;obtain ⟨z,hz,e⟩:=k j y e;exact ⟨z,by omega,e⟩
theorem ClL.snoc {N:NetW}{t:Nat→Option Int}{al:Nat→Bool}{m:Int}{l:List Nat}(h:ClL N t al m l) {k:Nat}(hk:al k=true→∀ x,N.ps k m=some x→∃ y,y≤x∧t k=some y):ClL N t al m (l++[k]):=fun j hj ha x hx=>by
 rcases List.mem_append.1 hj with hj | hj
 ·exact h j hj ha x hx
 ·rw [List.mem_singleton] at hj;subst hj;exact hk ha x hx
def aL7 (f:Nat→Nat):Nat→Nat
 | 0=>0
 | n+1=>aL7 f n+f n
theorem aFV {f g:Nat→Nat}:∀ {n:Nat},(∀ k,k<n→f k=g k)→aL7 f n=aL7 g n
 | 0,_=>rfl
 | n+1,h=>by unfold aL7;rw [aFV fun k hk=>h k (by omega),h n (by omega)]
theorem aL5 {f g:Nat→Nat}{i:Nat}(ho:∀ k,k≠i→f k=g k) (hi:f i<g i):∀ {n:Nat},i<n→aL7 f n<aL7 g n
 | n+1,h=>by
  unfold aL7
  by_cases e:i=n
  ·subst e;rw [aFV fun k hk=>ho k (by omega)];omega
  ·have:=aL5 ho hi (n:=n) (by omega);rw [ho n fun h=>e h.symm];omega
theorem aL6 {f:Nat→Nat}{b:Nat}(h:∀ k,f k≤b):∀ n,aL7 f n≤n*b
 | 0=>by simp [aL7]
 | n+1=>by
  have:=aL6 h n;have:=h n;unfold aL7;rw [Nat.succ_mul];omega
def aRw (B:Nat) (t:Nat→Option Int) (i:Nat):Nat:=match t i with
 | some m=>min m.toNat B
 | none=>B+1
theorem aPO (B:Nat) (t:Nat→Option Int) (i:Nat):aRw B t i≤B+1:=by unfold aRw;split<;>omega
def wgt (N:NetW) (B:Nat) (t:Nat→Option Int):Nat:=aL7 (aRw B t) N.n
theorem aRt (N:NetW) (B:Nat) (t:Nat→Option Int):wgt N B t≤N.n*(B+1):=aL6 (aPO B t) _
theorem aPJ {N:NetW}{B:Nat}{t:Nat→Option Int}{i:Nat}{x:Int}(hi:i<N.n) (hb:bet t i x=true) (h0:0≤x) (hB:x≤B) (ht:∀ m,t i=some m→m≤B):wgt N B (aJl t i x)<wgt N B t:=by
 refine aL5 (i:=i) (fun k hk=>?_) ?_ hi
 ·unfold aRw;rw [aCq _ _ hk]
 ·unfold aRw;rw [aBP];unfold bet at hb
  split at hb
  ·rename_i o e;have:=of_decide_eq_true hb;have:=ht o e;show min x.toNat B<min o.toNat B;omega
  ·show min x.toNat B<B+1;omega
def aEF (t:Nat→Option Int):Value→Option Value
 | .int .i64 (.ofNat k)=>(t k).map fun m => .int .i64 m
 | _=>none
def aRi (N:NetW) (i:Nat) (mi:Int) (t:Nat→Option Int) (W:List (Nat×Int)) (t':Nat→Option Int) (W':List (Nat×Int)):Prop :=
 (∃ x,N.ps i mi=some x∧bet t i x=true∧t'=aJl t i x∧W'.Perm (W++[(i,x)]))∨((∀ x,N.ps i mi=some x→bet t i x=false)∧t'=t∧W'=W)
section
variable {N:NetW}{i:Nat}{mi m0:Int}{t t':Nat→Option Int}{W W':List (Nat×Int)}{X:Nat→Int→Prop}
theorem aRi.inv (h:aRi N i mi t W t' W') (hI:TInv N m0 t W X) (hr:∀ x,N.ps i mi=some x→Rch N m0 i x):TInv N m0 t' W' X:=by
 rcases h with ⟨x,h1,h2,rfl,h3⟩ | ⟨_,rfl,rfl⟩
 ·exact hI.put h2 (hr x h1) h3
 ·exact hI
theorem aRi.le (h:aRi N i mi t W t' W'):TLe t' t:=by
 rcases h with ⟨x,h1,h2,rfl,h3⟩ | ⟨_,rfl,rfl⟩
 ·exact aLu h2
 ·exact TLe.refl _
theorem aRi.done (h:aRi N i mi t W t' W'):∀ x,N.ps i mi=some x→∃ y,y≤x∧t' i=some y:=by
 intro x hx;rcases h with ⟨x',h1,h2,rfl,h3⟩ | ⟨h1,rfl,rfl⟩
 ·rw [h1] at hx;cases hx;exact ⟨_,Int.le_refl _,aBP _ _ _⟩
 ·exact aSv (h1 x hx)
theorem aRi.wgt {B:Nat}(h:aRi N i mi t W t' W') (hN:N.Ok (B:Int)) (h0:0≤m0) (hI:TInv N m0 t W X) (hr:∀ x,N.ps i mi=some x→Rch N m0 i x):(wgt N B t'=wgt N B t∧W'.length=W.length)∨(wgt N B t'<wgt N B t∧W'.length=W.length+1):=by
 rcases h with ⟨x,h1,h2,rfl,h3⟩ | ⟨_,rfl,rfl⟩
 ·have hx:=hr x h1;refine .inr ⟨aPJ hx.lt h2 (by have:=hx.ge hN h0;omega) (hx.le hN h0) fun m e=>(hI.snd i m e).le hN h0,?_⟩;rw [h3.length_eq];simp
 ·exact .inl ⟨rfl,rfl⟩
end
theorem aI0 (t:Nat→Option Int) (k:Nat):aEF t (.int .i64 (k:Int))=(t k).map fun m => .int .i64 m:=rfl
theorem aNP:aEF (fun _=>none)=fun _=>none:=by
 funext v;unfold aEF
 split<;>rfl
theorem aJq (t:Nat→Option Int) (k:Nat) (x:Int):upd (aEF t) (.int .i64 (k:Int)) (.int .i64 x)=aEF (aJl t k x):=by
 funext v
 by_cases e:v = .int .i64 (k:Int)
 ·subst e;rw [aBI,aI0,aBP];rfl
 ·rw [aBs _ e];unfold aEF
  split
  ·rename_i j;rw [aCq _ _ fun h=>e (by rw [h];rfl)]
  ·rfl
end Go.Pl
namespace Go.Proofs.YtnhljdeohelgjaaGreatDoor
open Go.RowKit Go.Pl
theorem aM0:Maps.Keyed Tryz.prog 3:=Maps.int_keyed u3_
theorem aM4 {n:Int}(h : -9223372036854775808≤n∧n≤9223372036854775807):∃ l,keyOf Tryz.prog 3 (vI n)=some l:=⟨_,Maps.keyOf_int_mk u3_ (by
  show (decide (IntKind.i64.min≤n)&&decide (n≤IntKind.i64.max))=true;have h1:IntKind.i64.min = -9223372036854775808:=by rfl
  have h2:IntKind.i64.max=9223372036854775807:=by rfl
  rw [h1,h2];simp only [Bool.and_eq_true,decide_eq_true_eq];exact h)⟩
theorem aN2 (w:World):(zeroValue 3).run Tryz.prog w = .ok (vI 0) w:=by kernel_rfl
theorem aPr (t:Nat→Option Int) (i:Nat):(.tuple #[((aEF t) (vI (i:Int))).getD (vI 0),.bool ((aEF t) (vI (i:Int))).isSome]:Value) = .tuple #[vI ((t i).getD 0),vB (t i).isSome]:=by
  rw [aI0];cases t i<;>rfl
abbrev tbE (b n:Nat) (t:Nat→Option Int):Ent:=mp Tryz.prog 3 b n (aEF t)
def aAf (prof:Bys) (os:List ObR) (from_:Bys):NetW where
  n:=(AS os).length
  st i:=match (AS os)[i]? with | some a=>a.1==from_ | none=>false
  ps i m:=match (AS os)[i]? with | some a=>aBq prof os a m | none=>none
  al i k:=match (AS os)[i]?,(AS os)[k]? with | some a,some b=>aD6 prof os a b | _,_=>false
theorem aHF {w:World}(m n:Int):Calls Tryz.prog 40 #[vI m,vI n] w fun e w'=>e = .returned (vB (decide (m<n)))∧Fr (fun _=>False) w w':=by
  refine beg Tryz.func40 rfl rfl [(0,vI m),(1,vI n)] rfl rfl fun Φ hΦ=>?_;have hM:=Mm.nil (fun _=>False) w;exact rt1 4 (vB (decide (m<n))) rfl f0 (hΦ _ _ ⟨rfl,hM.fr⟩)
theorem aBy {w:World}{b n:Nat}{t:Nat→Option Int}(hm:aCj Tryz.prog 3 w b n (aEF t)) {i:Nat}(hi:i≤4000000000000000000):Calls Tryz.prog 15 #[.agg #[.map (some b)],vI (i:Int)] w fun e w'=>e = .returned (.tuple #[vI ((t i).getD 0),vB (t i).isSome])∧Fr (fun _=>False) w w':=by
  refine beg Tryz.func15 rfl rfl [(0,.agg #[.map (some b)]),(1,vI (i:Int))] rfl rfl fun Φ hΦ=>?_;have hM:=Mm.nil (fun _=>False) w;refine aAn 0 0 2 [] (cs:=#[.map (some b)]) (T:=60) (v:=fun b=>vP b 0) f0 hM fun aa w1 hM=>rt2 4 5 (vI ((t i).getD 0)) (vB (t i).isSome) rfl rfl (fc (ldm 58 0 0 hM rfl rfl) (fc (rz2 (aRW 58 (vI (i:Int)) (vI 0) (hm.fr hM.fr id) aM0 u58_ (aM4 (by omega)) (aN2 _)) (aPr t i)) f0)) (hΦ _ _ ⟨rfl,hM.fr⟩)
theorem aIf {w:World}{G:Nat→Prop}{b n:Nat}{t:Nat→Option Int}(hM0:Mm G w w [tbE b n t]) {i:Nat}(hi:i≤4000000000000000000) (x:Int):Calls Tryz.prog 43 #[.agg #[.map (some b)],vI (i:Int),vI x,.func (.func 40) #[] #[]] w fun e w'=>∃ (u:Value) (Mn:List Ent),e = .returned u∧(u=vB (bet t i x)∧∃ n',Mn=[tbE b n' (bif bet t i x then aJl t i x else t)])∧Mm G w w' Mn:=by
  refine beg Tryz.func43 rfl rfl [(0,.agg #[.map (some b)]),(1,vI (i:Int)),(2,vI x),(3,.func (.func 40) #[] #[])] rfl rfl fun Φ hΦ=>?_;have hM:=hM0;refine aAn 0 0 4 [] (cs:=#[.map (some b)]) (T:=60) (v:=fun b=>vP b 0) f0 hM fun ac w1 hM=>seg 2 2 [(9,vI ((t i).getD 0)),(19,vB (t i).isSome)] (fc (ldm 58 1 0 hM rfl rfl) (fc (rz2 (aRW 58 (vI (i:Int)) (vI 0) (hM.get 0 rfl) aM0 u58_ (aM4 (by omega)) (aN2 _)) (aPr t i)) f0)) ?_
  cases ad:(t i).isSome with
  | false =>
   refine mup 4 4 [(27,.map (some b)),(28,vI (i:Int)),(29,vI x)] 58 0 (vI (i:Int)) (vI x) (fc (ldm 58 1 0 hM rfl rfl) f0) hM rfl aM0 u58_ (aM4 (by omega)) fun w1 hM=>?_
   have hb:bet t i x=true:=by
     unfold bet
     cases e:t i with
     | none=>simp_all
     | some o=>simp_all
   rw [aJq] at hM;exact rt1 8 (vB true) rfl f0 (hΦ _ _ ⟨_,[tbE b (n+1) (aJl t i x)],rfl,⟨by rw [hb],_,by rw [hb];rfl⟩,hM.pick [0]⟩)
  | true =>
   refine aAq 2 5 23 [(20,.func (.func 40) #[] #[]),(21,vI x),(22,vI ((t i).getD 0))] f0 hM (aHF x ((t i).getD 0)) fun w1 hM=>seg 2 8 [(25,vB (!(decide (x<((t i).getD 0)))))] f0 ?_;cases aa:(decide (x<((t i).getD 0)))
   ·have ab:=df aa
    have hb:bet t i x=false:=by
      unfold bet
      cases e:t i with
      | none=>simp_all
      | some o=>simp_all
    exact rt1 8 (vB false) rfl f0 (hΦ _ _ ⟨_,[tbE b n t],rfl,⟨by rw [hb],_,by rw [hb];rfl⟩,hM.pick [0]⟩)
   have ab:=dt aa;refine mup 4 4 [(27,.map (some b)),(28,vI (i:Int)),(29,vI x)] 58 0 (vI (i:Int)) (vI x) (fc (ldm 58 1 0 hM rfl rfl) f0) hM rfl aM0 u58_ (aM4 (by omega)) fun w1 hM=>?_
   have hb:bet t i x=true:=by
     unfold bet
     cases e:t i with
     | none=>simp_all
     | some o=>simp_all
   rw [aJq] at hM;exact rt1 8 (vB true) rfl f0 (hΦ _ _ ⟨_,[tbE b (n+1) (aJl t i x)],rfl,⟨by rw [hb],_,by rw [hb];rfl⟩,hM.pick [0]⟩)
theorem aQH {r:Int}:∀ {l:List Sp}{lo:Int},vl lo l=true→match l.find? (fun s=>decide (r<s.2)) with | some s=>s∈l∧r<s.2∧(∀ y,r≤y→y<s.1→¬ mn l y) | none=>∀ y,r≤y→¬ mn l y:=by
  intro l
  induction l with
  | nil=>intro lo _ y _ h;exact aGj y h
  | cons t l ih =>
    intro lo h;obtain ⟨h1,h2,h3,h4⟩:=aBr.1 h
    by_cases hr:r<t.2
    · rw [List.find?_cons_of_pos (by simpa using hr)]
      refine ⟨by simp,hr,fun y hy1 hy2 hm=>?_⟩;rcases aAT.1 hm with h5 | h5
      · omega
      · have:=aEE h4 h5;omega
    · rw [List.find?_cons_of_neg (by simpa using hr)]
      have:=ih h4
      split at this
      · rename_i s he
        obtain ⟨h5,h6,h7⟩:=this;refine ⟨by simp [h5],h6,fun y hy1 hy2 hm=>?_⟩;rcases aAT.1 hm with h8 | h8
        · omega
        · exact h7 y hy1 hy2 h8
      · intro y hy1 hm
        rcases aAT.1 hm with h8 | h8
        · omega
        · exact this y hy1 h8
theorem aEQ {l:List Sp}{m:Int}(hv:vl (-1) l=true) (h0:0≤m) (hne:l≠[]):m≤aB1 l m∧aB1 l m<m+10080∧mn l (aB1 l m%10080)∧∀ x,m≤x→x<aB1 l m→¬ mn l (x%10080):=by
  have hf:=aQH (r:=m%10080) hv;have hw:=aPN (Int.le_refl _) hv;unfold aB1
  split
  · rename_i s he
    rw [he] at hf;obtain ⟨h1,h2,h3⟩:=hf;obtain ⟨w1,w2,w3⟩:=hw s h1;refine ⟨by omega,by omega,⟨s,h1,by omega,by omega⟩,fun x hx1 hx2=>?_⟩;have:=h3 (x%10080) (by omega) (by omega);exact this
  · rename_i he
    rw [he] at hf;obtain ⟨s,l',rfl⟩:=List.exists_cons_of_ne_nil hne;obtain ⟨w1,w2,w3⟩:=hw s (by simp);have hs:(s::l').headD (0,0)=s:=rfl;rw [hs]
    have hlt:s.1<m%10080:=by
      rcases Int.lt_or_le s.1 (m%10080) with h | h
      · exact h
      · exact absurd ⟨s,by simp,Int.le_refl _,w2⟩ (hf s.1 h)
    refine ⟨by omega,by omega,⟨s,by simp,by omega,by omega⟩,fun x hx1 hx2 hm=>?_⟩;rcases Int.lt_or_le x (m-m%10080+10080) with h | h
    · exact hf _ (by omega) hm
    · obtain ⟨g1,g2,g3,g4⟩:=aBr.1 hv
      rcases aAT.1 hm with h5 | h5
      · omega
      · have:=aEE g4 h5;omega
theorem aKz {l:List Sp}{m m':Int}(h0:0≤m) (hm:m≤m') (h:(aAu l m').2=true):(aAu l m).2=true∧(aAu l m).1≤(aAu l m').1:=by
  unfold aAu at h ⊢
  split at h
  · rename_i hc
    simp only [Bool.and_eq_true,Bool.not_eq_true'] at hc;obtain ⟨⟨h1,h2⟩,h3⟩:=hc
    have hb:aBU m=true:=by
      unfold aBU at h2 ⊢;simp only [Bool.and_eq_true,decide_eq_true_eq] at h2 ⊢;omega
    have hne:l≠[]:=by rintro rfl;cases h3
    rw [h1,h2,hb,h3];refine ⟨rfl,?_⟩;show aB1 l m≤aB1 l m';obtain ⟨a1,_,_,a4⟩:=aEQ h1 h0 hne;obtain ⟨b1,_,b3,_⟩:=aEQ h1 (show 0≤m' by omega) hne;rcases Int.lt_or_le (aB1 l m') (aB1 l m) with h | h
    · exact absurd b3 (a4 _ (by omega) h)
    · exact h
  · cases h
theorem aJy {prof:Bys}{os:List ObR}{a:Arc}(ha:a∈AS os):1≤(aFJ prof os a.2.2.1).speed∧(aFJ prof os a.2.2.1).speed≤9999999:=by
  obtain ⟨b,hb⟩:=aLg ha;unfold aFJ;rw [hb];exact aHy _
theorem aHv {len sp:Int}(h1:1≤len) (h2:len<4294967296) (h3:1≤sp) (h4:sp≤9999999):1≤(len+sp-1) / sp∧(len+sp-1) / sp≤4304967296:=by
  refine ⟨Int.le_ediv_of_mul_le (by omega) (by omega),?_⟩;have:=Int.ediv_le_self (a:=len+sp-1) sp (by omega);omega
theorem aEO {prof:Bys}{os:List ObR}{a:Arc}(ha:a∈AS os) (hb:ArcB a) {m x:Int}(h0:0≤m) (h:aBq prof os a m=some x):m<x∧x≤6000000000:=by
  have hr:=aJy (prof:=prof) ha;unfold aBq at h;simp only at h;generalize aFJ prof os a.2.2.1=r at h hr;have ht:=aHv hb.pos hb.lt hr.1 hr.2
  cases h1:(r.closed||(r.oneway && !fwd a.1 a.2.1 r.refs)||decide (1000000000<m)) with
  | true=>rw [h1] at h;cases h
  | false =>
    rw [h1] at h;simp only [Bool.or_eq_false_iff,decide_eq_false_iff_not] at h1
    cases h2:r.limited with
    | false =>
      rw [h2] at h;simp only [cond_false,Option.some.injEq] at h;omega
    | true =>
      rw [h2] at h
      cases h3:(!((aAu r.hours m).2)||decide (1000000000<(aAu r.hours m).1)) with
      | true=>rw [h3] at h;cases h
      | false =>
        rw [h3] at h;simp only [cond_true,cond_false,Option.some.injEq] at h;simp only [Bool.or_eq_false_iff,decide_eq_false_iff_not,Bool.not_eq_false'] at h3;have:=aEd h3.1;omega
theorem aKw {prof:Bys}{os:List ObR}{a:Arc}{m m' x:Int}(h0:0≤m) (hm:m≤m') (h:aBq prof os a m'=some x):∃ y,y≤x∧aBq prof os a m=some y:=by
  unfold aBq at h ⊢;simp only at h ⊢;generalize aFJ prof os a.2.2.1=r at h
  cases h1:(r.closed||(r.oneway && !fwd a.1 a.2.1 r.refs)||decide (1000000000<m')) with
  | true=>rw [h1] at h;cases h
  | false =>
    rw [h1] at h
    have h1':(r.closed||(r.oneway && !fwd a.1 a.2.1 r.refs)||decide (1000000000<m))=false:=by
      simp only [Bool.or_eq_false_iff,decide_eq_false_iff_not] at h1 ⊢;exact ⟨h1.1,by omega⟩
    rw [h1']
    cases h2:r.limited with
    | false =>
      rw [h2] at h;simp only [cond_false,Option.some.injEq] at h ⊢;exact ⟨_,by omega,rfl⟩
    | true =>
      rw [h2] at h
      cases h3:(!((aAu r.hours m').2)||decide (1000000000<(aAu r.hours m').1)) with
      | true=>rw [h3] at h;cases h
      | false =>
        rw [h3] at h;simp only [Bool.or_eq_false_iff,decide_eq_false_iff_not,Bool.not_eq_false'] at h3;obtain ⟨n1,n2⟩:=aKz h0 hm h3.1
        have h4:(!((aAu r.hours m).2)||decide (1000000000<(aAu r.hours m).1))=false:=by
          rw [n1];simp only [Bool.not_true,Bool.false_or,decide_eq_false_iff_not];omega
        rw [h4];simp only [cond_true,cond_false,Option.some.injEq] at h ⊢;exact ⟨_,by omega,rfl⟩
theorem aER {prof:Bys}{os:List ObR}(hok:∀ a∈AS os,ArcB a) (f:Bys):(aAf prof os f).Ok 6000000000:=by
  refine ⟨fun {i m x} hi h0 h=>?_,fun {i m m' x} h0 hm h=>?_,fun {i m x} hi h0 h=>?_⟩
  · obtain ⟨a,ha⟩:=geb (l:=AS os) (i:=i) hi
    have h:(match (AS os)[i]? with | some a=>aBq prof os a m | none=>none)=some x:=h;rw [ha] at h;exact (aEO (gm ha) (hok a (gm ha)) h0 h).1
  · have h:(match (AS os)[i]? with | some a=>aBq prof os a m' | none=>none)=some x:=h
    show ∃ y,y≤x∧(match (AS os)[i]? with | some a=>aBq prof os a m | none=>none)=some y
    cases ha:(AS os)[i]? with
    | none=>rw [ha] at h;cases h
    | some a=>rw [ha] at h;exact aKw h0 hm h
  · obtain ⟨a,ha⟩:=geb (l:=AS os) (i:=i) hi
    have h:(match (AS os)[i]? with | some a=>aBq prof os a m | none=>none)=some x:=h;rw [ha] at h;exact (aEO (gm ha) (hok a (gm ha)) h0 h).2
theorem aM9 {l:List Arc}{s:Bys}{j:Nat}{z:Int}(h:(aCa l s)[j]?=some z):∃ k a,z=((k:Nat):Int)∧l[k]?=some a∧a.1=s:=by
  have h:=List.mem_of_getElem? h;unfold aCa at h;obtain ⟨⟨a,k⟩,hx,rfl⟩:=List.mem_map.1 h;obtain ⟨h1,h2⟩:=List.mem_filter.1 hx;exact ⟨k,a,rfl,List.mk_mem_zipIdx_iff_getElem?.1 h1,by simpa using h2⟩
theorem aJE {l:List Arc}{s:Bys}{k:Nat}{a:Arc}(h:l[k]?=some a) (hs:a.1=s):k∈(aCa l s).map Int.toNat:=by
  unfold aCa;rw [List.map_map,List.mem_map];exact ⟨(a,k),List.mem_filter.2 ⟨List.mk_mem_zipIdx_iff_getElem?.2 h,by simpa using hs⟩,rfl⟩
theorem StF.frB {wS w w':World}{G:Nat→Prop}{bs ca bo br bb no nr nb:Nat}{qa:Option Addr}{prof:Bys}{os:List ObR}{T:aDI}{T2:RdT}(h:StF wS bs ca bo br bb no nr nb qa prof os T T2) (hf:Fr (fun _=>False) wS w) (hG:∀ k,G k→wS.heap.size≤k) (f:Fr G w w'):StF w' bs ca bo br bb no nr nb qa prof os T T2 :=
  h.fr (hf.trans' f fun r hr hg=>by have:=hG r hg;omega)
theorem aBS {w:World}{bs ca bo br bb no nr nb:Nat}{qa:Option Addr}{prof:Bys}{os:List ObR}{T:aDI}{T2:RdT}(hS:StF w bs ca bo br bb no nr nb qa prof os T T2) (hT2:T2.map (·.1)=aBv os) (f:Bys) {i:Nat}(hi:i<(AS os).length) {mi:Int}(hm0:0≤mi) (hm1:mi≤4000000000000000000):Calls Tryz.prog 42 #[vP bs 0,vI (i:Int),vI mi] w fun e w'=>e = .returned (.tuple #[vI (((aAf prof os f).ps i mi).getD 0),vB ((aAf prof os f).ps i mi).isSome])∧Fr (fun _=>False) w w' :=
  (aKv hS hT2 hi hm0 hm1).mono fun e w' ⟨⟨a,ha,he⟩,h⟩=>⟨by
    have e2:(aAf prof os f).ps i mi=aBq prof os a mi:=by
      show (match (AS os)[i]? with | some a=>aBq prof os a mi | none=>none)=_;rw [ha]
    rw [he,e2];exact (match aBq prof os a mi with | none=>rfl | some _=>rfl),h⟩
theorem aCi {w:World}{bs ca bo br bb no nr nb:Nat}{qa:Option Addr}{prof:Bys}{os:List ObR}{T:aDI}{T2:RdT}(hS:StF w bs ca bo br bb no nr nb qa prof os T T2) (f:Bys) {i k:Nat}(hi:i<(AS os).length) (hk:k<(AS os).length):Calls Tryz.prog 46 #[vP bs 0,vI (i:Int),vI (k:Int)] w fun e w'=>e = .returned (vB ((aAf prof os f).al i k))∧Fr (fun _=>False) w w' :=
  (aHc hS hi hk).mono fun e w' ⟨⟨a,b,ha,hb,he⟩,h⟩=>⟨by
    have e2:(aAf prof os f).al i k=aD6 prof os a b:=by
      show (match (AS os)[i]?,(AS os)[k]? with | some a,some b=>aD6 prof os a b | _,_=>false)=_;rw [ha,hb]
    rw [he,e2],h⟩
abbrev TM (c3 bs c7 b c8 c9 q n:Nat) (t:Nat→Option Int) (v:Value) (X:List (Nat×Int)):List Ent :=
  [bk c3 #[vP bs 0] 56,bk c7 #[.map (some b)] 60,bk c8 #[.func (.func 40) #[] #[]] 105,bk c9 #[.iface 106 (vP q 0)] 110,tbE b n t,bk q #[v] 108,rw_ reL 2 115 v X]
theorem aHs {wS w:World}{G:Nat→Prop}{bs ca bo br bb no nr nb:Nat}{qa:Option Addr}{prof:Bys}{os:List ObR}{T:aDI}{T2:RdT}(hS:StF wS bs ca bo br bb no nr nb qa prof os T T2) (hT2:T2.map (·.1)=aBv os) (f:Bys) (hf:Fr (fun _=>False) wS w) (hG:∀ k,G k→wS.heap.size≤k) {c3 c7 b c8 c9 q n:Nat}{t:Nat→Option Int}{v:Value}{X:List (Nat×Int)}(hM0:Mm G w w (TM c3 bs c7 b c8 c9 q n t v X)) (hl:X.length<4000000000000) {i:Nat}(hi:i<(AS os).length) (hi2:(AS os).length≤400000000) {mi:Int}(hm0:0≤mi) (hm1:mi≤4000000000000000000):Calls Tryz.prog 41 #[vI (i:Int),vI mi,vP c3 0,vP c7 0,vP c8 0,vP c9 0] w fun e w'=>∃ (u:Value) (Mn:List Ent),e = .returned u∧(u = .tuple #[]∧∃ n' t' v' X',aRi (aAf prof os f) i mi t X t' X'∧Mn=TM c3 bs c7 b c8 c9 q n' t' v' X')∧Mm G w w' Mn:=by
  obtain ⟨o,ho⟩:∃ o,o=(aAf prof os f).ps i mi:=⟨_,rfl⟩;refine beg Tryz.func41 rfl rfl [(0,vI (i:Int)),(1,vI mi),(2,vP c3 0),(3,vP c7 0),(4,vP c8 0),(5,vP c9 0)] rfl rfl fun Φ hΦ=>?_;have hM:=hM0;refine aAq 0 3 14 [(11,vP bs 0),(12,vI (i:Int)),(13,vI mi)] (fc (ldm 56 0 0 hM rfl rfl) f0) hM (ho▸aBS (hS.frB hf hG hM.fr) hT2 f hi hm0 hm1) fun w1 hM=>seg 1 2 [(8,vI (o.getD 0)),(18,vB o.isSome)] f0 ?_
  cases ab:o.isSome with
  | false =>
   have hn:o=none:=by cases o with | none=>rfl | some x=>cases ab
   exact rt0 rfl f0 (hΦ _ _ ⟨_,TM c3 bs c7 b c8 c9 q n t v X,rfl,⟨rfl,_,_,_,_,.inr ⟨fun x hx=>(by rw [←ho,hn] at hx;cases hx),rfl,rfl⟩,rfl⟩,hM.pick [0,1,2,3,4,5,6]⟩)
  | true =>
   refine aB3 1 6 23 [(19,.agg #[.map (some b)]),(20,vI (i:Int)),(21,vI (o.getD 0)),(22,.func (.func 40) #[] #[])] (K:=fun u Mn=>u=vB (bet t i (o.getD 0))∧∃ n',Mn=[tbE b n' (bif bet t i (o.getD 0) then aJl t i (o.getD 0) else t)]) [0,1,2,3,5,6] [4] (fc (lam 60 1 0 1 hM rfl) (fc (ldm 105 2 0 hM rfl rfl) f0)) hM rfl rfl (by decide) (fun hm=>(aIf hm (by omega) (o.getD 0))) fun u Mn w1 hK hM=>?_;obtain ⟨rfl,n199,rfl⟩:=hK;refine seg 1 8 [(24,vB (bet t i (o.getD 0)))] f0 ?_;cases aa:(bet t i (o.getD 0))
   ·obtain ⟨x,hx⟩:=Option.isSome_iff_exists.1 ab;have hx0:o.getD 0=x:=by rw [hx];rfl
    rw [aa] at hM;exact rt0 rfl f0 (hΦ _ _ ⟨_,TM c3 bs c7 b c8 c9 q n199 t v X,rfl,⟨rfl,_,_,_,_,.inr ⟨fun y hy=>(by rw [←ho,hx] at hy;cases hy;rw [←hx0];exact aa),rfl,rfl⟩,rfl⟩,hM.pick [0,1,2,3,6,4,5]⟩)
   refine aB3 2 5 30 [(25,.iface 106 (vP q 0)),(29,.iface 115 (.agg #[vI (i:Int),vI (o.getD 0)]))] (K:=fun u Mn=>u = .tuple #[]∧∃ v' X',X'.Perm (X++[(i,o.getD 0)])∧Mn=QM q v' X') [0,1,2,3,6] [4,5] (fc (ldm 110 3 0 hM rfl rfl) f0) hM rfl rfl (by decide) (fun hm=>(aIM hm hl (i,o.getD 0))) fun u Mn w1 hK hM=>?_;obtain ⟨rfl,v2,X2,hX2,rfl⟩:=hK;obtain ⟨x,hx⟩:=Option.isSome_iff_exists.1 ab;have hx0:o.getD 0=x:=by rw [hx];rfl
   rw [aa] at hM;exact rt0 rfl f0 (hΦ _ _ ⟨_,TM c3 bs c7 b c8 c9 q n199 (aJl t i (o.getD 0)) v2 X2,rfl,⟨rfl,_,_,_,_,.inl ⟨o.getD 0,by rw [←ho,hx0];exact hx,aa,rfl,hX2⟩,rfl⟩,hM.pick [0,1,2,3,4,5,6]⟩)
theorem aTk {α:Type}{f:α→List Value}{c E:Nat}{F0:Nat→Prop}{w0 w:World}{M:List Ent}(h:Mm F0 w0 w M) {j b:Nat}(hj:M[j]?=some (bk b #[] E)):Mm F0 w0 w (M.set j (rw_ f c E (vL (some ⟨b,0,none⟩) 0 0) [])) :=
  h.put j hj (Fr.refl (fun _=>False) _) (fun _ _ h=>h.elim) (show ow f c E w 0 _ [] from ⟨by simp,.inr ⟨b,0,#[],rfl,Nat.zero_le _,h.get j hj,Nat.le_refl _,by unfold maxLen;omega,by simp,by simp⟩⟩) fun k e => .inl (by
    have e:some b=some k:=e;exact (Option.some.inj e).symm)
theorem aMd {w:World}{bs ca bo br bb no nr nb:Nat}{qa:Option Addr}{prof:Bys}{os:List ObR}{T:aDI}{T2:RdT}(hS:StF w bs ca bo br bb no nr nb qa prof os T T2) (hTr:∀ s,aD7 T s=aCa (AS os) s) (s:Bys):∃ p c,(aCg T (vS s)).getD (vL none 0 0)=vL p (aCa (AS os) s).length c∧SrcP inL 1 w p c (aCa (AS os) s):=by
  have h:=hTr s;unfold aD7 at h;rw [aID]
  cases hf:T.find? (fun x=>x.1==s) with
  | none =>
    rw [hf] at h;have h:([]:List Int)=aCa (AS os) s:=h;rw [←h];obtain ⟨p,c,h1,h2⟩:=(Src.nil (f:=inL) (c:=1) w).op;exact ⟨p,c,h1,h2⟩
  | some x =>
    rw [hf] at h;have h:x.2.2=aCa (AS os) s:=h;rw [←h];exact (hS.rows x (List.mem_of_find?_eq_some hf)).op
theorem aOD {prof:Bys}{os:List ObR}{f:Bys}{k:Nat}{a:Arc}(h:(AS os)[k]?=some a) (hf:a.1=f):(aAf prof os f).st k=true:=by
  show (match (AS os)[k]? with | some a=>a.1==f | none=>false)=true;rw [h];simpa using hf
theorem aMq {prof:Bys}{os:List ObR}{f:Bys}{t:Nat→Option Int}{m0:Int}(h:ClL (aAf prof os f) t (fun _=>true) m0 ((aCa (AS os) f).map Int.toNat)):∀ i,i<(aAf prof os f).n→(aAf prof os f).st i=true→∀ x,(aAf prof os f).ps i m0=some x→∃ y,y≤x∧t i=some y:=by
  intro i hi hs x hx;obtain ⟨a,ha⟩:=geb (l:=AS os) (i:=i) hi;have hs:(match (AS os)[i]? with | some a=>a.1==f | none=>false)=true:=hs;rw [ha] at hs;exact h i (aJE ha (by simpa using hs)) rfl x hx
theorem aOE {prof:Bys}{os:List ObR}{f:Bys}{t:Nat→Option Int}{i:Nat}{m:Int}{a:Arc}(ha:(AS os)[i]?=some a) (h:ClL (aAf prof os f) t ((aAf prof os f).al i) m ((aCa (AS os) a.2.1).map Int.toNat)):Cl (aAf prof os f) t i m:=by
  intro k hk hal x hx;obtain ⟨b,hb⟩:=geb (l:=AS os) (i:=k) hk;have h2:(match (AS os)[i]?,(AS os)[k]? with | some a,some b=>aD6 prof os a b | _,_=>false)=true:=hal;rw [ha,hb] at h2;unfold aD6 at h2;simp only [Bool.and_eq_true] at h2;exact h k (aJE hb (et h2.1).symm) hal x hx
abbrev A30 (Φ:Ending→World→Prop):=AtO Tryz.prog (aAr Tryz.f14) (aA2 (bodyPost Tryz.prog Tryz.f14 Φ)) [] 88
theorem aD3 {w:World}{bs ca bo br bb no nr nb:Nat}{qa:Option Addr}{prof:Bys}{os:List ObR}{T:aDI}{T2:RdT}(hS:StF w bs ca bo br bb no nr nb qa prof os T T2) (hT2:T2.map (·.1)=aBv os) (hTr:∀ s,aD7 T s=aCa (AS os) s) (hn:(AS os).length≤500) {f:Bys}(hf63:B63 f) {m0:Int}(h0:0≤m0) (h1:m0≤1000000000000):Calls Tryz.prog 14 #[vP bs 0,vS f,vI m0] w fun e w'=>∃ b n t,e = .returned (.agg #[.map (some b)])∧Tab (aAf prof os f) m0 t∧Mm (fun _=>False) w w' [tbE b n t]:=by
  have bb9:=hS.arcs.bnd;have hNo:=aER (prof:=prof) hS.ok f;obtain ⟨po,co,eo,so⟩:=aMd hS hTr f;have bso:=so.bnd;obtain ⟨W0,hW0⟩:∃ z,z=(AS os).length*6000000001:=⟨_,rfl⟩;refine beg Tryz.func14 rfl rfl [(0,vP bs 0),(1,vS f),(2,vI m0)] rfl rfl fun Φ hΦ=>?_;have hM:=Mm.nil (fun _=>False) w;refine aAn 0 0 3 [] (cs:=#[vP bs 0]) (T:=56) (v:=fun b=>vP b 0) f0 hM fun aa w1 hM=>aAn 0 1 6 [] (cs:=#[.map none]) (T:=60) (v:=fun b=>vP b 0) f0 hM fun ag w1 hM=>aFk 1 0 18 [] 3 f0 hM fun ad w1 hM=>aBD 1 2 7 [(19,.agg #[.map (some ad)])] [] 60 (.agg #[.map (some ad)]) f0 hM fun ab w1 hM=>aBD 2 0 8 [] [] 105 (.func (.func 40) #[] #[]) f0 hM fun af w1 hM=>aAn 3 0 20 [] (cs:=#[]) (T:=115) (v:=fun b=>vL (some ⟨b,0,none⟩) 0 0) f0 hM fun aj w1 hM=>aAn 3 1 21 [] (cs:=#[vL (some ⟨aj,0,none⟩) 0 0]) (T:=108) (v:=fun b=>vP b 0) f0 hM fun ae w1 hM=>aBD 3 3 9 [(22,.iface 106 (vP ae 0))] [] 110 (.iface 106 (vP ae 0)) f0 hM fun ac w1 hM=>?_;have hM:=aTk hM (f:=reL) (c:=2) (j:=5) rfl;refine seg 6 0 [(10,.func (.func 41) #[] #[vP aa 0,vP ab 0,vP af 0,vP ac 0]),(29,vL po (aCa (AS os) f).length co),(30,vI ((aCa (AS os) f).length:Int)),(31,vI 0)] (fc (ldm 56 0 0 hM rfl rfl) (fc (ld0 62 hM (bx hS.blk 2 rfl)) (fc (rz2 (lkN 62 (vS f) (vL none 0 0) (hS.out.fr hM.fr id) aDw u62_ (aDx hf63) (aKY _)) eo) f0))) ?_
  have aw:∀ (ak:Nat) (n1:Nat) (t1:Nat→Option Int) (v1:Value) (X1:List (Nat×Int)) (j:Nat) (w2:World),TInv (aAf prof os f) m0 t1 X1 (fun _ _=>False)→ClL (aAf prof os f) t1 (fun _=>true) m0 (((aCa (AS os) f).take j).map Int.toNat)→j≤(aCa (AS os) f).length→wgt (aAf prof os f) 6000000000 t1+X1.length≤W0→Mm (fun _=>False) w w2 [bk ag #[.map none] 60,bk aa #[vP bs 0] 56,bk ab #[.map (some ad)] 60,bk af #[.func (.func 40) #[] #[]] 105,bk ac #[.iface 106 (vP ae 0)] 110,mp Tryz.prog 3 ad n1 (aEF t1),bk ae #[v1] 108,rw_ reL 2 115 v1 X1]→ak=(aCa (AS os) f).length-j→A30 Φ (some (6,0)) [(31,vI (j:Int)),(30,vI ((aCa (AS os) f).length:Int)),(29,vL po (aCa (AS os) f).length co),(10,.func (.func 41) #[] #[vP aa 0,vP ab 0,vP af 0,vP ac 0]),(9,vP ac 0),(7,vP ab 0),(6,vP ag 0),(3,vP aa 0),(2,vI m0)] w2:=by
   refine aBh fun ak ax n1 t1 v1 X1 j w2 hI hC hj hw hM be=>seg 6 1 [(32,vB (decide ((j:Int)<((aCa (AS os) f).length:Int))))] f0 ?_;cases am:(decide ((j:Int)<((aCa (AS os) f).length:Int)))
   rotate_left
   ·have ay:=dt am;obtain ⟨z,hz,bf,bg,az,a0⟩:=so.el (i:=j) (by omega);obtain ⟨k,b,ek,hk,hb⟩:=aM9 hz;subst ek;have hrc:∀ x,(aAf prof os f).ps k m0=some x→Rch (aAf prof os f) m0 k x:=fun x hx => .base (gl hk) (aOD hk hb) hx;have hkl:=gl hk;refine aB3 8 3 38 [(35,.func (.func 41) #[] #[vP aa 0,vP ab 0,vP af 0,vP ac 0]),(36,vI (k:Int)),(37,vI m0)] (K:=fun u Mn=>u = .tuple #[]∧∃ n' t' v' X',aRi (aAf prof os f) k m0 t1 X1 t' X'∧Mn=TM aa bs ab ad af ac ae n' t' v' X') [0] [1,2,3,4,5,6,7] (fc (ix 28 co az (gl hz)) (fc (ld0 3 hM (a0 0 _ rfl)) f0)) hM rfl rfl (by decide) (fun hm=>(aHs hS hT2 f hM.fr (fun k ⟨e,he,hk⟩=>(hM.pick [1,2,3,4,5,6,7]).ge he hk) hm (by omega) (gl hk) (by omega) (by omega) (by omega))) fun u Mn w1 hK hM=>?_;obtain ⟨rfl,n229,t229,a1,X229,hP229,rfl⟩:=hK;refine seg 6 0 [(31,vI ((j:Int)+1))] (fc (aAh (j:Int) 1 u3_) f0) (aAb _ (ax _ (by have:=gl hz;omega) n229 t229 a1 X229 (j+1) _ (hP229.inv hI hrc) (by rw [gt_ hz,List.map_append];exact (hC.mono hP229.le).snoc fun _=>hP229.done) (gl hz) (by rcases hP229.wgt (B:=6000000000) hNo h0 hI hrc with ⟨q1,q2⟩ | ⟨q1,q2⟩<;>omega) hM rfl))
   have ay:=df am;rw [show (aCa (AS os) f).take j=aCa (AS os) f from List.take_of_length_le (by omega)] at hC;refine seg 10 0 [] f0 ?_
   have a2:∀ (ai:Nat) (n4:Nat) (t4:Nat→Option Int) (v4:Value) (X4:List (Nat×Int)) (w2:World),TInv (aAf prof os f) m0 t4 X4 (fun _ _=>False)→ClL (aAf prof os f) t4 (fun _=>true) m0 ((aCa (AS os) f).map Int.toNat)→wgt (aAf prof os f) 6000000000 t4+X4.length≤W0→Mm (fun _=>False) w w2 [bk ag #[.map none] 60,bk aa #[vP bs 0] 56,bk ab #[.map (some ad)] 60,bk af #[.func (.func 40) #[] #[]] 105,bk ac #[.iface 106 (vP ae 0)] 110,mp Tryz.prog 3 ad n4 (aEF t4),bk ae #[v4] 108,rw_ reL 2 115 v4 X4]→ai=2*wgt (aAf prof os f) 6000000000 t4+X4.length→A30 Φ (some (10,0)) [(10,.func (.func 41) #[] #[vP aa 0,vP ab 0,vP af 0,vP ac 0]),(9,vP ac 0),(7,vP ab 0),(6,vP ag 0),(3,vP aa 0)] w2:=by
    refine aBh fun ai an n4 t4 v4 X4 w2 hI hC hw hM bh=>?_;obtain ⟨qb216,cb216,a3,bi⟩:=(hM.src (j:=7) rfl reT.len).op;subst a3;refine aSB 10 1 41 [(40,.iface 106 (vP ae 0))] "Len" #[] (by decide) (fc (ldm 110 4 0 hM rfl rfl) f0) (aMr (hM.get 6 rfl)) (enters_of Tryz.func312 (by kernel_rfl) rfl) (aSH aE0) fun u w1 ⟨hu,f1⟩=>?_;subst hu;have hM:=hM.q f1;refine seg 10 3 [(42,vB (decide (0<(X4.length:Int))))] f0 ?_;cases ao:(decide (0<(X4.length:Int)))
    ·have a4:=df ao;refine stm 20 1 [(87,.agg #[.map (some ad)])] 60 0 0 (.agg #[.map (some ad)]) (fc (lam 60 2 0 1 hM rfl) f0) hM rfl fun w1 hM=>?_;have hX0:X4=[]:=List.eq_nil_of_length_eq_zero (by omega);rw [hX0] at hI;exact rtc 6 60 rfl (aAY 60 0 hM rfl rfl) f0 (hΦ _ _ ⟨_,_,t4,rfl,hI.tab (aMq hC),hM.pick [5]⟩)
    have a4:=dt ao;refine aB3 11 1 44 [(43,.iface 106 (vP ae 0))] (K:=fun u Mn=>∃ x v' X',X4.Perm (x::X')∧u = .iface 115 (.agg #[vI (x.1:Int),vI x.2])∧Mn=QM ae v' X') [0,1,2,3,4,5] [6,7] (fc (ldm 110 4 0 hM rfl rfl) f0) hM rfl rfl (by decide) (fun hm=>(aKB hm (by omega) (by omega))) fun u Mn w1 hK hM=>?_;obtain ⟨x,v5,X5,hXp,rfl,rfl⟩:=hK;have hln:=hXp.length_eq;rw [List.length_cons] at hln;obtain ⟨hrx,m9,hm9,hx9⟩:=hI.wait x (hXp.mem_iff.2 (.head _));have hx1:x.1<(AS os).length:=hrx.lt;have hgx:=hrx.ge hNo h0;have hlx:=hrx.le hNo h0;have hx2:t4 x.1=some m9:=hx9;have hM:=hM.pick [0,1,2,3,4,5,6,7];refine aBD 11 3 13 [(45,.agg #[vI (x.1:Int),vI x.2])] [] 115 (.agg #[vI (x.1:Int),vI x.2]) f0 hM fun ap w1 hM=>aAq 12 3 50 [(47,.agg #[.map (some ad)]),(49,vI (x.1:Int))] (fc (lam 60 2 0 1 hM rfl) (fc (ldm 3 8 0 hM rfl rfl) f0)) hM (aBy (hM.get 5 rfl) (i:=x.1) (by omega)) fun w1 hM=>seg 13 4 [(56,vB (decide (((t4 x.1).getD 0)<x.2)))] (fc (ldm 3 8 1 hM rfl rfl) f0) ?_;cases ah:(decide (((t4 x.1).getD 0)<x.2))
    rotate_left
    ·have a5:=dt ah;refine seg 10 0 [] f0 ?_;have hM:=hM.pick [0,1,2,3,4,5,6,7];exact aAb _ (an _ (by omega) n4 t4 v5 X5 _ (hI.stale hXp hx2 (by simpa [hx2] using (dt ah))) hC (by omega) hM rfl)
    have a5:=df ah
    have hxe:m9=x.2:=by
      have:=df ah;rw [hx2] at this;have:¬ m9<x.2:=this;omega
    obtain ⟨a,ha,bj,bl,a6,a7⟩:=hS.arcs.el (i:=x.1) (by omega);obtain ⟨po2,co2,eo2,so2⟩:=aMd hS hTr a.2.1;have bso2:=so2.bnd;refine seg 14 0 [] f0 ?_;have hM:=hM.q ((Fr.refl _ _).drew);refine drq [(70,vL po2 (aCa (AS os) a.2.1).length co2),(71,vI ((aCa (AS os) a.2.1).length:Int)),(72,vI 0)] rfl (fc (ldm 56 1 0 hM rfl rfl) (fc (ld0 62 hM (bx hS.blk 2 rfl)) (fc (ldm 56 1 0 hM rfl rfl) (fc (ld0 34 hM (bx hS.blk 1 rfl)) (fc (ldm 3 8 0 hM rfl rfl) (fc (ix 34 ca a6 (gl ha)) (fc (ld0 9 hM (a7 1 _ rfl)) (fc (rz2 (lkN 62 (vS a.2.1) (vL none 0 0) (hS.out.fr hM.fr id) aDw u62_ (aDx (hS.ok a (gm ha)).f2) (aKY _)) eo2) f0)))))))) (seg 15 0 [] f0 ?_)
    have a8:∀ (aq:Nat) (n3:Nat) (t3:Nat→Option Int) (v3:Value) (X3:List (Nat×Int)) (j3:Nat) (w2:World),TInv (aAf prof os f) m0 t3 X3 (fun i m=>(i,m)=x)→ClL (aAf prof os f) t3 (fun _=>true) m0 ((aCa (AS os) f).map Int.toNat)→ClL (aAf prof os f) t3 ((aAf prof os f).al x.1) x.2 (((aCa (AS os) a.2.1).take j3).map Int.toNat)→j3≤(aCa (AS os) a.2.1).length→wgt (aAf prof os f) 6000000000 t3+X3.length≤W0→2*wgt (aAf prof os f) 6000000000 t3+X3.length<ai→Mm (fun _=>False) w w2 [bk ag #[.map none] 60,bk ap #[vI (x.1:Int),vI x.2] 115,bk aa #[vP bs 0] 56,bk ab #[.map (some ad)] 60,bk af #[.func (.func 40) #[] #[]] 105,bk ac #[.iface 106 (vP ae 0)] 110,mp Tryz.prog 3 ad n3 (aEF t3),bk ae #[v3] 108,rw_ reL 2 115 v3 X3]→aq=(aCa (AS os) a.2.1).length-j3→A30 Φ (some (15,0)) [(72,vI (j3:Int)),(71,vI ((aCa (AS os) a.2.1).length:Int)),(70,vL po2 (aCa (AS os) a.2.1).length co2),(13,vP ap 0),(10,.func (.func 41) #[] #[vP aa 0,vP ab 0,vP af 0,vP ac 0]),(9,vP ac 0),(7,vP ab 0),(6,vP ag 0),(3,vP aa 0)] w2:=by
     refine aBh fun aq ar n3 t3 v3 X3 j3 w2 hI3 hC3 hD hj3 hw3 hmu hM bm=>seg 15 1 [(73,vB (decide ((j3:Int)<((aCa (AS os) a.2.1).length:Int))))] f0 ?_;cases au:(decide ((j3:Int)<((aCa (AS os) a.2.1).length:Int)))
     ·have a9:=df au;refine seg 10 0 [] f0 ?_;have hM:=hM.pick [0,2,3,4,5,6,7,8];exact aAb _ (an _ (by omega) n3 t3 v3 X3 _ (hI3.close (aOE ha (by rw [List.take_of_length_le (by omega)] at hD;exact hD))) hC3 hw3 hM rfl)
     have a9:=dt au;obtain ⟨z,hz,bp,bq,ba,bc⟩:=so2.el (i:=j3) (by omega);obtain ⟨k,b,ek,hk,hb⟩:=aM9 hz;subst ek;have hkl:=gl hk;refine aAq 17 4 80 [(17,vI (k:Int)),(76,vP bs 0),(78,vI (x.1:Int)),(79,vI (k:Int))] (fc (ix 28 co2 ba (gl hz)) (fc (ld0 3 hM (bc 0 _ rfl)) (fc (ldm 56 2 0 hM rfl rfl) (fc (ldm 3 1 0 hM rfl rfl) f0)))) hM (aCi (hS.fr hM.fr) f hx1 hkl) fun w1 hM=>?_;cases av:((aAf prof os f).al x.1 k)
     ·refine seg 15 0 [(72,vI ((j3:Int)+1))] (fc (aAh (j3:Int) 1 u3_) f0) (aAb _ (ar _ (by have:=gl hz;omega) n3 t3 v3 X3 (j3+1) _ hI3 hC3 (by rw [gt_ hz,List.map_append];exact hD.snoc fun q9=>by rw [show Int.toNat (k:Int)=k from rfl,av] at q9;cases q9) (gl hz) hw3 hmu hM rfl))
     have hrc:∀ y,(aAf prof os f).ps k x.2=some y→Rch (aAf prof os f) m0 k y:=fun y hy => .step hrx hkl av hy;refine aB3 18 4 85 [(81,.func (.func 41) #[] #[vP aa 0,vP ab 0,vP af 0,vP ac 0]),(82,vI (k:Int)),(84,vI x.2)] (K:=fun u Mn=>u = .tuple #[]∧∃ n' t' v' X',aRi (aAf prof os f) k x.2 t3 X3 t' X'∧Mn=TM aa bs ab ad af ac ae n' t' v' X') [0,1] [2,3,4,5,6,7,8] (fc (ldm 3 1 1 hM rfl rfl) f0) hM rfl rfl (by decide) (fun hm=>(aHs hS hT2 f hM.fr (fun k ⟨e,he,hk⟩=>(hM.pick [2,3,4,5,6,7,8]).ge he hk) hm (by omega) (gl hk) (by omega) (by omega) (by omega))) fun u Mn w1 hK hM=>?_;obtain ⟨rfl,n227,t227,bd,X227,hP227,rfl⟩:=hK;refine seg 15 0 [(72,vI ((j3:Int)+1))] (fc (aAh (j3:Int) 1 u3_) f0) (aAb _ (ar _ (by have:=gl hz;omega) n227 t227 bd X227 (j3+1) _ (hP227.inv hI3 hrc) (hC3.mono hP227.le) (by rw [gt_ hz,List.map_append];exact (hD.mono hP227.le).snoc fun _=>hP227.done) (gl hz) (by rcases hP227.wgt (B:=6000000000) hNo h0 hI3 hrc with ⟨q1,q2⟩ | ⟨q1,q2⟩<;>omega) (by rcases hP227.wgt (B:=6000000000) hNo h0 hI3 hrc with ⟨q1,q2⟩ | ⟨q1,q2⟩<;>omega) hM rfl))
    exact aAb _ (a8 _ n4 t4 v5 X5 0 _ (hI.pop hXp) hC (ClL.nil _ _ _ _) (Nat.zero_le _) (by omega) (by omega) (hM.pick [0,8,1,2,3,4,5,6,7]) rfl)
   exact aAb _ (a2 _ n1 t1 v1 X1 _ hI hC hw hM rfl)
  exact aAb _ (aw _ 0 (fun _=>none) (vL (some ⟨aj,0,none⟩) 0 0) [] 0 _ (TInv.nil _ _ _) (ClL.nil _ _ _ _) (Nat.zero_le _) (by rw [hW0];exact aRt _ _ _) (aNP▸hM.pick [1,0,3,4,7,2,6,5]) rfl)
def aKO (N:NetW) (m0:Int) (t:Nat→Option Int) (i:Nat):Bool:=(N.ps i m0).isSome&&N.st i&&((N.ps i m0).getD 0==(t i).getD 0)
def aEK (N:NetW) (t:Nat→Option Int) (i k:Nat):Bool:=(t k).isSome&&N.al k i&&((N.ps i ((t k).getD 0)).isSome&&((N.ps i ((t k).getD 0)).getD 0==(t i).getD 0))
def aCd (N:NetW) (m0:Int) (t:Nat→Option Int) (i:Nat):Option Nat:=bif aKO N m0 t i then none else (List.range N.n).find? (aEK N t i)
theorem aGX {n k:Nat}{p:Nat→Bool}(h:∀ j,j<k→p j=false) (hk:k<n) (hp:p k=true):(List.range n).find? p=some k:=by
  rw [List.find?_range_eq_some];exact ⟨hp,by simpa using hk,fun j hj=>by rw [h j hj];rfl⟩
theorem aFy {n k:Nat}{p:Nat→Bool}(h:∀ j,j<k→p j=false) (hk:n≤k):(List.range n).find? p=none:=by
  rw [List.find?_eq_none];intro j hj;rw [h j (Nat.lt_of_lt_of_le (List.mem_range.1 hj) hk)];simp
abbrev A32 (Φ:Ending→World→Prop):=AtO Tryz.prog (aAr Tryz.f16) (aA2 (bodyPost Tryz.prog Tryz.f16 Φ)) [] 88
theorem aIg {w:World}{bs ca bo br bb no nr nb:Nat}{qa:Option Addr}{prof:Bys}{os:List ObR}{T:aDI}{T2:RdT}(hS:StF w bs ca bo br bb no nr nb qa prof os T T2) (hT2:T2.map (·.1)=aBv os) (hl9:(AS os).length≤400000000) {b n:Nat}{t:Nat→Option Int}(hm:aCj Tryz.prog 3 w b n (aEF t)) (ht:∀ k m,t k=some m→0≤m∧m≤6000000000) {f:Bys}{m0:Int}(h0:0≤m0) (h1:m0≤1000000000000) {i:Nat}(hi:i<(AS os).length):Calls Tryz.prog 16 #[vP bs 0,.agg #[.map (some b)],vS f,vI m0,vI (i:Int)] w fun e w'=>e = .returned (.tuple #[vI (((aCd (aAf prof os f) m0 t i).getD 0:Nat):Int),vB (aCd (aAf prof os f) m0 t i).isSome])∧Fr (fun _=>False) w w':=by
  have bb9:=hS.arcs.bnd;obtain ⟨a,ha⟩:=geb (l:=AS os) (i:=i) hi
  have hst:(aAf prof os f).st i=(a.1==f):=by
    show (match (AS os)[i]? with | some a=>a.1==f | none=>false)=_;rw [ha]
  have htg:∀ k,0≤(t k).getD 0∧(t k).getD 0≤6000000000:=fun k=>by
    cases e:t k with
    | none=>exact ⟨Int.le_refl _,by show (0:Int)≤_;omega⟩
    | some m=>exact ht k m e
  refine beg Tryz.func16 rfl rfl [(0,vP bs 0),(1,.agg #[.map (some b)]),(2,vS f),(3,vI m0),(4,vI (i:Int))] rfl rfl fun Φ hΦ=>?_;have hM:=Mm.nil (fun _=>False) w;refine aAn 0 0 6 [] (cs:=#[.map (some b)]) (T:=60) (v:=fun b=>vP b 0) f0 hM fun aa w1 hM=>aAq 1 2 24 [(22,.agg #[.map (some b)]),(23,vI (i:Int))] (fc (lam 60 0 0 1 hM rfl) f0) hM (aBy (hm.fr hM.fr id) (i:=i) (by omega)) fun w1 hM=>aAq 2 3 31 [(12,vI ((t i).getD 0)),(28,vP bs 0),(29,vI (i:Int)),(30,vI m0)] f0 hM (aBS (hS.fr hM.fr) hT2 f hi h0 (by omega)) fun w1 hM=>?_;obtain ⟨a9,ha9,ga,oa,qq,ra⟩:=hS.arcs.el (i:=i) hi;rw [ha] at ha9;cases ha9;refine seg 3 2 [(14,vI (((aAf prof os f).ps i m0).getD 0)),(35,vB ((aAf prof os f).ps i m0).isSome)] f0 ?_
  cases ai:((aAf prof os f).ps i m0).isSome with
  | false =>
   have hA:aKO (aAf prof os f) m0 t i=false:=by unfold aKO;simp only [hst,ai]<;>rfl
   refine seg 6 0 [(56,vI ((AS os).length:Int)),(57,vI 0)] (fc (ld0 34 hM (bx hS.blk 1 rfl)) f0) ?_
   have a2:∀ (az:Nat) (k:Nat) (w2:World),k≤(AS os).length→(∀ j,j<k→aEK (aAf prof os f) t i j=false)→Mm (fun _=>False) w w2 [bk aa #[.map (some b)] 60]→az=(AS os).length-k→A32 Φ (some (6,0)) [(57,vI (k:Int)),(56,vI ((AS os).length:Int)),(12,vI ((t i).getD 0)),(6,vP aa 0),(0,vP bs 0),(4,vI (i:Int))] w2:=by
    refine aBh fun az aj k w2 hk hno hM bf=>seg 6 1 [(58,vB (decide ((k:Int)<((AS os).length:Int))))] f0 ?_;cases ab:(decide ((k:Int)<((AS os).length:Int)))
    ·have a3:=df ab
     have hb:aCd (aAf prof os f) m0 t i=none:=by
       unfold aCd;rw [hA];exact aFy hno (by show (AS os).length≤k;omega)
     exact rt2 10 11 (vI 0) (vB false) rfl rfl f0 (hΦ _ _ ⟨by rw [hb];rfl,hM.fr⟩)
    have a3:=dt ab;refine aAq 8 2 63 [(16,vI (k:Int)),(61,.agg #[.map (some b)]),(62,vI (k:Int))] (fc (lam 60 0 0 1 hM rfl) f0) hM (aBy (hm.fr hM.fr id) (i:=k) (by omega)) fun w1 hM=>seg 9 2 [(17,vI ((t k).getD 0)),(67,vB (t k).isSome)] f0 ?_
    cases ae:(t k).isSome with
    | false =>
     refine seg 6 0 [(57,vI ((k:Int)+1))] (fc (aAh (k:Int) 1 u3_) f0) (aAb _ (aj _ (by omega) (k+1) _ (by omega) (fun j hj=>by rcases Nat.lt_succ_iff_lt_or_eq.1 hj with hj | rfl;exact hno j hj;unfold aEK;simp only [ab,ae]<;>rfl) hM rfl))
    | true =>
     refine aAq 9 5 71 [(68,vP bs 0),(69,vI (k:Int)),(70,vI (i:Int))] f0 hM (aCi (hS.fr hM.fr) f (i:=k) (k:=i) (by omega) hi) fun w1 hM=>seg 9 7 [(72,vB ((aAf prof os f).al k i))] f0 ?_;cases ak:((aAf prof os f).al k i)
     ·refine seg 6 0 [(57,vI ((k:Int)+1))] (fc (aAh (k:Int) 1 u3_) f0) (aAb _ (aj _ (by omega) (k+1) _ (by omega) (fun j hj=>by rcases Nat.lt_succ_iff_lt_or_eq.1 hj with hj | rfl;exact hno j hj;unfold aEK;simp only [ab,ae,ak]<;>rfl) hM rfl))
     refine aAq 10 3 77 [(74,vP bs 0),(75,vI (i:Int)),(76,vI ((t k).getD 0))] f0 hM (aBS (hS.fr hM.fr) hT2 f hi (htg k).1 (by have:=(htg k).2;omega)) fun w1 hM=>seg 11 2 [(19,vI (((aAf prof os f).ps i ((t k).getD 0)).getD 0)),(81,vB ((aAf prof os f).ps i ((t k).getD 0)).isSome)] f0 ?_
     cases aw:((aAf prof os f).ps i ((t k).getD 0)).isSome with
     | false =>
      refine seg 6 0 [(57,vI ((k:Int)+1))] (fc (aAh (k:Int) 1 u3_) f0) (aAb _ (aj _ (by omega) (k+1) _ (by omega) (fun j hj=>by rcases Nat.lt_succ_iff_lt_or_eq.1 hj with hj | rfl;exact hno j hj;unfold aEK;simp only [ab,ae,ak,aw]<;>rfl) hM rfl))
     | true =>
      refine seg 11 6 [(85,vB ((((aAf prof os f).ps i ((t k).getD 0)).getD 0)==((t i).getD 0)))] f0 ?_;cases am:((((aAf prof os f).ps i ((t k).getD 0)).getD 0)==((t i).getD 0))
      ·have a4:=ef am;refine seg 6 0 [(57,vI ((k:Int)+1))] (fc (aAh (k:Int) 1 u3_) f0) (aAb _ (aj _ (by omega) (k+1) _ (by omega) (fun j hj=>by rcases Nat.lt_succ_iff_lt_or_eq.1 hj with hj | rfl;exact hno j hj;unfold aEK;simp only [ab,ae,ak,aw,am]<;>rfl) hM rfl))
      have a4:=et am
      have hb:aCd (aAf prof os f) m0 t i=some k:=by
        unfold aCd;rw [hA];exact aGX hno (by show k<(AS os).length;omega) (by unfold aEK;simp only [ae,ak,aw,am]<;>rfl)
      exact rt2 10 11 (vI (k:Int)) (vB true) rfl rfl f0 (hΦ _ _ ⟨by rw [hb];rfl,hM.fr⟩)
   exact aAb _ (a2 _ 0 _ (Nat.zero_le _) (fun j hj=>absurd hj (Nat.not_lt_zero _)) hM rfl)
  | true =>
   refine seg 3 14 [(47,vB (a.1==f))] (fc (ld0 34 hM (bx hS.blk 1 rfl)) (fc (ix 34 ca qq (gl ha)) (fc (ld0 9 hM (ra 0 _ rfl)) (fc (seq 9 a.1 f) f0)))) ?_;cases af:(a.1==f)
   ·have a5:=ef af;have hA:aKO (aAf prof os f) m0 t i=false:=by unfold aKO;simp only [hst,ai,af]<;>rfl
    refine seg 6 0 [(56,vI ((AS os).length:Int)),(57,vI 0)] (fc (ld0 34 hM (bx hS.blk 1 rfl)) f0) ?_
    have a6:∀ (a0:Nat) (k:Nat) (w2:World),k≤(AS os).length→(∀ j,j<k→aEK (aAf prof os f) t i j=false)→Mm (fun _=>False) w w2 [bk aa #[.map (some b)] 60]→a0=(AS os).length-k→A32 Φ (some (6,0)) [(57,vI (k:Int)),(56,vI ((AS os).length:Int)),(12,vI ((t i).getD 0)),(6,vP aa 0),(0,vP bs 0),(4,vI (i:Int))] w2:=by
     refine aBh fun a0 an k w2 hk hno hM bg=>seg 6 1 [(58,vB (decide ((k:Int)<((AS os).length:Int))))] f0 ?_;cases ac:(decide ((k:Int)<((AS os).length:Int)))
     ·have a7:=df ac
      have hb:aCd (aAf prof os f) m0 t i=none:=by
        unfold aCd;rw [hA];exact aFy hno (by show (AS os).length≤k;omega)
      exact rt2 10 11 (vI 0) (vB false) rfl rfl f0 (hΦ _ _ ⟨by rw [hb];rfl,hM.fr⟩)
     have a7:=dt ac;refine aAq 8 2 63 [(16,vI (k:Int)),(61,.agg #[.map (some b)]),(62,vI (k:Int))] (fc (lam 60 0 0 1 hM rfl) f0) hM (aBy (hm.fr hM.fr id) (i:=k) (by omega)) fun w1 hM=>seg 9 2 [(17,vI ((t k).getD 0)),(67,vB (t k).isSome)] f0 ?_
     cases ag:(t k).isSome with
     | false =>
      refine seg 6 0 [(57,vI ((k:Int)+1))] (fc (aAh (k:Int) 1 u3_) f0) (aAb _ (an _ (by omega) (k+1) _ (by omega) (fun j hj=>by rcases Nat.lt_succ_iff_lt_or_eq.1 hj with hj | rfl;exact hno j hj;unfold aEK;simp only [ac,ag]<;>rfl) hM rfl))
     | true =>
      refine aAq 9 5 71 [(68,vP bs 0),(69,vI (k:Int)),(70,vI (i:Int))] f0 hM (aCi (hS.fr hM.fr) f (i:=k) (k:=i) (by omega) hi) fun w1 hM=>seg 9 7 [(72,vB ((aAf prof os f).al k i))] f0 ?_;cases ao:((aAf prof os f).al k i)
      ·refine seg 6 0 [(57,vI ((k:Int)+1))] (fc (aAh (k:Int) 1 u3_) f0) (aAb _ (an _ (by omega) (k+1) _ (by omega) (fun j hj=>by rcases Nat.lt_succ_iff_lt_or_eq.1 hj with hj | rfl;exact hno j hj;unfold aEK;simp only [ac,ag,ao]<;>rfl) hM rfl))
      refine aAq 10 3 77 [(74,vP bs 0),(75,vI (i:Int)),(76,vI ((t k).getD 0))] f0 hM (aBS (hS.fr hM.fr) hT2 f hi (htg k).1 (by have:=(htg k).2;omega)) fun w1 hM=>seg 11 2 [(19,vI (((aAf prof os f).ps i ((t k).getD 0)).getD 0)),(81,vB ((aAf prof os f).ps i ((t k).getD 0)).isSome)] f0 ?_
      cases ax:((aAf prof os f).ps i ((t k).getD 0)).isSome with
      | false =>
       refine seg 6 0 [(57,vI ((k:Int)+1))] (fc (aAh (k:Int) 1 u3_) f0) (aAb _ (an _ (by omega) (k+1) _ (by omega) (fun j hj=>by rcases Nat.lt_succ_iff_lt_or_eq.1 hj with hj | rfl;exact hno j hj;unfold aEK;simp only [ac,ag,ao,ax]<;>rfl) hM rfl))
      | true =>
       refine seg 11 6 [(85,vB ((((aAf prof os f).ps i ((t k).getD 0)).getD 0)==((t i).getD 0)))] f0 ?_;cases ap:((((aAf prof os f).ps i ((t k).getD 0)).getD 0)==((t i).getD 0))
       ·have a8:=ef ap;refine seg 6 0 [(57,vI ((k:Int)+1))] (fc (aAh (k:Int) 1 u3_) f0) (aAb _ (an _ (by omega) (k+1) _ (by omega) (fun j hj=>by rcases Nat.lt_succ_iff_lt_or_eq.1 hj with hj | rfl;exact hno j hj;unfold aEK;simp only [ac,ag,ao,ax,ap]<;>rfl) hM rfl))
       have a8:=et ap
       have hb:aCd (aAf prof os f) m0 t i=some k:=by
         unfold aCd;rw [hA];exact aGX hno (by show k<(AS os).length;omega) (by unfold aEK;simp only [ag,ao,ax,ap]<;>rfl)
       exact rt2 10 11 (vI (k:Int)) (vB true) rfl rfl f0 (hΦ _ _ ⟨by rw [hb];rfl,hM.fr⟩)
    exact aAb _ (a6 _ 0 _ (Nat.zero_le _) (fun j hj=>absurd hj (Nat.not_lt_zero _)) hM rfl)
   have a5:=et af;refine seg 3 18 [(51,vB ((((aAf prof os f).ps i m0).getD 0)==((t i).getD 0)))] f0 ?_;cases aq:((((aAf prof os f).ps i m0).getD 0)==((t i).getD 0))
   rotate_left
   ·have ba:=et aq
    have hb:aCd (aAf prof os f) m0 t i=none:=by
      unfold aCd aKO;simp only [hst,ai,af,aq]<;>rfl
    exact rt2 10 11 (vI 0) (vB false) rfl rfl f0 (hΦ _ _ ⟨by rw [hb];rfl,hM.fr⟩)
   have ba:=ef aq;have hA:aKO (aAf prof os f) m0 t i=false:=by unfold aKO;simp only [hst,ai,af,aq]<;>rfl
   refine seg 6 0 [(56,vI ((AS os).length:Int)),(57,vI 0)] (fc (ld0 34 hM (bx hS.blk 1 rfl)) f0) ?_
   have bc:∀ (a1:Nat) (k:Nat) (w2:World),k≤(AS os).length→(∀ j,j<k→aEK (aAf prof os f) t i j=false)→Mm (fun _=>False) w w2 [bk aa #[.map (some b)] 60]→a1=(AS os).length-k→A32 Φ (some (6,0)) [(57,vI (k:Int)),(56,vI ((AS os).length:Int)),(12,vI ((t i).getD 0)),(6,vP aa 0),(0,vP bs 0),(4,vI (i:Int))] w2:=by
    refine aBh fun a1 ar k w2 hk hno hM bh=>seg 6 1 [(58,vB (decide ((k:Int)<((AS os).length:Int))))] f0 ?_;cases ad:(decide ((k:Int)<((AS os).length:Int)))
    ·have bd:=df ad
     have hb:aCd (aAf prof os f) m0 t i=none:=by
       unfold aCd;rw [hA];exact aFy hno (by show (AS os).length≤k;omega)
     exact rt2 10 11 (vI 0) (vB false) rfl rfl f0 (hΦ _ _ ⟨by rw [hb];rfl,hM.fr⟩)
    have bd:=dt ad;refine aAq 8 2 63 [(16,vI (k:Int)),(61,.agg #[.map (some b)]),(62,vI (k:Int))] (fc (lam 60 0 0 1 hM rfl) f0) hM (aBy (hm.fr hM.fr id) (i:=k) (by omega)) fun w1 hM=>seg 9 2 [(17,vI ((t k).getD 0)),(67,vB (t k).isSome)] f0 ?_
    cases ah:(t k).isSome with
    | false =>
     refine seg 6 0 [(57,vI ((k:Int)+1))] (fc (aAh (k:Int) 1 u3_) f0) (aAb _ (ar _ (by omega) (k+1) _ (by omega) (fun j hj=>by rcases Nat.lt_succ_iff_lt_or_eq.1 hj with hj | rfl;exact hno j hj;unfold aEK;simp only [ad,ah]<;>rfl) hM rfl))
    | true =>
     refine aAq 9 5 71 [(68,vP bs 0),(69,vI (k:Int)),(70,vI (i:Int))] f0 hM (aCi (hS.fr hM.fr) f (i:=k) (k:=i) (by omega) hi) fun w1 hM=>seg 9 7 [(72,vB ((aAf prof os f).al k i))] f0 ?_;cases au:((aAf prof os f).al k i)
     ·refine seg 6 0 [(57,vI ((k:Int)+1))] (fc (aAh (k:Int) 1 u3_) f0) (aAb _ (ar _ (by omega) (k+1) _ (by omega) (fun j hj=>by rcases Nat.lt_succ_iff_lt_or_eq.1 hj with hj | rfl;exact hno j hj;unfold aEK;simp only [ad,ah,au]<;>rfl) hM rfl))
     refine aAq 10 3 77 [(74,vP bs 0),(75,vI (i:Int)),(76,vI ((t k).getD 0))] f0 hM (aBS (hS.fr hM.fr) hT2 f hi (htg k).1 (by have:=(htg k).2;omega)) fun w1 hM=>seg 11 2 [(19,vI (((aAf prof os f).ps i ((t k).getD 0)).getD 0)),(81,vB ((aAf prof os f).ps i ((t k).getD 0)).isSome)] f0 ?_
     cases ay:((aAf prof os f).ps i ((t k).getD 0)).isSome with
     | false =>
      refine seg 6 0 [(57,vI ((k:Int)+1))] (fc (aAh (k:Int) 1 u3_) f0) (aAb _ (ar _ (by omega) (k+1) _ (by omega) (fun j hj=>by rcases Nat.lt_succ_iff_lt_or_eq.1 hj with hj | rfl;exact hno j hj;unfold aEK;simp only [ad,ah,au,ay]<;>rfl) hM rfl))
     | true =>
      refine seg 11 6 [(85,vB ((((aAf prof os f).ps i ((t k).getD 0)).getD 0)==((t i).getD 0)))] f0 ?_;cases av:((((aAf prof os f).ps i ((t k).getD 0)).getD 0)==((t i).getD 0))
      ·have be:=ef av;refine seg 6 0 [(57,vI ((k:Int)+1))] (fc (aAh (k:Int) 1 u3_) f0) (aAb _ (ar _ (by omega) (k+1) _ (by omega) (fun j hj=>by rcases Nat.lt_succ_iff_lt_or_eq.1 hj with hj | rfl;exact hno j hj;unfold aEK;simp only [ad,ah,au,ay,av]<;>rfl) hM rfl))
      have be:=et av
      have hb:aCd (aAf prof os f) m0 t i=some k:=by
        unfold aCd;rw [hA];exact aGX hno (by show k<(AS os).length;omega) (by unfold aEK;simp only [ah,au,ay,av]<;>rfl)
      exact rt2 10 11 (vI (k:Int)) (vB true) rfl rfl f0 (hΦ _ _ ⟨by rw [hb];rfl,hM.fr⟩)
   exact aAb _ (bc _ 0 _ (Nat.zero_le _) (fun j hj=>absurd hj (Nat.not_lt_zero _)) hM rfl)
def aK5 (os:List ObR) (id:Bys):Int:=match os[(aAi (aAa os) id).toNat]? with
  | some b=>b.o.kind
  | none=>0
def aBH (os:List ObR) (id:Bys):Bool := !(aK5 os id==1)
theorem aGC {w:World}{b:Nat}{cs:Array Value}{T:TypeId}(h:w.heap[b]?=some (.cells cs T (0,0))):w.rangeAt b 0 cs.toList:=fun j u hu=>by
  rw [aAt h,Nat.zero_add];simpa using hu
def aEq (os:List ObR) (prof:Bys) (m0:Int) (ids:List Bys):Int :=
  bif !(aAe (aAa os))||(!(aBu prof)||(decide (m0<0)||decide (9999999<m0))) then 1
  else bif ids.any (fun id=>decide (aAi (aAa os) id<0)) then 11
  else bif ids.any (aBH os) then 13 else 0
theorem aBl {l:List Ob}{id:Bys}(h:¬ aAi l id<0):∃ k o,aAi l id=((k:Nat):Int)∧l[k]?=some o∧o.id=id:=by
  unfold aAi at h ⊢
  cases e:l.findIdx? (fun o=>o.id==id) with
  | none=>rw [e] at h;exact absurd (by decide) h
  | some k =>
    obtain ⟨h1,h2,h3⟩:=List.findIdx?_eq_some_iff_getElem.1 e;exact ⟨k,l[k],rfl,List.getElem?_eq_getElem h1,by simpa using h2⟩
theorem aKK {w:World}{c4:Nat}{v:Value}{os:List ObR}(hm:aDy w v os) {id:Bys}(hf:¬ aAi (aAa os) id<0) (hc4:w.heap[c4]?=some (.cells #[v] 24 (0,0))):Calls Tryz.prog 36 #[vS id,vP c4 0] w fun e w'=>e = .returned (vB (aBH os id))∧Fr (fun _=>False) w w':=by
  have hm0:=hm;obtain ⟨hs0,hob⟩:=hm0;obtain ⟨p0,cp0,hp0,sp0⟩:=hs0.op;subst hp0;have bp0:=sp0.bnd;obtain ⟨k,o9,hk,hk2,hk3⟩:=aBl hf;have hkl:k<os.length:=by rw [←aA3];exact gl hk2
  refine beg Tryz.func36 rfl rfl [(0,vS id),(1,vP c4 0)] rfl rfl fun Φ hΦ=>?_;have hM:=Mm.nil (fun _=>False) w;refine seg 1 0 [] f0 ?_;obtain ⟨y,hy,ac,ad,aa,ab⟩:=sp0.el (i:=k) (by omega);refine drc [(3,vB (!(y.o.kind==1)))] hM (fun w5 hM=>(fc (ld0 22 hM (bx hc4 0 rfl)) (fc (la0 24 hM (aGC hc4)) (fc (tcl (aC2 (hm.fr hM.fr) id)) (fc (ix 22 cp0 aa (gl hy) (z:=(aAi (aAa os) id)) (hz:=hk)) (fc (ld0 3 hM (ab 1 _ rfl)) f0)))))) fun w5 hM=>rt1 3 (vB (!(y.o.kind==1))) rfl f0 (hΦ _ _ ⟨by unfold aBH aK5;rw [hk];simp only [Int.toNat_natCast,hy],hM.fr⟩)
abbrev A28 (Φ:Ending→World→Prop):=AtO Tryz.prog (aAr Tryz.f12) (aA2 (bodyPost Tryz.prog Tryz.f12 Φ)) [] 41
theorem aEl {w:World}{v:Value}{os:List ObR}(hm:aDy w v os) {prof:Bys}(hp63:prof.length≤9223372036854775807) (m0:Int) {pi:Option Addr}{ci:Nat}{ids:List Bys}(hids:SrcP stL 1 w pi ci ids):Calls Tryz.prog 12 #[.agg #[v],vS prof,vI m0,vL pi ids.length ci] w fun e w'=>e = .returned (vI (aEq os prof m0 ids))∧Fr (fun _=>False) w w':=by
  have hm0:=hm;obtain ⟨hs0,hob⟩:=hm0;obtain ⟨p0,cp0,hp0,sp0⟩:=hs0.op;subst hp0;have bp0:=sp0.bnd;have bi:=hids.bnd;refine beg Tryz.func12 rfl rfl [(0,.agg #[vL p0 os.length cp0]),(1,vS prof),(2,vI m0),(3,vL pi ids.length ci)] rfl rfl fun Φ hΦ=>?_;have hM:=Mm.nil (fun _=>False) w;refine aAn 0 0 4 [] (cs:=#[vL p0 os.length cp0]) (T:=24) (v:=fun b=>vP b 0) f0 hM fun af w1 hM=>aAq 1 1 12 [(11,.agg #[vL p0 os.length cp0])] (fc (lam 24 0 0 1 hM rfl) f0) hM (aB5 (hm.fr hM.fr)) fun w1 hM=>seg 1 4 [(14,vB (!(aAe (aAa os))))] f0 ?_;cases aa:(aAe (aAa os))
  ·exact rt1 8 (vI 1) rfl f0 (hΦ _ _ ⟨by unfold aEq;simp only [aa]<;>rfl,hM.fr⟩)
  refine aAq 1 5 16 [(15,vS prof)] f0 hM (aAy hp63 _) fun w1 hM=>seg 1 9 [(19,vB (!(aBu prof)))] f0 ?_;cases ac:(aBu prof)
  ·exact rt1 8 (vI 1) rfl f0 (hΦ _ _ ⟨by unfold aEq;simp only [aa,ac]<;>rfl,hM.fr⟩)
  refine seg 1 13 [(23,vB (decide (m0<0)))] f0 ?_;cases ab:(decide (m0<0))
  rotate_left
  ·have aj:=dt ab;exact rt1 8 (vI 1) rfl f0 (hΦ _ _ ⟨by unfold aEq;simp only [aa,ac,ab]<;>rfl,hM.fr⟩)
  have aj:=df ab;refine seg 1 16 [(26,vB (decide (9999999<m0)))] f0 ?_;cases ad:(decide (9999999<m0))
  rotate_left
  ·have ak:=dt ad;exact rt1 8 (vI 1) rfl f0 (hΦ _ _ ⟨by unfold aEq;simp only [aa,ac,ab,ad]<;>rfl,hM.fr⟩)
  have ak:=df ad;refine seg 4 0 [(27,vL pi ids.length ci),(28,vI (ids.length:Int)),(29,vI 0)] f0 ?_
  have al:∀ (ag:Nat) (j:Nat) (w2:World),j≤ids.length→(ids.take j).any (fun id=>decide (aAi (aAa os) id<0))=false→Mm (fun _=>False) w w2 [bk af #[vL p0 os.length cp0] 24]→ag=ids.length-j→A28 Φ (some (4,0)) [(29,vI (j:Int)),(28,vI (ids.length:Int)),(27,vL pi ids.length ci),(4,vP af 0),(3,vL pi ids.length ci)] w2:=by
   refine aBh fun ag am j w2 hj hno hM ar=>seg 4 1 [(30,vB (decide ((j:Int)<(ids.length:Int))))] f0 ?_;cases ah:(decide ((j:Int)<(ids.length:Int)))
   ·have an:=df ah;rw [List.take_of_length_le (by omega)] at hno;refine aAq 9 2 40 [(38,vL pi ids.length ci),(39,.func (.func 36) #[] #[vP af 0])] f0 hM (aMU (hids.b hM.fr) (fun _ h=>h.elim) (enters_of Tryz.func36 (by kernel_rfl) rfl) (aBH os) fun z hz w9 f9=>by rw [aRg];exact aKK ((hm.fr hM.fr).fr f9) (fun h9=>by have:=List.any_eq_false.1 hno z hz;simp [h9] at this) (f9.obj (hM.get 0 rfl) fun h=>h)) fun w1 hM=>?_;cases ai:(ids.any (aBH os))
    ·exact rt1 8 (vI 0) rfl f0 (hΦ _ _ ⟨by unfold aEq;simp only [aa,ac,ab,ad,ai,hno]<;>rfl,hM.fr⟩)
    exact rt1 8 (vI 13) rfl f0 (hΦ _ _ ⟨by unfold aEq;simp only [aa,ac,ab,ad,ai,hno]<;>rfl,hM.fr⟩)
   have an:=dt ah;obtain ⟨s,hs,au,av,ao,ap⟩:=hids.el (i:=j) (by omega);refine aAq 6 2 35 [(33,.agg #[vL p0 os.length cp0]),(34,vS s)] (fc (ix 27 ci ao (gl hs)) (fc (ld0 9 hM (ap 0 _ rfl)) (fc (lam 24 0 0 1 hM rfl) f0))) hM (aC2 (hm.fr hM.fr) s) fun w1 hM=>seg 6 4 [(36,vB (decide ((aAi (aAa os) s)<0)))] f0 ?_;cases ae:(decide ((aAi (aAa os) s)<0))
   ·have aq:=df ae;refine seg 4 0 [(29,vI ((j:Int)+1))] (fc (aAh (j:Int) 1 u3_) f0) (aAb _ (am _ (by have:=gl hs;omega) (j+1) _ (gl hs) (by rw [gt_ hs,List.any_append,hno];simp only [List.any_cons,List.any_nil,ae];rfl) hM rfl))
   have aq:=dt ae;have hAll:ids.any (fun id=>decide (aAi (aAa os) id<0))=true:=List.any_eq_true.2 ⟨s,gm hs,ae⟩;exact rt1 8 (vI 11) rfl f0 (hΦ _ _ ⟨by unfold aEq;simp only [aa,ac,ab,ad,hAll]<;>rfl,hM.fr⟩)
  exact aAb _ (al _ 0 _ (Nat.zero_le _) rfl hM rfl)
def aBa (os:List ObR) (f:Bys) (n:Int) (pr:Bys) (m0:Int):Int:=bif !(aBO f n pr m0) || !(aAe (aAa os)) then 1 else bif decide (aAi (aAa os) f<0) then 11 else bif aBH os f then 13 else 0
theorem aHW {w:World}{v:Value}{os:List ObR}(hm:aDy w v os) {f pr:Bys}(hf:f.length≤9223372036854775807) (hp:pr.length≤9223372036854775807) (n m0:Int):Calls Tryz.prog 23 #[.agg #[vI 5,vI 0,vI 1,vS [],vS [],vI 0,vL none 0 0,vS f,vI n,vI 0,vI 0,vS [],vS pr,vI m0],.agg #[v]] w fun e w'=>e = .returned (vI (aBa os f n pr m0))∧Fr (fun _=>False) w w':=by
  have hm0:=hm;obtain ⟨hs0,hob⟩:=hm0;obtain ⟨p0,cp0,hp0,sp0⟩:=hs0.op;subst hp0;have bp0:=sp0.bnd;refine beg Tryz.func23 rfl rfl [(0,.agg #[vI 5,vI 0,vI 1,vS [],vS [],vI 0,vL none 0 0,vS f,vI n,vI 0,vI 0,vS [],vS pr,vI m0]),(1,.agg #[vL p0 os.length cp0])] rfl rfl fun Φ hΦ=>?_;have hM:=Mm.nil (fun _=>False) w;refine aAn 0 0 2 [] (cs:=#[vI 5,vI 0,vI 1,vS [],vS [],vI 0,vL none 0 0,vS f,vI n,vI 0,vI 0,vS [],vS pr,vI m0]) (T:=43) (v:=fun b=>vP b 0) f0 hM fun ae w1 hM=>aAn 0 1 3 [] (cs:=#[vL p0 os.length cp0]) (T:=24) (v:=fun b=>vP b 0) f0 hM fun af w1 hM=>aAq 1 1 8 [(7,.agg #[vI 5,vI 0,vI 1,vS [],vS [],vI 0,vL none 0 0,vS f,vI n,vI 0,vI 0,vS [],vS pr,vI m0])] (fc (lam 43 0 0 14 hM rfl) f0) hM (aHo hf hp n m0) fun w1 hM=>seg 1 4 [(10,vB (!(aBO f n pr m0)))] f0 ?_;cases h25:(aBO f n pr m0)
  ·exact rt1 4 (vI 1) rfl f0 (hΦ _ _ ⟨by unfold aBa;simp only [h25]<;>rfl,hM.fr⟩)
  refine aAq 1 5 12 [(11,.agg #[vL p0 os.length cp0])] (fc (lam 24 1 0 1 hM rfl) f0) hM (aB5 (hm.fr hM.fr)) fun w1 hM=>seg 1 8 [(14,vB (!(aAe (aAa os))))] f0 ?_;cases h26:(aAe (aAa os))
  ·exact rt1 4 (vI 1) rfl f0 (hΦ _ _ ⟨by unfold aBa;simp only [h25,h26]<;>rfl,hM.fr⟩)
  refine aAq 17 3 46 [(5,vI 1),(43,.agg #[vL p0 os.length cp0]),(45,vS f)] (fc (ldm 3 0 0 hM rfl rfl) (fc (ldm 3 0 1 hM rfl rfl) (fc (lam 24 1 0 1 hM rfl) (fc (ldm 9 0 7 hM rfl rfl) f0)))) hM (aC2 (hm.fr hM.fr) f) fun w1 hM=>seg 20 3 [(6,vI (aAi (aAa os) f)),(50,vB (decide ((aAi (aAa os) f)<0)))] f0 ?_;cases h27:(decide ((aAi (aAa os) f)<0))
  rotate_left
  ·have ab:=dt h27;exact rt1 4 (vI 11) rfl f0 (hΦ _ _ ⟨by unfold aBa;simp only [h25,h26,h27]<;>rfl,hM.fr⟩)
  have ab:=df h27;obtain ⟨k,o9,hk,hk2,hk3⟩:=aBl (df h27);have hkl:k<os.length:=by rw [←aA3];exact gl hk2
  obtain ⟨y28,aa,ag,ah,q28,ac⟩:=sp0.el (i:=k) (by omega);refine seg 22 9 [(53,vB (!(y28.o.kind==1)))] (fc (ldm 22 1 0 hM rfl rfl) (fc (ix 22 cp0 q28 (gl aa) (z:=(aAi (aAa os) f)) (hz:=hk)) (fc (ld0 3 hM (ac 1 _ rfl)) f0))) ?_;cases h29:(y28.o.kind==1)
  ·have ad:=ef h29;have hnn:aBH os f = !(y28.o.kind==1):=by unfold aBH aK5;rw [hk];simp only [Int.toNat_natCast,aa]
   exact rt1 4 (vI 13) rfl f0 (hΦ _ _ ⟨by unfold aBa;simp only [hnn,h25,h26,h27,h29]<;>rfl,hM.fr⟩)
  have ad:=et h29;have hnn:aBH os f = !(y28.o.kind==1):=by unfold aBH aK5;rw [hk];simp only [Int.toNat_natCast,aa]
  exact rt1 4 (vI 0) rfl f0 (hΦ _ _ ⟨by unfold aBa;simp only [hnn,h25,h26,h27,h29]<;>rfl,hM.fr⟩)
theorem aKC {w:World}{b:ObR}(hb:ObIn w b):Calls Tryz.prog 148 #[.agg #[vI 1,vS [],vS [],vI 0,vL none 0 0],vA (obL b)] w fun e w'=>e = .returned (vB true)∧Fr (fun _=>False) w w':=by
  refine beg Tryz.func148 rfl rfl [(0,.agg #[vI 1,vS [],vS [],vI 0,vL none 0 0]),(1,.agg #[vS b.o.id,vI b.o.kind,vI b.o.x,vI b.o.y,vL b.pr b.o.refs.length b.cr,vL b.pt b.o.tags.length b.ct])] rfl rfl fun Φ hΦ=>?_;have hM:=Mm.nil (fun _=>False) w;refine aAn 0 0 2 [] (cs:=#[vI 1,vS [],vS [],vI 0,vL none 0 0]) (T:=39) (v:=fun b=>vP b 0) f0 hM fun ab w1 hM=>aAn 0 1 3 [] (cs:=#[vS b.o.id,vI b.o.kind,vI b.o.x,vI b.o.y,vL b.pr b.o.refs.length b.cr,vL b.pt b.o.tags.length b.ct]) (T:=52) (v:=fun b=>vP b 0) f0 hM fun aa w1 hM=>aAq 1 4 17 [(14,vL b.pt b.o.tags.length b.ct),(16,vS [])] (fc (ldm 50 1 5 hM rfl rfl) (fc (ldm 9 0 1 hM rfl rfl) f0)) hM (aC0 (hb.tags.src.fr hM.fr) []) fun w1 hM=>aBD 2 1 7 [(5,vS ((aA8 b.o.tags []).1)),(6,vB (aA8 b.o.tags []).2),(20,.func (.func 193) #[] #[vP aa 0])] [] 206 (.func (.func 193) #[] #[vP aa 0]) f0 hM fun ac w1 hM=>rt1 4 (vB true) rfl (fc (ldm 3 0 0 hM rfl rfl) f0) (hΦ _ _ ⟨rfl,hM.fr⟩)
theorem aKS {w:World}{b:ObR}(hb:ObIn w b):Calls Tryz.prog 100 #[.agg #[vI 1,vS [],vS [],vI 0,vL none 0 0],vA (obL b)] w fun e w'=>e = .returned (vB true)∧Fr (fun _=>False) w w':=by
  refine beg Tryz.func100 rfl rfl [(0,.agg #[vI 1,vS [],vS [],vI 0,vL none 0 0]),(1,.agg #[vS b.o.id,vI b.o.kind,vI b.o.x,vI b.o.y,vL b.pr b.o.refs.length b.cr,vL b.pt b.o.tags.length b.ct])] rfl rfl fun Φ hΦ=>?_;have hM:=Mm.nil (fun _=>False) w;refine aAn 0 0 2 [] (cs:=#[vI 1,vS [],vS [],vI 0,vL none 0 0]) (T:=39) (v:=fun b=>vP b 0) f0 hM fun aa w1 hM=>aAn 0 1 3 [] (cs:=#[vS b.o.id,vI b.o.kind,vI b.o.x,vI b.o.y,vL b.pr b.o.refs.length b.cr,vL b.pt b.o.tags.length b.ct]) (T:=52) (v:=fun b=>vP b 0) f0 hM fun ab w1 hM=>aAq 1 1 6 [(5,.agg #[vI 1,vS [],vS [],vI 0,vL none 0 0])] (fc (lam 39 0 0 5 hM rfl) f0) hM aFR fun w1 hM=>aAq 1 5 10 [(7,vB true),(8,.agg #[vI 1,vS [],vS [],vI 0,vL none 0 0]),(9,.agg #[vS b.o.id,vI b.o.kind,vI b.o.x,vI b.o.y,vL b.pr b.o.refs.length b.cr,vL b.pt b.o.tags.length b.ct])] (fc (lam 39 0 0 5 hM rfl) (fc (lam 52 1 0 6 hM rfl) f0)) hM (aKC (hb.fr hM.fr)) fun w1 hM=>rt1 4 (vB true) rfl f0 (hΦ _ _ ⟨rfl,hM.fr⟩)
theorem aIj {w:World}{fb:Nat}{p0:Option Addr}{cp0:Nat}{os:List ObR}{f pr:Bys}{n m0:Int}{v1 v2:Value}(hfb:w.heap[fb]?=some (.cells #[vL p0 os.length cp0,vI 5,vI 0,vI 1,vS [],vS [],vI 0,vL none 0 0,vS f,vI n,vI 0,vI 0,vS [],vS pr,vI m0,v1,v2] 136 (0,0))) {b:ObR}(hb:ObIn w b):Calls Tryz.prog 57 #[vP fb 0,vA (obL b)] w fun e w'=>e = .returned (vB true)∧Fr (fun _=>False) w w':=by
  refine beg Tryz.func57 rfl rfl [(0,vP fb 0),(1,.agg #[vS b.o.id,vI b.o.kind,vI b.o.x,vI b.o.y,vL b.pr b.o.refs.length b.cr,vL b.pt b.o.tags.length b.ct])] rfl rfl fun Φ hΦ=>?_;have hM:=Mm.nil (fun _=>False) w;refine aAn 0 0 3 [] (cs:=#[vS b.o.id,vI b.o.kind,vI b.o.x,vI b.o.y,vL b.pr b.o.refs.length b.cr,vL b.pt b.o.tags.length b.ct]) (T:=52) (v:=fun b=>vP b 0) f0 hM fun aa w1 hM=>seg 1 0 [] f0 (drc [(4,vB true)] hM (fun w5 hM=>(fc (ld0 3 hM (bx hfb 2 rfl)) (fc (la0 39 hM (rs (aGC hfb) 3 5)) (fc (lam 52 0 0 6 hM rfl) (fc (tcl (aKS (hb.fr hM.fr))) f0))))) fun w5 hM=>rt1 4 (vB true) rfl f0 (hΦ _ _ ⟨rfl,hM.fr⟩))
theorem aH8 {w:World}{fb bf:Nat}{p0:Option Addr}{cp0:Nat}{os:List ObR}(hm:aDy w (vL p0 os.length cp0) os) {f pr:Bys}{n m0:Int}{v1 v2:Value}(hfb:w.heap[fb]?=some (.cells #[vL p0 os.length cp0,vI 5,vI 0,vI 1,vS [],vS [],vI 0,vL none 0 0,vS f,vI n,vI 0,vI 0,vS [],vS pr,vI m0,v1,v2] 136 (0,0))) {TF:TypeId}(hbf:w.heap[bf]?=some (.cells #[vP fb 0] TF (0,0))) (ri:Bys) (z:Int):Calls Tryz.prog 73 #[.agg #[vS ri,vI z],vP bf 0] w fun e w'=>e = .returned (vB (decide (aAi (aAa os) ri<0)))∧Fr (fun _=>False) w w':=by
  have hm0:=hm;obtain ⟨hs0,hob⟩:=hm0;have sp0:=hs0.p.2;have bp0:=sp0.bnd;refine beg Tryz.func73 rfl rfl [(0,.agg #[vS ri,vI z]),(1,vP bf 0)] rfl rfl fun Φ hΦ=>?_;have hM:=Mm.nil (fun _=>False) w;refine aAn 0 0 2 [] (cs:=#[vS ri,vI z]) (T:=90) (v:=fun b=>vP b 0) f0 hM fun ac w1 hM=>seg 1 0 [] f0 (drc [(4,vI (aAi (aAa os) ri))] hM (fun w5 hM=>(fc (ld0 86 hM (bx hbf 0 rfl)) (fc (la0 24 hM (rs (aGC hfb) 0 1)) (fc (ldm 9 0 0 hM rfl rfl) (fc (tcl (aC2 (hm.fr hM.fr) ri)) f0))))) fun w5 hM=>seg 2 0 [] f0 ?_);cases h37:(decide ((aAi (aAa os) ri)<0))
  rotate_left
  ·have aa:=dt h37;refine drc [(3,vB true)] hM (fun w5 hM=>(fc (tv 13 h37) f0)) fun w5 hM=>rt1 3 (vB true) rfl f0 (hΦ _ _ ⟨by simp only [h37]<;>rfl,hM.fr⟩)
  have aa:=df h37;obtain ⟨k,o9,hk,hk2,hk3⟩:=aBl (df h37);have hkl:k<os.length:=by rw [←aA3];exact gl hk2
  obtain ⟨y,hy,ad,ae,q39,ab⟩:=sp0.el (i:=k) (by omega);refine drc [(3,vB false)] hM (fun w5 hM=>(fc (tv 13 h37) (fc (ld0 86 hM (bx hbf 0 rfl)) (fc (ld0 86 hM (bx hbf 0 rfl)) (fc (ld0 22 hM (bx hfb 0 rfl)) (fc (ix 22 cp0 q39 (gl hy) (z:=(aAi (aAa os) ri)) (hz:=hk)) (fc (la0 52 hM ab) (fc (tcl (aIj (hM.fr.obj hfb id) ((hob _ (gm hy)).fr hM.fr))) f0)))))))) fun w5 hM=>rt1 3 (vB false) rfl f0 (hΦ _ _ ⟨by simp only [h37]<;>rfl,hM.fr⟩)
theorem stT:ElT Tryz.prog stL 1 27 9:=⟨fun _=>rfl,by decide,fun x u hu=>by
  unfold stL at hu;rw [List.mem_singleton] at hu;subst hu;rfl,Tryz.underlying27,aBj (by kernel_rfl)⟩
def aRp {α:Type}(X:List α) (i:Nat) (X':List α):Prop:=X'.length=X.length∧∀ p,p<X.length→X'[p]?=if p<i∨X.length-1-i<p then X[X.length-1-p]? else X[p]?
theorem aRp.zero {α:Type}(X:List α):aRp X 0 X:=⟨rfl,fun p hp=>by rw [if_neg (by omega)]⟩
theorem aRp.step {α:Type}{X X':List α}{i:Nat}{x y:α}(h:aRp X i X') (hi:i<X.length-1-i) (hx:X'[i]?=some x) (hy:X'[X.length-1-i]?=some y):aRp X (i+1) ((X'.set i y).set (X.length-1-i) x):=by
  obtain ⟨h1,h2⟩:=h;have e1:=h2 i (by omega);rw [if_neg (by omega),hx] at e1;have e2:=h2 (X.length-1-i) (by omega);rw [if_neg (by omega),hy] at e2;refine ⟨by simp [h1],fun p hp=>?_⟩;rw [List.getElem?_set,List.getElem?_set]
  by_cases hp1:X.length-1-i=p
  · subst hp1
    rw [if_pos rfl,if_pos (by simp [h1];omega),if_pos (by omega),show X.length-1-(X.length-1-i)=i by omega];exact e1
  · rw [if_neg hp1]
    by_cases hp2:i=p
    · subst hp2
      rw [if_pos rfl,if_pos (by omega),if_pos (by omega)];exact e2
    · rw [if_neg hp2,h2 p hp]
      by_cases hc:p<i∨X.length-1-i<p
      · rw [if_pos hc,if_pos (by omega)]
      · rw [if_neg hc,if_neg (by omega)]
theorem aRp.fin {α:Type}{X X':List α}{i:Nat}(h:aRp X i X') (hi:X.length≤2*i+1) (hi2:2*i≤X.length+1):X'=X.reverse:=by
  obtain ⟨h1,h2⟩:=h;refine List.ext_getElem? fun p=>?_;rcases Nat.lt_or_ge p X.length with hp | hp
  · rw [h2 p hp,List.getElem?_reverse hp]
    by_cases hc:p<i∨X.length-1-i<p
    · rw [if_pos hc]
    · rw [if_neg hc]
      congr 1;omega
  · rw [List.getElem?_eq_none (by omega),List.getElem?_eq_none (by simpa using hp)]
abbrev A33 (Φ:Ending→World→Prop):=AtO Tryz.prog (aAr Tryz.f17) (aA2 (bodyPost Tryz.prog Tryz.f17 Φ)) [] 28
theorem aKp {w:World}{G:Nat→Prop}{p:Option Addr}{c:Nat}{X:List Bys}(hM0:Mm G w w [rw_ stL 1 9 (vL p X.length c) X]):Calls Tryz.prog 17 #[vL p X.length c] w fun e w'=>∃ (u:Value) (Mn:List Ent),e = .returned u∧(u = .tuple #[]∧Mn=[rw_ stL 1 9 (vL p X.length c) X.reverse])∧Mm G w w' Mn:=by
  have bX:=((hM0.src (j:=0) rfl stT.len).p).2.bnd;refine beg Tryz.func17 rfl rfl [(0,vL p X.length c)] rfl rfl fun Φ hΦ=>?_;have hM:=hM0;refine seg 1 0 [(2,vI 0),(3,vI ((X.length:Int)-1))] (fc (aC8 (X.length:Int) 1 u3_) f0) ?_
  have ae:∀ (ac:Nat) (i:Nat) (z:Int) (X1:List Bys) (w2:World),aRp X i X1→z=(X.length:Int)-1-(i:Int)→2*i≤X.length+1→Mm G w w2 [rw_ stL 1 9 (vL p X.length c) X1]→ac=X.length-i→A33 Φ (some (1,0)) [(3,vI z),(2,vI (i:Int)),(0,vL p X.length c)] w2:=by
   refine aBh fun ac af i z X1 w2 hr hz hi hM ai=>seg 1 3 [(9,vB (decide ((i:Int)<z)))] f0 ?_;cases ad:(decide ((i:Int)<z))
   ·have ag:=df ad;have hR:=hr.fin (by omega) hi;subst hR;exact rt0 rfl f0 (hΦ _ _ ⟨_,_,rfl,⟨rfl,rfl⟩,hM⟩)
   have ag:=dt ad;have hl1:=hr.1;obtain ⟨x,hx⟩:=geb (l:=X1) (i:=i) (by omega);obtain ⟨y,hy⟩:=geb (l:=X1) (i:=X.length-1-i) (by omega);refine seg 3 0 [] f0 ?_;obtain ⟨aj,aa,-⟩:=hM.el stT (j:=0) rfl hy;obtain ⟨ak,ab,-⟩:=hM.el stT (j:=0) rfl hx;obtain ⟨al,ah⟩:=geb (l:=(X1.set i y)) (i:=(X.length-1-i)) (by simp only [List.length_set];omega);refine drx [7,11,13,15] (fun γ=>[some (vS y),some (vS x),none,none]) _ (fun γ l=>[rw_ stL 1 9 (vL p X.length c) (bif l.getD 3 false then ((X1.set i y).set (X.length-1-i) x) else (bif l.getD 2 false then (X1.set i y) else X1))]) (fun γ=>[]) hM (fun γ=>rfl) (fun γ l w5 hM=>(fc (ix 27 c aa (show (X.length-1-i)<X.length by omega) (z:=z) (hz:=(by omega))) (fc (ix 27 c ab (show i<X.length by omega)) (fc (ix 27 c ab (show i<X.length by omega)) (fc (ix 27 c aa (show (X.length-1-i)<X.length by omega) (z:=z) (hz:=(by omega))) f0))))) ⟨aIl (m:=X.length) (cap:=c) 0 7 9 0 0 (X.length-1-i) 21 X1 (fun γ=>vS y) stT aa hy (fun γ=>rfl),aIl (m:=X.length) (cap:=c) 1 11 9 0 0 i 25 X1 (fun γ=>vS x) stT ab hx (fun γ=>rfl),aF8 (m:=X.length) (cap:=c) 2 13 9 0 0 i X1 y (fun γ=>vS y) stT ab hx (fun γ=>rfl),aF8 (m:=X.length) (cap:=c) 3 15 9 0 0 (X.length-1-i) (X1.set i y) x (fun γ=>vS x) stT aa ah (fun γ=>rfl),trivial⟩ fun am w1 hM=>?_;replace hM:Mm G w w1 [_]:=hM;refine seg 1 0 [(2,vI ((i:Int)+1)),(3,vI (z-1))] (fc (aAh (i:Int) 1 u3_) (fc (aC8 z 1 u3_) f0)) (aAb _ (af _ (by omega) (i+1) (z-1) ((X1.set i y).set (X.length-1-i) x) _ (hr.step (by omega) hx hy) (by omega) (by omega) hM rfl))
  exact aAb _ (ae _ 0 ((X.length:Int)-1) X _ (aRp.zero X) (by omega) (Nat.zero_le _) hM rfl)
abbrev A34 (Φ:Ending→World→Prop):=AtO Tryz.prog (aAr Tryz.f18) (aA2 (bodyPost Tryz.prog Tryz.f18 Φ)) [] 28
theorem aKq {w:World}{G:Nat→Prop}{p:Option Addr}{c:Nat}{X:List Int}(hM0:Mm G w w [rw_ inL 1 3 (vL p X.length c) X]):Calls Tryz.prog 18 #[vL p X.length c] w fun e w'=>∃ (u:Value) (Mn:List Ent),e = .returned u∧(u = .tuple #[]∧Mn=[rw_ inL 1 3 (vL p X.length c) X.reverse])∧Mm G w w' Mn:=by
  have bX:=((hM0.src (j:=0) rfl inT.len).p).2.bnd;refine beg Tryz.func18 rfl rfl [(0,vL p X.length c)] rfl rfl fun Φ hΦ=>?_;have hM:=hM0;refine seg 1 0 [(2,vI 0),(3,vI ((X.length:Int)-1))] (fc (aC8 (X.length:Int) 1 u3_) f0) ?_
  have ae:∀ (ac:Nat) (i:Nat) (z:Int) (X1:List Int) (w2:World),aRp X i X1→z=(X.length:Int)-1-(i:Int)→2*i≤X.length+1→Mm G w w2 [rw_ inL 1 3 (vL p X.length c) X1]→ac=X.length-i→A34 Φ (some (1,0)) [(3,vI z),(2,vI (i:Int)),(0,vL p X.length c)] w2:=by
   refine aBh fun ac af i z X1 w2 hr hz hi hM ai=>seg 1 3 [(9,vB (decide ((i:Int)<z)))] f0 ?_;cases ad:(decide ((i:Int)<z))
   ·have ag:=df ad;have hR:=hr.fin (by omega) hi;subst hR;exact rt0 rfl f0 (hΦ _ _ ⟨_,_,rfl,⟨rfl,rfl⟩,hM⟩)
   have ag:=dt ad;have hl1:=hr.1;obtain ⟨x,hx⟩:=geb (l:=X1) (i:=i) (by omega);obtain ⟨y,hy⟩:=geb (l:=X1) (i:=X.length-1-i) (by omega);refine seg 3 0 [] f0 ?_;obtain ⟨aj,aa,-⟩:=hM.el inT (j:=0) rfl hy;obtain ⟨ak,ab,-⟩:=hM.el inT (j:=0) rfl hx;obtain ⟨al,ah⟩:=geb (l:=(X1.set i y)) (i:=(X.length-1-i)) (by simp only [List.length_set];omega);refine drx [7,11,13,15] (fun γ=>[some (vI y),some (vI x),none,none]) _ (fun γ l=>[rw_ inL 1 3 (vL p X.length c) (bif l.getD 3 false then ((X1.set i y).set (X.length-1-i) x) else (bif l.getD 2 false then (X1.set i y) else X1))]) (fun γ=>[]) hM (fun γ=>rfl) (fun γ l w5 hM=>(fc (ix 28 c aa (show (X.length-1-i)<X.length by omega) (z:=z) (hz:=(by omega))) (fc (ix 28 c ab (show i<X.length by omega)) (fc (ix 28 c ab (show i<X.length by omega)) (fc (ix 28 c aa (show (X.length-1-i)<X.length by omega) (z:=z) (hz:=(by omega))) f0))))) ⟨aIl (m:=X.length) (cap:=c) 0 7 3 0 0 (X.length-1-i) 21 X1 (fun γ=>vI y) inT aa hy (fun γ=>rfl),aIl (m:=X.length) (cap:=c) 1 11 3 0 0 i 25 X1 (fun γ=>vI x) inT ab hx (fun γ=>rfl),aF8 (m:=X.length) (cap:=c) 2 13 3 0 0 i X1 y (fun γ=>vI y) inT ab hx (fun γ=>rfl),aF8 (m:=X.length) (cap:=c) 3 15 3 0 0 (X.length-1-i) (X1.set i y) x (fun γ=>vI x) inT aa ah (fun γ=>rfl),trivial⟩ fun am w1 hM=>?_;replace hM:Mm G w w1 [_]:=hM;refine seg 1 0 [(2,vI ((i:Int)+1)),(3,vI (z-1))] (fc (aAh (i:Int) 1 u3_) (fc (aC8 z 1 u3_) f0)) (aAb _ (af _ (by omega) (i+1) (z-1) ((X1.set i y).set (X.length-1-i) x) _ (hr.step (by omega) hx hy) (by omega) (by omega) hM rfl))
  exact aAb _ (ae _ 0 ((X.length:Int)-1) X _ (aRp.zero X) (by omega) (Nat.zero_le _) hM rfl)
theorem aSA {P:Program}{B:Code}{fn:Func}{Φ:Ending→World→Prop}{n:Nat}{p:Option (Nat×Nat)}{L:Frm}{w:World}{F:List Ft}(t:Nat) (T:TypeId) (t2:Nat) {g:Nat}{v:Value}(u:Value) (hr:fn.results=#[.cell t T,.tmp t2]) (hn:(t==t2)=false) (hv:(Instr.loadAt T (vP g 0)).run P w = .ok v w) (hF:aAM P w F) (k:Φ (.returned (.tuple #[v,u])) w) (h:aMI (go P w n B p L 1000000 0 F) [(t,vP g 0),(t2,u)] L=aJH (go P w n B p L 1000000 0 F) [(t,vP g 0),(t2,u)]:=by kernel_rfl):AtO P B (aA2 (bodyPost P fn Φ)) [] n p L w :=
 aMH [(t,vP g 0),(t2,u)] hF h fun a E=>by
  have hv':a.eval (.tmp t)=vP g 0:=E.at_ t _ (by simp [Go.Pl.look]);have hu':a.eval (.tmp t2)=u:=E.at_ t2 _ (by simp [Go.Pl.look,hn])
  have key:∃ u,(results fn a.tmps).run P w = .ok u w∧Φ (.returned u) w:=⟨.tuple #[v,u],by
   have hl:a.tmps.getD t undef=vP g 0:=hv';have hl2:a.tmps.getD t2 undef=u:=hu';simp only [Instr.loadAt,Instr.sureAddr,Sem.run_bind,Sem.run_pure,Result.andThen_ok] at hv;have hl':a.tmps[t]?.getD undef=vP g 0:=by simpa using hl
   have hl2':a.tmps[t2]?.getD undef=u:=by simpa using hl2
   simp [results,hr,hl',hl2',asAddr,hv],k⟩
  exact ⟨⟨E.df,key⟩,⟨E.df,key⟩⟩
theorem aGP {α:Type}{f:α→List Value}{c:Nat}{E:TypeId}{b:Nat}{cs:Array Value}{F0:Nat→Prop}{w0 w:World}{M:List Ent}(h:Mm F0 w0 w M) {j:Nat}(hj:M[j]?=some (bk b cs E)) (L:List α) (n:Nat) (hL:L.flatMap f=cs.toList) (hn:L.length=n) (hc:cs.size=n*c) (hm:n≤9223372036854775807:=by decide):Mm F0 w0 w (M.set j (rw_ f c E (vL (some ⟨b,0,none⟩) n n) L)) :=
 h.put j hj (Fr.refl (fun _=>False) _) (fun _ _ h=>h.elim) (show ow f c E w 0 _ L from by
  refine ⟨by rw [hL,hn];simpa using hc,.inr ⟨b,n,cs,by rw [hn],Nat.zero_le _,h.get j hj,by omega,by unfold maxLen;omega,hc,?_⟩⟩;rw [hL,hn,←hc];exact List.take_of_length_le (by simp)) fun k e => .inl (by
  have e:some b=some k:=e;exact (Option.some.inj e).symm)
theorem aCR {α:Type}{f:α→List Value}{c:Nat}{w:World}{b:Nat}{cs:Array Value}{T:TypeId}(hb:w.heap[b]?=some (.cells cs T (0,0))) (L:List α) (n:Nat) (hf:∀ x,(f x).length=c) (hL:L.flatMap f=cs.toList) (hn:L.length=n) (hm:n≤9223372036854775807:=by decide):SrcP f c w (some ⟨b,0,none⟩) n L :=
 ⟨by omega,hm,.inr ⟨b,0,rfl,aAg hb,fun i y hy j u hu=>by
  have hi:=(List.getElem?_eq_some_iff.1 hu).1;rw [hf] at hi;rw [aAt hb,Nat.zero_add];have:=aCG hf L i y hy j hi;rw [hL,hu,Array.getElem?_toList] at this;exact this⟩,fun h=>by cases h⟩
def aJG (Ms:List Ent):Ent where
 B:=BlM Ms
 H:=fun w=>(∀ e∈Ms,e.H w)∧Ms.Pairwise fun x y=>∀ k,x.B k→¬ y.B k
 lt:=fun h ⟨e,he,hk⟩=>e.lt (h.1 e he) hk
 fr:=fun h f hn=>⟨fun e he=>e.fr (h.1 e he) f fun k hk=>hn k ⟨e,he,hk⟩,h.2⟩
theorem aJW {F0:Nat→Prop}{w0 w:World}{A Ms:List Ent}(h:Mm F0 w0 w (A++Ms)):Mm F0 w0 w (A++[aJG Ms]):=by
 have hnd:=List.pairwise_append.1 h.nd;refine ⟨h.fr,fun x hx=>?_,fun x hx k hk hl=>?_,?_⟩
 ·rcases List.mem_append.1 hx with hx | hx
  ·exact h.at_ x (List.mem_append_left _ hx)
  ·rw [List.mem_singleton] at hx;subst hx;exact ⟨fun e he=>h.at_ e (List.mem_append_right _ he),hnd.2.1⟩
 ·rcases List.mem_append.1 hx with hx | hx
  ·exact h.own x (List.mem_append_left _ hx) k hk hl
  ·rw [List.mem_singleton] at hx;subst hx;obtain ⟨e,he,hk⟩:=hk;exact h.own e (List.mem_append_right _ he) k hk hl
 ·refine List.pairwise_append.2 ⟨hnd.1,List.pairwise_singleton _ _,fun x hx y hy k hxk hyk=>?_⟩;rw [List.mem_singleton] at hy;subst hy;obtain ⟨e,he,hk⟩:=hyk;exact hnd.2.2 x hx e he k hxk hk
theorem aEL {F0 G:Nat→Prop}{w0 w:World}{M:List Ent}(h:Mm F0 w0 w M) (hG:∀ k,F0 k→G k):Mm G w0 w M:=⟨h.fr.mono fun r _ h=>hG r h,h.at_,fun e he k hk hl=>hG k (h.own e he k hk hl),h.nd⟩
noncomputable abbrev stR (bo br bb no nr nb:Nat) (prof:Bys) (os:List ObR) (T:aDI) (T2:RdT):List Ent :=
 [mp Tryz.prog 9 bo no (aCg T),aAV inL 1 3 (T.map (·.2)),mp Tryz.prog 9 br nr (rdF prof T2),aAV spL 2 260 (hrB T2),mp Tryz.prog 104 bb nb (setT (aB8 prof os))]
theorem aLB {F0:Nat→Prop}{w0 w wV:World}{M:List Ent}{bs ca bo br bb no nr nb:Nat}{qa:Option Addr}{prof:Bys}{v:Value}{os:List ObR}{T:aDI}{T2:RdT}(h:Mm F0 w0 w M) {i j k:Nat}(hi:M[i]?=some (bk bs #[vS prof,vL qa (AS os).length ca,.map (some bo),.map (some br),.map (some bb)] 66)) (hj:M[j]?=some (rw_ arL 4 68 (vL qa (AS os).length ca) (AS os))) (hk:M[k]?=some (aJG (stR bo br bb no nr nb prof os T T2))) (hm:aDy wV v os) (hf:Fr (fun _=>False) wV w) (hT2:T2.map (·.1)=aBv os):StF w bs ca bo br bb no nr nb qa prof os T T2:=by
 obtain ⟨hg,-⟩:=h.get k hk;have g0:aCj Tryz.prog 9 w bo no (aCg T):=hg (mp Tryz.prog 9 bo no (aCg T)) (by simp);have g1:=(hg (aAV inL 1 3 (T.map (·.2))) (by simp)).1;have g2:aCj Tryz.prog 9 w br nr (rdF prof T2):=hg (mp Tryz.prog 9 br nr (rdF prof T2)) (by simp);have g3:=(hg (aAV spL 2 260 (hrB T2)) (by simp)).1;have g4:aCj Tryz.prog 104 w bb nb (setT (aB8 prof os)):=hg (mp Tryz.prog 104 bb nb (setT (aB8 prof os))) (by simp);refine ⟨h.get i hi,((h.src hj arT.len).p).2,g0,fun x hx=>?_,g2,fun x hx=>?_,fun x hx=>?_,g4,fun a ha=>aF7 (fun b hb=>(hm.2 b hb).bnd) a (aDa ha)⟩
 ·have:=g1 x.2 (List.mem_map.2 ⟨x,hx,rfl⟩);exact ow.src inT.len this
 ·have:=g3 (x.2,aAc x.1.o) (List.mem_map.2 ⟨x,hx,rfl⟩);exact ow.src (f:=spL) (c:=2) (fun _=>rfl) this
 ·have h1:x.1∈aBv os:=hT2▸List.mem_map.2 ⟨x,hx,rfl⟩;unfold aBv at h1;rw [List.mem_reverse,List.mem_filter] at h1;exact ((hm.fr hf).2 x.1 h1.1).refs
def aFN (t:Nat→Option Int) (l:Option Nat) (k:Nat):Bool:=match l with
 | none=>true
 | some j=>decide ((t k).getD 0<(t j).getD 0)
def aAJ (A:List Arc) (t:Nat→Option Int) (g:Bys):Nat→Option Nat
 | 0=>none
 | k+1=>match A[k]? with
  | some a=>bif (t k).isSome&&(a.2.1==g)&&aFN t (aAJ A t g k) k then some k else aAJ A t g k
  | none=>aAJ A t g k
theorem aB2 {A:List Arc}{t:Nat→Option Int}{g:Bys}{k:Nat}{a:Arc}(h:A[k]?=some a):aAJ A t g (k+1)=bif (t k).isSome&&(a.2.1==g)&&aFN t (aAJ A t g k) k then some k else aAJ A t g k:=by
 show (match A[k]? with | some a=>bif (t k).isSome&&(a.2.1==g)&&aFN t (aAJ A t g k) k then some k else aAJ A t g k | none=>aAJ A t g k)=_;rw [h]
theorem aGR {A:List Arc}{t:Nat→Option Int}{g:Bys}:∀ {n j:Nat},aAJ A t g n=some j→j<n∧j<A.length∧(t j).isSome=true
 | 0,j,h=>by cases h
 | n+1,j,h=>by
  cases ha:A[n]? with
  | none =>
   unfold aAJ at h;rw [ha] at h;have:=aGR h;exact ⟨by omega,this.2⟩
  | some a =>
   rw [aB2 ha] at h
   cases hc:((t n).isSome&&(a.2.1==g)&&aFN t (aAJ A t g n) n) with
   | true =>
    rw [hc] at h;cases h;simp only [Bool.and_eq_true] at hc;exact ⟨Nat.lt_succ_self _,gl ha,hc.1.1⟩
   | false =>
    rw [hc] at h;have:=aGR h;exact ⟨by omega,this.2⟩
def bkF (N:NetW) (m0:Int) (t:Nat→Option Int):Nat→Nat→List Nat
 | 0,i=>[i]
 | F+1,i=>i::match aCd N m0 t i with
  | some k=>bkF N m0 t F k
  | none=>[]
theorem aDv (N:NetW) (m0:Int) (t:Nat→Option Int) (F i:Nat):bkF N m0 t (F+1) i=i::match aCd N m0 t i with | some k=>bkF N m0 t F k | none=>[]:=rfl
def bkP (N:NetW) (m0:Int) (t:Nat→Option Int) (i:Nat):List Nat:=bkF N m0 t ((t i).getD 0).toNat i
def aKT (N:NetW) (m0:Int) (t:Nat→Option Int):Prop:=∀ i k,i<N.n→aCd N m0 t i=some k→k<N.n∧(t k).isSome=true∧0≤(t k).getD 0∧(t k).getD 0<(t i).getD 0
theorem aEW {N:NetW}{B m0:Int}{t:Nat→Option Int}(hN:N.Ok B) (h0:0≤m0) (hT:Tab N m0 t):aKT N m0 t:=by
 intro i k hi h;unfold aCd at h
 cases hA:aKO N m0 t i with
 | true=>rw [hA] at h;cases h
 | false =>
  rw [hA] at h;have h:(List.range N.n).find? (aEK N t i)=some k:=h;have h1:=List.find?_some h;have h2:=List.mem_range.1 (List.mem_of_find?_eq_some h);unfold aEK at h1;simp only [Bool.and_eq_true] at h1;obtain ⟨⟨h3,h4⟩,h5,h6⟩:=h1;obtain ⟨m,hm⟩:=Option.isSome_iff_exists.1 h3;obtain ⟨x,hx⟩:=Option.isSome_iff_exists.1 h5;have hg:=(hT.snd _ _ hm).ge hN h0;rw [hm] at hx h6 ⊢;have hx:N.ps i m=some x:=hx;have h6:=et h6;have h6:(N.ps i m).getD 0=(t i).getD 0:=h6;rw [hx] at h6;have:=hN.gt hi (by omega) hx;have h7:x=(t i).getD 0:=h6;exact ⟨h2,rfl,by show (0:Int)≤m;omega,by show m<_;omega⟩
theorem aNc {N:NetW}{m0:Int}{t:Nat→Option Int}(hB:aKT N m0 t):∀ (F:Nat) (i:Nat),i<N.n→((t i).getD 0).toNat≤F→bkF N m0 t F i=bkP N m0 t i:=by
 intro F
 induction F using Nat.strongRecOn with
 | _ F ih =>
  intro i hi hF;unfold bkP
  cases F with
  | zero=>rw [show ((t i).getD 0).toNat=0 by omega]
  | succ F =>
   cases hb:aCd N m0 t i with
   | none =>
    rw [aDv,hb]
    cases ((t i).getD 0).toNat with
    | zero=>rfl
    | succ n=>rw [aDv,hb]
   | some k =>
    obtain ⟨h1,_,h2,h3⟩:=hB i k hi hb;obtain ⟨n,hn⟩:∃ n,((t i).getD 0).toNat=n+1:=⟨((t i).getD 0).toNat-1,by omega⟩;rw [hn,aDv,aDv,hb];simp only;rw [ih F (Nat.lt_succ_self _) k h1 (by omega)];rcases Nat.lt_or_ge n (F+1) with h | h
    ·rw [ih n h k h1 (by omega)]
    ·have:n=F:=by omega
     rw [this,ih F (Nat.lt_succ_self _) k h1 (by omega)]
theorem aIe {N:NetW}{m0:Int}{t:Nat→Option Int}(hB:aKT N m0 t) {i:Nat}(hi:i<N.n):bkP N m0 t i=i::match aCd N m0 t i with | some k=>bkP N m0 t k | none=>[]:=by
 rw [←aNc hB (((t i).getD 0).toNat+1) i hi (Nat.le_succ _)];rw [aDv]
 cases hb:aCd N m0 t i with
 | none=>rfl
 | some k =>
  obtain ⟨h1,_,h2,h3⟩:=hB i k hi hb;show i::bkF N m0 t _ k=_;rw [aNc hB _ k h1 (by omega)]
theorem aNb (N:NetW) (m0:Int) (t:Nat→Option Int):∀ (F i:Nat),(bkF N m0 t F i).length≤F+1
 | 0,i=>by simp [bkF]
 | F+1,i=>by
  rw [aDv]
  cases aCd N m0 t i with
  | none=>simp
  | some k=>have:=aNb N m0 t F k;simp only [List.length_cons];omega
theorem aQY {N:NetW}{m0:Int}{t:Nat→Option Int}{i:Nat}(h:(t i).getD 0≤6000000000):(bkP N m0 t i).length≤6000000001:=by
 have:=aNb N m0 t ((t i).getD 0).toNat i;unfold bkP;omega
def toN (A:List Arc) (j:Nat):Bys:=match A[j]? with
 | some a=>a.2.1
 | none=>[]
theorem aJn {A:List Arc}{j:Nat}{a:Arc}(h:A[j]?=some a):toN A j=a.2.1:=by unfold toN;rw [h]
def aNo (prof:Bys) (os:List ObR) (f g:Bys) (m0 c:Int) (nd:List Bys) (mi:List Int):Prop :=
 (¬ aEq os prof m0 [f,g]=0∧c=aEq os prof m0 [f,g]∧nd=[]∧mi=[])∨(aEq os prof m0 [f,g]=0∧f=g∧c=0∧nd=[f]∧mi=[m0]) ∨
 (aEq os prof m0 [f,g]=0∧f≠g∧∃ t,Tab (aAf prof os f) m0 t∧((aAJ (AS os) t g (AS os).length=none∧c=12∧nd=[]∧mi=[]) ∨
  ∃ i,aAJ (AS os) t g (AS os).length=some i∧c=0∧nd=((bkP (aAf prof os f) m0 t i).map (toN (AS os))++[f]).reverse∧mi=((bkP (aAf prof os f) m0 t i).map (fun j=>(t j).getD 0)++[m0]).reverse))
theorem aMT {os:List ObR}{prof:Bys}{m0:Int}{ids:List Bys}(h:aEq os prof m0 ids=0):aAe (aAa os)=true∧aBu prof=true∧0≤m0∧m0≤9999999∧ids.any (fun id=>decide (aAi (aAa os) id<0))=false∧ids.any (aBH os)=false:=by
 unfold aEq at h
 cases h1:(!(aAe (aAa os))||(!(aBu prof)||(decide (m0<0)||decide (9999999<m0)))) with
 | true=>rw [h1] at h;cases h
 | false =>
  rw [h1] at h;simp only [Bool.or_eq_false_iff,Bool.not_eq_false',decide_eq_false_iff_not] at h1
  cases h2:ids.any (fun id=>decide (aAi (aAa os) id<0)) with
  | true=>rw [h2] at h;cases h
  | false =>
   rw [h2] at h
   cases h3:ids.any (aBH os) with
   | true=>rw [h3] at h;cases h
   | false=>exact ⟨h1.1,h1.2.1,by omega,by omega,rfl,rfl⟩
def aQ9 (l:Option Nat):Int:=match l with
  | none => -1
  | some j=>j
def aSw (t:Nat→Option Int) (l:Option Nat):Int:=match l with
  | none=>0
  | some j=>(t j).getD 0
theorem aM2 {t:Nat→Option Int}{l:Option Nat}{k:Nat}(h:aQ9 l<0):aFN t l k=true:=by
  cases l with
  | none=>rfl
  | some j=>have:((j:Nat):Int)<0:=h;omega
theorem aHH {t:Nat→Option Int}{l:Option Nat}{k:Nat}(h:¬ aQ9 l<0):aFN t l k=decide ((t k).getD 0<aSw t l):=by
  cases l with
  | none=>exact absurd (by decide) h
  | some j=>rfl
theorem aOZ {N:NetW}{m0:Int}{t:Nat→Option Int}(hB:aKT N m0 t) {i:Nat}(hi:i<N.n):[i]++(bif (aCd N m0 t i).isSome then bkP N m0 t ((aCd N m0 t i).getD 0) else [])=bkP N m0 t i:=by
  rw [aIe hB hi];cases aCd N m0 t i<;>rfl
theorem aJR {N:NetW}{m0:Int}{t:Nat→Option Int}(hB:aKT N m0 t) {i:Nat}(hi:i<N.n):((aCd N m0 t i).isSome=true→(aCd N m0 t i).getD 0<N.n∧(t ((aCd N m0 t i).getD 0)).isSome=true)∧(bif (aCd N m0 t i).isSome then ((t ((aCd N m0 t i).getD 0)).getD 0).toNat+1 else 0)<((t i).getD 0).toNat+1:=by
  cases h:aCd N m0 t i with
  | none=>exact ⟨fun h=>(by cases h),by simp⟩
  | some k =>
    obtain ⟨h1,h2,h3,h4⟩:=hB i k hi h;exact ⟨fun _=>⟨h1,h2⟩,by show ((t k).getD 0).toNat+1<_;omega⟩
theorem aNW {α:Type}{f:α→List Value}{c:Nat}{w:World}{b:Nat}{x:α}{T:TypeId}(hb:w.heap[b]?=some (.cells (f x).toArray T (0,0))):SrcP f c w (some ⟨b,0,none⟩) 1 [x] :=
  ⟨Nat.le_refl _,by omega,.inr ⟨b,0,rfl,aAg hb,fun i y hy=>by
    cases i with
    | zero =>
      simp only [List.getElem?_cons_zero,Option.some.injEq] at hy;subst hy;intro j u hu;rw [aAt hb];simpa using hu
    | succ i=>simp at hy⟩,fun h=>by cases h⟩
abbrev A12 (Φ:Ending→World→Prop):=AtO Tryz.prog (aAr Tryz.f6) (aA2 (bodyPost Tryz.prog Tryz.f6 Φ)) [] 143
theorem aEu {w:World}{v:Value}{os:List ObR}(hmv:aDy w v os) {prof f g:Bys}(hp63:prof.length≤9223372036854775807) (hf63:B63 f) (hlen:aAe (aAa os)=true→(aAm os).length≤500) (hTe:Te w) (m0:Int):Calls Tryz.prog 6 #[.agg #[v],vS prof,vS f,vS g,vI m0] w fun e w'=>∃ v1 v2 c nd mi,e = .returned (.tuple #[.agg #[v1,v2],vI c])∧aNo prof os f g m0 c nd mi∧Mm (fun _=>False) w w' [rw_ stL 1 9 v1 nd,rw_ inL 1 3 v2 mi]:=by
  have hm0:=hmv;obtain ⟨hs0,hob⟩:=hm0;obtain ⟨p0,cp0,hp0,sp0⟩:=hs0.op;subst hp0;have bp0:=sp0.bnd;refine beg Tryz.func6 rfl rfl [(0,.agg #[vL p0 os.length cp0]),(1,vS prof),(2,vS f),(3,vS g),(4,vI m0)] rfl rfl fun Φ hΦ=>?_;have hM:=Mm.nil (fun _=>False) w;refine aAn 0 0 5 [] (cs:=#[vL p0 os.length cp0]) (T:=24) (v:=fun b=>vP b 0) f0 hM fun af w1 hM=>aAn 0 1 10 [] (cs:=#[vL none 0 0,vL none 0 0]) (T:=30) (v:=fun b=>vP b 0) f0 hM fun ad w1 hM=>aAn 1 5 30 [(25,.agg #[vL p0 os.length cp0]),(26,vS prof),(27,vI m0),(28,vS f),(29,vS g)] (cs:=#[vS f,vS g]) (T:=9) (v:=fun b=>vL (some ⟨b,0,none⟩) 2 2) (fc (lam 24 0 0 1 hM rfl) f0) hM fun ag w1 hM=>aAq 1 6 31 [] f0 hM (aEl (hmv.fr hM.fr) hp63 m0 (ids:=[f,g]) (aLD (f:=stL) (c:=1) (fun _=>rfl) (by decide) (hM.get 2 rfl))) fun w1 hM=>seg 2 2 [(12,vI (aEq os prof m0 [f,g])),(33,vB (!((aEq os prof m0 [f,g])==0)))] f0 ?_;cases ah:((aEq os prof m0 [f,g])==0)
  ·have az:=ef ah;refine stm 3 2 [(34,.agg #[vL none 0 0,vL none 0 0]),(35,vI (aEq os prof m0 [f,g]))] 30 1 0 (.agg #[vL none 0 0,vL none 0 0]) f0 hM rfl fun w1 hM=>?_;have hl9:=aAY 30 1 (P:=Tryz.prog) (n:=2) hM rfl rfl;exact aSA 10 30 11 (vI (aEq os prof m0 [f,g])) rfl rfl hl9 f0 (hΦ _ _ ⟨(vL none 0 0),(vL none 0 0),_,[],[],rfl,.inl ⟨ef ah,rfl,rfl,rfl⟩,(hM.pick (M':=[]) []).row.row⟩)
  have az:=et ah;refine seg 4 3 [(38,vB (f==g))] (fc (seq 9 f g) f0) ?_;cases aj:(f==g)
  rotate_left
  ·have a0:=et aj;refine aAn 5 1 40 [(39,vS f)] (cs:=#[vS f]) (T:=9) (v:=fun b=>vL (some ⟨b,0,none⟩) 1 1) f0 hM fun ap w1 hM=>aAn 5 3 42 [(41,vI m0)] (cs:=#[vI m0]) (T:=3) (v:=fun b=>vL (some ⟨b,0,none⟩) 1 1) f0 hM fun aq w1 hM=>stm 5 5 [(43,.agg #[vL (some ⟨ap,0,none⟩) 1 1,vL (some ⟨aq,0,none⟩) 1 1])] 30 1 0 (.agg #[vL (some ⟨ap,0,none⟩) 1 1,vL (some ⟨aq,0,none⟩) 1 1]) f0 hM rfl fun w1 hM=>?_;have hl9:=aAY 30 1 (P:=Tryz.prog) (n:=2) hM rfl rfl;have hM:=aGP hM (f:=stL) (c:=1) (j:=3) rfl [f] 1 rfl rfl rfl;have hM:=aGP hM (f:=inL) (c:=1) (j:=4) rfl [m0] 1 rfl rfl rfl;exact aSA 10 30 11 (vI 0) rfl rfl hl9 f0 (hΦ _ _ ⟨(vL (some ⟨ap,0,none⟩) 1 1),(vL (some ⟨aq,0,none⟩) 1 1),_,[f],[m0],rfl,.inr (.inl ⟨et ah,et aj,rfl,rfl,rfl⟩),hM.pick [3,4]⟩)
  have a0:=ef aj;have hchk:=et ah;obtain ⟨hvm,-,h0,h1,hany,hno⟩:=aMT hchk;have hnn:(AS os).length≤500:=Nat.le_trans (aFi _) (hlen hvm);have hNo:=aER (prof:=prof) (fun a ha=>aF7 (fun b hb=>(hmv.2 b hb).bnd) a (aDa ha):∀ a∈AS os,ArcB a) f
  skip
  refine aB3 6 2 46 [(44,.agg #[vL p0 os.length cp0]),(45,vS prof)] (K:=fun u Mn=>∃ bs ca bo br bb no nr nb qa T T2,u=vP bs 0∧(∀ s,aD7 T s=aCa (AS os) s)∧T2.map (·.1)=aBv os∧Mn=stM bs ca bo br bb no nr nb qa prof os T T2) [0,1,2] [] (fc (lam 24 0 0 1 hM rfl) f0) hM rfl rfl (by decide) (fun hm=>((aEC (hmv.fr hM.fr) hvm (by have:=hlen hvm;omega) (hTe.fr hM.fr)).mono fun e w8 ⟨bs,ca,bo,br,bb,no,nr,nb,qa,T,T2,h1,_,h2,h3,h4⟩=>⟨_,_,h1,⟨bs,ca,bo,br,bb,no,nr,nb,qa,T,T2,rfl,h2,h3,rfl⟩,aEL h4 fun _ h=>h.elim⟩)) fun u Mn w1 hK hM=>?_;obtain ⟨bs,ca,bo,br,bb,no,nr,nb,qa,T,T2,rfl,hTr,hT2,rfl⟩:=hK;have hM:=aJW (A:=[bk af #[vL p0 os.length cp0] 24,bk ad #[vL none 0 0,vL none 0 0] 30,bk ag #[vS f,vS g] 9,bk bs #[vS prof,vL qa (AS os).length ca,.map (some bo),.map (some br),.map (some bb)] 66,rw_ arL 4 68 (vL qa (AS os).length ca) (AS os)]) (Ms:=stR bo br bb no nr nb prof os T T2) hM;refine aB3 7 3 50 [(13,vP bs 0),(47,vP bs 0),(48,vS f),(49,vI m0)] (K:=fun u Mn=>∃ b n t,u = .agg #[.map (some b)]∧Tab (aAf prof os f) m0 t∧Mn=[tbE b n t]) [0,1,2,3,4,5] [] f0 hM rfl rfl (by decide) (fun hm=>((aD3 (aLB hM (i:=3) (j:=4) (k:=5) rfl rfl rfl hmv hM.fr hT2) hT2 hTr hnn hf63 h0 (by omega)).mono fun e w8 ⟨b,n,t,h1,h2,h3⟩=>⟨_,_,h1,⟨b,n,t,rfl,h2,rfl⟩,aEL h3 fun _ h=>h.elim⟩)) fun u Mn w1 hK hM=>?_;obtain ⟨b,n,t,rfl,hT,rfl⟩:=hK;have hB:=aEW hNo h0 hT;have htb:∀ k m,t k=some m→0≤m∧m≤6000000000:=fun k m e=>⟨by have:=(hT.snd k m e).ge hNo h0;omega,(hT.snd k m e).le hNo h0⟩;refine aBD 7 4 14 [] [] 60 (.agg #[.map (some b)]) f0 hM fun ae w1 hM=>seg 10 0 [(15,vI (-1)),(16,vI 0),(54,vL qa (AS os).length ca),(55,vI ((AS os).length:Int)),(56,vI 0)] (fc (ldm 34 3 1 hM rfl rfl) f0) ?_
  have a1:∀ (ar:Nat) (k:Nat) (lz:Int) (bz:Int) (w2:World),k≤(AS os).length→lz=aQ9 (aAJ (AS os) t g k)→bz=aSw t (aAJ (AS os) t g k)→Mm (fun _=>False) w w2 [bk af #[vL p0 os.length cp0] 24,bk ad #[vL none 0 0,vL none 0 0] 30,bk ag #[vS f,vS g] 9,bk bs #[vS prof,vL qa (AS os).length ca,.map (some bo),.map (some br),.map (some bb)] 66,rw_ arL 4 68 (vL qa (AS os).length ca) (AS os),aJG (stR bo br bb no nr nb prof os T T2),mp Tryz.prog 3 b n (aEF t),bk ae #[.map (some b)] 60]→ar=(AS os).length-k→A12 Φ (some (10,0)) [(56,vI (k:Int)),(55,vI ((AS os).length:Int)),(54,vL qa (AS os).length ca),(16,vI bz),(15,vI lz),(14,vP ae 0),(13,vP bs 0),(10,vP ad 0),(2,vS f),(3,vS g),(4,vI m0)] w2:=by
   refine aBh fun ar ak k lz bz w2 hk hlz hbz hM ba=>seg 10 1 [(57,vB (decide ((k:Int)<((AS os).length:Int))))] f0 ?_;cases au:(decide ((k:Int)<((AS os).length:Int)))
   rotate_left
   ·have a2:=dt au;obtain ⟨a,ha⟩:=geb (l:=AS os) (i:=k) (by omega);obtain ⟨bc,av,-⟩:=hM.el arT (j:=4) rfl ha;refine aAn 11 3 18 [(58,vI (k:Int)),(60,.agg #[vS a.1,vS a.2.1,vS a.2.2.1,vI a.2.2.2])] (cs:=#[vS [],vS [],vS [],vI 0]) (T:=68) (v:=fun b=>vP b 0) (fc (ix 34 ca av (gl ha)) (fc (lar 68 4 0 4 arT hM rfl av ha) f0)) hM fun bd w1 hM=>stm 11 5 [(17,vI (k:Int))] 68 8 0 (.agg #[vS a.1,vS a.2.1,vS a.2.2.1,vI a.2.2.2]) f0 hM rfl fun w1 hM=>aAq 12 2 64 [(62,.agg #[.map (some b)]),(63,vI (k:Int))] (fc (lam 60 7 0 1 hM rfl) f0) hM (aBy (hM.get 6 rfl) (i:=k) (by omega)) fun w1 hM=>seg 13 2 [(19,vI ((t k).getD 0)),(68,vB (t k).isSome)] f0 ?_
    cases al:(t k).isSome with
    | false =>
     refine seg 10 0 [(56,vI ((k:Int)+1))] (fc (aAh (k:Int) 1 u3_) f0) ?_;have e9:aAJ (AS os) t g (k+1)=aAJ (AS os) t g k:=by rw [aB2 ha];simp only [al]<;>rfl
     exact aAb _ (ak _ (by have:=gl ha;omega) (k+1) lz bz _ (gl ha) (by rw [e9];exact hlz) (by rw [e9];exact hbz) (hM.pick [0,1,2,3,4,5,6,7]) rfl)
    | true =>
     refine seg 13 8 [(74,vB (a.2.1==g))] (fc (ldm 9 8 1 hM rfl rfl) (fc (seq 9 a.2.1 g) f0)) ?_;cases ai:(a.2.1==g)
     ·have a3:=ef ai;refine seg 10 0 [(56,vI ((k:Int)+1))] (fc (aAh (k:Int) 1 u3_) f0) ?_;have e9:aAJ (AS os) t g (k+1)=aAJ (AS os) t g k:=by rw [aB2 ha];simp only [al,ai]<;>rfl
      exact aAb _ (ak _ (by have:=gl ha;omega) (k+1) lz bz _ (gl ha) (by rw [e9];exact hlz) (by rw [e9];exact hbz) (hM.pick [0,1,2,3,4,5,6,7]) rfl)
     have a3:=et ai;refine seg 13 11 [(77,vB (decide (lz<0)))] f0 ?_;cases am:(decide (lz<0))
     rotate_left
     ·have a4:=dt am;refine seg 10 0 [(15,vI (k:Int)),(16,vI ((t k).getD 0)),(56,vI ((k:Int)+1))] (fc (aAh (k:Int) 1 u3_) f0) ?_;have hBB:aFN t (aAJ (AS os) t g k) k=true:=aM2 (by rw [←hlz];exact dt am);have e9:aAJ (AS os) t g (k+1)=some k:=by rw [aB2 ha];simp only [al,ai,hBB]<;>rfl
      exact aAb _ (ak _ (by have:=gl ha;omega) (k+1) (k:Int) ((t k).getD 0) _ (gl ha) (by rw [e9];rfl) (by rw [e9];rfl) (hM.pick [0,1,2,3,4,5,6,7]) rfl)
     have a4:=df am;refine seg 13 16 [(82,vB (decide (((t k).getD 0)<bz)))] f0 ?_;cases an:(decide (((t k).getD 0)<bz))
     ·have a5:=df an;refine seg 10 0 [(56,vI ((k:Int)+1))] (fc (aAh (k:Int) 1 u3_) f0) ?_;have hBB:aFN t (aAJ (AS os) t g k) k=false:=by rw [aHH (by rw [←hlz];exact df am),←hbz];exact an
      have e9:aAJ (AS os) t g (k+1)=aAJ (AS os) t g k:=by rw [aB2 ha];simp only [al,ai,hBB]<;>rfl
      exact aAb _ (ak _ (by have:=gl ha;omega) (k+1) lz bz _ (gl ha) (by rw [e9];exact hlz) (by rw [e9];exact hbz) (hM.pick [0,1,2,3,4,5,6,7]) rfl)
     have a5:=dt an;refine seg 10 0 [(15,vI (k:Int)),(16,vI ((t k).getD 0)),(56,vI ((k:Int)+1))] (fc (aAh (k:Int) 1 u3_) f0) ?_;have hBB:aFN t (aAJ (AS os) t g k) k=true:=by rw [aHH (by rw [←hlz];exact df am),←hbz];exact an
     have e9:aAJ (AS os) t g (k+1)=some k:=by rw [aB2 ha];simp only [al,ai,hBB]<;>rfl
     exact aAb _ (ak _ (by have:=gl ha;omega) (k+1) (k:Int) ((t k).getD 0) _ (gl ha) (by rw [e9];rfl) (by rw [e9];rfl) (hM.pick [0,1,2,3,4,5,6,7]) rfl)
   have a2:=df au;have hkn:k=(AS os).length:=by omega
   subst hkn;refine seg 16 2 [(87,vB (decide (lz<0)))] f0 ?_;cases ao:(decide (lz<0))
   rotate_left
   ·have a6:=dt ao;refine stm 17 1 [(88,.agg #[vL none 0 0,vL none 0 0])] 30 1 0 (.agg #[vL none 0 0,vL none 0 0]) f0 hM rfl fun w1 hM=>?_;have hl9:=aAY 30 1 (P:=Tryz.prog) (n:=2) hM rfl rfl
    have hnone:aAJ (AS os) t g (AS os).length=none:=by
      cases hl:aAJ (AS os) t g (AS os).length with
      | none=>rfl
      | some i=>rw [hl] at hlz;have h9:=dt ao;have:lz=(i:Int):=hlz;omega
    exact aSA 10 30 11 (vI 12) rfl rfl hl9 f0 (hΦ _ _ ⟨(vL none 0 0),(vL none 0 0),_,[],[],rfl,.inr (.inr ⟨et ah,ef aj,t,hT,.inl ⟨hnone,rfl,rfl,rfl⟩⟩),(hM.pick (M':=[]) []).row.row⟩)
   have a6:=df ao;have hlz9:=df ao
   obtain ⟨i0,hi0⟩:∃ i,aAJ (AS os) t g (AS os).length=some i:=by
     cases hl:aAJ (AS os) t g (AS os).length with
     | none=>rw [hl] at hlz;exact absurd (hlz▸(by decide:(-1:Int)<0)) hlz9
     | some i=>exact ⟨i,rfl⟩
   rw [hi0] at hlz;have hlz:lz=(i0:Int):=hlz;subst hlz;obtain ⟨hi1,-,hi2⟩:=aGR hi0;have hbl:=aQY (N:=aAf prof os f) (m0:=m0) (t:=t) (i:=i0) (by cases e:t i0 with | none=>(show (0:Int)≤_;omega) | some m=>exact (htb i0 m e).2);refine aAn 18 0 21 [] (cs:=#[vL none 0 0,vL none 0 0]) (T:=30) (v:=fun b=>vP b 0) f0 hM fun ab w1 hM=>?_;have hM:=hM.row (f:=stL) (c:=1) (E:=9);have hM:=hM.row (f:=inL) (c:=1) (E:=3);refine seg 20 0 [(22,vB true)] f0 ?_
   have a7:∀ (aw:Nat) (i:Nat) (more:Bool) (L:List Nat) (v1:Value) (v2:Value) (w2:World),L++(bif more then bkP (aAf prof os f) m0 t i else [])=bkP (aAf prof os f) m0 t i0→(more=true→i<(AS os).length∧(t i).isSome=true)→Mm (fun _=>False) w w2 [bk af #[vL p0 os.length cp0] 24,bk ad #[vL none 0 0,vL none 0 0] 30,bk ag #[vS f,vS g] 9,bk bs #[vS prof,vL qa (AS os).length ca,.map (some bo),.map (some br),.map (some bb)] 66,rw_ arL 4 68 (vL qa (AS os).length ca) (AS os),aJG (stR bo br bb no nr nb prof os T T2),mp Tryz.prog 3 b n (aEF t),bk ae #[.map (some b)] 60,bk ab #[v1,v2] 30,rw_ stL 1 9 v1 (L.map (toN (AS os))),rw_ inL 1 3 v2 (L.map fun j=>(t j).getD 0)]→aw=(bif more then ((t i).getD 0).toNat+1 else 0)→A12 Φ (some (20,0)) [(22,vB more),(21,vP ab 0),(15,vI (i:Int)),(14,vP ae 0),(13,vP bs 0),(10,vP ad 0),(2,vS f),(4,vI m0)] w2:=by
    refine aBh fun aw a8 i more L v1 v2 w2 hL hmr hM a9=>seg 20 1 [(89,vB more)] f0 ?_
    cases ax:more with
    | false =>
     subst ax;have hL:L=_:=(List.append_nil L).symm.trans hL;have hLl:L.length≤6000000001:=by rw [hL];exact hbl
     refine seg 24 0 [] f0 ?_;have hM:=hM.nl;have hM:=hM.nl;refine drx [1,3,4,6,8,9,11,13] (fun γ=>[some (v1),some (vL (some ⟨(bn (γ 1)),0,none⟩) 1 1),some (vL (slp (γ 2)) ((L.map (toN (AS os)))++[f]).length (slc (γ 2))),some (v2),some (vL (some ⟨(bn (γ 4)),0,none⟩) 1 1),some (vL (slp (γ 5)) ((L.map fun j=>(t j).getD 0)++[m0]).length (slc (γ 5))),none,none]) _ (fun γ l=>[bk af #[vL p0 os.length cp0] 24,bk ad #[vL none 0 0,vL none 0 0] 30,bk ag #[vS f,vS g] 9,bk bs #[vS prof,vL qa (AS os).length ca,.map (some bo),.map (some br),.map (some bb)] 66,rw_ arL 4 68 (vL qa (AS os).length ca) (AS os),aJG (stR bo br bb no nr nb prof os T T2),mp Tryz.prog 3 b n (aEF t),bk ae #[.map (some b)] 60,bk ab #[(bif l.getD 6 false then vL (slp (γ 2)) ((L.map (toN (AS os)))++[f]).length (slc (γ 2)) else v1),(bif l.getD 7 false then vL (slp (γ 5)) ((L.map fun j=>(t j).getD 0)++[m0]).length (slc (γ 5)) else v2)] 30,(bif l.getD 2 false then rw_ stL 1 9 (vL (slp (γ 2)) ((L.map (toN (AS os)))++[f]).length (slc (γ 2))) ((L.map (toN (AS os)))++[f]) else rw_ stL 1 9 v1 (L.map (toN (AS os)))),(bif l.getD 5 false then rw_ inL 1 3 (vL (slp (γ 5)) ((L.map fun j=>(t j).getD 0)++[m0]).length (slc (γ 5))) ((L.map fun j=>(t j).getD 0)++[m0]) else rw_ inL 1 3 v2 (L.map fun j=>(t j).getD 0)),(bif l.getD 1 false then bk (bn (γ 1)) #[vS f] 9 else aEc),(bif l.getD 4 false then bk (bn (γ 4)) #[vI m0] 3 else aEc)]) (fun γ=>[]) hM (fun γ=>rfl) (fun γ l w5 hM=>f0) ⟨aHb 0 1 27 8 0 125 (fun γ=>ab) (fun γ l=>#[(bif l.getD 6 false then vL (slp (γ 2)) ((L.map (toN (AS os)))++[f]).length (slc (γ 2)) else v1),(bif l.getD 7 false then vL (slp (γ 5)) ((L.map fun j=>(t j).getD 0)++[m0]).length (slc (γ 5)) else v2)]) 30 (fun γ=>v1),aBY 1 3 11 127 (fun γ=>#[vS f]) 9 (fun b=>vL (some ⟨b,0,none⟩) 1 1),aE7 2 4 9 128 27 9 0 (fun γ=>v1) (L.map (toN (AS os))) [f] (fun γ=>(bn (γ 1))) 1 stT (by simp only [List.length_map,List.length_cons,List.length_nil];omega) (fun γ fr wm hM=>aAE (f:=stL) (x:=f) (hM.get 11 (e:=bk ((bn (γ 1))) (stL f).toArray 9) (by kernel_rfl)) (Nat.lt_succ_self _)),aHb 3 6 28 8 1 130 (fun γ=>ab) (fun γ l=>#[(bif l.getD 6 false then vL (slp (γ 2)) ((L.map (toN (AS os)))++[f]).length (slc (γ 2)) else v1),(bif l.getD 7 false then vL (slp (γ 5)) ((L.map fun j=>(t j).getD 0)++[m0]).length (slc (γ 5)) else v2)]) 30 (fun γ=>v2),aBY 4 8 12 132 (fun γ=>#[vI m0]) 3 (fun b=>vL (some ⟨b,0,none⟩) 1 1),aE7 5 9 10 133 28 3 0 (fun γ=>v2) (L.map fun j=>(t j).getD 0) [m0] (fun γ=>(bn (γ 4))) 1 inT (by simp only [List.length_map,List.length_cons,List.length_nil];omega) (fun γ fr wm hM=>aAE (f:=inL) (x:=m0) (hM.get 12 (e:=bk ((bn (γ 4))) (inL m0).toArray 3) (by kernel_rfl)) (Nat.lt_succ_self _)),aA6 6 11 27 8 0 (fun γ=>ab) (fun γ l=>#[(bif l.getD 6 false then vL (slp (γ 2)) ((L.map (toN (AS os)))++[f]).length (slc (γ 2)) else v1),(bif l.getD 7 false then vL (slp (γ 5)) ((L.map fun j=>(t j).getD 0)++[m0]).length (slc (γ 5)) else v2)]) 30 (fun γ=>vL (slp (γ 2)) ((L.map (toN (AS os)))++[f]).length (slc (γ 2))),aA6 7 13 28 8 1 (fun γ=>ab) (fun γ l=>#[(bif l.getD 6 false then vL (slp (γ 2)) ((L.map (toN (AS os)))++[f]).length (slc (γ 2)) else v1),(bif l.getD 7 false then vL (slp (γ 5)) ((L.map fun j=>(t j).getD 0)++[m0]).length (slc (γ 5)) else v2)]) 30 (fun γ=>vL (slp (γ 5)) ((L.map fun j=>(t j).getD 0)++[m0]).length (slc (γ 5))),trivial⟩ fun aa w1 hM=>?_;replace hM:Mm (fun _=>False) w w1 [bk af #[vL p0 os.length cp0] 24,bk ad #[vL none 0 0,vL none 0 0] 30,bk ag #[vS f,vS g] 9,bk bs #[vS prof,vL qa (AS os).length ca,.map (some bo),.map (some br),.map (some bb)] 66,_,_,_,bk ae #[.map (some b)] 60,bk ab #[vL (slp (aa 2)) ((L.map (toN (AS os)))++[f]).length (slc (aa 2)),vL (slp (aa 5)) ((L.map fun j=>(t j).getD 0)++[m0]).length (slc (aa 5))] 30,_,_,bk (bn (aa 1)) #[vS f] 9,bk (bn (aa 4)) #[vI m0] 3]:=hM;refine aB3 25 2 138 [(137,vL (slp (aa 2)) ((L.map (toN (AS os)))++[f]).length (slc (aa 2)))] (K:=fun u Mn=>u = .tuple #[]∧Mn=[rw_ stL 1 9 (vL (slp (aa 2)) ((L.map (toN (AS os)))++[f]).length (slc (aa 2))) ((L.map (toN (AS os)))++[f]).reverse]) [0,1,2,3,4,5,6,7,8,10,11,12] [9] (fc (ldm 27 8 0 hM rfl rfl) f0) hM rfl rfl (by decide) (fun hm=>(aKp hm)) fun u Mn w1 hK hM=>?_;obtain ⟨rfl,rfl⟩:=hK;refine aB3 26 2 141 [(140,vL (slp (aa 5)) ((L.map fun j=>(t j).getD 0)++[m0]).length (slc (aa 5)))] (K:=fun u Mn=>u = .tuple #[]∧Mn=[rw_ inL 1 3 (vL (slp (aa 5)) ((L.map fun j=>(t j).getD 0)++[m0]).length (slc (aa 5))) ((L.map fun j=>(t j).getD 0)++[m0]).reverse]) [0,1,2,3,4,5,6,7,8,10,11,12] [9] (fc (ldm 28 8 1 hM rfl rfl) f0) hM rfl rfl (by decide) (fun hm=>(aKq hm)) fun u Mn w1 hK hM=>?_;obtain ⟨rfl,rfl⟩:=hK;refine stm 27 1 [(142,.agg #[vL (slp (aa 2)) ((L.map (toN (AS os)))++[f]).length (slc (aa 2)),vL (slp (aa 5)) ((L.map fun j=>(t j).getD 0)++[m0]).length (slc (aa 5))])] 30 1 0 (.agg #[vL (slp (aa 2)) ((L.map (toN (AS os)))++[f]).length (slc (aa 2)),vL (slp (aa 5)) ((L.map fun j=>(t j).getD 0)++[m0]).length (slc (aa 5))]) (fc (lam 30 8 0 2 hM rfl) f0) hM rfl fun w1 hM=>?_;have hl9:=aAY 30 1 (P:=Tryz.prog) (n:=2) hM rfl rfl;exact aSA 10 30 11 (vI 0) rfl rfl hl9 f0 (hΦ _ _ ⟨(vL (slp (aa 2)) ((L.map (toN (AS os)))++[f]).length (slc (aa 2))),(vL (slp (aa 5)) ((L.map fun j=>(t j).getD 0)++[m0]).length (slc (aa 5))),_,_,_,rfl,.inr (.inr ⟨et ah,ef aj,t,hT,.inr ⟨i0,hi0,rfl,by rw [←hL],by rw [←hL]⟩⟩),hM.pick [11,12]⟩)
    | true =>
     subst ax;have hil:i<(AS os).length:=(hmr rfl).1;obtain ⟨a,ha⟩:=geb (l:=AS os) (i:=i) hil;have hLl:L.length+(bkP (aAf prof os f) m0 t i).length≤6000000001:=by rw [←List.length_append];exact (congrArg List.length hL:_=_)▸hbl
     refine aAq 22 2 102 [(100,.agg #[.map (some b)]),(101,vI (i:Int))] (fc (lam 60 7 0 1 hM rfl) f0) hM (aBy (hM.get 6 rfl) (i:=i) (by omega)) fun w1 hM=>seg 23 0 [(23,vI ((t i).getD 0))] f0 ?_;obtain ⟨be,ay,-⟩:=hM.el arT (j:=4) rfl ha;have hM:=hM.nl;have hM:=hM.nl;refine drx [1,10,11,13,15,16,18,20] (fun γ=>[some (v1),some (vL (some ⟨(bn (γ 1)),0,none⟩) 1 1),some (vL (slp (γ 2)) ((L.map (toN (AS os)))++[a.2.1]).length (slc (γ 2))),some (v2),some (vL (some ⟨(bn (γ 4)),0,none⟩) 1 1),some (vL (slp (γ 5)) ((L.map fun j=>(t j).getD 0)++[((t i).getD 0)]).length (slc (γ 5))),none,none]) _ (fun γ l=>[bk af #[vL p0 os.length cp0] 24,bk ad #[vL none 0 0,vL none 0 0] 30,bk ag #[vS f,vS g] 9,bk bs #[vS prof,vL qa (AS os).length ca,.map (some bo),.map (some br),.map (some bb)] 66,rw_ arL 4 68 (vL qa (AS os).length ca) (AS os),aJG (stR bo br bb no nr nb prof os T T2),mp Tryz.prog 3 b n (aEF t),bk ae #[.map (some b)] 60,bk ab #[(bif l.getD 6 false then vL (slp (γ 2)) ((L.map (toN (AS os)))++[a.2.1]).length (slc (γ 2)) else v1),(bif l.getD 7 false then vL (slp (γ 5)) ((L.map fun j=>(t j).getD 0)++[((t i).getD 0)]).length (slc (γ 5)) else v2)] 30,(bif l.getD 2 false then rw_ stL 1 9 (vL (slp (γ 2)) ((L.map (toN (AS os)))++[a.2.1]).length (slc (γ 2))) ((L.map (toN (AS os)))++[a.2.1]) else rw_ stL 1 9 v1 (L.map (toN (AS os)))),(bif l.getD 5 false then rw_ inL 1 3 (vL (slp (γ 5)) ((L.map fun j=>(t j).getD 0)++[((t i).getD 0)]).length (slc (γ 5))) ((L.map fun j=>(t j).getD 0)++[((t i).getD 0)]) else rw_ inL 1 3 v2 (L.map fun j=>(t j).getD 0)),(bif l.getD 1 false then bk (bn (γ 1)) #[vS a.2.1] 9 else aEc),(bif l.getD 4 false then bk (bn (γ 4)) #[vI ((t i).getD 0)] 3 else aEc)]) (fun γ=>[]) hM (fun γ=>rfl) (fun γ l w5 hM=>(fc (ldm 34 3 1 hM rfl rfl) (fc (ix 34 ca ay (gl ha)) (fc (ldr 9 4 1 arT hM rfl ay ha rfl) f0)))) ⟨aHb 0 1 27 8 0 106 (fun γ=>ab) (fun γ l=>#[(bif l.getD 6 false then vL (slp (γ 2)) ((L.map (toN (AS os)))++[a.2.1]).length (slc (γ 2)) else v1),(bif l.getD 7 false then vL (slp (γ 5)) ((L.map fun j=>(t j).getD 0)++[((t i).getD 0)]).length (slc (γ 5)) else v2)]) 30 (fun γ=>v1),aBY 1 10 11 115 (fun γ=>#[vS a.2.1]) 9 (fun b=>vL (some ⟨b,0,none⟩) 1 1),aE7 2 11 9 116 27 9 0 (fun γ=>v1) (L.map (toN (AS os))) [a.2.1] (fun γ=>(bn (γ 1))) 1 stT (by simp only [List.length_map,List.length_cons,List.length_nil];omega) (fun γ fr wm hM=>aAE (f:=stL) (x:=a.2.1) (hM.get 11 (e:=bk ((bn (γ 1))) (stL a.2.1).toArray 9) (by kernel_rfl)) (Nat.lt_succ_self _)),aHb 3 13 28 8 1 118 (fun γ=>ab) (fun γ l=>#[(bif l.getD 6 false then vL (slp (γ 2)) ((L.map (toN (AS os)))++[a.2.1]).length (slc (γ 2)) else v1),(bif l.getD 7 false then vL (slp (γ 5)) ((L.map fun j=>(t j).getD 0)++[((t i).getD 0)]).length (slc (γ 5)) else v2)]) 30 (fun γ=>v2),aBY 4 15 12 120 (fun γ=>#[vI ((t i).getD 0)]) 3 (fun b=>vL (some ⟨b,0,none⟩) 1 1),aE7 5 16 10 121 28 3 0 (fun γ=>v2) (L.map fun j=>(t j).getD 0) [((t i).getD 0)] (fun γ=>(bn (γ 4))) 1 inT (by simp only [List.length_map,List.length_cons,List.length_nil];omega) (fun γ fr wm hM=>aAE (f:=inL) (x:=((t i).getD 0)) (hM.get 12 (e:=bk ((bn (γ 4))) (inL ((t i).getD 0)).toArray 3) (by kernel_rfl)) (Nat.lt_succ_self _)),aA6 6 18 27 8 0 (fun γ=>ab) (fun γ l=>#[(bif l.getD 6 false then vL (slp (γ 2)) ((L.map (toN (AS os)))++[a.2.1]).length (slc (γ 2)) else v1),(bif l.getD 7 false then vL (slp (γ 5)) ((L.map fun j=>(t j).getD 0)++[((t i).getD 0)]).length (slc (γ 5)) else v2)]) 30 (fun γ=>vL (slp (γ 2)) ((L.map (toN (AS os)))++[a.2.1]).length (slc (γ 2))),aA6 7 20 28 8 1 (fun γ=>ab) (fun γ l=>#[(bif l.getD 6 false then vL (slp (γ 2)) ((L.map (toN (AS os)))++[a.2.1]).length (slc (γ 2)) else v1),(bif l.getD 7 false then vL (slp (γ 5)) ((L.map fun j=>(t j).getD 0)++[((t i).getD 0)]).length (slc (γ 5)) else v2)]) 30 (fun γ=>vL (slp (γ 5)) ((L.map fun j=>(t j).getD 0)++[((t i).getD 0)]).length (slc (γ 5))),trivial⟩ fun ac w1 hM=>?_;replace hM:Mm (fun _=>False) w w1 [bk af #[vL p0 os.length cp0] 24,bk ad #[vL none 0 0,vL none 0 0] 30,bk ag #[vS f,vS g] 9,bk bs #[vS prof,vL qa (AS os).length ca,.map (some bo),.map (some br),.map (some bb)] 66,_,_,_,bk ae #[.map (some b)] 60,bk ab #[vL (slp (ac 2)) ((L.map (toN (AS os)))++[a.2.1]).length (slc (ac 2)),vL (slp (ac 5)) ((L.map fun j=>(t j).getD 0)++[((t i).getD 0)]).length (slc (ac 5))] 30,_,_,bk (bn (ac 1)) #[vS a.2.1] 9,bk (bn (ac 4)) #[vI ((t i).getD 0)] 3]:=hM;refine aAq 21 5 96 [(91,vP bs 0),(92,.agg #[.map (some b)]),(93,vS f),(94,vI m0),(95,vI (i:Int))] (fc (lam 60 7 0 1 hM rfl) f0) hM (aIg (aLB hM (i:=3) (j:=4) (k:=5) rfl rfl rfl hmv hM.fr hT2) hT2 (by omega) (hM.get 6 rfl) htb (f:=f) h0 (by omega) hil) fun w1 hM=>seg 20 0 [(15,vI (((aCd (aAf prof os f) m0 t i).getD 0:Nat):Int)),(22,vB (aCd (aAf prof os f) m0 t i).isSome)] f0 ?_;have hM:=hM.pick [0,1,2,3,4,5,6,7,8,9,10];replace hM:Mm (fun _=>False) w _ [bk af #[vL p0 os.length cp0] 24,bk ad #[vL none 0 0,vL none 0 0] 30,bk ag #[vS f,vS g] 9,bk bs #[vS prof,vL qa (AS os).length ca,.map (some bo),.map (some br),.map (some bb)] 66,_,_,_,bk ae #[.map (some b)] 60,bk ab #[vL (slp (ac 2)) ((L.map (toN (AS os)))++[a.2.1]).length (slc (ac 2)),vL (slp (ac 5)) ((L.map fun j=>(t j).getD 0)++[((t i).getD 0)]).length (slc (ac 5))] 30,_,_]:=hM;obtain ⟨u1,hu1⟩:∃ z,z=vL (slp (ac 2)) ((L.map (toN (AS os)))++[a.2.1]).length (slc (ac 2)):=⟨_,rfl⟩;obtain ⟨u2,hu2⟩:∃ z,z=vL (slp (ac 5)) ((L.map fun j=>(t j).getD 0)++[((t i).getD 0)]).length (slc (ac 5)):=⟨_,rfl⟩;rw [←hu1,←hu2] at hM;have e1:((L.map (toN (AS os)))++[a.2.1])=((L++[i]).map (toN (AS os))):=by rw [List.map_append];simp [aJn ha]
     have e2:((L.map fun j=>(t j).getD 0)++[((t i).getD 0)])=((L++[i]).map fun j=>(t j).getD 0):=by rw [List.map_append];rfl
     rw [e1,e2] at hM;exact aAb _ (a8 _ (by rw [a9];exact (aJR hB hil).2) ((aCd (aAf prof os f) m0 t i).getD 0) (aCd (aAf prof os f) m0 t i).isSome (L++[i]) u1 u2 _ (by rw [List.append_assoc,aOZ hB hil];exact hL) (aJR hB hil).1 hM rfl)
   exact aAb _ (a7 _ i0 true [] (vL none 0 0) (vL none 0 0) _ rfl (fun _=>⟨hi1,hi2⟩) hM rfl)
  exact aAb _ (a1 _ 0 (-1) 0 _ (Nat.zero_le _) rfl rfl hM rfl)
def rwL (x:Bys×Int):List Value:=[vS x.1,vI x.2]
theorem rwT:ElT Tryz.prog rwL 2 44 90:=⟨fun _=>rfl,by decide,fun x u hu=>by
  unfold rwL at hu;rcases List.mem_cons.1 hu with rfl | hu
  · rfl
  · rw [List.mem_singleton] at hu
    subst hu;rfl,Tryz.underlying44,aBj (by kernel_rfl)⟩
def aJr (t:Bys→Option Int):Value→Option Value
  | .string s=>(t s.toList).map fun m => .int .i64 m
  | _=>none
theorem aL4 (t:Bys→Option Int) (s:Bys):aJr t (vS s)=(t s).map fun m => .int .i64 m:=by
  show (t (ofL s).toList).map _=_;rw [aAA]
def aGd (t:Bys→Option Int) (s:Bys) (x:Int):Bys→Option Int:=fun k=>bif k==s then some x else t k
theorem aCY (t:Bys→Option Int) (s:Bys) (x:Int):aGd t s x s=some x:=by unfold aGd;simp
theorem aCu (t:Bys→Option Int) {s k:Bys}(x:Int) (h:k≠s):aGd t s x k=t k:=by
  unfold aGd;rw [show (k==s)=false by simpa using h];rfl
theorem aG4 (t:Bys→Option Int) (s:Bys) (x:Int):upd (aJr t) (vS s) (vI x)=aJr (aGd t s x):=by
  funext v
  by_cases e:v=vS s
  · subst e;rw [aBI,aL4,aCY];rfl
  · rw [aBs _ e]
    cases v with
    | string b =>
      show (t b.toList).map _=(aGd t s x b.toList).map _;rw [aCu _ _ (aLk e)]
    | _=>rfl
theorem aNR (s:Bys) (x:Int):upd (fun _=>none) (vS s) (vI x)=aJr (aGd (fun _=>none) s x):=by
  rw [←aG4];congr 1;funext v;cases v<;>rfl
def aEV (o:Option Int) (x:Int):Bool:=match o with
  | some y=>decide (x<y)
  | none=>true
theorem aL3 (t:Bys→Option Int) (s:Bys):(.tuple #[((aJr t) (vS s)).getD (vI 0),.bool ((aJr t) (vS s)).isSome]:Value) = .tuple #[vI ((t s).getD 0),vB (t s).isSome]:=by
  rw [aL4];cases t s<;>rfl
abbrev tbS (b n:Nat) (t:Bys→Option Int):Ent:=mp Tryz.prog 9 b n (aJr t)
theorem aNQ {t:Nat→Option Int}{key v:Value}(h:aEF t key=some v):∃ k m,key=vI ((k:Nat):Int)∧t k=some m∧v=vI m:=by
  unfold aEF at h
  split at h
  · rename_i k
    obtain ⟨m,hm,rfl⟩:=Option.map_eq_some_iff.1 h;exact ⟨k,m,rfl,hm,rfl⟩
  · cases h
theorem aHG {w:World}(m n:Int):Calls Tryz.prog 118 #[vI m,vI n] w fun e w'=>e = .returned (vB (decide (m<n)))∧Fr (fun _=>False) w w':=by
  refine beg Tryz.func118 rfl rfl [(0,vI m),(1,vI n)] rfl rfl fun Φ hΦ=>?_;have hM:=Mm.nil (fun _=>False) w;exact rt1 4 (vB (decide (m<n))) rfl f0 (hΦ _ _ ⟨rfl,hM.fr⟩)
theorem aKi {w:World}{b n:Nat}{u:Bys→Option Int}(hm:aCj Tryz.prog 9 w b n (aJr u)) {s:Bys}(hs:B63 s):Calls Tryz.prog 119 #[.agg #[.map (some b)],vS s] w fun e w'=>e = .returned (.tuple #[vI ((u s).getD 0),vB (u s).isSome])∧Fr (fun _=>False) w w':=by
  refine beg Tryz.func119 rfl rfl [(0,.agg #[.map (some b)]),(1,vS s)] rfl rfl fun Φ hΦ=>?_;have hM:=Mm.nil (fun _=>False) w;refine aAn 0 0 2 [] (cs:=#[.map (some b)]) (T:=237) (v:=fun b=>vP b 0) f0 hM fun aa w1 hM=>rt2 4 5 (vI ((u s).getD 0)) (vB (u s).isSome) rfl rfl (fc (ldm 235 0 0 hM rfl rfl) (fc (rz2 (aRW 235 (vS s) (vI 0) (hm.fr hM.fr id) aDw u235_ (aDx hs) (aN2 _)) (aL3 u s)) f0)) (hΦ _ _ ⟨rfl,hM.fr⟩)
theorem aFI {w:World}{G:Nat→Prop}{b n:Nat}{u:Bys→Option Int}(hM0:Mm G w w [tbS b n u]) {s:Bys}(hs:B63 s) (x:Int):Calls Tryz.prog 117 #[.agg #[.map (some b)],vS s,vI x,.func (.func 118) #[] #[]] w fun e w'=>e = .returned (vB (aEV (u s) x))∧Mm G w w' [tbS b (bif aEV (u s) x then n+1 else n) (bif aEV (u s) x then aGd u s x else u)]:=by
  refine beg Tryz.func117 rfl rfl [(0,.agg #[.map (some b)]),(1,vS s),(2,vI x),(3,.func (.func 118) #[] #[])] rfl rfl fun Φ hΦ=>?_;have hM:=hM0;refine aAn 0 0 4 [] (cs:=#[.map (some b)]) (T:=237) (v:=fun b=>vP b 0) f0 hM fun ac w1 hM=>seg 2 2 [(9,vI ((u s).getD 0)),(19,vB (u s).isSome)] (fc (ldm 235 1 0 hM rfl rfl) (fc (rz2 (aRW 235 (vS s) (vI 0) (hM.get 0 rfl) aDw u235_ (aDx hs) (aN2 _)) (aL3 u s)) f0)) ?_
  cases ad:(u s).isSome with
  | false =>
   refine mup 4 4 [(27,.map (some b)),(28,vS s),(29,vI x)] 235 0 (vS s) (vI x) (fc (ldm 235 1 0 hM rfl rfl) f0) hM rfl aDw u235_ (aDx hs) fun w1 hM=>?_
   have hb:aEV (u s) x=true:=by
     unfold aEV
     cases e:u s with
     | none=>simp_all
     | some o=>simp_all
   rw [aG4] at hM;exact rt1 8 (vB true) rfl f0 (hΦ _ _ ⟨by rw [hb],by rw [hb];exact hM.pick [0]⟩)
  | true =>
   refine aAq 2 5 23 [(20,.func (.func 118) #[] #[]),(21,vI x),(22,vI ((u s).getD 0))] f0 hM (aHG x ((u s).getD 0)) fun w1 hM=>seg 2 8 [(25,vB (!(decide (x<((u s).getD 0)))))] f0 ?_;cases aa:(decide (x<((u s).getD 0)))
   ·have ab:=df aa
    have hb:aEV (u s) x=false:=by
      unfold aEV
      cases e:u s with
      | none=>simp_all
      | some o=>simp_all
    exact rt1 8 (vB false) rfl f0 (hΦ _ _ ⟨by rw [hb],by rw [hb];exact hM.pick [0]⟩)
   have ab:=dt aa;refine mup 4 4 [(27,.map (some b)),(28,vS s),(29,vI x)] 235 0 (vS s) (vI x) (fc (ldm 235 1 0 hM rfl rfl) f0) hM rfl aDw u235_ (aDx hs) fun w1 hM=>?_
   have hb:aEV (u s) x=true:=by
     unfold aEV
     cases e:u s with
     | none=>simp_all
     | some o=>simp_all
   rw [aG4] at hM;exact rt1 8 (vB true) rfl f0 (hΦ _ _ ⟨by rw [hb],by rw [hb];exact hM.pick [0]⟩)
theorem aG6 {w:World}{b n:Nat}{u:Bys→Option Int}(hm:(tbS b n u).H w) {s:Bys}(hs:B63 s) (x:Int):Calls Tryz.prog 117 #[.agg #[.map (some b)],vS s,vI x,.func (.func 118) #[] #[]] w fun e w'=>e = .returned (vB (aEV (u s) x))∧Fr (tbS b n u).B w w'∧(tbS b (n+1) (bif aEV (u s) x then aGd u s x else u)).H w'∧∀ k,(tbS b (n+1) (bif aEV (u s) x then aGd u s x else u)).B k→(tbS b n u).B k∨w.heap.size≤k :=
  (aFI (n:=n) (G:=(tbS b n u).B) ⟨Fr.refl _ _,fun e he=>by rw [List.mem_singleton] at he;subst he;exact hm,fun e he k hk _=>by rw [List.mem_singleton] at he;subst he;exact hk,List.pairwise_singleton _ _⟩ hs x).mono fun e w' ⟨h1,h2⟩=>⟨h1,h2.fr,aCj.mono (h2.get 0 rfl) (by cases aEV (u s) x<;>simp),fun k hk => .inl hk⟩
structure FirstOk (A:List Arc) (t:Nat→Option Int) (f:Bys) (m0 wi:Int) (P:Nat→Prop) (u:Bys→Option Int):Prop where
  own:u f=some 0
  snd:∀ s d,s≠f→u s=some d→∃ k m a,t k=some m∧A[k]?=some a∧a.2.1=s∧d=m-m0∧d≤wi
  cmp:∀ k m a,P k→t k=some m→A[k]?=some a→m-m0≤wi→∃ d,d≤m-m0∧u a.2.1=some d
theorem FirstOk.zero {A:List Arc}{t:Nat→Option Int}{f:Bys}{m0 wi:Int}{P:Nat→Prop}(hP:∀ k m,t k=some m→¬ P k):FirstOk A t f m0 wi P (aGd (fun _=>none) f 0) :=
  ⟨aCY _ _ _,fun s d hs h=>(by rw [aCu _ _ hs] at h;cases h),fun k m a h1 h2=>absurd h1 (hP k m h2)⟩
theorem FirstOk.step {A:List Arc}{t:Nat→Option Int}{f:Bys}{m0 wi:Int}{P Q:Nat→Prop}{u:Bys→Option Int}(h:FirstOk A t f m0 wi P u) {k:Nat}{m:Int}{a:Arc}(ht:t k=some m) (ha:A[k]?=some a) (hm:m0≤m) (hd:m-m0≤wi) (hQ:∀ j,Q j→P j∨j=k):FirstOk A t f m0 wi Q (bif aEV (u a.2.1) (m-m0) then aGd u a.2.1 (m-m0) else u):=by
  have hcm:∀ (s:Bys) d,u s=some d→∃ d',d'≤d∧(bif aEV (u a.2.1) (m-m0) then aGd u a.2.1 (m-m0) else u) s=some d':=by
    intro s d hs
    cases hb:aEV (u a.2.1) (m-m0) with
    | false=>exact ⟨d,Int.le_refl _,hs⟩
    | true =>
      by_cases e:s=a.2.1
      · subst e
        rw [hs] at hb;have:=of_decide_eq_true hb;exact ⟨m-m0,by omega,aCY _ _ _⟩
      · exact ⟨d,Int.le_refl _,by show aGd u a.2.1 (m-m0) s=_;rw [aCu _ _ e];exact hs⟩
  refine ⟨?_,fun s d hs hu=>?_,fun j m' b hj hj2 hj3 hj4=>?_⟩
  · cases hb:aEV (u a.2.1) (m-m0) with
    | false=>exact h.own
    | true =>
      show aGd u a.2.1 (m-m0) f=some 0
      by_cases e:f=a.2.1
      · rw [←e,h.own] at hb
        have:=of_decide_eq_true hb;omega
      · rw [aCu _ _ e];exact h.own
  · cases hb:aEV (u a.2.1) (m-m0) with
    | false=>rw [hb] at hu;exact h.snd s d hs hu
    | true =>
      rw [hb] at hu;have hu:aGd u a.2.1 (m-m0) s=some d:=hu
      by_cases e:s=a.2.1
      · subst e;rw [aCY] at hu;cases hu
        exact ⟨k,m,a,ht,ha,rfl,rfl,hd⟩
      · rw [aCu _ _ e] at hu;exact h.snd s d hs hu
  · rcases hQ j hj with hj | rfl
    · obtain ⟨d,h1,h2⟩:=h.cmp j m' b hj hj2 hj3 hj4
      obtain ⟨d',h3,h4⟩:=hcm _ _ h2;exact ⟨d',by omega,h4⟩
    · rw [ht] at hj2;cases hj2
      rw [ha] at hj3;cases hj3
      cases hb:aEV (u a.2.1) (m-m0) with
      | true=>exact ⟨m-m0,Int.le_refl _,aCY _ _ _⟩
      | false =>
        cases hu:u a.2.1 with
        | none=>rw [hu] at hb;cases hb
        | some y =>
          rw [hu] at hb;have:=of_decide_eq_false hb;exact ⟨y,by omega,hu⟩
theorem FirstOk.skip {A:List Arc}{t:Nat→Option Int}{f:Bys}{m0 wi:Int}{P Q:Nat→Prop}{u:Bys→Option Int}(h:FirstOk A t f m0 wi P u) {k:Nat}{m:Int}(ht:t k=some m) (hd:¬ m-m0≤wi) (hQ:∀ j,Q j→P j∨j=k):FirstOk A t f m0 wi Q u :=
  ⟨h.own,h.snd,fun j m' b hj hj2 hj3 hj4=>by
    rcases hQ j hj with hj | rfl
    · exact h.cmp j m' b hj hj2 hj3 hj4
    · rw [ht] at hj2;cases hj2;exact absurd hj4 hd⟩
def aCb (os:List ObR) (u:Bys→Option Int):List (Bys×Int):=os.flatMap fun b=>bif (u b.o.id).isSome&&(b.o.kind==1) then [(b.o.id,(u b.o.id).getD 0)] else []
theorem aEw {os:List ObR}{u:Bys→Option Int}{i:Nat}{y:ObR}(h:os[i]?=some y):aCb (os.take (i+1)) u=aCb (os.take i) u++bif (u y.o.id).isSome&&(y.o.kind==1) then [(y.o.id,(u y.o.id).getD 0)] else []:=by
  rw [gt_ h];unfold aCb;rw [List.flatMap_append];simp
theorem aLP (os:List ObR) (u:Bys→Option Int):(aCb os u).length≤os.length:=by
  induction os with
  | nil=>simp [aCb]
  | cons b os ih =>
    unfold aCb at ih ⊢;rw [List.flatMap_cons,List.length_append,List.length_cons];cases (u b.o.id).isSome&&(b.o.kind==1)<;>simp only [cond_true,cond_false,List.length_nil,List.length_singleton]<;>omega
def aNp (prof:Bys) (os:List ObR) (f:Bys) (wi m0 c:Int) (rows:List (Bys×Int)):Prop :=
  ((wi<0∨10080<wi)∧c=1∧rows=[])∨(¬ (wi<0∨10080<wi)∧¬ aEq os prof m0 [f]=0∧c=aEq os prof m0 [f]∧rows=[]) ∨
  (¬ (wi<0∨10080<wi)∧aEq os prof m0 [f]=0∧c=0∧∃ t u,Tab (aAf prof os f) m0 t∧FirstOk (AS os) t f m0 wi (fun _=>True) u∧rows=aCb os u)
abbrev A14 (Φ:Ending→World→Prop):=AtO Tryz.prog (aAr Tryz.f70) (aA2 (bodyPost Tryz.prog Tryz.f70 Φ)) [] 102
theorem aI6 {w:World}{v:Value}{os:List ObR}(hmv:aDy w v os) {prof f:Bys}(hp63:prof.length≤9223372036854775807) (hf63:B63 f) (hlen:aAe (aAa os)=true→(aAm os).length≤500) (hol:os.length≤1000000) (hTe:Te w) (wi m0:Int):Calls Tryz.prog 70 #[.agg #[v],vS prof,vS f,vI wi,vI m0] w fun e w'=>∃ v1 c rows,e = .returned (.tuple #[v1,vI c])∧aNp prof os f wi m0 c rows∧Mm (fun _=>False) w w' [rw_ rwL 2 90 v1 rows]:=by
  have hm0:=hmv;obtain ⟨hs0,hob⟩:=hm0;obtain ⟨p0,cp0,hp0,sp0⟩:=hs0.op;subst hp0;have bp0:=sp0.bnd;refine beg Tryz.func70 rfl rfl [(0,.agg #[vL p0 os.length cp0]),(1,vS prof),(2,vS f),(3,vI wi),(4,vI m0)] rfl rfl fun Φ hΦ=>?_;have hM:=Mm.nil (fun _=>False) w;refine aAn 0 0 5 [] (cs:=#[vL p0 os.length cp0]) (T:=24) (v:=fun b=>vP b 0) f0 hM fun ab w1 hM=>seg 1 3 [(24,vB (decide (wi<0)))] f0 ?_;cases ae:(decide (wi<0))
  rotate_left
  ·have aw:=dt ae;exact rt2 10 11 (vL none 0 0) (vI 1) rfl rfl f0 (hΦ _ _ ⟨_,_,[],rfl,.inl ⟨.inl (dt ae),rfl,rfl⟩,(hM.pick (M':=[]) []).row⟩)
  have aw:=df ae;refine seg 1 6 [(27,vB (decide (10080<wi)))] f0 ?_;cases af:(decide (10080<wi))
  rotate_left
  ·have ax:=dt af;exact rt2 10 11 (vL none 0 0) (vI 1) rfl rfl f0 (hΦ _ _ ⟨_,_,[],rfl,.inl ⟨.inr (dt af),rfl,rfl⟩,(hM.pick (M':=[]) []).row⟩)
  have ax:=df af;refine aAn 3 4 32 [(28,.agg #[vL p0 os.length cp0]),(29,vS prof),(30,vI m0),(31,vS f)] (cs:=#[vS f]) (T:=9) (v:=fun b=>vL (some ⟨b,0,none⟩) 1 1) (fc (lam 24 0 0 1 hM rfl) f0) hM fun ad w1 hM=>aAq 3 5 33 [] f0 hM (aEl (hmv.fr hM.fr) hp63 m0 (ids:=[f]) (aNW (f:=stL) (x:=f) (hM.get 1 rfl))) fun w1 hM=>seg 4 2 [(12,vI (aEq os prof m0 [f])),(35,vB (!((aEq os prof m0 [f])==0)))] f0 ?_;cases ag:((aEq os prof m0 [f])==0)
  ·have ay:=ef ag;exact rt2 10 11 (vL none 0 0) (vI (aEq os prof m0 [f])) rfl rfl f0 (hΦ _ _ ⟨_,_,[],rfl,.inr (.inl ⟨(fun h=>h.elim (df ae) (df af)),ef ag,rfl,rfl⟩),(hM.pick (M':=[]) []).row⟩)
  have ay:=et ag;have hchk:=et ag;obtain ⟨hvm,-,h0,h1,hany,hno⟩:=aMT hchk;have hnn:(AS os).length≤500:=Nat.le_trans (aFi _) (hlen hvm);have hNo:=aER (prof:=prof) (fun a ha=>aF7 (fun b hb=>(hmv.2 b hb).bnd) a (aDa ha):∀ a∈AS os,ArcB a) f
  skip
  refine aB3 6 2 39 [(37,.agg #[vL p0 os.length cp0]),(38,vS prof)] (K:=fun u Mn=>∃ bs ca bo br bb no nr nb qa T T2,u=vP bs 0∧(∀ s,aD7 T s=aCa (AS os) s)∧T2.map (·.1)=aBv os∧Mn=stM bs ca bo br bb no nr nb qa prof os T T2) [0,1] [] (fc (lam 24 0 0 1 hM rfl) f0) hM rfl rfl (by decide) (fun hm=>((aEC (hmv.fr hM.fr) hvm (by have:=hlen hvm;omega) (hTe.fr hM.fr)).mono fun e w8 ⟨bs,ca,bo,br,bb,no,nr,nb,qa,T,T2,h1,_,h2,h3,h4⟩=>⟨_,_,h1,⟨bs,ca,bo,br,bb,no,nr,nb,qa,T,T2,rfl,h2,h3,rfl⟩,aEL h4 fun _ h=>h.elim⟩)) fun u Mn w1 hK hM=>?_;obtain ⟨bs,ca,bo,br,bb,no,nr,nb,qa,T,T2,rfl,hTr,hT2,rfl⟩:=hK;have hM:=aJW (A:=[bk ab #[vL p0 os.length cp0] 24,bk ad #[vS f] 9,bk bs #[vS prof,vL qa (AS os).length ca,.map (some bo),.map (some br),.map (some bb)] 66,rw_ arL 4 68 (vL qa (AS os).length ca) (AS os)]) (Ms:=stR bo br bb no nr nb prof os T T2) hM;refine aFk 7 0 40 [(13,vP bs 0)] 9 f0 hM fun aa w1 hM=>ins 7 2 [(41,vS f)] 235 5 (vS f) (vI 0) f0 hM rfl aDw u235_ (aDx hf63) fun w1 hM=>aBD 7 5 14 [(43,.agg #[.map (some aa)])] [] 237 (.agg #[.map (some aa)]) f0 hM fun ac w1 hM=>?_;rw [aNR] at hM;refine aB3 8 3 47 [(44,vP bs 0),(45,vS f),(46,vI m0)] (K:=fun u Mn=>∃ b n t,u = .agg #[.map (some b)]∧Tab (aAf prof os f) m0 t∧Mn=[tbE b n t]) [0,1,2,3,4,5,6] [] f0 hM rfl rfl (by decide) (fun hm=>((aD3 (aLB hM (i:=2) (j:=3) (k:=4) rfl rfl rfl hmv hM.fr hT2) hT2 hTr hnn hf63 h0 (by omega)).mono fun e w8 ⟨b,n,t,h1,h2,h3⟩=>⟨_,_,h1,⟨b,n,t,rfl,h2,rfl⟩,aEL h3 fun _ h=>h.elim⟩)) fun u Mn w1 hK hM=>?_;obtain ⟨b,n,t,rfl,hT,rfl⟩:=hK;have hB:=aEW hNo h0 hT;have htb:∀ k m,t k=some m→0≤m∧m≤6000000000:=fun k m e=>⟨by have:=(hT.snd k m e).ge hNo h0;omega,(hT.snd k m e).le hNo h0⟩;refine rgm 8 5 49 [(48,.map (some b))] 58 7 (by decide) f0 hM rfl u58_ fun aj c341 w1 hM=>seg 9 0 [] f0 ?_
  have az:∀ (ao:Nat) (left:Value→Prop) (cnt:Nat) (u:Bys→Option Int) (nu:Nat) (w2:World),FirstOk (AS os) t f m0 wi (fun k=>¬ left (vI (k:Int))) u→Mm (fun _=>False) w w2 [bk ab #[vL p0 os.length cp0] 24,bk ad #[vS f] 9,bk bs #[vS prof,vL qa (AS os).length ca,.map (some bo),.map (some br),.map (some bb)] 66,rw_ arL 4 68 (vL qa (AS os).length ca) (AS os),aJG (stR bo br bb no nr nb prof os T T2),mp Tryz.prog 9 aa nu (aJr u),bk ac #[.map (some aa)] 237,aPv Tryz.prog 3 b aj n (aEF t) left cnt]→ao=cnt→A14 Φ (some (9,0)) [(49,vP aj 0),(14,vP ac 0),(13,vP bs 0),(5,vP ab 0),(3,vI wi),(4,vI m0)] w2:=by
   refine aBh fun ao ap left cnt u nu w2 hF hM aq=>nxm 9 0 50 [] 7 (by decide) f0 hM rfl (fun hno=>?_) (fun key345 val345 cnt345 w1 hleft345 hval345 hkey345 hcnt345 hM hent=>?_)
   · skip
     have hF:=(⟨hF.own,hF.snd,fun k m a _ h2 h3 h4=>hF.cmp k m a (hno _) h2 h3 h4⟩:FirstOk (AS os) t f m0 wi (fun _=>True) u);have hM:=hM.unrng (j:=7) rfl;have hM:=hM.row (f:=rwL) (c:=2) (E:=90);refine seg 15 0 [(17,vL none 0 0),(74,vL p0 os.length cp0),(75,vI (os.length:Int)),(76,vI 0)] (fc (ldm 22 0 0 hM rfl rfl) f0) ?_
     have a0:∀ (ar:Nat) (i:Nat) (vo:Value) (w2:World),i≤os.length→Mm (fun _=>False) w w2 [bk ab #[vL p0 os.length cp0] 24,bk ad #[vS f] 9,bk bs #[vS prof,vL qa (AS os).length ca,.map (some bo),.map (some br),.map (some bb)] 66,rw_ arL 4 68 (vL qa (AS os).length ca) (AS os),aJG (stR bo br bb no nr nb prof os T T2),mp Tryz.prog 9 aa nu (aJr u),bk ac #[.map (some aa)] 237,mp Tryz.prog 3 b n (aEF t),rw_ rwL 2 90 vo (aCb (os.take i) u)]→ar=os.length-i→A14 Φ (some (15,0)) [(76,vI (i:Int)),(75,vI (os.length:Int)),(74,vL p0 os.length cp0),(17,vo),(14,vP ac 0)] w2:=by
      refine aBh fun ar ak i vo w2 hi hM a7=>seg 15 1 [(77,vB (decide ((i:Int)<(os.length:Int))))] f0 ?_;cases au:(decide ((i:Int)<(os.length:Int)))
      ·have a1:=df au;exact rt2 10 11 vo (vI 0) rfl rfl f0 (hΦ _ _ ⟨_,_,_,rfl,.inr (.inr ⟨(fun h=>h.elim (df ae) (df af)),et ag,rfl,t,u,hT,hF,rfl⟩),(show aCb (os.take i) u=aCb os u by rw [List.take_of_length_le (by omega)])▸hM.pick (M':=[rw_ rwL 2 90 vo (aCb (os.take i) u)]) [8]⟩)
      have a1:=dt au;obtain ⟨y,hy,a8,a9,a2,a3⟩:=sp0.el (i:=i) (by omega);refine aBD 16 2 19 [(79,.agg #[vS y.o.id,vI y.o.kind,vI y.o.x,vI y.o.y,vL y.pr y.o.refs.length y.cr,vL y.pt y.o.tags.length y.ct])] [] 52 (.agg #[vS y.o.id,vI y.o.kind,vI y.o.x,vI y.o.y,vL y.pr y.o.refs.length y.cr,vL y.pt y.o.tags.length y.ct]) (fc (ix 22 cp0 a2 (gl hy)) (fc (la0 52 hM a3) f0)) hM fun ba w1 hM=>aAq 17 3 84 [(81,.agg #[.map (some aa)]),(83,vS y.o.id)] (fc (lam 237 6 0 1 hM rfl) (fc (ldm 9 9 0 hM rfl rfl) f0)) hM (aKi (hM.get 5 rfl) (hob _ (gm hy)).bnd.id) fun w1 hM=>seg 18 2 [(20,vI ((u y.o.id).getD 0)),(88,vB (u y.o.id).isSome)] f0 ?_
      cases al:(u y.o.id).isSome with
      | false =>
       refine seg 15 0 [(76,vI ((i:Int)+1))] (fc (aAh (i:Int) 1 u3_) f0) ?_;have hM:=hM.pick [0,1,2,3,4,5,6,7,8];replace hM:Mm (fun _=>False) w _ [bk ab #[vL p0 os.length cp0] 24,bk ad #[vS f] 9,bk bs #[vS prof,vL qa (AS os).length ca,.map (some bo),.map (some br),.map (some bb)] 66,_,_,_,bk ac #[.map (some aa)] 237,_,_]:=hM;obtain ⟨u1,hu1⟩:∃ z,z=vo:=⟨_,rfl⟩;rw [←hu1] at hM;have e1:(aCb (os.take i) u)=aCb (os.take (i+1)) u:=by rw [aEw hy];simp only [al,Bool.and_true,Bool.true_and,Bool.false_and,Bool.and_false,cond_true,cond_false,List.append_nil]<;>rfl
       rw [e1,hu1] at hM;exact aAb _ (ak _ (by have:=gl hy;omega) (i+1) vo _ (gl hy) hM rfl)
      | true =>
       refine seg 18 6 [(92,vB (y.o.kind==1))] (fc (ldm 3 9 1 hM rfl rfl) f0) ?_;cases ah:(y.o.kind==1)
       ·have a4:=ef ah;refine seg 15 0 [(76,vI ((i:Int)+1))] (fc (aAh (i:Int) 1 u3_) f0) ?_;have hM:=hM.pick [0,1,2,3,4,5,6,7,8];replace hM:Mm (fun _=>False) w _ [bk ab #[vL p0 os.length cp0] 24,bk ad #[vS f] 9,bk bs #[vS prof,vL qa (AS os).length ca,.map (some bo),.map (some br),.map (some bb)] 66,_,_,_,bk ac #[.map (some aa)] 237,_,_]:=hM;obtain ⟨u1,hu1⟩:∃ z,z=vo:=⟨_,rfl⟩;rw [←hu1] at hM;have e1:(aCb (os.take i) u)=aCb (os.take (i+1)) u:=by rw [aEw hy];simp only [al,ah,Bool.and_true,Bool.true_and,Bool.false_and,Bool.and_false,cond_true,cond_false,List.append_nil]<;>rfl
        rw [e1,hu1] at hM;exact aAb _ (ak _ (by have:=gl hy;omega) (i+1) vo _ (gl hy) hM rfl)
       have a4:=et ah;refine aAn 19 5 98 [(93,vo),(97,.agg #[vS y.o.id,vI ((u y.o.id).getD 0)])] (cs:=#[vS y.o.id,vI ((u y.o.id).getD 0)]) (T:=90) (v:=fun b=>vL (some ⟨b,0,none⟩) 1 1) (fc (ldm 9 9 0 hM rfl rfl) f0) hM fun bc w1 hM=>aKP 19 6 99 [] (cap:=1) (by decide) rwT f0 hM (j:=8) rfl (aAE (f:=rwL) (x:=(y.o.id,((u y.o.id).getD 0))) (hM.get 10 rfl) (Nat.lt_succ_self _)) (fun h=>by cases h) (by have:=aLP (os.take i) u;simp only [List.length_take,List.length_cons,List.length_nil] at this ⊢;omega) fun bd w1 hM=>?_;obtain ⟨am,an,a5,-⟩:=(hM.src (j:=8) rfl rwT.len).op;subst a5;refine seg 15 0 [(17,vL am ((aCb (os.take i) u)++[(y.o.id,((u y.o.id).getD 0))]).length an),(76,vI ((i:Int)+1))] (fc (aAh (i:Int) 1 u3_) f0) ?_;have hM:=hM.pick [0,1,2,3,4,5,6,7,8];replace hM:Mm (fun _=>False) w _ [bk ab #[vL p0 os.length cp0] 24,bk ad #[vS f] 9,bk bs #[vS prof,vL qa (AS os).length ca,.map (some bo),.map (some br),.map (some bb)] 66,_,_,_,bk ac #[.map (some aa)] 237,_,_]:=hM;obtain ⟨u1,hu1⟩:∃ z,z=vL am ((aCb (os.take i) u)++[(y.o.id,((u y.o.id).getD 0))]).length an:=⟨_,rfl⟩;rw [←hu1] at hM;have e1:((aCb (os.take i) u)++[(y.o.id,((u y.o.id).getD 0))])=aCb (os.take (i+1)) u:=by rw [aEw hy];simp only [al,ah,Bool.and_true,Bool.true_and,Bool.false_and,Bool.and_false,cond_true,cond_false,List.append_nil]<;>rfl
       rw [e1,hu1] at hM;exact aAb _ (ak _ (by have:=gl hy;omega) (i+1) (vL am ((aCb (os.take i) u)++[(y.o.id,((u y.o.id).getD 0))]).length an) _ (gl hy) hM rfl)
     exact aAb _ (a0 _ 0 (vL none 0 0) _ (Nat.zero_le _) hM rfl)
   · skip
     obtain ⟨k,m,ek,hkm,ev⟩:=aNQ hval345;subst ek;subst ev;obtain ⟨hkl,hm1⟩:k<(AS os).length∧0≤m∧m≤6000000000:=⟨(hT.snd k m hkm).lt,htb k m hkm⟩;have hmg:=(hT.snd k m hkm).ge hNo h0;obtain ⟨a,ha⟩:=geb (l:=AS os) (i:=k) hkl;refine aUl 10 0 52 [] (by decide) f0 (aO3 hent) (seg 11 5 [(15,vI (k:Int)),(16,vI m),(59,vB (decide ((m-m0)≤wi)))] (fc (aC8 m m0 u3_) f0) ?_);cases ai:(decide ((m-m0)≤wi))
     ·have a6:=df ai;refine seg 9 0 [] f0 (aAb _ (ap _ (by rw [aq];exact hcnt345) (fun x=>left x∧x≠(vI (k:Int))) cnt345 u nu _ (hF.skip hkm (df ai) (fun j hj=>by by_cases e:j=k;exact .inr e;exact .inl fun hl=>hj ⟨hl,fun e2=>e (by injection e2 with _ e3;exact Int.ofNat.inj e3)⟩)) hM rfl))
     have a6:=dt ai;refine seg 12 0 [] f0 ?_;obtain ⟨be,av,-⟩:=hM.el arT (j:=3) rfl ha;refine drx [12] (fun γ=>[some (vB (aEV (u a.2.1) (m-m0)))]) _ (fun γ l=>[bk ab #[vL p0 os.length cp0] 24,bk ad #[vS f] 9,bk bs #[vS prof,vL qa (AS os).length ca,.map (some bo),.map (some br),.map (some bb)] 66,rw_ arL 4 68 (vL qa (AS os).length ca) (AS os),aJG (stR bo br bb no nr nb prof os T T2),(bif l.getD 0 false then mp Tryz.prog 9 aa (nu+1) (aJr (bif aEV (u a.2.1) (m-m0) then aGd u a.2.1 (m-m0) else u)) else mp Tryz.prog 9 aa nu (aJr u)),bk ac #[.map (some aa)] 237,aPv Tryz.prog 3 b aj n (aEF t) (fun x=>left x∧x≠(vI (k:Int))) cnt345]) (fun γ=>[]) hM (fun γ=>rfl) (fun γ l w5 hM=>(fc (lam 237 6 0 1 hM rfl) (fc (ldm 34 2 1 hM rfl rfl) (fc (ix 34 ca av (gl ha)) (fc (ldr 9 3 1 arT hM rfl av ha rfl) (fc (aC8 m m0 u3_) f0)))))) ⟨aS1 0 12 5 72 (f:=117) (fun γ=>#[.agg #[.map (some aa)],vS a.2.1,vI (m-m0),.func (.func 118) #[] #[]]) (vB (aEV (u a.2.1) (m-m0))) (mp Tryz.prog 9 aa nu (aJr u)) (mp Tryz.prog 9 aa (nu+1) (aJr (bif aEV (u a.2.1) (m-m0) then aGd u a.2.1 (m-m0) else u))) (fun γ wm hH hf=>aG6 hH (aF7 (fun b hb=>(hmv.2 b hb).bnd) a (aDa (gm ha))).f2 (m-m0)),trivial⟩ fun bf w1 hM=>?_;replace hM:Mm (fun _=>False) w w1 [bk ab #[vL p0 os.length cp0] 24,bk ad #[vS f] 9,bk bs #[vS prof,vL qa (AS os).length ca,.map (some bo),.map (some br),.map (some bb)] 66,_,_,_,bk ac #[.map (some aa)] 237,_]:=hM;refine seg 9 0 [] f0 (aAb _ (ap _ (by rw [aq];exact hcnt345) (fun x=>left x∧x≠(vI (k:Int))) cnt345 (bif aEV (u a.2.1) (m-m0) then aGd u a.2.1 (m-m0) else u) (nu+1) _ (hF.step hkm ha (by omega) (dt ai) (fun j hj=>by by_cases e:j=k;exact .inr e;exact .inl fun hl=>hj ⟨hl,fun e2=>e (by injection e2 with _ e3;exact Int.ofNat.inj e3)⟩)) hM rfl))
  exact aAb _ (az _ (fun k=>((aEF t) k).isSome=true) c341 (aGd (fun _=>none) f 0) (0+1) _ (FirstOk.zero fun k m hk h9=>h9 (by show ((aEF t) (vI (k:Int))).isSome=true;rw [aI0,hk];rfl)) hM rfl)
theorem aKE {l:List ObR}{n:Int}(h:aDC (aAa l) n=true):∀ b∈l,b.o.refs.length≤12:=by
 intro b hb;unfold aDC at h;rw [Bool.and_eq_true] at h;have:=List.all_eq_true.1 h.2 b.o (List.mem_map.2 ⟨b,hb,rfl⟩);unfold aIq at this;simp only [Bool.and_eq_true,decide_eq_true_eq] at this;exact this.1.1.1.1
def aNy (c:Int) (mi:List Int):Option Int:=bif !(c==0)||((mi.length:Int)==0) then none else mi[mi.length-1]?
theorem aDo (w:World) (id:Bys) (k x y:Int) (hid:B63 id):ObIn w (⟨⟨id,k,x,y,[],[]⟩,none,0,none,0⟩:ObR) :=
 ⟨⟨Nat.le_refl _,Nat.zero_le _,.inl rfl,fun _=>rfl⟩,⟨Nat.le_refl _,Nat.zero_le _,.inl rfl,fun _=>rfl⟩,hid,fun _ h=>(by cases h),fun _ h=>(by cases h)⟩
def aT1 (N:Bys→Bool) (l:List Ob) (id:Bys):Option Ob:=l.foldl (fun r o=>bif ((o.kind==2)&&o.refs.all N)&&(o.id==id) then some o else r) none
theorem aRu (N:Bys→Bool) (os:List ObR) (id:Bys):(aFC N os id).map (·.o)=aT1 N (aAa os) id:=by
 have key:∀ (os:List ObR) (r:Option ObR),(os.foldl (fun r b=>bif ((b.o.kind==2)&&b.o.refs.all N)&&(b.o.id==id) then some b else r) r).map (·.o)=(aAa os).foldl (fun r o=>bif ((o.kind==2)&&o.refs.all N)&&(o.id==id) then some o else r) (r.map (·.o)):=by
  intro os
  induction os with
  | nil=>intro r;rfl
  | cons b os ih =>
   intro r;rw [List.foldl_cons,ih,show aAa (b::os)=b.o::aAa os from rfl,List.foldl_cons];cases ((b.o.kind==2)&&b.o.refs.all N)&&(b.o.id==id)<;>rfl
 exact key os none
def aPf (l:List Ob) (o:Ob):List Arc:=bif o.kind==2 then (match aT1 (aAw l) l o.id with | some c=>aFH l o.id c.refs | none=>[]) else []
def asP (l:List Ob):List Arc:=l.flatMap (aPf l)
def asQ (l:List Ob):List Arc:=aBF (asP l)
theorem aNi (os:List ObR):aAm os=asP (aAa os):=by
 unfold aAm asP
 have e:∀ b,aC7 os b=aPf (aAa os) b.o:=fun b=>by
  unfold aC7 aPf;rw [←aRu];cases aFC (aAw (aAa os)) os b.o.id<;>rfl
 rw [show aC7 os=fun b=>aPf (aAa os) b.o from funext e];show os.flatMap _=(os.map _).flatMap _;rw [List.flatMap_map]
theorem aNz (os:List ObR):AS os=asQ (aAa os):=by unfold asQ;rw [←aNi]
def aFK (prof:Bys) (l:List Ob) (id:Bys):Road:=match ((l.filter fun o=>o.kind==2).reverse).find? fun o=>o.id==id with
 | some o=>aAp prof o
 | none=>aRE
theorem aGB (prof:Bys) (os:List ObR) (id:Bys):aFJ prof os id=aFK prof (aAa os) id:=by
 unfold aFJ aFK
 have e:(((aAa os).filter fun o=>o.kind==2).reverse).find? (fun o=>o.id==id)=((aBv os).find? fun b=>b.o.id==id).map (·.o):=by
  unfold aBv aAa;rw [List.filter_map,←List.map_reverse,List.find?_map];rfl
 rw [e];cases (aBv os).find? (fun b=>b.o.id==id)<;>rfl
def aNf (prof:Bys) (l:List Ob):List Tri:=bif prof==aIp then [] else (l.filter fun o=>o.kind==5).map aRk
theorem aSy (prof:Bys) (os:List ObR):aB8 prof os=aNf prof (aAa os):=by
 unfold aB8 aNf aAa;rw [List.filter_map,List.map_map];rfl
def aIB (r:Road) (a:Arc) (minute:Int):Option Int :=
 bif r.closed||(r.oneway && !fwd a.1 a.2.1 r.refs)||decide (1000000000<minute) then none
 else bif r.limited then
  (bif !((aAu r.hours minute).2)||decide (1000000000<(aAu r.hours minute).1) then none else some ((aAu r.hours minute).1+(a.2.2.2+r.speed-1) / r.speed))
 else some (minute+(a.2.2.2+r.speed-1) / r.speed)
def aEo (prof:Bys) (l:List Ob) (a b:Arc):Bool:=(a.2.1==b.1) && !((aNf prof l).contains (a.2.2.1,a.2.1,b.2.2.1))
def aFl (prof:Bys) (l:List Ob) (f:Bys):NetW where
 n:=(asQ l).length
 st i:=match (asQ l)[i]? with | some a=>a.1==f | none=>false
 ps i m:=match (asQ l)[i]? with | some a=>aIB (aFK prof l a.2.2.1) a m | none=>none
 al i k:=match (asQ l)[i]?,(asQ l)[k]? with | some a,some b=>aEo prof l a b | _,_=>false
theorem aIG (prof:Bys) (os:List ObR) (f:Bys):aAf prof os f=aFl prof (aAa os) f:=by
 unfold aAf aFl
 have e1:∀ a m,aBq prof os a m=aIB (aFK prof (aAa os) a.2.2.1) a m:=fun a m=>by
  unfold aBq;rw [aGB];rfl
 have e2:∀ a b,aD6 prof os a b=aEo prof (aAa os) a b:=fun a b=>by
  unfold aD6 aEo;rw [aSy]
 simp only [e1,e2,aNz]<;>rfl
def aEf (l:List Ob) (id:Bys):Int:=match l[(aAi l id).toNat]? with
 | some o=>o.kind
 | none=>0
theorem aM3 (os:List ObR) (id:Bys):aK5 os id=aEf (aAa os) id:=by
 unfold aK5 aEf;rw [show (aAa os)[(aAi (aAa os) id).toNat]?=(os[(aAi (aAa os) id).toNat]?).map (·.o) from by unfold aAa;rw [List.getElem?_map]];cases os[(aAi (aAa os) id).toNat]?<;>rfl
def aDG (l:List Ob) (prof:Bys) (m0:Int) (ids:List Bys):Int :=
 bif !(aAe l)||(!(aBu prof)||(decide (m0<0)||decide (9999999<m0))) then 1
 else bif ids.any (fun id=>decide (aAi l id<0)) then 11
 else bif ids.any (fun id => !(aEf l id==1)) then 13 else 0
theorem aPE (os:List ObR) (prof:Bys) (m0:Int) (ids:List Bys):aEq os prof m0 ids=aDG (aAa os) prof m0 ids:=by
 unfold aEq aDG;rw [show aBH os=fun id => !(aEf (aAa os) id==1) from funext fun id=>by unfold aBH;rw [aM3]]
def aHe (prof:Bys) (l:List Ob) (f g:Bys) (m0 c:Int) (nd:List Bys) (mi:List Int):Prop :=
 (¬ aDG l prof m0 [f,g]=0∧c=aDG l prof m0 [f,g]∧nd=[]∧mi=[])∨(aDG l prof m0 [f,g]=0∧f=g∧c=0∧nd=[f]∧mi=[m0]) ∨
 (aDG l prof m0 [f,g]=0∧f≠g∧∃ t,Tab (aFl prof l f) m0 t∧((aAJ (asQ l) t g (asQ l).length=none∧c=12∧nd=[]∧mi=[]) ∨
  ∃ i,aAJ (asQ l) t g (asQ l).length=some i∧c=0∧nd=((bkP (aFl prof l f) m0 t i).map (toN (asQ l))++[f]).reverse∧mi=((bkP (aFl prof l f) m0 t i).map (fun j=>(t j).getD 0)++[m0]).reverse))
theorem aLt {prof:Bys}{os:List ObR}{f g:Bys}{m0 c:Int}{nd:List Bys}{mi:List Int}(h:aNo prof os f g m0 c nd mi):aHe prof (aAa os) f g m0 c nd mi:=by
 unfold aNo at h;rw [aPE,aIG,aNz] at h;exact h
def aDW (l:List Ob) (u:Bys→Option Int):List (Bys×Int):=l.flatMap fun o=>bif (u o.id).isSome&&(o.kind==1) then [(o.id,(u o.id).getD 0)] else []
def aEp (prof:Bys) (l:List Ob) (f:Bys) (wi m0 c:Int) (rows:List (Bys×Int)):Prop :=
 ((wi<0∨10080<wi)∧c=1∧rows=[])∨(¬ (wi<0∨10080<wi)∧¬ aDG l prof m0 [f]=0∧c=aDG l prof m0 [f]∧rows=[]) ∨
 (¬ (wi<0∨10080<wi)∧aDG l prof m0 [f]=0∧c=0∧∃ t u,Tab (aFl prof l f) m0 t∧FirstOk (asQ l) t f m0 wi (fun _=>True) u∧rows=aDW l u)
theorem aOp {prof:Bys}{os:List ObR}{f:Bys}{wi m0 c:Int}{rows:List (Bys×Int)}(h:aNp prof os f wi m0 c rows):aEp prof (aAa os) f wi m0 c rows:=by
 unfold aNp at h;rw [aPE,aIG,aNz] at h
 have e:∀ u,aCb os u=aDW (aAa os) u:=fun u=>by
  unfold aCb aDW aAa;rw [List.flatMap_map]
 simp only [e] at h;exact h
theorem aDi {l:List Ob}{prof:Bys}{m0:Int}{ids:List Bys}(h:aDG l prof m0 ids=0):aAe l=true∧aBu prof=true∧0≤m0∧m0≤9999999∧(∀ id∈ids,¬ aAi l id<0)∧∀ id∈ids,aEf l id=1:=by
 unfold aDG at h
 cases h1:(!(aAe l)||(!(aBu prof)||(decide (m0<0)||decide (9999999<m0)))) with
 | true=>rw [h1] at h;cases h
 | false =>
  rw [h1] at h;simp only [Bool.or_eq_false_iff,Bool.not_eq_false',decide_eq_false_iff_not] at h1
  cases h2:ids.any (fun id=>decide (aAi l id<0)) with
  | true=>rw [h2] at h;cases h
  | false =>
   rw [h2] at h
   cases h3:ids.any (fun id => !(aEf l id==1)) with
   | true=>rw [h3] at h;cases h
   | false =>
    rw [List.any_eq_false] at h2 h3;exact ⟨h1.1,h1.2.1,by omega,by omega,fun id hi=>by simpa using h2 id hi,fun id hi=>by simpa using h3 id hi⟩
theorem aEb {l:List Ob}(h:aAe l=true):∀ o∈l,aAG o=true:=by
 unfold aAe at h;rw [Bool.and_eq_true] at h;exact aGv h.1
def aTi (prof:Bys) (l:List Ob) (A:List Arc) (f:Bys):NetW where
 n:=A.length
 st i:=match A[i]? with | some a=>a.1==f | none=>false
 ps i m:=match A[i]? with | some a=>aIB (aFK prof l a.2.2.1) a m | none=>none
 al i k:=match A[i]?,A[k]? with | some a,some b=>aEo prof l a b | _,_=>false
theorem aMp (prof:Bys) (l:List Ob) (f:Bys):aFl prof l f=aTi prof l (asQ l) f:=rfl
def leB (t:Nat→Option Int) (k:Nat) (o:Option Int):Bool:=match o with
 | none=>true
 | some x=>match t k with
  | some y=>decide (y≤x)
  | none=>false
theorem aP5 {t:Nat→Option Int}{k:Nat}{o:Option Int}(h:leB t k o=true):∀ x,o=some x→∃ y,y≤x∧t k=some y:=by
 rintro x rfl;unfold leB at h
 cases ht:t k with
 | none=>rw [ht] at h;cases h
 | some y=>rw [ht] at h;exact ⟨y,of_decide_eq_true h,rfl⟩
def aUH (N:NetW) (m0:Int) (t:Nat→Option Int) (pr:Nat→Option Nat):Bool :=
 (List.range N.n).all fun i=>(!(N.st i)||leB t i (N.ps i m0))&&(match t i with
  | none=>true
  | some m=>((List.range N.n).all fun k => !(N.al i k)||leB t k (N.ps k m))&&decide (0≤m)&&(match pr i with
   | none=>N.st i&&(N.ps i m0==some m)
   | some j=>match t j with
    | some m'=>N.al j i&&(N.ps i m'==some m)&&decide (m'<m)
    | none=>false))
theorem aL2 {N:NetW}{m0:Int}{t:Nat→Option Int}{pr:Nat→Option Nat}(h:aUH N m0 t pr=true) (ho:∀ i,N.n≤i→t i=none):Tab N m0 t:=by
 have h9:∀ i,i<N.n→_:=fun i hi=>List.all_eq_true.1 h i (List.mem_range.2 hi)
 have hlt:∀ i m,t i=some m→i<N.n:=fun i m e=>by
  rcases Nat.lt_or_ge i N.n with q | q
  ·exact q
  ·rw [ho i q] at e;cases e
 have hsnd:∀ (k:Nat) i m,t i=some m→m.toNat≤k→Rch N m0 i m:=by
  intro k
  induction k using Nat.strongRecOn with
  | _ k ih =>
   intro i m e hk;have hi:=hlt i m e;have q:=h9 i hi;rw [Bool.and_eq_true,e] at q;have q:=q.2;simp only [Bool.and_eq_true,decide_eq_true_eq] at q;obtain ⟨⟨_,q2⟩,q3⟩:=q
   cases hp:pr i with
   | none =>
    rw [hp] at q3;simp only [Bool.and_eq_true,beq_iff_eq] at q3;exact .base hi q3.1 q3.2
   | some j =>
    rw [hp] at q3;simp only at q3
    cases hj:t j with
    | none=>rw [hj] at q3;cases q3
    | some m' =>
     rw [hj] at q3;simp only [Bool.and_eq_true,beq_iff_eq,decide_eq_true_eq] at q3;obtain ⟨⟨q4,q5⟩,q6⟩:=q3;have qj:=h9 j (hlt j m' hj);rw [Bool.and_eq_true,hj] at qj;have qj:=qj.2;simp only [Bool.and_eq_true,decide_eq_true_eq] at qj;have:=qj.1.2;exact .step (ih m'.toNat (by omega) j m' hj (Nat.le_refl _)) hi q4 q5
 refine ⟨fun i m e=>hsnd m.toNat i m e (Nat.le_refl _),fun i hi hs x hx=>?_,fun i m e k hk ha x hx=>?_⟩
 ·have q:=h9 i hi;rw [Bool.and_eq_true] at q;have q:=q.1;rw [hs] at q;exact aP5 q x hx
 ·have q:=h9 i (hlt i m e);rw [Bool.and_eq_true,e] at q;have q:=q.2;simp only [Bool.and_eq_true] at q;have q:=List.all_eq_true.1 q.1.1 k (List.mem_range.2 hk);rw [ha] at q;exact aP5 q x hx
def tbL (l:List (Option Int)):Nat→Option Int:=fun i=>(l[i]?).getD none
theorem aLz {l:List (Option Int)}{i:Nat}(h:l.length≤i):tbL l i=none:=by unfold tbL;rw [List.getElem?_eq_none h];rfl
theorem aQd:aCU 90000=300:=by
 unfold aCU;rw [show decide ((90000:Int)<0)=false from rfl];show ((aBE 90000:Nat):Int)=300;rw [aFf (r:=300) (by decide) (by decide)];rfl
section
variable {l:List Ob}
end
def car:Bys:=[99,97,114]
def cn (l:List Ob):List ObR:=l.map fun o=>⟨o,none,0,none,0⟩
theorem aLX (l:List Ob):aAa (cn l)=l:=by unfold aAa cn;rw [List.map_map];exact List.map_id l
theorem aD9 {prof:Bys}{l:List Ob}(h:∀ a∈asQ l,ArcB a) (f:Bys):(aFl prof l f).Ok 6000000000:=by
 have:=aER (prof:=prof) (os:=cn l) (by rw [aNz,aLX];exact h) f;rw [aIG,aLX] at this;exact this
theorem aDu (a:Bys):blt a a=false:=by
 have:=aNa a a
 cases h:Op.bytesLess a a with
 | false=>exact h
 | true=>rw [h] at this;simp at this
theorem aJQ:∀ {a b c:List UInt8},Op.bytesLess a b=true→Op.bytesLess b c=true→Op.bytesLess a c=true
 | [],_,[],h,k=>by
  rename_i b;cases b<;>simp [Op.bytesLess] at k
 | [],_,_::_,_,_=>by simp [Op.bytesLess]
 | _::_,[],_,h,_=>by simp [Op.bytesLess] at h
 | _::_,_::_,[],_,k=>by simp [Op.bytesLess] at k
 | x::a,y::b,z::c,h,k=>by
  unfold Op.bytesLess at h k ⊢
  by_cases h1:x<y
  ·by_cases k1:y<z
   ·simp [UInt8.lt_trans h1 k1]
   ·by_cases e:y=z
    ·subst e;simp [h1]
    ·simp [k1,e] at k
  ·by_cases e:x=y
   ·subst e;simp at h
    by_cases k1:x<z
    ·simp [k1]
    ·by_cases e2:x=z
     ·subst e2;simp at k;simpa using aJQ h k
     ·simp [k1,e2] at k
   ·simp [h1,e] at h
theorem aF4 {a b c:Bys}(h:blt a b=true) (k:blt b c=true):blt a c=true:=aJQ h k
theorem aMv {k:Bys}:∀ {l:List Ob},aMw k l=true→(∀ o∈l,blt k o.id=true)∧l.Pairwise fun x y=>blt x.id y.id=true
 | [],_=>⟨fun _ h=>(by cases h),.nil⟩
 | o::l,h=>by
  unfold aMw at h;simp only [Bool.and_eq_true] at h;obtain ⟨h1,h2⟩:=aMv (l:=l) h.2;refine ⟨fun x hx=>?_,List.pairwise_cons.2 ⟨h1,h2⟩⟩;rcases List.mem_cons.1 hx with rfl | hx
  ·exact h.1.2
  ·exact aF4 h.1.2 (h1 x hx)
theorem aB4 {l:List Ob}(h:aAe l=true):l.Pairwise fun x y=>blt x.id y.id=true:=by
 unfold aAe at h;rw [Bool.and_eq_true] at h;exact (aMv h.1).2
theorem aI8 {l:List Ob}(h:l.Pairwise fun x y=>blt x.id y.id=true) {a b:Ob}(ha:a∈l) (hb:b∈l) (e:a.id=b.id):a=b:=by
 obtain ⟨i,hi,rfl⟩:=List.mem_iff_getElem.1 ha;obtain ⟨j,hj,rfl⟩:=List.mem_iff_getElem.1 hb;rcases Nat.lt_trichotomy i j with q | q | q
 ·have:=List.pairwise_iff_getElem.1 h i j hi hj q;rw [e,aDu] at this;cases this
 ·subst q;rfl
 ·have:=List.pairwise_iff_getElem.1 h j i hj hi q;rw [e,aDu] at this;cases this
theorem aJt (l:List Ob) (w:Bys):∀ rs:List Bys,(aFH l w rs).length≤2*rs.length
 | []=>by simp [aFH]
 | [_]=>by simp [aFH]
 | a::b::t=>by
  have:=aJt l w (b::t);unfold aFH;simp only [List.length_cons] at this ⊢;omega
theorem aE1 {A:List Arc}{t:Nat→Option Int}{g:Bys}:∀ {n:Nat},n≤A.length→match aAJ A t g n with
  | none=>∀ k a,k<n→A[k]?=some a→a.2.1=g→t k=none
  | some i=>∃ a m,A[i]?=some a∧a.2.1=g∧t i=some m∧∀ k b m',k<n→A[k]?=some b→b.2.1=g→t k=some m'→m≤m'
 | 0,_=>fun k a hk=>absurd hk (Nat.not_lt_zero _)
 | n+1,hn=>by
  have ih:=aE1 (A:=A) (t:=t) (g:=g) (n:=n) (by omega);obtain ⟨a,ha⟩:=geb (l:=A) (i:=n) (by omega);rw [aB2 ha]
  cases hc:((t n).isSome&&(a.2.1==g)&&aFN t (aAJ A t g n) n) with
  | true =>
   simp only [cond_true];simp only [Bool.and_eq_true] at hc;obtain ⟨⟨h1,h2⟩,h3⟩:=hc;obtain ⟨m,hm⟩:=Option.isSome_iff_exists.1 h1;refine ⟨a,m,ha,et h2,hm,fun k b m' hk hb hg hm'=>?_⟩;rcases Nat.lt_succ_iff_lt_or_eq.1 hk with hk | rfl
   ·cases hl:aAJ A t g n with
    | none=>rw [hl] at ih;rw [ih k b hk hb hg] at hm';cases hm'
    | some j =>
     rw [hl] at ih h3;obtain ⟨a2,m2,_,_,h6,h7⟩:=ih;have h8:=h7 k b m' hk hb hg hm';have h9:(t n).getD 0<(t j).getD 0:=of_decide_eq_true h3;rw [hm,h6] at h9;have h9:m<m2:=h9;omega
   ·rw [hm] at hm';cases hm';exact Int.le_refl _
  | false =>
   simp only [cond_false]
   cases hl:aAJ A t g n with
   | none =>
    rw [hl] at ih hc;intro k b hk hb hg;rcases Nat.lt_succ_iff_lt_or_eq.1 hk with hk | rfl
    ·exact ih k b hk hb hg
    ·rw [ha] at hb;cases hb;rw [show (a.2.1==g)=true by simpa using hg] at hc
     cases ht:t k with
     | none=>rfl
     | some m=>rw [ht] at hc;cases hc
   | some j =>
    rw [hl] at ih hc;obtain ⟨a2,m2,h4,h5,h6,h7⟩:=ih;refine ⟨a2,m2,h4,h5,h6,fun k b m' hk hb hg hm'=>?_⟩;rcases Nat.lt_succ_iff_lt_or_eq.1 hk with hk | rfl
    ·exact h7 k b m' hk hb hg hm'
    ·rw [ha] at hb;cases hb;rw [show (a.2.1==g)=true by simpa using hg,hm'] at hc;have hc:decide ((t k).getD 0<(t j).getD 0)=false:=hc;have:=of_decide_eq_false hc;rw [hm',h6] at this;have:¬ m'<m2:=this;omega
def Arr (N:NetW) (A:List Arc) (m0:Int) (g:Bys) (x:Int):Prop:=(∃ i a,A[i]?=some a∧a.2.1=g∧Rch N m0 i x)∧∀ i a y,A[i]?=some a→a.2.1=g→Rch N m0 i y→x≤y
theorem aOO {c:Int}(hc:c=0) {L:List Int}{x m0:Int}:aNy c ((x::L)++[m0]).reverse=some x:=by
 subst hc;unfold aNy;rw [List.length_reverse,List.length_append,List.length_cons]
 have:(!((0:Int)==0)||(((L.length+1+[m0].length:Nat):Int)==0))=false:=by
  simp only [List.length_singleton,Bool.or_eq_false_iff,Bool.not_eq_false',beq_iff_eq,true_and];exact beq_eq_false_iff_ne.2 (by omega)
 rw [this,cond_false,List.getElem?_reverse (by simp)];simp
section
variable {prof f g:Bys}{l:List Ob}{m0 c:Int}{nd:List Bys}{mi:List Int}
theorem aNF (hok:∀ a∈asQ l,ArcB a) (h:aHe prof l f g m0 c nd mi) :
  (aNy c mi=none∧mi=[]∧¬ c=0∧((¬ aDG l prof m0 [f,g]=0∧c=aDG l prof m0 [f,g])∨(aDG l prof m0 [f,g]=0∧c=12∧f≠g∧∀ i a y,(asQ l)[i]?=some a→a.2.1=g→¬ Rch (aFl prof l f) m0 i y))) ∨
  (aDG l prof m0 [f,g]=0∧c=0∧((f=g∧aNy c mi=some m0∧mi=[m0])∨(f≠g∧∃ x,aNy c mi=some x∧Arr (aFl prof l f) (asQ l) m0 g x))):=by
 rcases h with ⟨h1,rfl,rfl,rfl⟩ | ⟨h1,h2,rfl,rfl,rfl⟩ | ⟨h1,h2,t,hT,h3⟩
 ·refine .inl ⟨?_,rfl,h1,.inl ⟨h1,rfl⟩⟩;unfold aNy;simp
 ·exact .inr ⟨h1,rfl,.inl ⟨h2,rfl,rfl⟩⟩
 ·have h0:=(aDi h1).2.2.1;have hN:=aD9 (prof:=prof) hok f;have hs:=aE1 (A:=asQ l) (t:=t) (g:=g) (Nat.le_refl _);rcases h3 with ⟨h4,rfl,rfl,rfl⟩ | ⟨i,h4,rfl,rfl,rfl⟩
  ·rw [h4] at hs;refine .inl ⟨rfl,rfl,by decide,.inr ⟨h1,rfl,h2,fun i a y ha hg hr=>?_⟩⟩;obtain ⟨z,_,hz⟩:=hT.le hN h0 hr;rw [hs i a (gl ha) ha hg] at hz;cases hz
  ·rw [h4] at hs;obtain ⟨a,m,ha,hg,hm,hmin⟩:=hs;refine .inr ⟨h1,rfl,.inr ⟨h2,m,?_,⟨i,a,ha,hg,hT.snd _ _ hm⟩,fun k b y hb hg2 hr=>?_⟩⟩
   ·obtain ⟨Tl,hTl⟩:∃ Tl,bkP (aFl prof l f) m0 t i=i::Tl:=⟨_,aIe (aEW hN h0 hT) (gl ha)⟩;rw [hTl,List.map_cons];exact (aOO rfl).trans (by rw [hm];rfl)
   ·obtain ⟨z,hz,hz2⟩:=hT.le hN h0 hr;have:=hmin k b z (gl hb) hb hg2 hz2;omega
end
theorem aMS {l:List Ob}{prof f g:Bys}{m0:Int}:(¬ aDG l prof m0 [f]=0→(aDG l prof m0 [f,g]=aDG l prof m0 [f]∨(aDG l prof m0 [f]=13∧aDG l prof m0 [f,g]=11))∧¬ aDG l prof m0 [f,g]=0)∧(aDG l prof m0 [f]=0→¬ aDG l prof m0 [f,g]=0→aAi l g<0∨¬ aEf l g=1):=by
 unfold aDG
 cases (!(aAe l)||(!(aBu prof)||(decide (m0<0)||decide (9999999<m0)))) with
 | true=>simp
 | false =>
  simp only [List.any_cons,List.any_nil,Bool.or_false,cond_false];have e1:decide (aAi l g<0)=false→¬ aAi l g<0:=of_decide_eq_false;have e2:(aEf l g==1)=false→¬ aEf l g=1:=fun h=>ef h;have e3:decide (aAi l g<0)=true→aAi l g<0:=of_decide_eq_true;cases h1:decide (aAi l f<0)<;>cases h2:decide (aAi l g<0)<;>cases h3:(aEf l f==1)<;>cases h4:(aEf l g==1)<;>simp_all
theorem aDr {l:List Ob}(hp:l.Pairwise fun x y=>blt x.id y.id=true) {o:Ob}(ho:o∈l):¬ aAi l o.id<0∧aEf l o.id=o.kind:=by
 have hn:¬ aAi l o.id<0:=by
  unfold aAi
  cases h:l.findIdx? (fun x=>x.id==o.id) with
  | none=>have:=List.findIdx?_eq_none_iff.1 h o ho;simp at this
  | some k=>show ¬ ((k:Nat):Int)<0;omega
 obtain ⟨k,o2,h1,h2,h3⟩:=aBl hn;refine ⟨hn,?_⟩;unfold aEf;rw [h1,Int.toNat_natCast,h2,aI8 hp (gm h2) ho h3]
theorem aCT {l:List Ob}{u:Bys→Option Int}{r:Bys×Int}:r∈aDW l u↔∃ o∈l,u o.id=some r.2∧o.kind=1∧r.1=o.id:=by
 unfold aDW;rw [List.mem_flatMap];constructor
 ·rintro ⟨o,ho,hr⟩
  cases h:(u o.id).isSome&&(o.kind==1) with
  | false=>rw [h] at hr;cases hr
  | true =>
   rw [h] at hr;simp only [cond_true,List.mem_singleton] at hr;rw [Bool.and_eq_true] at h;obtain ⟨d,hd⟩:=Option.isSome_iff_exists.1 h.1;subst hr;exact ⟨o,ho,by rw [hd];rfl,et h.2,rfl⟩
 ·rintro ⟨o,ho,h1,h2,h3⟩;refine ⟨o,ho,?_⟩;rw [h1,h2];show r∈[(o.id,r.2)];rw [List.mem_singleton,←h3]
theorem aJw {u:Bys→Option Int}:∀ {l:List Ob},(l.Pairwise fun x y=>blt x.id y.id=true)→(aDW l u).Pairwise fun x y=>blt x.1 y.1=true
 | [],_ => .nil
 | o::l,h=>by
  obtain ⟨h1,h2⟩:=List.pairwise_cons.1 h;have ih:=aJw (u:=u) h2;have e:aDW (o::l) u=(bif (u o.id).isSome&&(o.kind==1) then [(o.id,(u o.id).getD 0)] else [])++aDW l u:=rfl;rw [e]
  cases (u o.id).isSome&&(o.kind==1) with
  | false=>exact ih
  | true =>
   show ((o.id,(u o.id).getD 0)::aDW l u).Pairwise _;refine List.pairwise_cons.2 ⟨fun r hr=>?_,ih⟩;obtain ⟨o2,ho2,_,_,h3⟩:=aCT.1 hr;rw [h3];exact h1 o2 ho2
section
variable {prof f g:Bys}{l:List Ob}{n m0 c c2:Int}{rows:List (Bys×Int)}{nd2:List Bys}{mi2:List Int}
theorem aRm (hn:0≤n∧n≤10080) (hok:∀ a∈asQ l,ArcB a) (h:aEp prof l f n m0 c rows) (hc:c=0):(rows.Pairwise fun x y=>blt x.1 y.1=true)∧(∀ r∈rows,0≤r.2∧r.2≤n):=by
 rcases h with ⟨h1,_⟩ | ⟨_,h1,h3,_⟩ | ⟨_,h1,_,t,u,hT,hu,rfl⟩
 ·omega
 ·exact absurd (h3.symm.trans hc) h1
 ·obtain ⟨hv,_,h0,_⟩:=aDi h1;refine ⟨aJw (aB4 hv),fun r hr=>?_⟩;obtain ⟨o,ho,h2,_,_⟩:=aCT.1 hr
  by_cases e:o.id=f
  ·rw [e,hu.own] at h2;have:(0:Int)=r.2:=Option.some.inj h2;omega
  ·obtain ⟨k,m,a,q1,q2,q3,q4,q5⟩:=hu.snd _ _ e h2;have:=(hT.snd _ _ q1).ge (aD9 (prof:=prof) hok f) h0;omega
theorem aJU (hn:0≤n∧n≤10080) (hok:∀ a∈asQ l,ArcB a) (h:aEp prof l f n m0 c rows) (hc:c=0) (h2:aHe prof l f g m0 c2 nd2 mi2) {fo:Bool}{mn:Int}(hf1:fo=true→∃ r∈rows,r.1=g∧mn=r.2) (hf0:fo=false→∀ r∈rows,¬ r.1=g) :
  (mi2=[]→¬ c2=0∧fo=false)∧(¬ c2=0→fo=false)∧∀ x,aNy c2 mi2=some x→fo=decide (x-m0≤n)∧(fo=true→mn=x-m0):=by
 rcases h with ⟨h1,_⟩ | ⟨_,h1,h3,_⟩ | ⟨_,h1,_,t,u,hT,hu,rfl⟩
 ·omega
 ·exact absurd (h3.symm.trans hc) h1
 ·obtain ⟨hv,_,h0,_,_,_⟩:=aDi h1;have hN:=aD9 (prof:=prof) hok f;have hp:=aB4 hv
  have hrow:∀ r∈aDW l u,r.1=g→(¬ aAi l g<0∧aEf l g=1)∧u g=some r.2:=fun r hr e=>by
   obtain ⟨o,ho,q1,q2,q3⟩:=aCT.1 hr;obtain ⟨q4,q5⟩:=aDr hp ho;rw [←q3,e] at q4 q5 q1;exact ⟨⟨q4,q5.trans q2⟩,q1⟩
  have hthere:aDG l prof m0 [f,g]=0→∀ d,u g=some d→(g,d)∈aDW l u:=fun hc2 d hd=>by
   obtain ⟨_,_,_,_,q1,q2⟩:=aDi hc2;obtain ⟨k,o,e1,e2,e3⟩:=aBl (q1 g (by simp));have hk:=q2 g (by simp);rw [←e3,(aDr hp (gm e2)).2] at hk;exact aCT.2 ⟨o,gm e2,by rw [e3];exact hd,hk,e3.symm⟩
  rcases aNF hok h2 with ⟨p1,rfl,p3,p4⟩ | ⟨p1,p2,p3⟩
  ·have hfo:fo=false:=by
    cases hfo:fo with
    | false=>rfl
    | true =>
     obtain ⟨r,hr,e,_⟩:=hf1 hfo;obtain ⟨⟨q1,q2⟩,q3⟩:=hrow r hr e;rcases p4 with ⟨p4,_⟩ | ⟨_,_,p5,p6⟩
     ·rcases aMS.2 h1 p4 with q | q
      ·exact absurd q q1
      ·exact absurd q2 q
     ·obtain ⟨k,m,a,s1,s2,s3,_⟩:=hu.snd _ _ (fun e=>p5 e.symm) q3;exact absurd (hT.snd _ _ s1) (p6 k a m s2 s3)
   exact ⟨fun _=>⟨p3,hfo⟩,fun _=>hfo,fun x hx=>by rw [p1] at hx;cases hx⟩
  ·refine ⟨fun e=>?_,fun e=>absurd p2 e,fun x hx=>?_⟩
   ·rcases p3 with ⟨_,_,p4⟩ | ⟨_,x,p4,_⟩
    ·rw [e] at p4;cases p4
    ·rw [e] at p4;unfold aNy at p4;simp at p4
   ·rcases p3 with ⟨rfl,p4,_⟩ | ⟨p5,y,p4,⟨⟨i,a,ha,hg,hr⟩,hmin⟩⟩
    ·rw [p4] at hx;cases hx;have hin:=hthere p1 0 hu.own
     have hfo:fo=true:=by
      cases hfo:fo with
      | true=>rfl
      | false=>exact absurd rfl (hf0 hfo _ hin)
     refine ⟨by rw [hfo];exact (decide_eq_true (by omega)).symm,fun hfo=>?_⟩;obtain ⟨r,hr,e,e2⟩:=hf1 hfo;have:=(hrow r hr e).2;rw [hu.own] at this;have:(0:Int)=r.2:=Option.some.inj this;omega
    ·obtain rfl:x=y:=by rw [p4] at hx;exact (Option.some.inj hx).symm
     have hge:∀ d,u g=some d→x-m0≤d∧d≤n:=fun d hd=>by
      obtain ⟨k,m,b,s1,s2,s3,s4,s5⟩:=hu.snd _ _ (fun e=>p5 e.symm) hd;have:=hmin k b m s2 s3 (hT.snd _ _ s1);omega
     have hle:x-m0≤n→∃ d,d≤x-m0∧u g=some d:=fun hy=>by
      obtain ⟨z,hz,hz2⟩:=hT.le hN h0 hr;have:=hmin i a z ha hg (hT.snd _ _ hz2);obtain ⟨d,hd,hd2⟩:=hu.cmp i z a trivial hz2 ha (by omega);rw [hg] at hd2;exact ⟨d,by omega,hd2⟩
     cases hfo:fo with
     | true =>
      obtain ⟨r,hr2,e,e2⟩:=hf1 hfo;have:=hge _ (hrow r hr2 e).2;obtain ⟨d,hd,hd2⟩:=hle (by omega);have he:=(hrow r hr2 e).2;rw [hd2] at he;have he:d=r.2:=Option.some.inj he;exact ⟨(decide_eq_true (by omega)).symm,fun _=>by omega⟩
     | false =>
      refine ⟨(decide_eq_false fun hy=>?_).symm,fun h=>(by cases h)⟩;obtain ⟨d,hd,hd2⟩:=hle hy;exact hf0 hfo _ (hthere p1 d hd2) rfl
end
theorem aIW:∀ (a b:Bys),decide (Lib.compareBytes a b<0)=blt a b
  | [],[]=>rfl
  | [],_::_=>rfl
  | _::_,[]=>rfl
  | a::x,b::y=>by
    have ih:=aIW x y;show decide ((if a<b then (-1:Int) else if b<a then 1 else Lib.compareBytes x y)<0)=(decide (a<b)||a==b&&blt x y)
    by_cases h1:a<b
    · simp [h1]
    · by_cases h2:b<a
      · have h3:(a==b)=false:=by rw [beq_eq_false_iff_ne];rintro rfl;exact UInt8.lt_irrefl _ h2
        simp [h1,h2,h3]
      · have h3:a=b:=by
          rcases Nat.lt_trichotomy a.toNat b.toNat with h | h | h
          · exact absurd (UInt8.lt_iff_toNat_lt.2 h) h1
          · exact UInt8.toNat.inj h
          · exact absurd (UInt8.lt_iff_toNat_lt.2 h) h2
        rw [←ih];simp [h1,h2,h3]
theorem aIX:∀ (a b:Bys),(Lib.compareBytes a b==0)=(a==b)
  | [],[]=>rfl
  | [],_::_=>rfl
  | _::_,[]=>rfl
  | a::x,b::y=>by
    have ih:=aIX x y;simp only [Lib.compareBytes]
    by_cases h1:a<b
    · rw [if_pos h1]
      have:(a::x==b::y)=false:=by rw [beq_eq_false_iff_ne];intro e;injection e with e _;subst e;exact UInt8.lt_irrefl _ h1
      rw [this];rfl
    · rw [if_neg h1]
      by_cases h2:b<a
      · rw [if_pos h2]
        have:(a::x==b::y)=false:=by rw [beq_eq_false_iff_ne];intro e;injection e with e _;subst e;exact UInt8.lt_irrefl _ h2
        rw [this];rfl
      · rw [if_neg h2,ih]
        have h3:a=b:=by
          rcases Nat.lt_trichotomy a.toNat b.toNat with h | h | h
          · exact absurd (UInt8.lt_iff_toNat_lt.2 h) h1
          · exact UInt8.toNat.inj h
          · exact absurd (UInt8.lt_iff_toNat_lt.2 h) h2
        subst h3;simp
theorem aKJ (a b:Bys) (w:World):Calls Tryz.prog 64 #[vS a,vS b] w fun e w'=>e = .returned (vI (Lib.compareBytes a b))∧Fr (fun _=>False) w w' :=
  (Tryz.strings_Compare (ofL a) (ofL b) w).mono fun e w' ⟨h,h2⟩=>by
    subst h2;exact ⟨by rw [h];simp [ofL],Fr.refl _ _⟩
theorem aIi {w:World}(b:ObR) (s:Bys):Calls Tryz.prog 172 #[vA (obL b),vS s] w fun e w'=>e = .returned (vI (Lib.compareBytes b.o.id s))∧Fr (fun _=>False) w w':=by
  refine beg Tryz.func172 rfl rfl [(0,.agg #[vS b.o.id,vI b.o.kind,vI b.o.x,vI b.o.y,vL b.pr b.o.refs.length b.cr,vL b.pt b.o.tags.length b.ct]),(1,vS s)] rfl rfl fun Φ hΦ=>?_;have hM:=Mm.nil (fun _=>False) w;refine aAn 0 0 2 [] (cs:=#[vS b.o.id,vI b.o.kind,vI b.o.x,vI b.o.y,vL b.pr b.o.refs.length b.cr,vL b.pt b.o.tags.length b.ct]) (T:=52) (v:=fun b=>vP b 0) f0 hM fun aa w1 hM=>aAq 1 3 8 [(6,vS b.o.id),(7,vS s)] (fc (ldm 9 0 0 hM rfl rfl) f0) hM (aKJ b.o.id s _) fun w1 hM=>rt1 4 (vI (Lib.compareBytes b.o.id s)) rfl f0 (hΦ _ _ ⟨rfl,hM.fr⟩)
theorem aTt {l:List ObR}{s:Bys}{k:Nat}{y:ObR}(hv:(aAa l).Pairwise fun x y=>blt x.id y.id=true) (hy:l[k]?=some y) (h:decide (Lib.compareBytes y.o.id s<0)=true):∀ z q,z<k+1→l[z]?=some q→blt q.o.id s=true:=fun z q hz hq=>by
  rw [aIW] at h;rcases Nat.lt_succ_iff_lt_or_eq.1 hz with h9 | h9
  · have h1:=aA4 hq;have h2:=aA4 hy
    obtain ⟨a1,a2⟩:=List.getElem?_eq_some_iff.1 h1;obtain ⟨b1,b2⟩:=List.getElem?_eq_some_iff.1 h2;have:=List.pairwise_iff_getElem.1 hv z k a1 b1 h9;rw [a2,b2] at this;exact aF4 this h
  · subst h9;rw [hy] at hq;cases hq;exact h
theorem aTu {l:List ObR}{s:Bys}{k:Nat}{y:ObR}(hv:(aAa l).Pairwise fun x y=>blt x.id y.id=true) (hy:l[k]?=some y) (h:decide (Lib.compareBytes y.o.id s<0)=false):∀ z q,k≤z→l[z]?=some q→blt q.o.id s=false:=fun z q hz hq=>by
  rw [aIW] at h;rcases Nat.lt_or_ge k z with h9 | h9
  · have h1:=aA4 hy;have h2:=aA4 hq
    obtain ⟨a1,a2⟩:=List.getElem?_eq_some_iff.1 h1;obtain ⟨b1,b2⟩:=List.getElem?_eq_some_iff.1 h2;have:=List.pairwise_iff_getElem.1 hv k z a1 b1 h9;rw [a2,b2] at this
    cases h8:blt q.o.id s with
    | false=>rfl
    | true=>rw [aF4 this h8] at h;cases h
  · have e9:z=k:=by omega
    subst e9;rw [hy] at hq;cases hq;exact h
theorem aNh {l:List ObR}{s:Bys}{i:Nat}(hA:∀ z q,z<i→l[z]?=some q→blt q.o.id s=true) (hB:∀ z q,i≤z→l[z]?=some q→blt q.o.id s=false) (hv:(aAa l).Pairwise fun x y=>blt x.id y.id=true):(l.length≤i→aAi (aAa l) s<0)∧∀ y,l[i]?=some y→((y.o.id==s)=true→aAi (aAa l) s=(i:Int))∧((y.o.id==s)=false→aAi (aAa l) s<0):=by
  have key:∀ k o,aAi (aAa l) s=((k:Nat):Int)→(aAa l)[k]?=some o→o.id=s→∃ y,l[k]?=some y∧y.o.id=s∧i≤k:=by
    intro k o _ h2 h3;have hk:k<l.length:=by rw [←aA3];exact gl h2
    obtain ⟨y,hy⟩:=geb hk;have:=aA4 hy;rw [h2] at this;cases this;refine ⟨y,hy,h3,?_⟩;rcases Nat.lt_or_ge k i with h | h
    · have:=hA k y h hy;rw [h3,aDu] at this;cases this
    · exact h
  refine ⟨fun h=>?_,fun y hy=>⟨fun e=>?_,fun e=>?_⟩⟩
  · refine Classical.byContradiction fun hn=>?_
    obtain ⟨k,o,h1,h2,h3⟩:=aBl hn;obtain ⟨y,hy,_,h4⟩:=key k o h1 h2 h3;have:=gl hy;omega
  · have hn:¬ aAi (aAa l) s<0:=by
      intro hneg;unfold aAi at hneg
      cases h:(aAa l).findIdx? (fun o=>o.id==s) with
      | none=>have:=List.findIdx?_eq_none_iff.1 h y.o (gm (aA4 hy));rw [this] at e;cases e
      | some k=>rw [h] at hneg;have:((k:Nat):Int)<0:=hneg;omega
    obtain ⟨k,o,h1,h2,h3⟩:=aBl hn;obtain ⟨y2,hy2,h5,h4⟩:=key k o h1 h2 h3;rcases Nat.lt_or_ge i k with h | h
    · have h6:=aA4 hy;have h7:=aA4 hy2
      obtain ⟨a1,a2⟩:=List.getElem?_eq_some_iff.1 h6;obtain ⟨b1,b2⟩:=List.getElem?_eq_some_iff.1 h7;have:=List.pairwise_iff_getElem.1 hv i k a1 b1 h;rw [a2,b2,h5,et e,aDu] at this;cases this
    · have:k=i:=by omega
      rw [h1,this]
  · refine Classical.byContradiction fun hn=>?_
    obtain ⟨k,o,h1,h2,h3⟩:=aBl hn;obtain ⟨y2,hy2,h5,h4⟩:=key k o h1 h2 h3;rcases Nat.lt_or_ge i k with h | h
    · have h6:=aA4 hy;have h7:=aA4 hy2
      obtain ⟨a1,a2⟩:=List.getElem?_eq_some_iff.1 h6;obtain ⟨b1,b2⟩:=List.getElem?_eq_some_iff.1 h7;have:=List.pairwise_iff_getElem.1 hv i k a1 b1 h;rw [a2,b2,h5] at this;have h8:=hB i y (Nat.le_refl _) hy;rw [this] at h8;cases h8
    · have:k=i:=by omega
      subst this;rw [hy] at hy2;cases hy2;exact absurd h5 (ef e)
abbrev aUQ (Φ:Ending→World→Prop):=AtO Tryz.prog (aAr Tryz.f171) (aA2 (bodyPost Tryz.prog Tryz.f171 Φ)) [] 49
theorem aMZ {w:World}{v:Value}{os:List ObR}(hm:aDy w v os) (hlen:os.length≤400000000) (hv:(aAa os).Pairwise fun x y=>blt x.id y.id=true) (s:Bys):Calls Tryz.prog 171 #[v,vS s,.func (.func 172) #[] #[]] w fun e w'=>∃ (i:Nat) (b:Bool),e = .returned (.tuple #[vI (i:Int),vB b])∧(b=true→aAi (aAa os) s=(i:Int))∧(b=false→aAi (aAa os) s<0)∧Fr (fun _=>False) w w':=by
  have hm0:=hm;obtain ⟨hs0,hob⟩:=hm0;obtain ⟨p0,cp0,hp0,sp0⟩:=hs0.op;subst hp0;have bp0:=sp0.bnd;refine beg Tryz.func171 rfl rfl [(0,vL p0 os.length cp0),(1,vS s),(2,.func (.func 172) #[] #[])] rfl rfl fun Φ hΦ=>?_;have hM:=Mm.nil (fun _=>False) w;refine seg 3 0 [(8,vI (os.length:Int)),(9,vI 0),(10,vI (os.length:Int))] f0 ?_
  have ae:∀ (ac:Nat) (i:Nat) (j:Nat) (w2:World),i≤j→j≤os.length→(∀ z q,z<i→os[z]?=some q→blt q.o.id s=true)→(∀ z q,j≤z→os[z]?=some q→blt q.o.id s=false)→Mm (fun _=>False) w w2 []→ac=j-i→aUQ Φ (some (3,0)) [(10,vI (j:Int)),(9,vI (i:Int)),(8,vI (os.length:Int)),(0,vL p0 os.length cp0),(1,vS s),(2,.func (.func 172) #[] #[])] w2:=by
   refine aBh fun ac ad i j w2 hij hjl hA hB hM ak=>seg 3 3 [(17,vB (decide ((i:Int)<(j:Int))))] f0 ?_;cases h44:(decide ((i:Int)<(j:Int)))
   rotate_left
   ·have af:=dt h44;obtain ⟨y47,aa,al,am,q47,ag⟩:=sp0.el (i:=((i+j) / 2)) (by omega);refine aAq 5 6 30 [(11,vI ((((i+j) / 2:Nat)):Int)),(24,.func (.func 172) #[] #[]),(28,.agg #[vS y47.o.id,vI y47.o.kind,vI y47.o.x,vI y47.o.y,vL y47.pr y47.o.refs.length y47.cr,vL y47.pt y47.o.tags.length y47.ct]),(29,vS s)] (fc (aAh (i:Int) (j:Int) u3_) (fc (tou 198 ((i:Int)+(j:Int)) (by omega) (by omega)) (fc (aR2 198 (i+j) (by omega)) (fc (toi 198 ((((i+j) / 2:Nat)):Int) (by omega) (by omega)) (fc (ix 22 cp0 q47 (gl aa)) (fc (la0 52 hM ag) f0)))))) hM (aIi y47 s) fun w1 hM=>seg 5 8 [(31,vB (decide ((Lib.compareBytes y47.o.id s)<0)))] f0 ?_;cases h48:(decide ((Lib.compareBytes y47.o.id s)<0))
    ·have ah:=df h48;refine seg 3 0 [(10,vI ((((i+j) / 2:Nat)):Int))] f0 (aAb _ (ad _ (by omega) i ((i+j) / 2) _ (by omega) (by omega) hA (aTu hv aa h48) hM rfl))
    have ah:=dt h48;refine seg 3 0 [(9,vI (((((i+j) / 2:Nat)):Int)+1))] (fc (aAh ((((i+j) / 2:Nat)):Int) 1 u3_) f0) (aAb _ (ad _ (by omega) ((i+j) / 2+1) j _ (by omega) (by omega) (aTt hv aa h48) hB hM rfl))
   have af:=df h44;refine seg 8 5 [(35,vI (i:Int)),(39,vB (decide ((i:Int)<(os.length:Int))))] f0 ?_;cases h45:(decide ((i:Int)<(os.length:Int)))
   ·have ai:=df h45;have hji:i=j:=by omega
    subst hji;exact rt2 6 7 (vI (i:Int)) (vB false) rfl rfl f0 (hΦ _ _ ⟨i,false,rfl,(fun h=>by cases h),fun _=>(aNh hA hB hv).1 (by omega),hM.fr⟩)
   have ai:=dt h45;obtain ⟨y46,ab,an,ao,q46,aj⟩:=sp0.el (i:=i) (by omega);refine aAq 8 11 46 [(40,.func (.func 172) #[] #[]),(44,.agg #[vS y46.o.id,vI y46.o.kind,vI y46.o.x,vI y46.o.y,vL y46.pr y46.o.refs.length y46.cr,vL y46.pt y46.o.tags.length y46.ct]),(45,vS s)] (fc (ix 22 cp0 q46 (gl ab)) (fc (la0 52 hM aj) f0)) hM (aIi y46 s) fun w1 hM=>?_;have hji:i=j:=by omega
   subst hji;exact rt2 6 7 (vI (i:Int)) (vB ((Lib.compareBytes y46.o.id s)==0)) rfl rfl f0 (hΦ _ _ ⟨i,_,rfl,(fun h=>by rw [aIX] at h;exact ((aNh hA hB hv).2 y46 ab).1 h),(fun h=>by rw [aIX] at h;exact ((aNh hA hB hv).2 y46 ab).2 h),hM.fr⟩)
  exact aAb _ (ae _ 0 os.length _ (Nat.zero_le _) (Nat.le_refl _) (fun _ _ h=>absurd h (Nat.not_lt_zero _)) (fun z q h hq=>absurd (gl hq) (by omega)) hM rfl)
theorem aF6 {w:World}{v:Value}{os:List ObR}(hm:aDy w v os) (hlen:os.length≤400000000) (hv:(aAa os).Pairwise fun x y=>blt x.id y.id=true) (s:Bys):Calls Tryz.prog 124 #[.agg #[v],vS s] w fun e w'=>∃ (i:Nat) (b:Bool),e = .returned (.tuple #[vI (i:Int),vB b])∧(b=true→aAi (aAa os) s=(i:Int))∧(b=false→aAi (aAa os) s<0)∧Fr (fun _=>False) w w':=by
  have hm0:=hm;obtain ⟨hs0,hob⟩:=hm0;obtain ⟨p0,cp0,hp0,sp0⟩:=hs0.op;subst hp0;have bp0:=sp0.bnd;refine beg Tryz.func124 rfl rfl [(0,.agg #[vL p0 os.length cp0]),(1,vS s)] rfl rfl fun Φ hΦ=>?_;have hM:=Mm.nil (fun _=>False) w;refine aAn 0 0 2 [] (cs:=#[vL p0 os.length cp0]) (T:=24) (v:=fun b=>vP b 0) f0 hM fun aa w1 hM=>aOX 1 3 9 [(7,vL p0 os.length cp0),(8,vS s)] (K:=fun u w8=>∃ (i:Nat) (b:Bool),u = .tuple #[vI (i:Int),vB b]∧(b=true→aAi (aAa os) s=(i:Int))∧(b=false→aAi (aAa os) s<0)) (fc (ldm 22 0 0 hM rfl rfl) f0) hM ((aMZ (hm.fr hM.fr) hlen hv s).mono fun e w8 ⟨i,b,h1,h2,h3,h4⟩=>⟨⟨_,h1,i,b,rfl,h2,h3⟩,h4⟩) fun _ w1 ⟨i,b,hv9,hy9,hn9⟩ hM f1=>?_;subst hv9;exact rt2 4 5 (vI (i:Int)) (vB b) rfl rfl f0 (hΦ _ _ ⟨i,b,rfl,hy9,hn9,hM.fr⟩)
def aSZ (v:Value):List Value:=[v]
abbrev aUN (Φ:Ending→World→Prop):=AtO Tryz.prog (aAr Tryz.f223) (aA2 (bodyPost Tryz.prog Tryz.f223 Φ)) [] 19
theorem aK9 {w:World}{B:Nat}{p:Option Addr}{cap:Nat}{L:List Value}{f:FuncId}{caps:Array Value}{G:Nat→Prop}(hs:SrcB aSZ 1 w B p cap L) (hG:∀ k,G k→B≤k) (eg:aEM Tryz.prog f) (I:Nat→World→Prop) (q:Nat→Bool) (h0:I 0 w) (step:∀ i x w1,L[i]?=some x→(∀ j,j<i→q j=false)→I i w1→Fr G w w1→Calls Tryz.prog f (#[.agg #[x]]++caps) w1 fun e w2=>e = .returned (vB (q i))∧I (i+1) w2∧Fr G w1 w2):Calls Tryz.prog 223 #[vL p L.length cap,.func (.func f) #[] caps] w fun e w'=>(∃ z,e = .returned (vI z)∧Fst L q I w' z)∧Fr G w w':=by
  have bb:=hs.bnd;refine beg Tryz.func223 rfl rfl [(0,vL p L.length cap),(1,.func (.func f) #[] caps)] rfl rfl fun Φ hΦ=>?_;have hM:=Mm.nil G w;refine seg 2 0 [(7,vI (L.length:Int)),(8,vI 0)] f0 ?_
  have ac:∀ (ab:Nat) (i:Nat) (w2:World),i≤L.length→(∀ j,j<i→q j=false)→I i w2→Mm G w w2 []→ab=L.length-i→aUN Φ (some (2,0)) [(8,vI (i:Int)),(7,vI (L.length:Int)),(0,vL p L.length cap),(1,.func (.func f) #[] caps)] w2:=by
   refine aBh fun ab ad i w2 hi hq hI hM ag=>seg 2 1 [(9,vB (decide ((i:Int)<(L.length:Int))))] f0 ?_;cases h53:(decide ((i:Int)<(L.length:Int)))
   ·have ae:=df h53;exact rt1 4 (vI (-1)) rfl f0 (hΦ _ _ ⟨⟨_,rfl,.end_ (by omega) hq hI⟩,hM.fr⟩)
   have ae:=dt h53;obtain ⟨y54,aa,ah,ai,q54,af,n54⟩:=(hs).eb hG (i:=i) (by omega);refine aSu 4 5 16 [(5,vI (i:Int)),(11,.func (.func f) #[] caps),(15,.agg #[y54])] #[24] (K:=fun u w9=>u=vB (q i)∧I (i+1) w9∧Fr G w2 w9) (by decide) (fc (ix 293 cap q54 (gl aa)) (fc (la0 24 hM af n54) f0)) eg ((step i y54 _ aa hq hI hM.fr).mono fun e w9 h=>⟨_,h.1,rfl,h.2⟩) fun u w1 ⟨hu,hI,f1⟩=>?_;subst hu;have hM:=hM.g f1;cases h55:(q i)
   ·refine seg 2 0 [(8,vI ((i:Int)+1))] (fc (aAh (i:Int) 1 u3_) f0) (aAb _ (ad _ (by omega) (i+1) _ (gl aa) (fun j hj=>by rcases Nat.lt_succ_iff_lt_or_eq.1 hj with h | h;exact hq j h;rw [h];exact h55) hI hM rfl))
   exact rt1 4 (vI (i:Int)) rfl f0 (hΦ _ _ ⟨⟨_,rfl,.some i (gl aa) h55 hq hI⟩,hM.fr⟩)
  exact aAb _ (ac _ 0 _ (Nat.zero_le _) (fun _ h=>absurd h (Nat.not_lt_zero _)) h0 hM rfl)
theorem aMW {w:World}{B:Nat}{p:Option Addr}{cap:Nat}{L:List Value}{f:FuncId}{caps:Array Value}{G:Nat→Prop}(hs:SrcB aSZ 1 w B p cap L) (hG:∀ k,G k→B≤k) (eg:aEM Tryz.prog f) (I:Nat→World→Prop) (q:Nat→Bool) (h0:I 0 w) (step:∀ i x w1,L[i]?=some x→(∀ j,j<i→q j=false)→I i w1→Fr G w w1→Calls Tryz.prog f (#[.agg #[x]]++caps) w1 fun e w2=>e = .returned (vB (q i))∧I (i+1) w2∧Fr G w1 w2):Calls Tryz.prog 169 #[vL p L.length cap,.func (.func f) #[] caps] w fun e w'=>(∃ z,e = .returned (vB (decide (0≤z)))∧Fst L q I w' z)∧Fr G w w':=by
  refine beg Tryz.func169 rfl rfl [(0,vL p L.length cap),(1,.func (.func f) #[] caps)] rfl rfl fun Φ hΦ=>?_;have hM:=Mm.nil G w;refine cal 1 2 7 [(5,vL p L.length cap),(6,.func (.func f) #[] caps)] (K:=fun u w8=>∃ z,u=vI z∧Fst L q I w8 z∧Fr G w w8) f0 ((aK9 hs hG eg I q h0 step).mono fun e w9 h=>⟨_,h.1.choose_spec.1,_,rfl,h.1.choose_spec.2,h.2⟩) fun u w1 ⟨z,hu,hz,f1⟩=>?_;subst hu;have hM:=hM.g f1;exact rt1 4 (vB (decide (0≤z))) rfl f0 (hΦ _ _ ⟨⟨_,rfl,hz⟩,hM.fr⟩)
theorem aGw {w:World}{v:Value}{os:List ObR}(hm:aDy w v os):Calls Tryz.prog 170 #[.agg #[v]] w fun e w'=>e = .returned (vB (!(aAe (aAa os))))∧Fr (fun _=>False) w w':=by
  refine beg Tryz.func170 rfl rfl [(0,.agg #[v])] rfl rfl fun Φ hΦ=>?_;have hM:=Mm.nil (fun _=>False) w;refine aAn 0 0 1 [] (cs:=#[v]) (T:=24) (v:=fun b=>vP b 0) f0 hM fun aa w1 hM=>aAq 1 1 4 [(3,.agg #[v])] (fc (lam 24 0 0 1 hM rfl) f0) hM (aB5 (hm.fr hM.fr)) fun w1 hM=>rt1 2 (vB (!(aAe (aAa os)))) rfl f0 (hΦ _ _ ⟨rfl,hM.fr⟩)
theorem aQG {α:Type}{x:α}{b:Bool}{I:Nat→World→Prop}{w:World}{z:Int}(h:Fst [x] (fun _=>b) I w z):decide (0≤z)=b:=by
  cases h with
  | none h _=>have:=h 0 (by simp);rw [this];rfl
  | some i h1 h2 _ _=>rw [h2,decide_eq_true (by omega)]
theorem aHn {w:World}{v:Value}{os:List ObR}(hm:aDy w v os) {bl:Nat}(hb:w.heap[bl]?=some (.cells #[v] 24 (0,0))):Calls Tryz.prog 123 #[vL (some ⟨bl,0,none⟩) 1 1] w fun e w'=>e = .returned (vB (aAe (aAa os)))∧Fr (fun _=>False) w w':=by
  refine beg Tryz.func123 rfl rfl [(0,vL (some ⟨bl,0,none⟩) 1 1)] rfl rfl fun Φ hΦ=>?_;have hM:=Mm.nil (fun _=>False) w;refine aAq 1 1 4 [(3,vL (some ⟨bl,0,none⟩) 1 1)] f0 hM ((aMW (caps:=#[]) ((aCR (f:=aSZ) (c:=1) (hb.trans rfl) [v] 1 (fun _=>rfl) rfl rfl).b (Fr.refl _ _)) (G:=fun _=>False) (fun _ h=>h.elim) (enters_of Tryz.func170 (by kernel_rfl) rfl) (fun _ _=>True) (fun _ => !(aAe (aAa os))) trivial (fun i x w1 hx _ _ f=>by have hx0:=gl hx;have hi0:i=0:=(by simpa using hx0);subst hi0;cases hx;exact (aGw (hm.fr f)).mono fun e w2 h=>⟨h.1,trivial,h.2⟩)).mono fun e w9 h=>⟨by obtain ⟨z,h1,h2⟩:=h.1;rw [h1,aQG h2],h.2⟩) fun w1 hM=>rt1 2 (vB (!(!(aAe (aAa os))))) rfl f0 (hΦ _ _ ⟨by simp,hM.fr⟩)
theorem ptT:ElT Tryz.prog ptL 2 143 41:=⟨fun _=>rfl,by decide,fun x u hu=>by
  unfold ptL at hu;simp only [List.mem_cons,List.not_mem_nil,or_false] at hu;rcases hu with rfl | rfl<;>rfl,Tryz.underlying143,aBj (by kernel_rfl)⟩
def aD0 (l:List Ob) (s:Bys):Option Pt:=match l[(aAi l s).toNat]? with
  | some o=>bif decide (aAi l s<0) || !(o.kind==1) then none else some (o.x,o.y)
  | none=>none
def aAI (l:List Ob) (o:Ob):Int×List Pt :=
  bif o.kind==1 then (0,[(o.x,o.y)]) else bif (o.kind==2)||(o.kind==3) then (bif o.refs.all fun r=>(aD0 l r).isSome then (0,o.refs.map fun r=>(aD0 l r).getD (0,0)) else (14,[])) else (13,[])
def aAd (l:List Ob) (s:Bys):Int×List Pt :=
  bif !(aAe l) then (1,[]) else bif decide (aAi l s<0) then (11,[]) else match l[(aAi l s).toNat]? with
    | some o=>aAI l o
    | none=>(11,[])
theorem aRb {l:List ObR}{s:Bys}{i:Nat}(h:aAi (aAa l) s=(i:Int)):i<l.length:=by
  obtain ⟨k,o,h1,h2,_⟩:=aBl (l:=aAa l) (id:=s) (by omega);have:=gl h2;rw [aA3] at this;omega
theorem aKt {l:List ObR}{s:Bys}{i:Nat}{y:ObR}(hv:aAe (aAa l)=true) (h:aAi (aAa l) s=(i:Int)) (hy:l[i]?=some y):aAd (aAa l) s=aAI (aAa l) y.o:=by
  unfold aAd;rw [hv,h,decide_eq_false (by omega),Int.toNat_natCast,aA4 hy];rfl
theorem aGF {l:List ObR}{s:Bys}{i:Nat}{y:ObR}(h:aAi (aAa l) s=(i:Int)) (hy:l[i]?=some y):aD0 (aAa l) s=bif !(y.o.kind==1) then none else some (y.o.x,y.o.y):=by
  unfold aD0;rw [h,decide_eq_false (by omega),Int.toNat_natCast,aA4 hy];rfl
theorem aLY {l:List Ob}{s:Bys}(h:aAi l s<0):aD0 l s=none:=by
  unfold aD0;rw [decide_eq_true h];split<;>rfl
theorem aJS {rs:List Bys}{q:Bys→Bool}{i:Nat}{x:Bys}(h:rs[i]?=some x) (ha:(rs.take i).all q=true) (hx:q x=true):(rs.take (i+1)).all q=true:=by
  rw [gt_ h,List.all_append,ha];simp [hx]
theorem aJz {o:Ob}(h:aAG o=true):o.refs.length≤2000:=by
  unfold aAG at h;simp only [Bool.and_eq_true,Bool.not_eq_true',decide_eq_false_iff_not] at h;have:=h.1.1.2;omega
theorem aJT {rs:List Bys}{q:Bys→Bool}{i:Nat}{x:Bys}(h:rs[i]?=some x) (hx:q x=false):rs.all q=false:=by
  rw [List.all_eq_false];exact ⟨x,gm h,by rw [hx];decide⟩
abbrev A76 (Φ:Ending→World→Prop):=AtO Tryz.prog (aAr Tryz.f76) (aA2 (bodyPost Tryz.prog Tryz.f76 Φ)) [] 76
theorem aH9 {w:World}{v:Value}{os:List ObR}(hm:aDy w v os) (hlen:os.length≤400000000) (s:Bys):Calls Tryz.prog 76 #[.agg #[v],vS s] w fun e w'=>∃ u,e = .returned (.tuple #[u,vI (aAd (aAa os) s).1])∧Mm (fun _=>False) w w' [rw_ ptL 2 41 u (aAd (aAa os) s).2]:=by
  have hm0:=hm;obtain ⟨hs0,hob⟩:=hm0;obtain ⟨p0,cp0,hp0,sp0⟩:=hs0.op;subst hp0;have bp0:=sp0.bnd;refine beg Tryz.func76 rfl rfl [(0,.agg #[vL p0 os.length cp0]),(1,vS s)] rfl rfl fun Φ hΦ=>?_;have hM:=Mm.nil (fun _=>False) w;refine aAn 0 0 2 [] (cs:=#[vL p0 os.length cp0]) (T:=24) (v:=fun b=>vP b 0) f0 hM fun ac w1 hM=>aAn 1 1 15 [(14,.agg #[vL p0 os.length cp0])] (cs:=#[vL p0 os.length cp0]) (T:=24) (v:=fun b=>vL (some ⟨b,0,none⟩) 1 1) (fc (lam 24 0 0 1 hM rfl) f0) hM fun ae w1 hM=>aAq 1 2 16 [] f0 hM (aHn (hm.fr hM.fr) (hM.get 1 rfl)) fun w1 hM=>seg 1 4 [(17,vB (!(aAe (aAa os))))] f0 ?_;cases h59:(aAe (aAa os))
  ·exact rt2 4 5 (vL none 0 0) (vI 1) rfl rfl f0 (hΦ _ _ ⟨_,by unfold aAd;rw [h59];rfl,by unfold aAd;rw [h59];exact (hM.pick (M':=[]) []).row⟩)
  have hvm:=h59;refine aOX 3 2 21 [(19,.agg #[vL p0 os.length cp0]),(20,vS s)] (K:=fun u w8=>∃ (i:Nat) (b:Bool),u = .tuple #[vI (i:Int),vB b]∧(b=true→aAi (aAa os) s=(i:Int))∧(b=false→aAi (aAa os) s<0)) (fc (lam 24 0 0 1 hM rfl) f0) hM ((aF6 (hm.fr hM.fr) hlen (aB4 hvm) s).mono fun e w8 ⟨i,b,h1,h2,h3,h4⟩=>⟨⟨_,h1,i,b,rfl,h2,h3⟩,h4⟩) fun _ w1 ⟨i60,am,hv9,av,hn60⟩ hM f1=>?_;subst hv9;refine seg 4 2 [(6,vI (i60:Int)),(25,vB (!am))] f0 ?_
  cases h61:am with
  | false =>
   have hfi60:=hn60 h61;exact rt2 4 5 (vL none 0 0) (vI 11) rfl rfl f0 (hΦ _ _ ⟨_,by unfold aAd;rw [hvm,decide_eq_true hfi60];rfl,by unfold aAd;rw [hvm,decide_eq_true hfi60];exact (hM.pick (M':=[]) []).row⟩)
  | true =>
   have hfi60:=av h61;have hli60:=aRb hfi60;obtain ⟨y62,ad,bd,be,q62,aw⟩:=sp0.el (i:=i60) (by omega);refine aBD 6 5 8 [(30,.agg #[vS y62.o.id,vI y62.o.kind,vI y62.o.x,vI y62.o.y,vL y62.pr y62.o.refs.length y62.cr,vL y62.pt y62.o.tags.length y62.ct])] [] 52 (.agg #[vS y62.o.id,vI y62.o.kind,vI y62.o.x,vI y62.o.y,vL y62.pr y62.o.refs.length y62.cr,vL y62.pt y62.o.tags.length y62.ct]) (fc (ldm 22 0 0 hM rfl rfl) (fc (ix 22 cp0 q62 (gl ad)) (fc (la0 52 hM aw) f0))) hM fun af w1 hM=>?_;have hpo:=aKt hvm hfi60 ad;have hrl:=aJz (aEb hvm _ (List.mem_map.2 ⟨_,gm ad,rfl⟩));refine seg 8 2 [(32,vI y62.o.kind),(33,vB (y62.o.kind==1))] (fc (ldm 3 2 1 hM rfl rfl) f0) ?_;cases h64:(y62.o.kind==1)
   rotate_left
   ·have ax:=et h64;refine aAn 9 2 37 [(36,.agg #[vI y62.o.x,vI y62.o.y])] (cs:=#[vI y62.o.x,vI y62.o.y]) (T:=41) (v:=fun b=>vL (some ⟨b,0,none⟩) 1 1) (fc (lam 41 2 2 2 hM rfl) f0) hM fun ay w1 hM=>?_;have hM:=aGP hM (f:=ptL) (c:=2) (j:=3) rfl [((y62.o.x,y62.o.y):Pt)] 1 rfl rfl rfl;exact rt2 4 5 (vL (some ⟨ay,0,none⟩) 1 1) (vI 0) rfl rfl f0 (hΦ _ _ ⟨_,by rw [hpo];unfold aAI;simp only [h64]<;>rfl,by rw [hpo];unfold aAI;simp only [h64];exact hM.pick [3]⟩)
   have ax:=ef h64;refine seg 10 2 [(38,vB (y62.o.kind==2))] f0 ?_;cases h65:(y62.o.kind==2)
   rotate_left
   ·have az:=et h65;have hM:=hM.row (f:=ptL) (c:=2) (E:=41);refine seg 14 0 [(9,vL none 0 0),(42,vL y62.pr y62.o.refs.length y62.cr),(43,vI (y62.o.refs.length:Int)),(44,vI 0)] (fc (ldm 27 2 4 hM rfl rfl) f0) ?_
    have a0:∀ (an:Nat) (i:Nat) (vo:Value) (w2:World),i≤y62.o.refs.length→(y62.o.refs.take i).all (fun r=>(aD0 (aAa os) r).isSome)=true→Mm (fun _=>False) w w2 [bk ac #[vL p0 os.length cp0] 24,bk ae #[vL p0 os.length cp0] 24,bk af #[vS y62.o.id,vI y62.o.kind,vI y62.o.x,vI y62.o.y,vL y62.pr y62.o.refs.length y62.cr,vL y62.pt y62.o.tags.length y62.ct] 52,rw_ ptL 2 41 vo ((y62.o.refs.take i).map fun r=>(aD0 (aAa os) r).getD (0,0))]→an=y62.o.refs.length-i→A76 Φ (some (14,0)) [(44,vI (i:Int)),(43,vI (y62.o.refs.length:Int)),(42,vL y62.pr y62.o.refs.length y62.cr),(9,vo),(2,vP ac 0)] w2:=by
     refine aBh fun an a1 i vo w2 hi ha hM bf=>seg 14 1 [(45,vB (decide ((i:Int)<(y62.o.refs.length:Int))))] f0 ?_;cases h82:(decide ((i:Int)<(y62.o.refs.length:Int)))
     ·have a2:=df h82;have hti:y62.o.refs.take i=y62.o.refs:=List.take_of_length_le (by omega);rw [hti] at ha hM;exact rt2 4 5 vo (vI 0) rfl rfl f0 (hΦ _ _ ⟨_,by rw [hpo];unfold aAI;simp only [h64,h65,ha]<;>rfl,by rw [hpo];unfold aAI;simp only [h64,h65,ha];exact hM.pick [3]⟩)
     have a2:=dt h82;have s83:=(hob _ (gm ad)).refs;have bg:=s83.bnd;obtain ⟨y84,aa,bh,bi,q84,a3⟩:=s83.el (i:=i) (by omega);refine aOX 16 2 51 [(49,.agg #[vL p0 os.length cp0]),(50,vS y84)] (K:=fun u w8=>∃ (i:Nat) (b:Bool),u = .tuple #[vI (i:Int),vB b]∧(b=true→aAi (aAa os) y84=(i:Int))∧(b=false→aAi (aAa os) y84<0)) (fc (ix 27 y62.cr q84 (gl aa)) (fc (ld0 9 hM (a3 0 _ rfl)) (fc (lam 24 0 0 1 hM rfl) f0))) hM ((aF6 (hm.fr hM.fr) hlen (aB4 hvm) y84).mono fun e w8 ⟨i,b,h1,h2,h3,h4⟩=>⟨⟨_,h1,i,b,rfl,h2,h3⟩,h4⟩) fun _ w1 ⟨i85,ao,hv9,a4,hn85⟩ hM f1=>?_;subst hv9;refine seg 17 3 [(12,vI (i85:Int)),(56,vB (!ao))] f0 ?_
     cases h86:ao with
     | false =>
      have hfi85:=hn85 h86;have hp9:aD0 (aAa os) y84=none:=aLY hfi85;have ha9:=aJT (q:=fun r=>(aD0 (aAa os) r).isSome) aa (by rw [hp9];rfl);exact rt2 4 5 (vL none 0 0) (vI 14) rfl rfl f0 (hΦ _ _ ⟨_,by rw [hpo];unfold aAI;simp only [h64,h65,ha9]<;>rfl,by rw [hpo];unfold aAI;simp only [h64,h65,ha9];exact (hM.pick (M':=[]) []).row⟩)
     | true =>
      have hfi85:=a4 h86;have hli85:=aRb hfi85;obtain ⟨y87,ag,bj,bl,q87,ap⟩:=sp0.el (i:=i85) (by omega);refine seg 17 11 [(64,vB (!(y87.o.kind==1)))] (fc (ldm 22 0 0 hM rfl rfl) (fc (ix 22 cp0 q87 (gl ag)) (fc (ld0 3 hM (ap 1 _ rfl)) f0))) ?_;cases h88:(y87.o.kind==1)
      ·have a5:=ef h88;have hp9:aD0 (aAa os) y84=none:=by rw [aGF hfi85 ag];simp only [h88]<;>rfl
       have ha9:=aJT (q:=fun r=>(aD0 (aAa os) r).isSome) aa (by rw [hp9];rfl);exact rt2 4 5 (vL none 0 0) (vI 14) rfl rfl f0 (hΦ _ _ ⟨_,by rw [hpo];unfold aAI;simp only [h64,h65,ha9]<;>rfl,by rw [hpo];unfold aAI;simp only [h64,h65,ha9];exact (hM.pick (M':=[]) []).row⟩)
      have a5:=et h88;refine aAn 19 7 72 [(65,vo),(71,.agg #[vI y87.o.x,vI y87.o.y])] (cs:=#[vI y87.o.x,vI y87.o.y]) (T:=41) (v:=fun b=>vL (some ⟨b,0,none⟩) 1 1) (fc (ldm 22 0 0 hM rfl rfl) (fc (ix 22 cp0 q87 (gl ag)) (fc (la0 41 hM (rs ap 2 2)) f0))) hM fun bm w1 hM=>aKP 19 8 73 [] (cap:=1) (by decide) ptT f0 hM (j:=3) rfl (aAE (f:=ptL) (x:=((y87.o.x,y87.o.y):Pt)) (hM.get 4 rfl) (Nat.lt_succ_self _)) (fun h=>by cases h) (by simp only [List.length_map,List.length_take,List.length_cons,List.length_nil];omega) fun v90 w1 hM=>?_;obtain ⟨ai,aj,e90,-⟩:=(hM.src (j:=3) rfl ptT.len).op;subst e90;refine seg 14 0 [(9,vL ai (((y62.o.refs.take i).map fun r=>(aD0 (aAa os) r).getD (0,0))++[((y87.o.x,y87.o.y):Pt)]).length aj),(44,vI ((i:Int)+1))] (fc (aAh (i:Int) 1 u3_) f0) ?_;have hp9:aD0 (aAa os) y84=some (y87.o.x,y87.o.y):=by rw [aGF hfi85 ag];simp only [h88]<;>rfl
      have hM:=hM.pick [0,1,2,3];replace hM:Mm (fun _=>False) w _ [bk ac #[vL p0 os.length cp0] 24,bk ae #[vL p0 os.length cp0] 24,bk af #[vS y62.o.id,vI y62.o.kind,vI y62.o.x,vI y62.o.y,vL y62.pr y62.o.refs.length y62.cr,vL y62.pt y62.o.tags.length y62.ct] 52,_]:=hM;obtain ⟨u1,hu1⟩:∃ z,z=vL ai (((y62.o.refs.take i).map fun r=>(aD0 (aAa os) r).getD (0,0))++[((y87.o.x,y87.o.y):Pt)]).length aj:=⟨_,rfl⟩;rw [←hu1] at hM;have e1:(((y62.o.refs.take i).map fun r=>(aD0 (aAa os) r).getD (0,0))++[((y87.o.x,y87.o.y):Pt)])=(y62.o.refs.take (i+1)).map fun r=>(aD0 (aAa os) r).getD (0,0):=by rw [gt_ aa,List.map_append];simp only [List.map_cons,List.map_nil,hp9]<;>rfl
      rw [e1,hu1] at hM;exact aAb _ (a1 _ (by have:=gl aa;omega) (i+1) (vL ai (((y62.o.refs.take i).map fun r=>(aD0 (aAa os) r).getD (0,0))++[((y87.o.x,y87.o.y):Pt)]).length aj) _ (gl aa) (aJS aa ha (by rw [hp9];rfl)) hM rfl)
    exact aAb _ (a0 _ 0 (vL none 0 0) _ (Nat.zero_le _) rfl hM rfl)
   have az:=ef h65;refine seg 11 2 [(38,vB (y62.o.kind==3))] f0 ?_;cases h66:(y62.o.kind==3)
   ·have a6:=ef h66;exact rt2 4 5 (vL none 0 0) (vI 13) rfl rfl f0 (hΦ _ _ ⟨_,by rw [hpo];unfold aAI;simp only [h64,h65,h66]<;>rfl,by rw [hpo];unfold aAI;simp only [h64,h65,h66];exact (hM.pick (M':=[]) []).row⟩)
   have a6:=et h66;have hM:=hM.row (f:=ptL) (c:=2) (E:=41);refine seg 14 0 [(9,vL none 0 0),(42,vL y62.pr y62.o.refs.length y62.cr),(43,vI (y62.o.refs.length:Int)),(44,vI 0)] (fc (ldm 27 2 4 hM rfl rfl) f0) ?_
   have a7:∀ (aq:Nat) (i:Nat) (vo:Value) (w2:World),i≤y62.o.refs.length→(y62.o.refs.take i).all (fun r=>(aD0 (aAa os) r).isSome)=true→Mm (fun _=>False) w w2 [bk ac #[vL p0 os.length cp0] 24,bk ae #[vL p0 os.length cp0] 24,bk af #[vS y62.o.id,vI y62.o.kind,vI y62.o.x,vI y62.o.y,vL y62.pr y62.o.refs.length y62.cr,vL y62.pt y62.o.tags.length y62.ct] 52,rw_ ptL 2 41 vo ((y62.o.refs.take i).map fun r=>(aD0 (aAa os) r).getD (0,0))]→aq=y62.o.refs.length-i→A76 Φ (some (14,0)) [(44,vI (i:Int)),(43,vI (y62.o.refs.length:Int)),(42,vL y62.pr y62.o.refs.length y62.cr),(9,vo),(2,vP ac 0)] w2:=by
    refine aBh fun aq a8 i vo w2 hi ha hM bo=>seg 14 1 [(45,vB (decide ((i:Int)<(y62.o.refs.length:Int))))] f0 ?_;cases h70:(decide ((i:Int)<(y62.o.refs.length:Int)))
    ·have a9:=df h70;have hti:y62.o.refs.take i=y62.o.refs:=List.take_of_length_le (by omega);rw [hti] at ha hM;exact rt2 4 5 vo (vI 0) rfl rfl f0 (hΦ _ _ ⟨_,by rw [hpo];unfold aAI;simp only [h64,h65,h66,ha]<;>rfl,by rw [hpo];unfold aAI;simp only [h64,h65,h66,ha];exact hM.pick [3]⟩)
    have a9:=dt h70;have s71:=(hob _ (gm ad)).refs;have bp:=s71.bnd;obtain ⟨y72,ab,bq,br,q72,ba⟩:=s71.el (i:=i) (by omega);refine aOX 16 2 51 [(49,.agg #[vL p0 os.length cp0]),(50,vS y72)] (K:=fun u w8=>∃ (i:Nat) (b:Bool),u = .tuple #[vI (i:Int),vB b]∧(b=true→aAi (aAa os) y72=(i:Int))∧(b=false→aAi (aAa os) y72<0)) (fc (ix 27 y62.cr q72 (gl ab)) (fc (ld0 9 hM (ba 0 _ rfl)) (fc (lam 24 0 0 1 hM rfl) f0))) hM ((aF6 (hm.fr hM.fr) hlen (aB4 hvm) y72).mono fun e w8 ⟨i,b,h1,h2,h3,h4⟩=>⟨⟨_,h1,i,b,rfl,h2,h3⟩,h4⟩) fun _ w1 ⟨i73,ar,hv9,bb,hn73⟩ hM f1=>?_;subst hv9;refine seg 17 3 [(12,vI (i73:Int)),(56,vB (!ar))] f0 ?_
    cases h74:ar with
    | false =>
     have hfi73:=hn73 h74;have hp9:aD0 (aAa os) y72=none:=aLY hfi73;have ha9:=aJT (q:=fun r=>(aD0 (aAa os) r).isSome) ab (by rw [hp9];rfl);exact rt2 4 5 (vL none 0 0) (vI 14) rfl rfl f0 (hΦ _ _ ⟨_,by rw [hpo];unfold aAI;simp only [h64,h65,h66,ha9]<;>rfl,by rw [hpo];unfold aAI;simp only [h64,h65,h66,ha9];exact (hM.pick (M':=[]) []).row⟩)
    | true =>
     have hfi73:=bb h74;have hli73:=aRb hfi73;obtain ⟨y75,ah,bs,bt,q75,au⟩:=sp0.el (i:=i73) (by omega);refine seg 17 11 [(64,vB (!(y75.o.kind==1)))] (fc (ldm 22 0 0 hM rfl rfl) (fc (ix 22 cp0 q75 (gl ah)) (fc (ld0 3 hM (au 1 _ rfl)) f0))) ?_;cases h76:(y75.o.kind==1)
     ·have bc:=ef h76;have hp9:aD0 (aAa os) y72=none:=by rw [aGF hfi73 ah];simp only [h76]<;>rfl
      have ha9:=aJT (q:=fun r=>(aD0 (aAa os) r).isSome) ab (by rw [hp9];rfl);exact rt2 4 5 (vL none 0 0) (vI 14) rfl rfl f0 (hΦ _ _ ⟨_,by rw [hpo];unfold aAI;simp only [h64,h65,h66,ha9]<;>rfl,by rw [hpo];unfold aAI;simp only [h64,h65,h66,ha9];exact (hM.pick (M':=[]) []).row⟩)
     have bc:=et h76;refine aAn 19 7 72 [(65,vo),(71,.agg #[vI y75.o.x,vI y75.o.y])] (cs:=#[vI y75.o.x,vI y75.o.y]) (T:=41) (v:=fun b=>vL (some ⟨b,0,none⟩) 1 1) (fc (ldm 22 0 0 hM rfl rfl) (fc (ix 22 cp0 q75 (gl ah)) (fc (la0 41 hM (rs au 2 2)) f0))) hM fun bu w1 hM=>aKP 19 8 73 [] (cap:=1) (by decide) ptT f0 hM (j:=3) rfl (aAE (f:=ptL) (x:=((y75.o.x,y75.o.y):Pt)) (hM.get 4 rfl) (Nat.lt_succ_self _)) (fun h=>by cases h) (by simp only [List.length_map,List.length_take,List.length_cons,List.length_nil];omega) fun v78 w1 hM=>?_;obtain ⟨ak,al,e78,-⟩:=(hM.src (j:=3) rfl ptT.len).op;subst e78;refine seg 14 0 [(9,vL ak (((y62.o.refs.take i).map fun r=>(aD0 (aAa os) r).getD (0,0))++[((y75.o.x,y75.o.y):Pt)]).length al),(44,vI ((i:Int)+1))] (fc (aAh (i:Int) 1 u3_) f0) ?_;have hp9:aD0 (aAa os) y72=some (y75.o.x,y75.o.y):=by rw [aGF hfi73 ah];simp only [h76]<;>rfl
     have hM:=hM.pick [0,1,2,3];replace hM:Mm (fun _=>False) w _ [bk ac #[vL p0 os.length cp0] 24,bk ae #[vL p0 os.length cp0] 24,bk af #[vS y62.o.id,vI y62.o.kind,vI y62.o.x,vI y62.o.y,vL y62.pr y62.o.refs.length y62.cr,vL y62.pt y62.o.tags.length y62.ct] 52,_]:=hM;obtain ⟨u1,hu1⟩:∃ z,z=vL ak (((y62.o.refs.take i).map fun r=>(aD0 (aAa os) r).getD (0,0))++[((y75.o.x,y75.o.y):Pt)]).length al:=⟨_,rfl⟩;rw [←hu1] at hM;have e1:(((y62.o.refs.take i).map fun r=>(aD0 (aAa os) r).getD (0,0))++[((y75.o.x,y75.o.y):Pt)])=(y62.o.refs.take (i+1)).map fun r=>(aD0 (aAa os) r).getD (0,0):=by rw [gt_ ab,List.map_append];simp only [List.map_cons,List.map_nil,hp9]<;>rfl
     rw [e1,hu1] at hM;exact aAb _ (a8 _ (by have:=gl ab;omega) (i+1) (vL ak (((y62.o.refs.take i).map fun r=>(aD0 (aAa os) r).getD (0,0))++[((y75.o.x,y75.o.y):Pt)]).length al) _ (gl ab) (aJS ab ha (by rw [hp9];rfl)) hM rfl)
   exact aAb _ (a7 _ 0 (vL none 0 0) _ (Nat.zero_le _) rfl hM rfl)
end Go.Proofs.YtnhljdeohelgjaaGreatDoor
namespace Go.Pl
open Go.RowKit Go.WideMaps
section maps3
open Classical
variable {P:Program}{K:TypeId}
def aRq (P:Program) (K:TypeId) (o:Obj) (n:Nat) (m:Value→Option Value):Prop:=∃ es clock,o = .map es clock∧Ents P K es.toList clock m∧es.size≤n
theorem aCj.obj {w:World}{b n:Nat}{m}(h:aCj P K w b n m):∃ o,w.heap[b]?=some o∧aRq P K o n m:=by
 obtain ⟨es,c,hb,r⟩:=h;exact ⟨_,hb,es,c,rfl,r⟩
theorem aCj.of_obj {w:World}{b n:Nat}{m}{o:Obj}(hb:w.heap[b]?=some o) (h:aRq P K o n m):aCj P K w b n m:=by
 obtain ⟨es,c,rfl,r⟩:=h;exact ⟨es,c,hb,r⟩
theorem aRq.entry (L:Maps.Keyed P K) {t e:TypeId}(ht:P.underlying t=some (.map K e)) {o:Obj}{m}{n:Nat}(h:aRq P K o n m) (b:Nat) {key:Value}{l:Lit}(hk:keyOf P K key=some l) {z:Value}(hz:∀ w,(zeroValue e).run P w = .ok z w) (v:Value) :
  ∃ o1 o2 x s,(∀ W:World,W.heap[b]?=some o→(Instr.mapEntry t (.map (some b)) key).run P W = .ok (.tuple #[x,.int .i64 s]) (setBlk W b o1)) ∧
   (∀ W:World,W.heap[b]?=some o1→(Instr.entryStore t (.map (some b)) (.int .i64 s) v).run P W = .ok () (setBlk W b o2))∧aRq P K o2 (n+1) (upd m key v):=by
 obtain ⟨es,c,rfl,h,hn⟩:=h;have hall:=fun w=>h.find L (w:=w) hk;rcases hall default with ⟨_,h2,h3⟩ | ⟨j,en,_,h2,h3,h4⟩
 ·refine ⟨.map (es.push ⟨key,z,c⟩) (c+1),.map (es.push ⟨key,v,c⟩) (c+1),z,c,fun W hb=>?_,fun W hb=>?_,_,_,rfl,by simpa using h.push hk h3,by simp;omega⟩
  ·have h1:(Instr.findKey K key es.toList).run P W = .ok none W:=by
    rcases hall W with ⟨h1,_⟩ | ⟨j,en,_,g2,g3,_⟩
    ·exact h1
    ·exact absurd g3 (h3 en (List.mem_of_getElem? g2))
   simp [Instr.mapEntry,run_underlying ht,MapKept.run_getObj_map hb,L.check W false hk,h1,hz,MapKept.run_setObj_map _ hb,Result.andThen,setBlk,goInt]
  ·have hs:(es.push ⟨key,z,c⟩).toList.Pairwise (fun x y=>x.born≠y.born):=by simpa using (h.push (v:=z) hk h3).stamps
   have hf:(es.push ⟨key,z,c⟩).findIdx? (fun e=>(e.born:Int)==(c:Int))=some es.size:=aD2 hs (e:=⟨key,z,c⟩) (by simp)
   have hm:(es.push ⟨key,z,c⟩).modify es.size (fun e=>{ e with val:=v })=es.push ⟨key,v,c⟩:=by
    apply Array.ext_getElem?;intro i;rw [Array.getElem?_modify,Array.getElem?_push,Array.getElem?_push]
    by_cases hi:i=es.size
    ·subst hi;simp
    ·rw [if_neg (by omega),if_neg hi,if_neg hi]
   simp [Instr.entryStore,MapKept.run_getObj_map hb,hf,hm,asInt,asIntOf,MapKept.run_setObj_map _ hb,Result.andThen,setBlk]
 ·have hj:j<es.size:=by simpa using (List.getElem?_eq_some_iff.1 h2).1
  have hj2:es[j]=en:=by simpa using (List.getElem?_eq_some_iff.1 h2).2
  have hes:es[j]?=some en:=by simpa using h2
  have hsame:es.modify j (fun e=>{ e with key:=key })=es:=by
   apply Array.ext_getElem?;intro i;rw [Array.getElem?_modify]
   by_cases hi:j=i
   ·subst hi;rw [if_pos rfl,hes,←h3];rfl
   ·rw [if_neg hi]
  refine ⟨.map es c,.map (es.modify j fun e=>{ e with val:=v }) c,en.val,en.born,fun W hb=>?_,fun W hb=>?_,_,_,rfl,?_,by simp;omega⟩
  ·have h1:(Instr.findKey K key es.toList).run P W = .ok (some (j,en.val)) W:=by
    rcases hall W with ⟨_,_,g3⟩ | ⟨j',en',g1,g2,g3,g4⟩
    ·exact absurd h3 (g3 en (List.mem_of_getElem? h2))
    ·have:j'=j:=Ents.unique h.apart g2 h2 (g3.trans h3.symm);subst this;rw [h2] at g2;cases g2;exact g1
   have hst:=L.stays W hk;simp [Instr.mapEntry,run_underlying ht,MapKept.run_getObj_map hb,L.check W false hk,h1,hes,h3,hst,hsame,MapKept.run_setObj_map _ hb,Result.andThen,setBlk,goInt]
  ·have hf:es.findIdx? (fun e=>(e.born:Int)==(en.born:Int))=some j:=aD2 h.stamps hes;simp [Instr.entryStore,MapKept.run_getObj_map hb,hf,asInt,asIntOf,MapKept.run_setObj_map _ hb,Result.andThen,setBlk]
  ·have:(es.modify j fun e=>{ e with val:=v }).toList=es.toList.set j { en with key:=key,val:=v }:=by
    apply List.ext_getElem?;intro i;simp only [Array.getElem?_toList,Array.getElem?_modify,List.getElem?_set]
    by_cases hij:j=i
    ·subst hij;simp [hj,hj2,←h3]
    ·simp [hij]
   rw [this];exact h.set h2 h3
end maps3
def obE (b:Nat) (o:Obj):Ent where
 B k:=k=b
 H w:=w.heap[b]?=some o
 lt h e:=by subst e;exact (Array.getElem?_eq_some_iff.1 h).1
 fr h f hn:=f.obj h (hn _ rfl)
section
variable {P:Program}{F0:Nat→Prop}{w0 w:World}{M:List Ent}
theorem Mm.toOb (h:Mm F0 w0 w M) {j:Nat}{K:TypeId}{b c:Nat}{m:Value→Option Value}(hj:M[j]?=some (mp P K b c m)):∃ o,aRq P K o c m∧Mm F0 w0 w (M.set j (obE b o)):=by
 have hm:aCj P K w b c m:=h.get j hj;obtain ⟨o,ho,hn⟩:=hm.obj;exact ⟨o,hn,h.put j hj (Fr.refl (fun _=>False) _) (fun _ _ h=>h.elim) ho fun k e => .inl e⟩
theorem Mm.ofOb (h:Mm F0 w0 w M) {j:Nat}{K:TypeId}{b c:Nat}{m:Value→Option Value}{o:Obj}(hj:M[j]?=some (obE b o)) (hn:aRq P K o c m):Mm F0 w0 w (M.set j (mp P K b c m)):=by
 have ho:w.heap[b]?=some o:=h.get j hj;exact h.put j hj (Fr.refl (fun _=>False) _) (fun _ _ h=>h.elim) (aCj.of_obj ho hn) fun k e => .inl e
end
section
variable {P:Program}{w w0:World}{rd:Option Nat}{B:Code}{r n:Nat}{L:Frm}{ef:List Nat}{V:Lts→List (Option Value)}{F:Lts→List Ft}{ds:List Deferred}{F0:Nat→Prop}{Mf:Lts→List Bool→List Ent}
theorem aTv (p i d:Nat) (T:TypeId) (j b:Nat) (o o1:Obj) (key x:Value) (s:Int)
  (hr:∀ W:World,W.heap[b]?=some o→(Instr.mapEntry T (.map (some b)) key).run P W = .ok (.tuple #[x,.int .i64 s]) (setBlk W b o1))
  (hj:∀ γ fr,(Mf γ (flg B r ef i fr))[j]?=some (obE b o):=by intro γ fr;kernel_rfl)
  (hm:∀ γ fr,(Mf γ (flg B r ef i fr)).set j (obE b o1)=Mf (aB6 γ p (.tuple #[x,.int .i64 s])) ((flg B r ef i fr).set p true):=by intro γ fr;kernel_rfl)
  (hV:∀ γ,((V (aB6 γ p (.tuple #[x,.int .i64 s])))[p]?).getD none=some (.tuple #[x,.int .i64 s]):=by intro γ;rfl)
  (hs:∀ γ,aNu (aAz B r) i (frX P w n B r L ef V F i γ)=aNt (aAz B r) i (fun x y => .mapEntry T x y) (.map (some b)) key (some d):=by intro γ;kernel_rfl):Arm rd P w n B r L ef V F ds F0 w0 Mf p i:=by
 intro γ fr a wm Q o' ho En hw hM;obtain ⟨u,y,h1,h2,h3,h4⟩:=aE9 ho En (hs γ);have hb:wm.heap[b]?=some o:=hM.get j (hj γ fr);have hlt:=(Array.getElem?_eq_some_iff.1 hb).1;have hM':=hM.put (w':=setBlk wm b o1) j (e':=obE b o1) (hj γ fr) ((Fr.refl (fun r=>r=b) wm).setBlk (fun _=>rfl) o1) (fun k _ e=>e) (aCE hlt o1) (fun k e => .inl e);rw [hm] at hM';refine aC9 (v := .tuple #[x,.int .i64 s]) (w':=setBlk wm b o1) (by simp only [execOp,h1,h2,h3,Sem.run_bind,hr wm hb,Result.andThen_ok,Sem.run_pure]) ⟨.tuple #[x,.int .i64 s],γ.e p,by rw [aAo,hV,h4];rfl,by rw [aAo];exact hM'⟩
theorem aTx (p i:Nat) (T:TypeId) (j b:Nat) (o1 o2:Obj) (s:Int) (v:Value)
  (hr:∀ W:World,W.heap[b]?=some o1→(Instr.entryStore T (.map (some b)) (.int .i64 s) v).run P W = .ok () (setBlk W b o2))
  (hj:∀ γ fr,(Mf γ (flg B r ef i fr))[j]?=some (obE b o1):=by intro γ fr;kernel_rfl)
  (hm:∀ γ fr,(Mf γ (flg B r ef i fr)).set j (obE b o2)=Mf (aB6 γ p undef) ((flg B r ef i fr).set p true):=by intro γ fr;kernel_rfl)
  (hV:∀ γ,((V (aB6 γ p undef))[p]?).getD none=none:=by intro γ;rfl)
  (hs:∀ γ,aS8 (aAz B r) i (frX P w n B r L ef V F i γ)=aS7 (aAz B r) i (fun x y z => .entryStore T x y z) (.map (some b)) (.int .i64 s) v none:=by intro γ;kernel_rfl):Arm rd P w n B r L ef V F ds F0 w0 Mf p i:=by
 intro γ fr a wm Q o' ho E hw hM;obtain ⟨x,y,z,h1,h2,h3,h4,h5⟩:=aPt ho E (hs γ);have hb:wm.heap[b]?=some o1:=hM.get j (hj γ fr);have hlt:=(Array.getElem?_eq_some_iff.1 hb).1;have hM':=hM.put (w':=setBlk wm b o2) j (e':=obE b o2) (hj γ fr) ((Fr.refl (fun r=>r=b) wm).setBlk (fun _=>rfl) o2) (fun k _ e=>e) (aCE hlt o2) (fun k e => .inl e);rw [hm] at hM';exact aGs (w':=setBlk wm b o2) (by simp only [execOp,h1,h2,h3,h4,Sem.run_bind,hr wm hb,Result.andThen_ok,Sem.run_pure]) h5 ⟨undef,γ.e p,by rw [aAo,hV];rfl,by rw [aAo];exact hM'⟩
end
section
variable {P:Program}{B:Code}{fn:Func}{Φ:Ending→World→Prop}{n:Nat}{p:Option (Nat×Nat)}{L:Frm}{w:World}{F:List Ft}
theorem aTZ (t:Nat) (T:TypeId) {g:Nat}(v:Value) (hr:fn.results=#[.cell t T]) (hv:(Instr.loadAt T (vP g 0)).run P w = .ok v w) (hF:aAM P w F) (k:Φ (.returned v) w) (h:aMI (go P w n B p L 1000000 0 F) [(t,vP g 0)] L=aJH (go P w n B p L 1000000 0 F) [(t,vP g 0)]:=by kernel_rfl):AtO P B (aA2 (bodyPost P fn Φ)) [] n p L w :=
 aMH [(t,vP g 0)] hF h fun a E=>by
  have hv':a.eval (.tmp t)=vP g 0:=E.at_ t _ (by simp [Go.Pl.look])
  have key:∃ u,(results fn a.tmps).run P w = .ok u w∧Φ (.returned u) w:=⟨v,by
   have hl:a.tmps.getD t undef=vP g 0:=hv';simp only [Instr.loadAt,Instr.sureAddr,Sem.run_bind,Sem.run_pure,Result.andThen_ok] at hv;have hl':a.tmps[t]?.getD undef=vP g 0:=by simpa using hl
   simp [results,hr,hl',asAddr,hv],k⟩
  exact ⟨⟨E.df,key⟩,⟨E.df,key⟩⟩
theorem aUn (T:TypeId) {K e:TypeId}{b n:Nat}{m:Value→Option Value}(ht:P.underlying T=some (.map K e)) (h:aCj P K w b n m):∃ c:Nat,c≤n∧∀ w',w'.heap[b]?=w.heap[b]?→Ft.ok P w' (.g1 (fun x => .call ⟨.builtin .len,#[x],#[T]⟩) (.map (some b)) (vI c)):=by
 obtain ⟨c,h1,_,h2⟩:=h.len ht;refine ⟨c,h1,fun w' hw o ρ x ho hx=>?_⟩;have:=h2 w' o.type hw;simp [execOp,ho,hx,resolve,invoke,builtin,this,Result.andThen]
end
end Go.Pl
namespace Go.Proofs.YtnhljdeohelgjaaGreatDoor
open Go.RowKit Go.Pl
def bxI (b:Pt×Pt) (L:List Pt):Pt×Pt:=L.foldl (fun b p=>((min b.1.1 p.1,min b.1.2 p.2),(max b.2.1 p.1,max b.2.2 p.2))) b
def aDE (L:List Pt):Pt×Pt:=bxI (L.headD (0,0),L.headD (0,0)) L
theorem aOY (b:Pt×Pt) (L:List Pt) (p:Pt):bxI b (L++[p])=((min (bxI b L).1.1 p.1,min (bxI b L).1.2 p.2),(max (bxI b L).2.1 p.1,max (bxI b L).2.2 p.2)):=by unfold bxI;rw [List.foldl_append];rfl
theorem aQE {L:List Pt}{p:Pt}(h:L[0]?=some p):L.headD (0,0)=p:=by cases L with | nil=>cases h | cons a l=>cases h;rfl
abbrev bxV (b:Pt×Pt):Value := .agg #[vI b.1.1,vI b.1.2,vI b.2.1,vI b.2.2]
abbrev A59 (Φ:Ending→World→Prop):=AtO Tryz.prog (aAr Tryz.f59) (aA2 (bodyPost Tryz.prog Tryz.f59 Φ)) [] 49
theorem aIc {w:World}{p:Option Addr}{cap:Nat}{L:List Pt}(hs:SrcP ptL 2 w p cap L) (h0:0<L.length):Calls Tryz.prog 59 #[vL p L.length cap] w fun e w'=>e = .returned (bxV (aDE L))∧Fr (fun _=>False) w w':=by
  have bb:=hs.bnd;refine beg Tryz.func59 rfl rfl [(0,vL p L.length cap)] rfl rfl fun Φ hΦ=>?_;have hM:=Mm.nil (fun _=>False) w;refine aAn 0 0 2 [] (cs:=#[vI 0,vI 0,vI 0,vI 0]) (T:=140) (v:=fun b=>vP b 0) f0 hM fun ab w1 hM=>seg 1 0 [] f0 ?_;obtain ⟨p0,hp0,aj,ak,q94,ac⟩:=hs.el (i:=0) (by omega);have hM:=hM.nl;refine drx [7,8] (fun γ=>[some (vP (bn (γ 0)) 0),none]) _ (fun γ l=>[bk ab #[vI 0,vI 0,vI 0,vI 0] 140,(bif l.getD 1 false then bk (bn (γ 0)) #[vI p0.1,vI p0.2,vI p0.1,vI p0.2] 140 else (bif l.getD 0 false then bk (bn (γ 0)) #[vI 0,vI 0,vI 0,vI 0] 140 else aEc))]) (fun γ=>[(3,vP (bn (γ 0)) 0)]) hM (fun γ=>rfl) (fun γ l w5 hM=>(fc (ix 143 cap q94 (gl hp0)) (fc (la0 41 hM ac) (fc (ix 143 cap q94 (gl hp0)) (fc (la0 41 hM ac) f0))))) ⟨aBY 0 7 1 3 (fun γ=>#[vI 0,vI 0,vI 0,vI 0]) 140 (fun b=>vP b 0),aA6 1 8 140 1 0 (fun γ=>(bn (γ 0))) (fun γ l=>#[vI 0,vI 0,vI 0,vI 0]) 140 (fun γ => .agg #[vI p0.1,vI p0.2,vI p0.1,vI p0.2]),trivial⟩ fun aa w1 hM=>?_;replace hM:Mm (fun _=>False) w w1 [bk ab #[vI 0,vI 0,vI 0,vI 0] 140,bk (bn (aa 0)) #[vI p0.1,vI p0.2,vI p0.1,vI p0.2] 140]:=hM;have hhd:=aQE hp0;refine seg 3 0 [(13,vL p L.length cap),(14,vI (L.length:Int)),(15,vI 0)] f0 ?_
  have ae:∀ (ad:Nat) (i:Nat) (B:Pt×Pt) (w2:World),i≤L.length→B=bxI (p0,p0) (L.take i)→Mm (fun _=>False) w w2 [bk ab #[vI 0,vI 0,vI 0,vI 0] 140,bk (bn (aa 0)) #[vI B.1.1,vI B.1.2,vI B.2.1,vI B.2.2] 140]→ad=L.length-i→A59 Φ (some (3,0)) [(15,vI (i:Int)),(14,vI (L.length:Int)),(13,vL p L.length cap),(3,vP (bn (aa 0)) 0),(2,vP ab 0)] w2:=by
   refine aBh fun ad af i B w2 hi hB hM al=>seg 3 1 [(16,vB (decide ((i:Int)<(L.length:Int))))] f0 ?_;cases h99:(decide ((i:Int)<(L.length:Int)))
   ·have ag:=df h99;refine stm 8 1 [(48,.agg #[vI B.1.1,vI B.1.2,vI B.2.1,vI B.2.2])] 140 0 0 (.agg #[vI B.1.1,vI B.1.2,vI B.2.1,vI B.2.2]) (fc (lam 140 1 0 4 hM rfl) f0) hM rfl fun w1 hM=>?_;have hl9:=aAY 140 0 (P:=Tryz.prog) (n:=4) hM rfl rfl;exact aTZ 2 140 (bxV B) rfl hl9 f0 (hΦ _ _ ⟨by unfold aDE;rw [hhd,hB,List.take_of_length_le (by omega)],hM.fr⟩)
   have ag:=dt h99;obtain ⟨y,hy,am,an,ah,ai⟩:=hs.el (i:=i) (by omega);refine aBD 4 2 5 [(18,.agg #[vI y.1,vI y.2])] [] 41 (.agg #[vI y.1,vI y.2]) (fc (ix 143 cap ah (gl hy)) (fc (la0 41 hM ai) f0)) hM fun ao w1 hM=>stm 5 14 [(31,.agg #[vI (min B.1.1 y.1),vI (min B.1.2 y.2)]),(32,vP (bn (aa 0)) 0)] 41 1 0 (.agg #[vI (min B.1.1 y.1),vI (min B.1.2 y.2)]) (fc (ldm 3 1 0 hM rfl rfl) (fc (ldm 3 2 0 hM rfl rfl) (fc (aS6 3 B.1.1 y.1) (fc (ldm 3 1 1 hM rfl rfl) (fc (ldm 3 2 1 hM rfl rfl) (fc (aS6 3 B.1.2 y.2) f0)))))) hM rfl fun w1 hM=>stm 6 14 [(45,.agg #[vI (max B.2.1 y.1),vI (max B.2.2 y.2)]),(46,vP (bn (aa 0)) 2)] 41 1 2 (.agg #[vI (max B.2.1 y.1),vI (max B.2.2 y.2)]) (fc (ldm 3 1 2 hM rfl rfl) (fc (ldm 3 2 0 hM rfl rfl) (fc (aRl 3 B.2.1 y.1) (fc (ldm 3 1 3 hM rfl rfl) (fc (ldm 3 2 1 hM rfl rfl) (fc (aRl 3 B.2.2 y.2) f0)))))) hM rfl fun w1 hM=>seg 3 0 [(15,vI ((i:Int)+1))] (fc (aAh (i:Int) 1 u3_) f0) ?_;have hM:=hM.pick [0,1];exact aAb _ (af _ (by have:=gl hy;omega) (i+1) ((min B.1.1 y.1,min B.1.2 y.2),(max B.2.1 y.1,max B.2.2 y.2)) _ (gl hy) (by rw [gt_ hy,aOY,←hB]) hM rfl)
  exact aAb _ (ae _ 0 (p0,p0) _ (Nat.zero_le _) rfl hM rfl)
theorem aQB {w:World}:Calls Tryz.prog 75 #[] w fun e w'=>∃ ix mb,e = .returned (vP ix 0)∧Mm (fun _=>False) w w' [bk ix #[.map (some mb),.pointer none,.bool false] 232,mp Tryz.prog 9 mb 0 (fun _=>none)]:=by
  refine beg Tryz.func75 rfl rfl [] rfl rfl fun Φ hΦ=>?_;have hM:=Mm.nil (fun _=>False) w;refine aFk 1 0 1 [] 9 f0 hM fun aa w1 hM=>aAn 1 2 3 [(2,.agg #[.map (some aa),.pointer none,vB false])] (cs:=#[.map (some aa),.pointer none,vB false]) (T:=232) (v:=fun b=>vP b 0) f0 hM fun ab w1 hM=>rt1 0 (vP ab 0) rfl f0 (hΦ _ _ ⟨_,_,rfl,hM.pick [1,0]⟩)
abbrev aUO (Φ:Ending→World→Prop):=AtO Tryz.prog (aAr Tryz.f200) (aA2 (bodyPost Tryz.prog Tryz.f200 Φ)) [] 19
theorem aKA {w:World}{B:Nat}{p:Option Addr}{cap:Nat}{L:List Int}{f:FuncId}{caps:Array Value}{G:Nat→Prop}(hs:SrcB inL 1 w B p cap L) (hG:∀ k,G k→B≤k) (eg:aEM Tryz.prog f) (I:Nat→World→Prop) (q:Nat→Bool) (h0:I 0 w) (step:∀ i x w1,L[i]?=some x→(∀ j,j<i→q j=false)→I i w1→Fr G w w1→Calls Tryz.prog f (#[vI x]++caps) w1 fun e w2=>e = .returned (vB (q i))∧I (i+1) w2∧Fr G w1 w2):Calls Tryz.prog 200 #[vL p L.length cap,.func (.func f) #[] caps] w fun e w'=>(∃ z,e = .returned (vI z)∧Fst L q I w' z)∧Fr G w w':=by
  have bb:=hs.bnd;refine beg Tryz.func200 rfl rfl [(0,vL p L.length cap),(1,.func (.func f) #[] caps)] rfl rfl fun Φ hΦ=>?_;have hM:=Mm.nil G w;refine seg 2 0 [(7,vI (L.length:Int)),(8,vI 0)] f0 ?_
  have af:∀ (ab:Nat) (i:Nat) (w2:World),i≤L.length→(∀ j,j<i→q j=false)→I i w2→Mm G w w2 []→ab=L.length-i→aUO Φ (some (2,0)) [(8,vI (i:Int)),(7,vI (L.length:Int)),(0,vL p L.length cap),(1,.func (.func f) #[] caps)] w2:=by
   refine aBh fun ab ag i w2 hi hq hI hM ak=>seg 2 1 [(9,vB (decide ((i:Int)<(L.length:Int))))] f0 ?_;cases ac:(decide ((i:Int)<(L.length:Int)))
   ·have ah:=df ac;exact rt1 4 (vI (-1)) rfl f0 (hΦ _ _ ⟨⟨_,rfl,.end_ (by omega) hq hI⟩,hM.fr⟩)
   have ah:=dt ac;obtain ⟨ad,aa,al,am,ai,aj,n108⟩:=(hs).eb hG (i:=i) (by omega);refine aSu 4 5 16 [(5,vI (i:Int)),(11,.func (.func f) #[] caps),(15,vI ad)] #[3] (K:=fun u w9=>u=vB (q i)∧I (i+1) w9∧Fr G w2 w9) (by decide) (fc (ix 28 cap ai (gl aa)) (fc (ld0 3 hM (aj 0 _ rfl) n108) f0)) eg ((step i ad _ aa hq hI hM.fr).mono fun e w9 h=>⟨_,h.1,rfl,h.2⟩) fun u w1 ⟨hu,hI,f1⟩=>?_;subst hu;have hM:=hM.g f1;cases ae:(q i)
   ·refine seg 2 0 [(8,vI ((i:Int)+1))] (fc (aAh (i:Int) 1 u3_) f0) (aAb _ (ag _ (by omega) (i+1) _ (gl aa) (fun j hj=>by rcases Nat.lt_succ_iff_lt_or_eq.1 hj with h | h;exact hq j h;rw [h];exact ae) hI hM rfl))
   exact rt1 4 (vI (i:Int)) rfl f0 (hΦ _ _ ⟨⟨_,rfl,.some i (gl aa) ae hq hI⟩,hM.fr⟩)
  exact aAb _ (af _ 0 _ (Nat.zero_le _) (fun _ h=>absurd h (Nat.not_lt_zero _)) h0 hM rfl)
theorem aMX {w:World}{B:Nat}{p:Option Addr}{cap:Nat}{L:List Int}{f:FuncId}{caps:Array Value}{G:Nat→Prop}(hs:SrcB inL 1 w B p cap L) (hG:∀ k,G k→B≤k) (eg:aEM Tryz.prog f) (I:Nat→World→Prop) (q:Nat→Bool) (h0:I 0 w) (step:∀ i x w1,L[i]?=some x→(∀ j,j<i→q j=false)→I i w1→Fr G w w1→Calls Tryz.prog f (#[vI x]++caps) w1 fun e w2=>e = .returned (vB (q i))∧I (i+1) w2∧Fr G w1 w2):Calls Tryz.prog 152 #[vL p L.length cap,.func (.func f) #[] caps] w fun e w'=>(∃ z,e = .returned (vB (decide (0≤z)))∧Fst L q I w' z)∧Fr G w w':=by
  refine beg Tryz.func152 rfl rfl [(0,vL p L.length cap),(1,.func (.func f) #[] caps)] rfl rfl fun Φ hΦ=>?_;have hM:=Mm.nil G w;refine cal 1 2 7 [(5,vL p L.length cap),(6,.func (.func f) #[] caps)] (K:=fun u w8=>∃ z,u=vI z∧Fst L q I w8 z∧Fr G w w8) f0 ((aKA hs hG eg I q h0 step).mono fun e w9 h=>⟨_,h.1.choose_spec.1,_,rfl,h.1.choose_spec.2,h.2⟩) fun u w1 ⟨z,hu,hz,f1⟩=>?_;subst hu;have hM:=hM.g f1;exact rt1 4 (vB (decide (0≤z))) rfl f0 (hΦ _ _ ⟨⟨_,rfl,hz⟩,hM.fr⟩)
def aPA (n:Int):Bool:=decide (n < -2097152)||decide (2097152<n)
theorem aGx {w:World}(n:Int):Calls Tryz.prog 153 #[vI n] w fun e w'=>e = .returned (vB (aPA n))∧Fr (fun _=>False) w w':=by
  refine beg Tryz.func153 rfl rfl [(0,vI n)] rfl rfl fun Φ hΦ=>?_;have hM:=Mm.nil (fun _=>False) w;refine seg 1 3 [(5,vB (decide (n<(-2097152))))] f0 ?_;cases aa:(decide (n<(-2097152)))
  ·have ab:=df aa;exact rt1 2 (vB (decide (2097152<n))) rfl f0 (hΦ _ _ ⟨by unfold aPA;simp only [aa]<;>rfl,hM.fr⟩)
  have ab:=dt aa;exact rt1 2 (vB true) rfl f0 (hΦ _ _ ⟨by unfold aPA;simp only [aa]<;>rfl,hM.fr⟩)
def atQ {α:Type}(L:List α) (q:α→Bool) (i:Nat):Bool:=match L[i]? with | some x=>q x | none=>false
theorem aME {α:Type}{L:List α}{q:α→Bool}{I:Nat→World→Prop}{w:World}{z:Int}(h:Fst L (atQ L q) I w z):decide (0≤z)=L.any q:=by
  cases h with
  | none hq _ =>
    have:L.any q=false:=by
      rw [List.any_eq_false];intro x hx;obtain ⟨i,hi,rfl⟩:=List.mem_iff_getElem.1 hx;have:=hq i hi;unfold atQ at this;simp only [List.getElem?_eq_getElem hi] at this;rw [this];simp
    rw [this];rfl
  | some i hi hw _ _ =>
    unfold atQ at hw;simp only [List.getElem?_eq_getElem hi] at hw;have:L.any q=true:=List.any_eq_true.2 ⟨_,List.getElem_mem hi,hw⟩;rw [this,decide_eq_true (by omega)]
theorem aGS {w:World}{p:Option Addr}{cap:Nat}{L:List Int}(hs:SrcP inL 1 w p cap L):Calls Tryz.prog 103 #[vL p L.length cap] w fun e w'=>e = .returned (vB (!(L.any aPA)))∧Fr (fun _=>False) w w':=by
  refine beg Tryz.func103 rfl rfl [(0,vL p L.length cap)] rfl rfl fun Φ hΦ=>?_;have hM:=Mm.nil (fun _=>False) w;refine aAq 1 1 4 [(3,vL p L.length cap)] f0 hM ((aMX (caps:=#[]) (hs.b hM.fr) (G:=fun _=>False) (fun _ h=>h.elim) (enters_of Tryz.func153 (by kernel_rfl) rfl) (fun _ _=>True) (atQ L aPA) trivial (fun i x w1 hx _ _ f=>(aGx x).mono fun e w2 h=>⟨by rw [h.1];unfold atQ;simp only [hx],trivial,h.2⟩)).mono fun e w9 h=>⟨by obtain ⟨z,h1,h2⟩:=h.1;rw [h1,aME h2],h.2⟩) fun w1 hM=>rt1 2 (vB (!(L.any aPA))) rfl f0 (hΦ _ _ ⟨by rfl,hM.fr⟩)
theorem aUg (b k:Nat) {w:World}:Ft.ok Tryz.prog w (.g2 (fun x y => .binOp .eql 134 x y 134) (vP b k) (.pointer none) (vB false)):=fun o ρ x y ho hx hy=>by
  simp [execOp,ho,hx,hy,go_sem]
def bxF (m:Bys→Option (Pt×Pt)):Value→Option Value
  | .string s=>(m s.toList).map bxV
  | _=>none
theorem aPF (m:Bys→Option (Pt×Pt)) (s:Bys):bxF m (vS s)=(m s).map bxV:=by
  show (m (ofL s).toList).map bxV=_;rw [aAA]
theorem aQW:(fun _=>none)=bxF (fun _=>none):=by funext v;cases v<;>rfl
def aRK (m:Bys→Option (Pt×Pt)) (s:Bys) (b:Pt×Pt):Bys→Option (Pt×Pt):=fun t=>if t=s then some b else m t
theorem aQV (m:Bys→Option (Pt×Pt)) (s:Bys) (b:Pt×Pt):upd (bxF m) (vS s) (bxV b)=bxF (aRK m s b):=by
  funext v
  by_cases hv:v=vS s
  · subst hv
    rw [aPF];unfold aRK;simp [upd]
  · unfold upd
    rw [if_neg hv]
    cases v with
    | string t =>
      show (m t.toList).map bxV=(aRK m s b t.toList).map bxV;unfold aRK;rw [if_neg];intro e;apply hv;show Value.string t = .string (ofL s);rw [←e,aJ7]
    | _=>rfl
theorem aTr (m:Bys→Option (Pt×Pt)) (s:Bys):(.tuple #[(bxF m (vS s)).getD (bxV ((0,0),(0,0))),.bool (bxF m (vS s)).isSome]:Value) = .tuple #[bxV ((m s).getD ((0,0),(0,0))),vB (m s).isSome]:=by
  rw [aPF];cases m s<;>rfl
theorem aPl (w:World):(zeroValue 140).run Tryz.prog w = .ok (bxV ((0,0),(0,0))) w:=by kernel_rfl
theorem aIK {w:World}{G:Nat→Prop}{ix mb n:Nat}{rv:Value}{pk:Bool}{m:Bys→Option (Pt×Pt)}(hM0:Mm G w w [bk ix #[.map (some mb),rv,vB pk] 232,mp Tryz.prog 9 mb n (bxF m)]) {s:Bys}(hs:B63 s) (b:Pt×Pt):Calls Tryz.prog 77 #[vP ix 0,vS s,bxV b] w fun e w'=>∃ u Mn,e = .returned u∧(∃ (c:Int) (n':Nat) (m':Bys→Option (Pt×Pt)) (pk':Bool),u=vI c∧n'≤n+1∧Mn=[bk ix #[.map (some mb),rv,vB pk'] 232,mp Tryz.prog 9 mb n' (bxF m')])∧Mm G w w' Mn:=by
  refine beg Tryz.func77 rfl rfl [(0,vP ix 0),(1,vS s),(2,.agg #[vI b.1.1,vI b.1.2,vI b.2.1,vI b.2.2])] rfl rfl fun Φ hΦ=>?_;have hM:=hM0;refine aAn 0 0 5 [] (cs:=#[vI b.1.1,vI b.1.2,vI b.2.1,vI b.2.2]) (T:=140) (v:=fun b=>vP b 0) f0 hM fun aa w1 hM=>aAn 1 15 24 [(11,vB false),(14,vI b.1.1),(17,vI b.1.2),(20,vI b.2.1),(23,vI b.2.2)] (cs:=#[vI b.1.1,vI b.1.2,vI b.2.1,vI b.2.2]) (T:=3) (v:=fun b=>vL (some ⟨b,0,none⟩) 4 4) (fc (aUg ix 0) (fc (ldm 3 2 0 hM rfl rfl) (fc (ldm 3 2 1 hM rfl rfl) (fc (ldm 3 2 2 hM rfl rfl) (fc (ldm 3 2 3 hM rfl rfl) f0))))) hM fun ab w1 hM=>aAq 1 16 25 [] f0 hM (aGS (L:=[b.1.1,b.1.2,b.2.1,b.2.2]) (aCR (f:=inL) (c:=1) (hM.get 3 rfl) [b.1.1,b.1.2,b.2.1,b.2.2] 4 (fun _=>rfl) rfl rfl)) fun w1 hM=>seg 1 20 [(28,vB (!(!([b.1.1,b.1.2,b.2.1,b.2.2].any aPA))))] f0 ?_;cases aj:([b.1.1,b.1.2,b.2.1,b.2.2].any aPA)
  rotate_left
  ·exact rt1 6 (vI 1) rfl f0 (hΦ _ _ ⟨_,_,rfl,⟨1,n,m,pk,rfl,by omega,rfl⟩,hM.pick [0,1]⟩)
  refine seg 1 29 [(37,vB (decide (b.2.1<b.1.1)))] (fc (ldm 3 2 0 hM rfl rfl) (fc (ldm 3 2 2 hM rfl rfl) f0)) ?_;cases ac:(decide (b.2.1<b.1.1))
  rotate_left
  ·have ag:=dt ac;exact rt1 6 (vI 1) rfl f0 (hΦ _ _ ⟨_,_,rfl,⟨1,n,m,pk,rfl,by omega,rfl⟩,hM.pick [0,1]⟩)
  have ag:=df ac;refine seg 1 37 [(45,vB (decide (b.2.2<b.1.2)))] (fc (ldm 3 2 1 hM rfl rfl) (fc (ldm 3 2 3 hM rfl rfl) f0)) ?_;cases ad:(decide (b.2.2<b.1.2))
  rotate_left
  ·have ah:=dt ad;exact rt1 6 (vI 1) rfl f0 (hΦ _ _ ⟨_,_,rfl,⟨1,n,m,pk,rfl,by omega,rfl⟩,hM.pick [0,1]⟩)
  have ah:=df ad;refine aBD 3 9 7 [(53,.agg #[vI ((m s).getD ((0,0),(0,0))).1.1,vI ((m s).getD ((0,0),(0,0))).1.2,vI ((m s).getD ((0,0),(0,0))).2.1,vI ((m s).getD ((0,0),(0,0))).2.2]),(54,vB (m s).isSome)] [] 140 (.agg #[vI ((m s).getD ((0,0),(0,0))).1.1,vI ((m s).getD ((0,0),(0,0))).1.2,vI ((m s).getD ((0,0),(0,0))).2.1,vI ((m s).getD ((0,0),(0,0))).2.2]) (fc (ldm 230 0 0 hM rfl rfl) (fc (rz2 (lko 230 1 (vS s) (bxV ((0,0),(0,0))) hM rfl aDw u230_ (aDx hs) (aPl _)) (aTr m s)) f0)) hM fun ae w1 hM=>seg 4 1 [(55,vB (m s).isSome)] f0 ?_
  cases ak:(m s).isSome with
  | false =>
   obtain ⟨cl,hcl,hlf⟩:=aUn 230 u230_ (hM.get 1 rfl);refine seg 6 6 [(61,vB ((cl:Int)==1000000))] (fc (ldm 230 0 0 hM rfl rfl) (fc (hlf _ rfl) f0)) ?_;cases af:((cl:Int)==1000000)
   rotate_left
   ·have ai:=et af;exact rt1 6 (vI 21) rfl f0 (hΦ _ _ ⟨_,_,rfl,⟨21,n,m,pk,rfl,by omega,rfl⟩,hM.pick [0,1]⟩)
   have ai:=ef af;obtain ⟨ob,hob,hM⟩:=hM.toOb (j:=1) rfl;obtain ⟨ob1,ob2,xo,so,hr1,hr2,hob2⟩:=hob.entry aDw u230_ mb (aDx hs).choose_spec aPl (bxV b);refine seg 8 0 [] f0 (drx [3,7,9,12] (fun γ=>[some (.map (some mb)),some (.tuple #[xo,vI so]),none,none]) _ (fun γ l=>[bk ix #[.map (some mb),rv,(bif l.getD 3 false then vB false else vB pk)] 232,(bif l.getD 2 false then obE mb ob2 else (bif l.getD 1 false then obE mb ob1 else obE mb ob)),bk aa #[vI b.1.1,vI b.1.2,vI b.2.1,vI b.2.2] 140,bk ab #[vI b.1.1,vI b.1.2,vI b.2.1,vI b.2.2] 3,bk ae #[vI ((m s).getD ((0,0),(0,0))).1.1,vI ((m s).getD ((0,0),(0,0))).1.2,vI ((m s).getD ((0,0),(0,0))).2.1,vI ((m s).getD ((0,0),(0,0))).2.2] 140]) (fun γ=>[]) hM (fun γ=>rfl) (fun γ l w5 hM=>(fc (lam 140 2 0 4 hM rfl) f0)) ⟨aHb 0 3 230 0 0 65 (fun γ=>ix) (fun γ l=>#[.map (some mb),rv,(bif l.getD 3 false then vB false else vB pk)]) 232 (fun γ => .map (some mb)),aTv 1 7 69 230 1 mb ob ob1 (vS s) xo so hr1,aTx 2 9 230 1 mb ob1 ob2 so (.agg #[vI b.1.1,vI b.1.2,vI b.2.1,vI b.2.2]) hr2,aA6 3 12 4 0 2 (fun γ=>ix) (fun γ l=>#[.map (some mb),rv,(bif l.getD 3 false then vB false else vB pk)]) 232 (fun γ=>vB false),trivial⟩ fun al w1 hM=>?_);replace hM:Mm G w w1 [bk ix #[.map (some mb),rv,vB false] 232,_,bk aa #[vI b.1.1,vI b.1.2,vI b.2.1,vI b.2.2] 140,bk ab #[vI b.1.1,vI b.1.2,vI b.2.1,vI b.2.2] 3,bk ae #[vI ((m s).getD ((0,0),(0,0))).1.1,vI ((m s).getD ((0,0),(0,0))).1.2,vI ((m s).getD ((0,0),(0,0))).2.1,vI ((m s).getD ((0,0),(0,0))).2.2] 140]:=hM;have hM:=hM.ofOb (j:=1) rfl hob2;rw [aQV] at hM;exact rt1 6 (vI 0) rfl f0 (hΦ _ _ ⟨_,_,rfl,⟨0,(n+1),(aRK m s b),false,rfl,by omega,rfl⟩,hM.pick [0,1]⟩)
  | true =>
   exact rt1 6 (vI 9) rfl f0 (hΦ _ _ ⟨_,_,rfl,⟨9,n,m,pk,rfl,by omega,rfl⟩,hM.pick [0,1]⟩)
end Go.Proofs.YtnhljdeohelgjaaGreatDoor
namespace Go.Pl
open Go.RowKit Go.Proofs.YtnhljdeohelgjaaGreatDoor
section
variable {P:Program}{w w0:World}{rd:Option Nat}{B:Code}{r n:Nat}{L:Frm}{ef:List Nat}{V:Lts→List (Option Value)}{F:Lts→List Ft}{ds:List Deferred}{F0:Nat→Prop}{Mf:Lts→List Bool→List Ent}
theorem aS0 (p i j d:Nat) (K:TypeId)
  (hj:∀ γ fr,(Mf γ (flg B r ef i fr))[j]?=some aEc:=by intro γ fr;kernel_rfl)
  (hm:∀ γ fr (b:Nat),(Mf γ (flg B r ef i fr)).set j (mp P K b 0 fun _=>none)=Mf (aB6 γ p (vI (b:Int))) ((flg B r ef i fr).set p true):=by intro γ fr b;kernel_rfl)
  (hV:∀ γ (b:Nat),((V (aB6 γ p (vI (b:Int))))[p]?).getD none=some (.map (some b)):=by intro γ b;rfl)
  (hs:∀ γ wm,opX P wm (aAz B r) i (frX P w n B r L ef V F i γ)=some (some d,.ok (.value (.map (some wm.heap.size)),wm.alloc (.map #[] 0))):=by intro γ wm;kernel_rfl):Arm rd P w n B r L ef V F ds F0 w0 Mf p i:=by
 intro γ fr a wm Q o ho E hw hM;obtain ⟨h1,h2⟩:=aP0 ho E (hs γ wm);have hM':=hM.put j (hj γ fr) ((Fr.refl (fun _=>False) wm).alloc (.map #[] 0)) (fun k _ e=>e.elim) (e':=mp P K wm.heap.size 0 fun _=>none) (aCj.made wm) fun k e => .inr (by have:k=wm.heap.size:=e;omega);rw [hm] at hM';exact aC9 h2 ⟨_,γ.e p,by rw [aAo,hV,h1];rfl,by rw [aAo];exact hM'⟩
theorem aNl (p i j d:Nat) {f:FuncId}(args:Lts→Array Value) (K:Nat→Ent→Prop)
  (hc:∀ γ fr wm,Mm F0 w0 wm (Mf γ (flg B r ef i fr))→Calls P f (args γ) wm fun x w'=>∃ u e,x = .returned (vP u 0)∧K u e∧Mm (fun _=>False) wm w' [e])
  (hj:∀ γ fr,(Mf γ (flg B r ef i fr))[j]?=some aEc:=by intro γ fr;kernel_rfl)
  (hm:∀ γ fr (u:Nat) e,(Mf γ (flg B r ef i fr)).set j (pfE (K u) e)=Mf (aFX (aB6 γ p (vI (u:Int))) p e) ((flg B r ef i fr).set p true):=by intro γ fr u e;kernel_rfl)
  (hV:∀ γ (u:Nat) e,((V (aFX (aB6 γ p (vI (u:Int))) p e))[p]?).getD none=some (vP u 0):=by intro γ u e;rfl)
  (hs:∀ γ wm,enL P wm (aAz B r) i (frX P w n B r L ef V F i γ)=some (f,args γ,some d,wm):=by intro γ wm;kernel_rfl):Arm rd P w n B r L ef V F ds F0 w0 Mf p i:=by
 intro γ fr a wm Q o ho En hw hM;obtain ⟨h1,h2⟩:=aIT ho En (hs γ wm);refine aCA (R:=fun v w'=>∃ u e,v=vP u 0∧K u e∧Mm (fun _=>False) wm w' [e]) h1 ((hc γ fr wm hM).mono fun x w' ⟨u,e,g1,g2,g3⟩=>⟨_,g1,u,e,rfl,g2,g3⟩) fun v w' ⟨u,e,hv,g2,g3⟩=>?_;subst hv
 have hM':=hM.put (w':=w') j (hj γ fr) g3.fr (fun k _ e=>e.elim) (e':=pfE (K u) e) ⟨g2,g3.get 0 rfl⟩ (fun k hk => .inr (by
  rcases Nat.lt_or_ge k wm.heap.size with h | h
  ·exact (g3.own e (.head _) k hk h).elim
  ·exact h))
 rw [hm] at hM';exact ⟨vI (u:Int),e,by rw [hV,h2];rfl,hM'⟩
def tp0:Value→Value
 | .tuple a=>a.getD 0 .nilIface
 | _ => .nilIface
def tp1:Value→Int
 | .tuple a=>match a.getD 1 .nilIface with
  | .int _ z=>z
  | _=>0
 | _=>0
theorem aNk (p i j d:Nat) {f:FuncId}(args:Lts→Array Value) (K:Value→Int→Ent→Prop)
  (hc:∀ γ fr wm,Mm F0 w0 wm (Mf γ (flg B r ef i fr))→Calls P f (args γ) wm fun x w'=>∃ u z e,x = .returned (.tuple #[u,vI z])∧K u z e∧Mm (fun _=>False) wm w' [e])
  (hj:∀ γ fr,(Mf γ (flg B r ef i fr))[j]?=some aEc:=by intro γ fr;kernel_rfl)
  (hm:∀ γ fr u (z:Int) e,(Mf γ (flg B r ef i fr)).set j (pfE (K u z) e)=Mf (aFX (aB6 γ p (.tuple #[u,vI z])) p e) ((flg B r ef i fr).set p true):=by intro γ fr u z e;kernel_rfl)
  (hV:∀ γ u (z:Int) e,((V (aFX (aB6 γ p (.tuple #[u,vI z])) p e))[p]?).getD none=some (.tuple #[u,vI z]):=by intro γ u z e;rfl)
  (hs:∀ γ wm,enL P wm (aAz B r) i (frX P w n B r L ef V F i γ)=some (f,args γ,some d,wm):=by intro γ wm;kernel_rfl):Arm rd P w n B r L ef V F ds F0 w0 Mf p i:=by
 intro γ fr a wm Q o ho En hw hM;obtain ⟨h1,h2⟩:=aIT ho En (hs γ wm);refine aCA (R:=fun v w'=>∃ u z e,v = .tuple #[u,vI z]∧K u z e∧Mm (fun _=>False) wm w' [e]) h1 ((hc γ fr wm hM).mono fun x w' ⟨u,z,e,g1,g2,g3⟩=>⟨_,g1,u,z,e,rfl,g2,g3⟩) fun v w' ⟨u,z,e,hv,g2,g3⟩=>?_;subst hv
 have hM':=hM.put (w':=w') j (hj γ fr) g3.fr (fun k _ e=>e.elim) (e':=pfE (K u z) e) ⟨g2,g3.get 0 rfl⟩ (fun k hk => .inr (by
  rcases Nat.lt_or_ge k wm.heap.size with h | h
  ·exact (g3.own e (.head _) k hk h).elim
  ·exact h))
 rw [hm] at hM';exact ⟨.tuple #[u,vI z],e,by rw [hV,h2];rfl,hM'⟩
theorem aRe (p i j d:Nat) {f:FuncId}(args:Lts→Array Value) (e0:Lts→Ent) (K:Value→Ent→Prop)
  (hc:∀ γ fr wm,Mm F0 w0 wm (Mf γ (flg B r ef i fr))→Mm (BlM [e0 γ]) wm wm [e0 γ]→Calls P f (args γ) wm fun x w'=>∃ u e,x = .returned u∧K u e∧Mm (BlM [e0 γ]) wm w' [e])
  (hj:∀ γ fr,(Mf γ (flg B r ef i fr))[j]?=some (e0 γ):=by intro γ fr;kernel_rfl)
  (hm:∀ γ fr u e,(Mf γ (flg B r ef i fr)).set j (pfE (K u) e)=Mf (aFX (aB6 γ p u) p e) ((flg B r ef i fr).set p true):=by intro γ fr u e;kernel_rfl)
  (hV:∀ γ u e,((V (aFX (aB6 γ p u) p e))[p]?).getD none=some u:=by intro γ u e;rfl)
  (hs:∀ γ wm,enL P wm (aAz B r) i (frX P w n B r L ef V F i γ)=some (f,args γ,some d,wm):=by intro γ wm;kernel_rfl):Arm rd P w n B r L ef V F ds F0 w0 Mf p i:=by
 intro γ fr a wm Q o ho En hw hM;obtain ⟨h1,h2⟩:=aIT ho En (hs γ wm);have h1M:Mm (BlM [e0 γ]) wm wm [e0 γ]:=⟨Fr.refl _ _,fun x hx=>by rw [List.mem_singleton] at hx;subst hx;exact hM.get j (hj γ fr),fun x hx k hk _=>⟨x,hx,hk⟩,List.pairwise_singleton _ _⟩;refine aCA (R:=fun u w'=>∃ e,K u e∧Mm (BlM [e0 γ]) wm w' [e]) h1 ((hc γ fr wm hM h1M).mono fun x w' ⟨u,e,g1,g2,g3⟩=>⟨u,g1,e,g2,g3⟩) fun u w' ⟨e,g2,g⟩=>?_
 have hB:∀ k,BlM [e0 γ] k→(e0 γ).B k:=fun k hk=>by
  obtain ⟨x,hx,hk⟩:=hk;rw [List.mem_singleton] at hx;subst hx;exact hk
 have hM':=hM.put (w':=w') j (hj γ fr) g.fr (fun k _ h=>hB k h) (e':=pfE (K u) e) ⟨g2,g.get 0 rfl⟩ (fun k hk=>by
  by_cases hlt:k<wm.heap.size
  ·exact .inl (hB k (g.own _ (.head _) k hk hlt))
  ·exact .inr (by omega))
 rw [hm] at hM';exact ⟨u,e,by rw [hV,h2];rfl,hM'⟩
end
section
variable {F0:Nat→Prop}{w0 w:World}
theorem Mm.ung {A Ms C:List Ent}(h:Mm F0 w0 w (A++aJG Ms::C)):Mm F0 w0 w (A++(Ms++C)):=by
 obtain ⟨n1,n2,n3⟩:=List.pairwise_append.1 h.nd;obtain ⟨n4,n5⟩:=List.pairwise_cons.1 n2;have hg:(aJG Ms).H w:=h.at_ _ (List.mem_append_right _ (.head _));refine ⟨h.fr,fun x hx=>?_,fun x hx k hk hl=>?_,?_⟩
 ·rcases List.mem_append.1 hx with hx | hx
  ·exact h.at_ x (List.mem_append_left _ hx)
  ·rcases List.mem_append.1 hx with hx | hx
   ·exact hg.1 x hx
   ·exact h.at_ x (List.mem_append_right _ (.tail _ hx))
 ·rcases List.mem_append.1 hx with hx | hx
  ·exact h.own x (List.mem_append_left _ hx) k hk hl
  ·rcases List.mem_append.1 hx with hx | hx
   ·exact h.own (aJG Ms) (List.mem_append_right _ (.head _)) k ⟨x,hx,hk⟩ hl
   ·exact h.own x (List.mem_append_right _ (.tail _ hx)) k hk hl
 ·refine List.pairwise_append.2 ⟨n1,List.pairwise_append.2 ⟨hg.2,n5,fun x hx y hy k hk=>n4 y hy k ⟨x,hx,hk⟩⟩,fun x hx y hy k hk hk'=>?_⟩;rcases List.mem_append.1 hy with hy | hy
  ·exact n3 x hx (aJG Ms) (.head _) k hk ⟨y,hy,hk'⟩
  ·exact n3 x hx y (.tail _ hy) k hk hk'
end
end Go.Pl
