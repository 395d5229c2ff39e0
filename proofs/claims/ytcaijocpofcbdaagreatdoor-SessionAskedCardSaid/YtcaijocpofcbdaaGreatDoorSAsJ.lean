/- The walks of session's First, Pairs, Has. Conditions: none. -/
import Derived.Test.YtcaijocpofcbdaaGreatDoorSAsI
set_option linter.unusedSectionVars false
set_option linter.unusedSimpArgs false
set_option linter.unusedVariables false
set_option maxRecDepth 10000
namespace Go.Proofs
open Go Go.Ab
attribute [local irreducible] QR QV OE zb4 aw zcn zby zbe zaj thn ze7 zdh jch zeh
open Go.H
def br0:Brch:=⟨0,0,0,0,0,0⟩
theorem zps {h:Hist} {s g:Int} (he:zf6 h s g=0):zbx h s=0∧zzm h s g=u9 h s∧∃k:Nat,k < 4∧zzn h s g=(k:Int)∧zes k=g∧zkr g=(k:Int):=by
 by_cases hl:zbx h s=0
 ·by_cases hg:zkr g < 0
  ·have:=(zl9 hl hg).1;omega
  ·obtain ⟨k,hk,e1,e2⟩:=yfl hg
   exact ⟨hl,(zgg hl hg).2.1,k,hk,by rw [(zgg hl hg).2.2,e1],e2,e1⟩
 ·have:=(zj0 (g:=g) hl).1;omega
theorem zkf (l:List Acc):∀n:Nat,(zn2 n l).length=(l.filter fun a=>decide (0≤a.o∧a.o < (n:Int))).length
 |0=>by
  have:(l.filter fun a=>decide (0≤a.o∧a.o < ((0:Nat):Int)))= []:=by
   rw [List.filter_eq_nil_iff];intro a _;simp <;> omega
  rw [this];rfl
 |n+1=>by
  have ih:=zkf l n
  rw [zn2,ydc,List.flatMap_append,List.length_append]
  rw [zn2] at ih
  rw [ih]
  clear ih
  induction l with
  |nil=>rfl
  |cons a l ih=>
   simp only [List.filter_cons,List.flatMap_cons,List.flatMap_nil,List.append_nil] at ih ⊢
   by_cases h1:a.o=(n:Int)
   ·have e1:decide (0≤a.o∧a.o < (n:Int))=false:=decide_eq_false (by omega)
    have e2:decide (0≤a.o∧a.o < ((n+1:Nat):Int))=true:=decide_eq_true (by omega)
    have e3:(a.o==(n:Int))=true:=by simpa using h1
    rw [e1,e2,e3];simp only [↓reduceIte,List.length_cons,Bool.false_eq_true] at ih ⊢;omega
   ·have e3:(a.o==(n:Int))=false:=by simpa using h1
    by_cases h2:0≤a.o∧a.o < (n:Int)
    ·have e1:decide (0≤a.o∧a.o < (n:Int))=true:=decide_eq_true h2
     have e2:decide (0≤a.o∧a.o < ((n+1:Nat):Int))=true:=decide_eq_true (by omega)
     rw [e1,e2,e3];simp only [↓reduceIte,List.length_cons,Bool.false_eq_true] at ih ⊢;omega
    ·have e1:decide (0≤a.o∧a.o < (n:Int))=false:=decide_eq_false h2
     have e2:decide (0≤a.o∧a.o < ((n+1:Nat):Int))=false:=decide_eq_false (by omega)
     rw [e1,e2,e3];simp only [↓reduceIte,Bool.false_eq_true];exact ih
theorem zp5 (n:Nat) (l:List Acc):(zn2 n l).length≤l.length:=by rw [zkf];exact List.length_filter_le _ _
theorem zls {h:Hist} (hc:za6 h=0) (s:Int):(u9 h s).length≤3000∧∀d∈u9 h s,d.A.length≤3000∧d.B.length≤3000:=by
 have lE:=(zjt hc).evs
 refine ⟨by rw [u9,List.length_map];exact Nat.le_trans (zqu h s) lE,fun d hd=> ?_⟩
 obtain ⟨t,_,rfl⟩:=List.mem_map.1 hd
 have h1:=zp5 h.os.length (zmb h t 3)
 have h2:=zp5 h.os.length (zmb h t 2)
 have h3:(zmb h t 3).length≤h.evs.length:=zen h t 3 h.evs.length
 have h4:(zmb h t 2).length≤h.evs.length:=zen h t 2 h.evs.length
 exact ⟨by show (zn2 _ _).length≤_;omega,by show (zn2 _ _).length≤_;omega⟩
theorem zpg {k n:Nat} {d:Dos} (h:d.A.length≤n∧d.B.length≤n):(zck k d).length≤n:=by rw [zck];split;exact h.2;exact h.1
theorem zlb {k n:Nat} {d:Dos} (h:d.A.length≤n∧d.B.length≤n):(zfi k d).length≤n:=by rw [zfi];split;exact h.1;exact h.2
theorem zva (k:Nat) (L:List Dos):∀n,(brW k L n).length≤n * L.length
 |0=>by simp [brW]
 |n+1=>by
  have h1:=zva k L n
  rw [brW,List.length_append,Nat.succ_mul]
  split
  ·rename_i d _
   have h2:=List.length_filterMap_le (hdW k d) (L.take n)
   have h3:(L.take n).length≤L.length:=by rw [List.length_take];omega
   omega
  ·simp;omega
def seB (h:Hist) (s g:Int):List Brch:=if zf6 h s g=0 then brW (zkr g).toNat (u9 h s) (u9 h s).length else []
theorem yao {h:Hist} {s g:Int} (he:zf6 h s g≠0):seB h s g= []:=if_neg he
theorem zrk {h:Hist} {s g:Int} {k:Nat} (he:zf6 h s g=0) (hk:zkr g=(k:Int)):seB h s g=brW k (u9 h s) (u9 h s).length:=by rw [seB,if_pos he,hk];rfl
theorem zqr {α:Type} {l pre rest:List α} {d:α} (h:l=pre++d::rest) (e:pre= []):l=d::rest:=by rw [h,e];rfl
def haK (h:Hist) (s:Int):Nat→Int
 |0=>0
 |k+1=>if brW k (u9 h s) (u9 h s).length= [] then bI .or .i64 (haK h s k) (zes k) else haK h s k
def haO (h:Hist) (s:Int):Int:=if zbx h s=0 then haK h s 4 else 0
set_option maxHeartbeats 8000000 in
theorem zld (h:Hist) (la:Lim 4611686018427387904 h) (s g:Int):x3 Tryz.prog 15 [.agg (x6 h),iv s,iv g] (.glob 0 117 x7:: .glob 3 148 y8:: .glob 5 276 y9:: .glob 6 279 y4:: .glob 2 197 u3:: []) (fun r h'=>h'= .glob 0 117 x7:: .glob 3 148 y8:: .glob 5 276 y9:: .glob 6 279 y4:: .glob 2 197 u3:: []∧r= .tup [.agg (zdl ((seB h s g).head?.getD br0)),bv (seB h s g).head?.isSome,iv (zf6 h s g)]):=by
 refine z6 Tryz.func15 rfl rfl rfl ?_
 refine rn ?_;refine z7 rfl (x9 rfl rfl rfl fun b3=> ?_)
 refine z7 rfl (x5 rfl fun b6=> ?_)
 refine z7 rfl (x5 rfl fun b7=> ?_)
 refine z7 rfl (x5 rfl fun b8=> ?_)
 refine rn ?_;refine qv rfl rfl (y6 rfl rfl (z8.qt (z8.of_fun (zqd h la s g)) ((pt4 _ _ _ _ _ _).trans (.cons _ ((pt4 _ _ _ _ _ _).trans (.cons _ ((pt4 _ _ _ _ _ _).trans (.cons _ ((pt4 _ _ _ _ _ _).trans (.cons _ (pt4 _ _ _ _ _ _))))))))))) ?_
 refine rn ?_;refine y3 rfl (fun hc22=> ?_) (fun hc22=> ?_)
 ·have he:zf6 h s g≠0:=nzT hc22
  refine rn ?_;exact zfr (.cons _ _ _ _ (.agg _ _ _ _ _ _ _ rfl inferInstance inferInstance inferInstance rfl) (.cons _ _ _ _ (.one _ _ _ _ _ _ _ rfl inferInstance inferInstance rfl) (.cons _ _ _ _ (.one _ _ _ _ _ _ _ rfl inferInstance inferInstance rfl) .nil))) (.drop [_,_,_,_] _ _) ⟨rfl,by rw [yao he];rfl⟩
 ·have he:zf6 h s g=0:=nzF hc22
  obtain ⟨hl0,eO,k,hk,eI,eB,eG⟩:=zps he
  have hB:=zls (zds.2 (zvl hl0).1) s
  rw [eI,eO]
  refine rn ?_;refine z7 rfl (w7 rfl rfl (z8.of_fun (zs4 k (u9 h s) _)) rfl ?_)
  rintro _ _ ⟨bi,bl,rfl,rfl⟩
  refine rn ?_;refine zl7 (fun pend h''=>(pend=none∧(brW k (u9 h s) (u9 h s).length)= []∧h''= .box bl 101 [zc1 (u9 h s)]:: .box bi 3 [iv ((k:Nat):Int)]:: .glob 0 117 x7:: .box b8 32 [iv 0]:: .box b7 4 [bv false]:: .box b6 36 (zdl br0):: .box b3 28 (x6 h):: .glob 3 148 y8:: .glob 5 276 y9:: .glob 6 279 y4:: .glob 2 197 u3:: [])∨(pend=some .ret∧∃d rest,(brW k (u9 h s) (u9 h s).length)=d::rest∧h''= .box bl 101 [zc1 (u9 h s)]:: .box bi 3 [iv ((k:Nat):Int)]:: .glob 0 117 x7:: .box b8 32 [iv 0]:: .box b7 4 [bv true]:: .box b6 36 (zdl d):: .box b3 28 (x6 h):: .glob 3 148 y8:: .glob 5 276 y9:: .glob 6 279 y4:: .glob 2 197 u3:: [])) rfl (fun fn l q lp hlp=> ?_) (fun q h'' hK=> ?_) (fun q h'' cc hK=> ?_)
  ·suffices hy:∀pre d rest (x:Brch),(brW k (u9 h s) (u9 h s).length)=pre++d::rest→pre= []→z8 Tryz.prog (yv l) [.agg (zdl d)] (.box bl 101 [zc1 (u9 h s)]:: .box bi 3 [iv ((k:Nat):Int)]:: .glob 0 117 x7::lp .ready none:: .defs q:: .box b8 32 [iv 0]:: .box b7 4 [bv false]:: .box b6 36 (zdl br0):: .box b3 28 (x6 h):: .glob 3 148 y8:: .glob 5 276 y9:: .glob 6 279 y4:: .glob 2 197 u3:: []) (fun r h'=>∃x',(r=bv true∧pre++ [d]= []∧h'= .box bl 101 [zc1 (u9 h s)]:: .box bi 3 [iv ((k:Nat):Int)]:: .glob 0 117 x7::lp .ready none:: .defs q:: .box b8 32 [iv 0]:: .box b7 4 [bv false]:: .box b6 36 (zdl br0):: .box b3 28 (x6 h):: .glob 3 148 y8:: .glob 5 276 y9:: .glob 6 279 y4:: .glob 2 197 u3:: [])∨(r=bv false∧(∃rest,(brW k (u9 h s) (u9 h s).length)=x'::rest)∧h'= .box bl 101 [zc1 (u9 h s)]:: .box bi 3 [iv ((k:Nat):Int)]:: .glob 0 117 x7::lp .done (some .ret):: .defs q:: .box b8 32 [iv 0]:: .box b7 4 [bv true]:: .box b6 36 (zdl x'):: .box b3 28 (x6 h):: .glob 3 148 y8:: .glob 5 276 y9:: .glob 6 279 y4:: .glob 2 197 u3:: [])) by
    refine x3.mono (x3.perm ((pt2 _ _ _ _).trans (.cons _ ((pt2 _ _ _ _).trans (.cons _ (pt6 _ _ _ _ _ _ _ _))))) (zs3 k hk (u9 h s) (by omega) (fun d hd=>zpg ⟨Nat.le_trans (hB.2 d hd).1 (by decide),Nat.le_trans (hB.2 d hd).2 (by decide)⟩) (fun d hd=>zlb ⟨Nat.le_trans (hB.2 d hd).1 (by decide),Nat.le_trans (hB.2 d hd).2 (by decide)⟩) (yv l) rfl bi bl (fun pre _=>pre= []) (fun d=>∃rest,(brW k (u9 h s) (u9 h s).length)=d::rest) (fun _ _=>lp .ready none:: .defs q:: .box b8 32 [iv 0]:: .box b7 4 [bv false]:: .box b6 36 (zdl br0):: .box b3 28 (x6 h):: .glob 3 148 y8:: .glob 5 276 y9:: .glob 6 279 y4:: .glob 2 197 u3:: []) (fun d=>lp .done (some .ret):: .defs q:: .box b8 32 [iv 0]:: .box b7 4 [bv true]:: .box b6 36 (zdl d):: .box b3 28 (x6 h):: .glob 3 148 y8:: .glob 5 276 y9:: .glob 6 279 y4:: .glob 2 197 u3:: []) br0 rfl hy)) ?_
    rintro _ _ ⟨x,⟨hn,rfl⟩|⟨⟨rest,hn⟩,rfl⟩⟩
    ·exact ⟨none,.ready,_,((pt3 _ _ _ _ _).trans (.cons _ (pt3 _ _ _ _ _))),by simp,.inl ⟨rfl,hn,rfl⟩⟩
    ·exact ⟨some .ret,.done,_,((pt3 _ _ _ _ _).trans (.cons _ (pt3 _ _ _ _ _))),by simp,.inr ⟨rfl,x,rest,hn,rfl⟩⟩
   intro pre d rest x hL hpre
   refine z8.perm (pt3 _ _ _ _ _) (z8.ventE ?_)
   refine zdi hlp rfl rfl ?_
   refine rn ?_;refine z7 rfl (x5 rfl fun b12=> ?_)
   refine rn ?_;refine ⟨[(12,pZ b12),(6,pZ b6),(7,pZ b7),(8,pZ b8)],.box b12 36 (zdl d):: .box bl 101 [zc1 (u9 h s)]:: .box bi 3 [iv ((k:Nat):Int)]:: .glob 0 117 x7:: .defs q:: .box b8 32 [iv 0]:: .box b7 4 [bv false]:: .box b6 36 (zdl br0):: .box b3 28 (x6 h):: .glob 3 148 y8:: .glob 5 276 y9:: .glob 6 279 y4:: .glob 2 197 u3:: [],v8 (zam (pt1 _ _ _)) es,?_⟩
   refine rn ?_;exact zlg (.refl _) ⟨_,_,.trans (.perm ((pt1 _ _ _).trans (.cons _ ((pt1 _ _ _).trans (.cons _ ((pt1 _ _ _).trans (.cons _ (pt1 _ _ _))))))) _) (.drop [_] _ _),d,.inr ⟨rfl,⟨rest,zqr hL hpre⟩,rfl⟩⟩
  ·obtain ⟨_,hn,rfl⟩|⟨hc',_⟩:=hK
   rotate_left
   ·cases hc'
   refine rn ?_;exact zgq (.refl _) (.cons _ _ _ _ (.agg _ _ _ _ _ _ _ rfl inferInstance inferInstance inferInstance rfl) (.cons _ _ _ _ (.one _ _ _ _ _ _ _ rfl inferInstance inferInstance rfl) (.cons _ _ _ _ (.one _ _ _ _ _ _ _ rfl inferInstance inferInstance rfl) .nil))) (.trans (.perm (.cons _ (.cons _ ((pt1 _ _ _).trans (.cons _ ((pt1 _ _ _).trans (.cons _ ((pt1 _ _ _).trans (.cons _ (pt1 _ _ _))))))))) _) (.drop [_,_,_,_,_,_] _ _)) ⟨rfl,by rw [zrk he eG,hn,he];rfl⟩
  ·obtain ⟨hc',_⟩|⟨hc',d,rest,hn,rfl⟩:=hK
   ·cases hc'
   obtain rfl:cc= .ret:=by simpa using hc'
   refine rn ?_;exact zgq (.refl _) (.cons _ _ _ _ (.agg _ _ _ _ _ _ _ rfl inferInstance inferInstance inferInstance rfl) (.cons _ _ _ _ (.one _ _ _ _ _ _ _ rfl inferInstance inferInstance rfl) (.cons _ _ _ _ (.one _ _ _ _ _ _ _ rfl inferInstance inferInstance rfl) .nil))) (.trans (.perm (.cons _ (.cons _ ((pt1 _ _ _).trans (.cons _ ((pt1 _ _ _).trans (.cons _ ((pt1 _ _ _).trans (.cons _ (pt1 _ _ _))))))))) _) (.drop [_,_,_,_,_,_] _ _)) ⟨rfl,by rw [zrk he eG,hn,he];rfl⟩
set_option maxHeartbeats 8000000 in
theorem zs0 (h:Hist) (la:Lim 4611686018427387904 h) (s g:Int):x3 Tryz.prog 16 [.agg (x6 h),iv s,iv g] (.glob 0 117 x7:: .glob 3 148 y8:: .glob 5 276 y9:: .glob 6 279 y4:: .glob 2 197 u3:: []) (fun r h'=>∃v:SV,h'= .row v.v 2 34 (((seB h s g).map prB).map zqo):: .glob 0 117 x7:: .glob 3 148 y8:: .glob 5 276 y9:: .glob 6 279 y4:: .glob 2 197 u3:: []∧r= .tup [.v v.v,iv (zf6 h s g)]):=by
 refine z6 Tryz.func16 rfl rfl rfl ?_
 refine rn ?_;refine z7 rfl (x9 rfl rfl rfl fun b3=> ?_)
 refine rn ?_;refine qv rfl rfl (y6 rfl rfl (z8.qt (z8.of_fun (zqd h la s g)) ((pt1 _ _ _).trans (.cons _ ((pt1 _ _ _).trans (.cons _ ((pt1 _ _ _).trans (.cons _ ((pt1 _ _ _).trans (.cons _ (pt1 _ _ _))))))))))) ?_
 refine rn ?_;refine y3 rfl (fun hc22=> ?_) (fun hc22=> ?_)
 ·have he:zf6 h s g≠0:=nzT hc22
  refine rn ?_;exact zbk rfl rfl (.trans (.drop [_] _ _) (zas 2 34 _)) ⟨⟨none,0,0⟩,by rw [yao he];rfl,rfl⟩
 ·have he:zf6 h s g=0:=nzF hc22
  obtain ⟨hl0,eO,k,hk,eI,eB,eG⟩:=zps he
  have hB:=zls (zds.2 (zvl hl0).1) s
  rw [eI,eO]
  refine rn ?_;refine z7 rfl (x5 rfl fun b11=> ?_)
  refine rn ?_;refine z7 rfl (w7 rfl rfl (z8.of_fun (zs4 k (u9 h s) _)) rfl ?_)
  rintro _ _ ⟨bi,bl,rfl,rfl⟩
  refine rn ?_;refine zff (s':=⟨[(26,.fn (.func 109) [] [pZ bi,pZ bl]),(11,pZ b11)],.row (⟨none,0,0⟩:SV).v 2 34 ((([]:List (Int×Int))).map zqo):: .box bl 101 [zc1 (u9 h s)]:: .box bi 3 [iv (k:Int)]:: .box b11 29 [.v (⟨none,0,0⟩:SV).v]:: .box b3 28 (x6 h):: .glob 0 117 x7:: .glob 3 148 y8:: .glob 5 276 y9:: .glob 6 279 y4:: .glob 2 197 u3:: [],[]⟩) (v8 (zb9 2 34) es) ?_
  refine zl7 (fun pend h''=>pend=none∧∃x:SV,h''= .box bl 101 [zc1 (u9 h s)]:: .box bi 3 [iv ((k:Nat):Int)]:: .glob 0 117 x7:: .row x.v 2 34 (((brW k (u9 h s) (u9 h s).length).map prB).map zqo):: .box b11 29 [.v x.v]:: .box b3 28 (x6 h):: .glob 3 148 y8:: .glob 5 276 y9:: .glob 6 279 y4:: .glob 2 197 u3:: []) rfl (fun fn l q lp hlp=> ?_) (fun q h'' hK=> ?_) (fun q h'' cc hK=> ?_)
  ·suffices hy:∀pre d rest (x:SV),(brW k (u9 h s) (u9 h s).length)=pre++d::rest→True→z8 Tryz.prog (yv l) [.agg (zdl d)] (.box bl 101 [zc1 (u9 h s)]:: .box bi 3 [iv ((k:Nat):Int)]:: .glob 0 117 x7::lp .ready none:: .defs q:: .row x.v 2 34 (((pre).map prB).map zqo):: .box b11 29 [.v x.v]:: .box b3 28 (x6 h):: .glob 3 148 y8:: .glob 5 276 y9:: .glob 6 279 y4:: .glob 2 197 u3:: []) (fun r h'=>∃x':SV,(r=bv true∧True∧h'= .box bl 101 [zc1 (u9 h s)]:: .box bi 3 [iv ((k:Nat):Int)]:: .glob 0 117 x7::lp .ready none:: .defs q:: .row x'.v 2 34 (((pre++ [d]).map prB).map zqo):: .box b11 29 [.v x'.v]:: .box b3 28 (x6 h):: .glob 3 148 y8:: .glob 5 276 y9:: .glob 6 279 y4:: .glob 2 197 u3:: [])∨(r=bv false∧False∧h'= .box bl 101 [zc1 (u9 h s)]:: .box bi 3 [iv ((k:Nat):Int)]:: .glob 0 117 x7:: [])) by
    refine x3.mono (x3.perm ((pt3 _ _ _ _ _).trans (.cons _ ((pt3 _ _ _ _ _).trans (.cons _ (pt5 _ _ _ _ _ _ _))))) (zs3 k hk (u9 h s) (by omega) (fun d hd=>zpg ⟨Nat.le_trans (hB.2 d hd).1 (by decide),Nat.le_trans (hB.2 d hd).2 (by decide)⟩) (fun d hd=>zlb ⟨Nat.le_trans (hB.2 d hd).1 (by decide),Nat.le_trans (hB.2 d hd).2 (by decide)⟩) (yv l) rfl bi bl (fun _ (_:SV)=>True) (fun _=>False) (fun pre (x:SV)=>lp .ready none:: .defs q:: .row x.v 2 34 (((pre).map prB).map zqo):: .box b11 29 [.v x.v]:: .box b3 28 (x6 h):: .glob 3 148 y8:: .glob 5 276 y9:: .glob 6 279 y4:: .glob 2 197 u3:: []) (fun _=> []) ⟨none,0,0⟩ trivial hy)) ?_
    rintro _ _ ⟨x,⟨-,rfl⟩|⟨hF,_⟩⟩
    ·exact ⟨none,.ready,_,((pt3 _ _ _ _ _).trans (.cons _ (pt3 _ _ _ _ _))),by simp,rfl,x,rfl⟩
    ·exact hF.elim
   intro pre d rest x hL _
   have hpl:pre.length≤9000000:=by
    have h1:=zva k (u9 h s) (u9 h s).length
    have h2:(u9 h s).length * (u9 h s).length≤3000 * 3000:=Nat.mul_le_mul hB.1 hB.1
    rw [hL,List.length_append] at h1
    omega
   refine z8.perm (pt3 _ _ _ _ _) (z8.ventE ?_)
   refine zdi hlp rfl rfl ?_
   refine rn ?_;refine z7 rfl (x5 rfl fun b12=> ?_)
   refine rn ?_;refine ⟨[(12,pZ b12),(11,pZ b11)],.box b12 36 (zdl d):: .box bl 101 [zc1 (u9 h s)]:: .box bi 3 [iv ((k:Nat):Int)]:: .glob 0 117 x7:: .defs q:: .row x.v 2 34 ((pre.map prB).map zqo):: .box b11 29 [.v x.v]:: .box b3 28 (x6 h):: .glob 3 148 y8:: .glob 5 276 y9:: .glob 6 279 y4:: .glob 2 197 u3:: [],v8 (zam (pt1 _ _ _)) es,?_⟩
   refine zac ?_;refine y7 ?_;refine q1 ?_;refine q1 ?_;refine q1 ?_;refine q1 ?_;refine q1 ?_;refine qq rfl rfl (zcq (out:= [iv d.e,iv d.l]) rfl (by rfl)) ?_
   refine qv rfl rfl (v7 rfl rfl) ?_
   refine z7 rfl (k8 rfl rfl (by simp only [List.length_map,List.length_cons,List.length_nil];omega) rfl (fun s35=> ?_) (fun r hr=>by rw [List.mem_singleton.1 hr];rfl))
   refine za3 s35 fun sv hsv=> ?_
   subst hsv
   refine rn ?_;exact zf8 (.refl _) ⟨_,_,.trans (.perm ((pt1 _ _ _).trans (.cons _ ((pt1 _ _ _).trans (.cons _ ((pt1 _ _ _).trans (.cons _ (pt1 _ _ _))))))) _) (.drop [_] _ _),sv,.inl ⟨rfl,trivial,by rw [List.map_append,List.map_append];rfl⟩⟩
  ·obtain ⟨_,x,rfl⟩:=hK
   refine rn ?_;exact zgq (.refl _) (.cons _ _ _ _ (.tmp _ _ rfl) (.cons _ _ _ _ (.tmp _ _ rfl) .nil)) (.trans (.perm (.cons _ (.cons _ ((pt2 _ _ _ _).trans (.cons _ ((pt2 _ _ _ _).trans (.cons _ (pt1 _ _ _))))))) _) (.drop [_,_,_,_] _ _)) ⟨x,by rw [zrk he eG],by rw [he];rfl⟩
  ·obtain ⟨hc',_⟩:=hK
   exact absurd hc' (by simp)
theorem zwp (h:Hist) (la:Lim 4611686018427387904 h) (s g:Int):x3 Tryz.prog 16 [.agg (x6 h),iv s,iv g] (.glob 0 117 x7:: .glob 3 148 y8:: .glob 5 276 y9:: .glob 6 279 y4:: .glob 2 197 u3:: []) (fun r h'=>h'= .glob 0 117 x7:: .glob 3 148 y8:: .glob 5 276 y9:: .glob 6 279 y4:: .glob 2 197 u3:: []∧r= .tup [yek ((seB h s g).map prB),iv (zf6 h s g)]):=(zs0 h la s g).ventR (by rintro _ _ ⟨v,rfl,rfl⟩;exact ⟨_,_,zay [] [_],rfl,rfl⟩)
set_option maxHeartbeats 8000000 in
theorem zyz (h:Hist) (la:Lim 4611686018427387904 h) (s:Int):x3 Tryz.prog 24 [.agg (x6 h),iv s] (.glob 0 117 x7:: .glob 3 148 y8:: .glob 5 276 y9:: .glob 6 279 y4:: .glob 2 197 u3:: []) (fun r h'=>h'= .glob 0 117 x7:: .glob 3 148 y8:: .glob 5 276 y9:: .glob 6 279 y4:: .glob 2 197 u3:: []∧r= .tup [iv (haO h s),iv (zbx h s)]):=by
 refine z6 Tryz.func24 rfl rfl rfl ?_
 refine rn ?_;refine z7 rfl (x9 rfl rfl rfl fun b2=> ?_)
 refine rn ?_;refine qv rfl rfl (y6 rfl rfl (z8.qt (z8.of_fun (zs1 h la s)) ((pt2 _ _ _ _).trans (.cons _ ((pt2 _ _ _ _).trans (.cons _ ((pt2 _ _ _ _).trans (.cons _ (pt2 _ _ _ _))))))))) ?_
 refine rn ?_;refine y3 rfl (fun hc19=> ?_) (fun hc19=> ?_)
 ·have he:zbx h s≠0:=nzT hc19
  refine rn ?_;exact zbk rfl rfl (.drop [_] _ _) ⟨rfl,by rw [haO,if_neg he];rfl⟩
 ·have hl0:zbx h s=0:=nzF hc19
  have hB:=zls (zds.2 (zvl hl0).1) s
  rw [zo4 hl0]
  refine rn ?_;refine zge 4 (fun _ (_:List Nat)=>True) (fun k dfs=>⟨[(22,iv (k:Nat)),(8,iv (haK h s k)),(6,zc1 (u9 h s)),(21,.agg x7)],.box b2 28 (x6 h):: .glob 0 117 x7:: .glob 3 148 y8:: .glob 5 276 y9:: .glob 6 279 y4:: .glob 2 197 u3::(dfs.map Res.defs),dfs⟩) [] trivial es ?_
  intro k dfs lk _
  refine rn ?_;refine y3 rfl (fun hc23=> ?_) (fun hc23=> ?_)
  ·have hk:k < 4:=by have q:=of_decide_eq_true hc23;omega
   refine zad ?_;refine j7 ?_;refine x8 ?_;refine zac ?_;refine x8 (y7 ?_)
   refine q1 ?_;refine qq rfl rfl (zep (i:=k) (out:=zqz k) rfl rfl hk (by show k * 3+3≤12;omega) (yb7 hk)) ?_
   refine z7 rfl (x5 rfl fun b10=> ?_)
   refine rn ?_;refine z7 rfl (x5 rfl fun b11=> ?_)
   refine rn ?_;refine z7 rfl (w7 rfl rfl (z8.of_fun (zs4 k (u9 h s) _)) rfl ?_)
   rintro _ _ ⟨bi,bl,rfl,rfl⟩
   refine rn ?_;refine zl7 (fun pend h''=>(pend=none∧(brW k (u9 h s) (u9 h s).length)= []∧h''= .box bl 101 [zc1 (u9 h s)]:: .box bi 3 [iv ((k:Nat):Int)]:: .glob 0 117 x7:: .box b11 4 [bv false]:: .box b10 116 (zqz k):: .box b2 28 (x6 h):: .glob 3 148 y8:: .glob 5 276 y9:: .glob 6 279 y4:: .glob 2 197 u3::(dfs.map Res.defs))∨(pend=some (.exit 2)∧(brW k (u9 h s) (u9 h s).length)≠ []∧h''= .box bl 101 [zc1 (u9 h s)]:: .box bi 3 [iv ((k:Nat):Int)]:: .glob 0 117 x7:: .box b11 4 [bv true]:: .box b10 116 (zqz k):: .box b2 28 (x6 h):: .glob 3 148 y8:: .glob 5 276 y9:: .glob 6 279 y4:: .glob 2 197 u3::(dfs.map Res.defs))) rfl (fun fn l q lp hlp=> ?_) (fun q h'' hK=> ?_) (fun q h'' cc hK=> ?_)
   ·suffices hy:∀pre d rest (x:Unit),(brW k (u9 h s) (u9 h s).length)=pre++d::rest→pre= []→z8 Tryz.prog (yv l) [.agg (zdl d)] (.box bl 101 [zc1 (u9 h s)]:: .box bi 3 [iv ((k:Nat):Int)]:: .glob 0 117 x7::lp .ready none:: .defs q:: .box b11 4 [bv false]:: .box b10 116 (zqz k):: .box b2 28 (x6 h):: .glob 3 148 y8:: .glob 5 276 y9:: .glob 6 279 y4:: .glob 2 197 u3::(dfs.map Res.defs)) (fun r h'=>∃x':Unit,(r=bv true∧pre++ [d]= []∧h'= .box bl 101 [zc1 (u9 h s)]:: .box bi 3 [iv ((k:Nat):Int)]:: .glob 0 117 x7::lp .ready none:: .defs q:: .box b11 4 [bv false]:: .box b10 116 (zqz k):: .box b2 28 (x6 h):: .glob 3 148 y8:: .glob 5 276 y9:: .glob 6 279 y4:: .glob 2 197 u3::(dfs.map Res.defs))∨(r=bv false∧(brW k (u9 h s) (u9 h s).length)≠ []∧h'= .box bl 101 [zc1 (u9 h s)]:: .box bi 3 [iv ((k:Nat):Int)]:: .glob 0 117 x7::lp .done (some (.exit 2)):: .defs q:: .box b11 4 [bv true]:: .box b10 116 (zqz k):: .box b2 28 (x6 h):: .glob 3 148 y8:: .glob 5 276 y9:: .glob 6 279 y4:: .glob 2 197 u3::(dfs.map Res.defs))) by
     refine x3.mono (x3.perm ((pt2 _ _ _ _).trans (.cons _ ((pt2 _ _ _ _).trans (.cons _ (pt5 _ _ _ _ _ _ _))))) (zs3 k hk (u9 h s) (by omega) (fun d hd=>zpg ⟨Nat.le_trans (hB.2 d hd).1 (by decide),Nat.le_trans (hB.2 d hd).2 (by decide)⟩) (fun d hd=>zlb ⟨Nat.le_trans (hB.2 d hd).1 (by decide),Nat.le_trans (hB.2 d hd).2 (by decide)⟩) (yv l) rfl bi bl (fun pre _=>pre= []) (fun _=>(brW k (u9 h s) (u9 h s).length)≠ []) (fun _ _=>lp .ready none:: .defs q:: .box b11 4 [bv false]:: .box b10 116 (zqz k):: .box b2 28 (x6 h):: .glob 3 148 y8:: .glob 5 276 y9:: .glob 6 279 y4:: .glob 2 197 u3::(dfs.map Res.defs)) (fun _=>lp .done (some (.exit 2)):: .defs q:: .box b11 4 [bv true]:: .box b10 116 (zqz k):: .box b2 28 (x6 h):: .glob 3 148 y8:: .glob 5 276 y9:: .glob 6 279 y4:: .glob 2 197 u3::(dfs.map Res.defs)) () rfl hy)) ?_
     rintro _ _ ⟨x,⟨hn,rfl⟩|⟨hn,rfl⟩⟩
     ·exact ⟨none,.ready,_,((pt3 _ _ _ _ _).trans (.cons _ (pt3 _ _ _ _ _))),by simp,.inl ⟨rfl,hn,rfl⟩⟩
     ·exact ⟨some (.exit 2),.done,_,((pt3 _ _ _ _ _).trans (.cons _ (pt3 _ _ _ _ _))),by simp,.inr ⟨rfl,hn,rfl⟩⟩
    intro pre d rest x hL hpre
    refine z8.perm (pt3 _ _ _ _ _) (z8.ventE ?_)
    refine zdi hlp rfl rfl ?_
    refine rn ?_;refine ⟨[(11,pZ b11)],.box bl 101 [zc1 (u9 h s)]:: .box bi 3 [iv ((k:Nat):Int)]:: .glob 0 117 x7:: .defs q:: .box b11 4 [bv false]:: .box b10 116 (zqz k):: .box b2 28 (x6 h):: .glob 3 148 y8:: .glob 5 276 y9:: .glob 6 279 y4:: .glob 2 197 u3::(dfs.map Res.defs),es,?_⟩
    refine rn ?_;exact zlh (.refl _) ⟨_,_,.perm ((pt1 _ _ _).trans (.cons _ ((pt1 _ _ _).trans (.cons _ (pt1 _ _ _))))) _,(),.inr ⟨rfl,by rw [zqr hL hpre];exact List.cons_ne_nil _ _,rfl⟩⟩
   ·obtain ⟨_,hn,rfl⟩|⟨hc',_⟩:=hK
    rotate_left
    ·cases hc'
    refine rn ?_;refine y3 rfl (fun hc31=> ?_) (fun hc31=> ?_)
    ·refine rn ?_;exact ⟨hk,q::dfs,trivial,by rw [haK,if_pos hn];exact v8 (zam ((List.Perm.cons _ (.cons _ (.cons _ ((pt1 _ _ _).trans (.cons _ ((pt1 _ _ _).trans (.cons _ (pt1 _ _ _)))))))).trans (zgt _ [_,_,_,_,_,_,_,_,_,_] [] _))) (v8 (zct (h1:= [_,_,_,_])) es)⟩
    ·refine rn ?_;exact absurd hc31 (by decide)
   ·obtain ⟨hc',_⟩|⟨hc',hn,rfl⟩:=hK
    ·cases hc'
    obtain rfl:cc= .exit 2:=by simpa using hc'
    refine rn ?_;refine y3 rfl (fun hc31=> ?_) (fun hc31=> ?_)
    ·refine rn ?_;exact absurd hc31 (by decide)
    ·refine rn ?_;exact ⟨hk,q::dfs,trivial,by rw [haK,if_neg hn];exact v8 (zam ((List.Perm.cons _ (.cons _ (.cons _ ((pt1 _ _ _).trans (.cons _ ((pt1 _ _ _).trans (.cons _ (pt1 _ _ _)))))))).trans (zgt _ [_,_,_,_,_,_,_,_,_,_] [] _))) (v8 (zct (h1:= [_,_,_,_])) es)⟩
  ·have qk:k=4:=by have q:=of_decide_eq_false hc23;omega
   subst qk
   refine rn ?_;exact zgq (List.perm_append_comm (l₁:= [_,_,_,_,_,_]) (l₂:=(dfs.map Res.defs))) (.cons _ _ _ _ (.tmp _ _ rfl) (.cons _ _ _ _ (.tmp _ _ rfl) .nil)) (.drop [_] _ _) ⟨rfl,by rw [haO,if_pos hl0,hl0];rfl⟩
instance:EqInts Tryz.prog 36 6:=⟨by kernel_rfl,fun w xs ys h1 h2=>match xs,ys,h1,h2 with
 | [a0,a1,a2,a3,a4,a5],[c0,c1,c2,c3,c4,c5],_,_=>by
   rw [run_equalIn_struct w 9999 36 _ _ (by kernel_rfl) (by kernel_rfl)]
   simp only [Program.fieldsOf,Tryz.underlying36]
   simp [Op.eqFields,part,run_equalIn_int _ 9998 3 .i64 .i64 _ _ Tryz.underlying3]
   by_cases h0:a0=c0
   case neg=>simp [h0]
   subst h0
   by_cases h1:a1=c1
   case neg=>simp [h1]
   subst h1
   by_cases h2:a2=c2
   case neg=>simp [h2]
   subst h2
   by_cases h3:a3=c3
   case neg=>simp [h3]
   subst h3
   by_cases h4:a4=c4
   case neg=>simp [h4]
   subst h4
   by_cases h5:a5=c5
   case neg=>simp [h5]
   subst h5
   simp⟩
def yfd (L:List Dos) (t:Int):Int:=zb8 (fun d:Dos=>d.t==t) 0 L
def isO (h:Hist) (s:Int) (z:Brch):Bool:=
 if zf6 h s z.g=0 then
  (if yfd (u9 h s) z.e < 0∨yfd (u9 h s) z.l≤yfd (u9 h s) z.e then false
   else (match (u9 h s)[(yfd (u9 h s) z.e).toNat]?,(u9 h s)[(yfd (u9 h s) z.l).toNat]? with|some e,some l=>decide (z∈zhk (zkr z.g).toNat e l)|_,_=>false))
 else false
def yd0 (h:Hist) (x:Int) (v:Ver):Int×Bool:=if zhl h x h.os.length=0 then (if v=⟨0,0⟩ then (0,true) else (ydz h x v+1,decide (ydz h x v ≥ 0))) else (0,false)
def kdR (rd:Bool):Int:=bif rd then 3 else 2
def rdA (g:Int):Bool:=g==2||g==8
def rdB (g:Int):Bool:=g==1||g==2
def yiw (h:Hist) (t kd x:Int) (k:Nat):List Acc:=(zj1 h t kd k).filter fun a=>a.o==x
def hF (g t1 t2 x:Int) (a b:Acc):Option Brch:=if b.r < a.r then some ⟨g,t1,t2,x,a.a,b.a⟩ else none
def bG (h:Hist) (g t1 t2 x:Int) (i:Nat):List Brch:=(yiw h t1 (kdR (rdA g)) x i).flatMap fun a=>(yiw h t2 (kdR (rdB g)) x h.evs.length).filterMap (hF g t1 t2 x a)
def yjk (h:Hist) (g t1 t2:Int) (k:Nat):List Brch:=(upR k).flatMap fun x=>bG h g t1 t2 x h.evs.length
def eR (h:Hist) (g:Int) (l:List Int) (t2:Int) (i:Nat):List Brch:=(l.take i).flatMap fun t1=>yjk h g t1 t2 h.os.length
def isG (g:Int):Bool:=g==1||g==2||g==4||g==8
theorem ztq (a b:Int×Int):(([a.1,a.2]:List Int)== [b.1,b.2])=(a==b):=by
 rw [Bool.eq_iff_iff]
 obtain ⟨a1,a2⟩:=a
 obtain ⟨b1,b2⟩:=b
 simp
def nmR (n:NV) (h:Hist) (L:List Res):List Res:= .row n.vT.v 1 9 (h.ts.map zg2):: .row n.vS.v 1 9 (h.ss.map zg2):: .row n.vO.v 1 9 (h.os.map zg2):: .row n.vP.v 1 9 (h.ps.map zg2)::L
theorem zru (l:List Ev):(l.map evR).take (min (l.map evR).length 60)=(l.take 60).map evR:=by
 rw [List.length_map,←List.map_take,Nat.min_comm,←List.take_take,List.take_length]
def zni (e:Ev):List AV:= [iv e.kind,iv e.t,iv e.s,iv e.l,iv e.o,iv e.v.t,iv e.v.k,iv e.p,.v (.slice none 0 0)]
theorem ycg {α:Type} [DecidableEq α] {l m:List α} {k:Nat} (h1:k < l.length) (h2:k < m.length) (h:l.take k=m.take k) (e:l[k]=m[k]):l.take (k+1)=m.take (k+1):=by
 rw [List.take_succ_eq_append_getElem h1,List.take_succ_eq_append_getElem h2,h,e]
theorem yhn {α:Type} {l m:List α} {k:Nat} (h1:k < l.length) (h2:k < m.length) (e:l[k]≠m[k]):l≠m:=fun q=>e (by subst q;rfl)
set_option maxHeartbeats 4000000 in
theorem yel (h:Hist) (la:Big h):x3 Tryz.prog 13 [.agg (x6 h)] [] (fun r h'=>∃(sE sO:SV) (O:List (SV×H.Ord)),O.map (·.2)=h.ords∧h'= .row sE.v 9 66 ((h.evs.take 60).map evR):: .row sO.v 2 99 (O.map zrw)::otR 3 O∧r= .agg [zbl h.ts,zbl h.ss,zbl h.os,zbl h.ps,.v sE.v,.v sO.v,zoz h.mats,zrg h.wants]):=by
 refine z6 Tryz.func13 rfl rfl rfl ?_
 refine rn ?_;refine z7 rfl (x9 rfl rfl rfl fun b1=> ?_)
 refine z7 rfl (x5 rfl fun b2=> ?_)
 refine rn ?_;refine zra 12 rfl ?_
 refine mq rfl rfl qrA ?_;refine mq rfl rfl qrA ?_;refine mq rfl rfl qrA ?_;refine mq rfl rfl qrA ?_;refine mq rfl rfl qrA ?_;refine mq rfl rfl (ztk (h.evs.map evR).length 60 rfl rfl) ?_
 refine mq rfl rfl (zon (rows':=(h.evs.take 60).map evR) rfl rfl (Nat.min_le_left _ _) (zru h.evs)) ?_
 refine ybp (yc7 9 66 ((h.evs.take 60).map evR)) rfl rfl rfl (ztz (z8.of_fun (zsa _ (by rw [List.length_map,List.length_take];omega) (yeq _)))) ?_
 refine rn ?_;refine ybp (yc7 2 99 (h.ords.map zdk)) rfl rfl rfl (ztz (z8.of_fun (znt _ (by rw [List.length_map];have:=la.ords;omega) (ybe _)))) ?_
 refine rn ?_;refine yio ⟨.refl _,?_⟩
 refine rn ?_;refine zo0 fun s11=> ?_
 refine rn ?_;refine zo0 fun s14=> ?_
 refine rn0 ?_;refine x8 ?_;refine x8 ?_;refine zff (zam ((pt2 _ _ _ _).trans (.cons _ ((pt2 _ _ _ _).trans (.cons _ (pt1 _ _ _)))))) ?_
 refine rn ?_;refine j9 (fun x:Nat×List (SV×H.Ord)=>x.1≤h.ords.length∧x.2.map (·.2)=h.ords.take x.1) (fun x=>⟨[(20,iv x.1),(19,iv (h.ords.map zdk).length),(1,pZ b1),(2,pZ b2)],.box b2 28 yb4:: .box b1 28 [zbl h.ts,zbl h.ss,zbl h.os,zbl h.ps,.v s11.v,.v s14.v,zoz h.mats,zrg h.wants]:: .row s11.v 9 66 ((h.evs.take 60).map evR):: .row s14.v 2 99 (x.2.map zrw++(h.ords.drop x.1).map zdk)::otR 3 x.2,[]⟩) (fun x=>h.ords.length - x.1) (0,[]) ⟨by omega,rfl⟩
  (w8 (.cons _ _ _ rfl (.cons _ _ _ rfl (.cons _ _ _ rfl (.cons _ _ _ rfl (.nil)))))) ?_
 rintro ⟨k,x⟩ ⟨hk,hx⟩
 simp only at hk hx
 have hxl:=zxi hx hk
 refine rn ?_;refine y3 rfl (fun hc21=> ?_) (fun hc21=> ?_)
 ·have hk2:k < h.ords.length:=by have q:=of_decide_eq_true hc21;rw [List.length_map] at q;omega
  obtain ⟨e,he⟩:∃e,e=h.ords[k]:=⟨_,rfl⟩
  have hd:=List.drop_eq_getElem_cons hk2
  rw [←he] at hd
  have hrow:(x.map zrw++(h.ords.drop k).map zdk)[k]? =some (zdk e):=ybn hxl hd
  have hmem:e∈h.ords:=by rw [he];exact List.getElem_mem hk2
  have hle:=la.lim.ords
  have hk3:k < (x.map zrw++(h.ords.drop k).map zdk).length:=by rw [ybm hxl hk];exact hk2
  refine rn ?_;refine zra 10 rfl ?_
  refine mq rfl rfl qrA ?_;refine mq rfl rfl qrA ?_;refine mq rfl rfl qrA ?_;refine mq rfl rfl qrA ?_;refine mq rfl rfl qrA ?_;refine mq rfl rfl qrA ?_;refine mq rfl rfl (q7 rfl rfl hk3) ?_
  refine mq rfl rfl qrA ?_;refine mq rfl rfl (zfy rfl hrow rfl) ?_
  refine ybp (yc7 1 3 (e.ts.map zcz)) rfl rfl rfl (ztz (z8.of_fun (zhz _ (by rw [List.length_map];have:=(la.ordts e hmem);omega) (zll _)))) ?_
  refine yio ⟨.refl _,?_⟩
  refine rn ?_;refine zo0 fun s32=> ?_
  refine rn2 ?_;refine qq rfl rfl (q7 rfl rfl hk3) ?_
  refine rn ?_;refine z7 rfl (za9 rfl rfl rfl hrow rfl (Nat.le_of_ble_eq_true rfl) ?_)
  refine rn ?_;have hset:=ybl (f:=zrw) (g:=zdk) (a:=(s32,e)) (r:=(zdk e).take 1++ [.v s32.v]++(zdk e).drop (1+1)) hxl hd rfl
  have htl:otR 3 (x++ [(s32,e)])=otR 3 x++ [.row s32.v 1 3 (e.ts.map zcz)]:=by simp [otR]
  exact ⟨(k+1,x++ [(s32,e)]),⟨by omega,zxh hx hk2 he⟩,by simp only [htl];exact v8 (zam (zdf [_] _)) (by rw [←hset];exact (w8 (.cons _ _ _ rfl (.cons _ _ _ rfl (.cons _ _ _ rfl (.cons _ _ _ rfl (.nil))))))),by simp only;omega⟩
 ·obtain rfl:k=h.ords.length:=by
   have q:=of_decide_eq_false hc21
   rw [List.length_map] at q
   omega
  rw [List.take_length] at hx
  rw [List.drop_length,List.map_nil,List.append_nil]
  refine rn ?_;exact zfr (.cons _ _ _ _ (.agg _ _ _ _ _ _ _ rfl inferInstance inferInstance inferInstance rfl) .nil) (.drop [_,_] _ _) ⟨s11,s14,x,hx,rfl,rfl⟩
theorem yem (h:Hist) (la:Big h):x3 Tryz.prog 13 [.agg (x6 h)] [] (fun r h'=>h'= []∧r= .agg (x6 (k7 h))):=
 (yel h la).ventR (by
  rintro _ _ ⟨sE,sO,O,hO,rfl,rfl⟩
  exact ⟨_,_,zrv [] sE.v sO.v (k7 h) O 66 99 3 _ hO (by simp [k7]) (by simp) (fun r hr=>by simp [hr]),rfl,rfl⟩)
theorem ych {a b:Nat} (h:((a:Int) !=(b:Int))=false):a=b:=Int.ofNat.inj (by simpa using h)
theorem zyb {f g:Bool} (l m:List (Int×Int)) (hl:l.length≤4611686018427387904) (hm:m.length≤4611686018427387904):x3 Tryz.prog 21 [.list f 2 (l.map zqo),.list g 2 (m.map zqo)] [] (fun r h'=>h'= []∧r=bv (decide (l=m))):=by
 refine z6 Tryz.func21 rfl rfl rfl ?_
 refine rn ?_;refine y3 rfl (fun hc10=> ?_) (fun hc10=> ?_)
 ·have hne:l.length≠m.length:=by have w:=hc10;intro e;rw [List.length_map,List.length_map,e] at w;simp at w
  refine rn ?_;refine rq 0 ?_
  exact ⟨rfl,by rw [decide_eq_false (fun e=>hne (by rw [e]))];rfl⟩
 ·have hlm:l.length=m.length:=by have w:=hc10;rw [List.length_map,List.length_map] at w;exact ych w
  refine rn ?_;refine zvd (l.length) (fun k:Nat=>l.take k=m.take k) (fun k=> [(13,iv k)]) [(0,_),(1,_),(12,_)] rfl ?_
  intro k lk zk
  refine rn ?_;refine y3 rfl (fun hc14=> ?_) (fun hc14=> ?_)
  ·have hk:=zdx hc14
   have rk:=zc8 (f:=zqo) hk
   have hk2:k < m.length:=by omega
   have rk2:=zc8 (f:=zqo) hk2
   refine rn ?_;refine j5 8 rfl ?_
   refine dq rfl rfl qrA ?_;refine dq rfl rfl qrA ?_;refine dq rfl rfl (zee rfl rfl rk) ?_
   refine dq rfl rfl qrA ?_;refine dq rfl rfl qrA ?_;refine dq rfl rfl qrA ?_;refine dq rfl rfl (zee rfl rfl rk2) ?_
   refine rn2 ?_;refine qq rfl rfl (zlj rfl rfl rfl rfl) ?_
   refine rn ?_;refine y3 rfl (fun hc24=> ?_) (fun hc24=> ?_)
   ·have hne:l[k]≠m[k]:=fun e=>by have w:=zxc hc24;rw [ztq,e] at w;simp at w
    refine rn ?_;refine rq 0 ?_
    exact ⟨rfl,by rw [decide_eq_false (yhn hk hk2 hne)];rfl⟩
   ·have heq:l[k]=m[k]:=by have w:=zxd hc24;rw [ztq] at w;simpa using w
    refine rn ?_;exact ⟨hk,ycg hk hk2 zk heq,eA⟩
  ·have qk:=zd0 hc14 lk
   refine rn ?_;refine rq 0 ?_
   exact ⟨rfl,by rw [decide_eq_true (by have w:=zk;rw [qk,List.take_length,hlm,List.take_length] at w;exact w)];rfl⟩
set_option maxHeartbeats 4000000 in
theorem zib (s:SV) (l es:List Ev) (t:Int) (b1:Nat) (hl:l.length≤1000) (he:es.length≤1000):x3 Tryz.prog 105 [iv t,.list true 9 (es.map zni),pZ b1] [.row s.v 9 66 ((l).map zni),.box b1 28 [.list true 1 [[sv (wT 48)],[sv (wT 49)],[sv (wT 50)],[sv (wT 51)]],.list true 1 [[sv zh0]],.list true 1 [[sv bxx]],.v (.slice none 0 0),.v s.v,.v (.slice none 0 0),.v (.slice none 0 0),.v (.slice none 0 0)]] (fun r h'=>∃s':SV,h'= [.row s'.v 9 66 ((dsE l t es).map zni),.box b1 28 [.list true 1 [[sv (wT 48)],[sv (wT 49)],[sv (wT 50)],[sv (wT 51)]],.list true 1 [[sv zh0]],.list true 1 [[sv bxx]],.v (.slice none 0 0),.v s'.v,.v (.slice none 0 0),.v (.slice none 0 0),.v (.slice none 0 0)]]∧r= .tup []):=by
 refine z6 Tryz.func105 rfl rfl rfl ?_
 refine x8 (y7 ?_)
 refine q1 ?_;refine q1 ?_;refine q1 ?_;refine qq rfl rfl (k6 (out:=zni (yh8 t)) rfl (by rfl)) ?_
 refine qv rfl rfl (v7 rfl rfl) ?_
 refine z7 rfl (k8 rfl rfl (by simp only [List.length_map,List.length_append,List.length_cons,List.length_nil,List.length_take];omega) rfl (fun s12=> ?_) (fun r hr=>by rw [List.mem_singleton.1 hr];rfl))
 refine za3 s12 fun sw hsw=> ?_
 subst hsw
 refine rn ?_;refine zl6 es.length (fun k s=>⟨[(16,iv k),(0,iv t),(2,pZ b1),(14,.list true 9 (es.map zni)),(15,iv (es.map zni).length)],.row s.v 9 66 ((l++ [yh8 t]++(es.take k).map (ydp t)).map zni):: .box b1 28 [.list true 1 [[sv (wT 48)],[sv (wT 49)],[sv (wT 50)],[sv (wT 51)]],.list true 1 [[sv zh0]],.list true 1 [[sv bxx]],.v (.slice none 0 0),.v s.v,.v (.slice none 0 0),.v (.slice none 0 0),.v (.slice none 0 0)]:: [],[]⟩) sw (by simp only [List.take_zero,List.map_nil,List.append_nil,List.map_append];exact Go.Ab.es) ?_
 intro k s lk
 refine rn ?_;refine y3 rfl (fun hc17=> ?_) (fun hc17=> ?_)
 ·have hk:=zdx hc17
  have rk:=zc8 (f:=zni) hk
  refine rn ?_;refine z7 rfl (x5 rfl fun b6=> ?_)
  refine rn ?_;refine qv rfl rfl (v7 rfl rfl) ?_
  refine z7 rfl (k8 rfl rfl (by simp only [List.length_map,List.length_append,List.length_cons,List.length_nil,List.length_take];omega) rfl (fun s26=> ?_) (fun r hr=>by rw [List.mem_singleton.1 hr];rfl))
  refine za3 s26 fun sw hsw=> ?_
  subst hsw
  refine rn ?_;exact ⟨hk,sw,by rw [List.take_succ_eq_append_getElem hk];simp only [List.map_append,←List.append_assoc];exact eA⟩
 ·have qk:=zd0 hc17 lk
  refine zfe ?_;refine zf7 ?_;refine zf7 ?_;refine zc0 ?_;refine j7 ?_;refine y7 ?_;refine q1 ?_;refine q1 ?_;refine q1 ?_;refine qq rfl rfl (k6 (out:=zni (yiq t)) rfl (by rfl)) ?_
  refine qv rfl rfl (v7 rfl rfl) ?_
  refine z7 rfl (k8 rfl rfl (by simp only [List.length_map,List.length_append,List.length_cons,List.length_nil,List.length_take];omega) rfl (fun s34=> ?_) (fun r hr=>by rw [List.mem_singleton.1 hr];rfl))
  refine za3 s34 fun sw hsw=> ?_
  subst hsw
  refine rn ?_;refine zy4 ?_;exact ⟨sw,by rw [dsE];rw [qk,List.take_length];simp only [List.map_append];rfl,rfl⟩
set_option maxHeartbeats 8000000 in
theorem zwm  :x3 Tryz.prog 52 [] [] (fun r h'=>∃s:SV,h'= [.row s.v 9 66 ((seE).map zni)]∧r= .agg [.list true 1 [[sv (wT 48)],[sv (wT 49)],[sv (wT 50)],[sv (wT 51)]],.list true 1 [[sv zh0]],.list true 1 [[sv bxx]],.v (.slice none 0 0),.v s.v,.list true 2 [[iv 0,.list true 1 [[iv 3],[iv 0]]]],.v (.slice none 0 0),.v (.slice none 0 0)]):=by
 refine z6 Tryz.func52 rfl rfl rfl ?_
 refine rn ?_;refine z7 rfl (x5 rfl fun b0=> ?_)
 refine rn ?_;refine qv rfl rfl (v7 rfl rfl) ?_
 refine qv rfl rfl (v7 rfl rfl) ?_
 refine qv rfl rfl (v7 rfl rfl) ?_
 refine rn ?_;refine z7 rfl (x5 rfl fun b1=> ?_)
 refine rn0 ?_;refine x8 (y7 ?_)
 refine rn0 ?_;refine x8 ?_;refine zff (s':=⟨[(0,pZ b0),(1,pZ b1),(2,.fn (.func 105) [] [pZ b1])],.row (⟨none,0,0⟩:SV).v 9 66 ((([]:List Ev)).map zni):: .box b1 28 [.list true 1 [[sv (wT 48)],[sv (wT 49)],[sv (wT 50)],[sv (wT 51)]],.list true 1 [[sv zh0]],.list true 1 [[sv bxx]],.v (.slice none 0 0),.v (⟨none,0,0⟩:SV).v,.v (.slice none 0 0),.v (.slice none 0 0),.v (.slice none 0 0)]:: .box b0 28 yb4:: [],[]⟩) (v8 (zb9 9 66) es) ?_
 refine y7 ?_;refine q1 ?_;refine qq rfl rfl (k6 (out:= [iv 0,iv 1]) rfl (by rfl)) ?_
 refine qq rfl rfl (k6 (out:=zni (seW 0 1)) rfl (by rfl)) ?_
 refine qv rfl rfl (v7 rfl rfl) ?_
 refine z7 rfl (w7 rfl rfl (z8.fr (z8.of_acall (fs:= []) (cs:= [pZ b1]) (zib ⟨none,0,0⟩ (([]:List Ev)) [seW 0 1] 0 b1 (by decide) (by decide))) (.refl _)) rfl ?_)
 rintro _ _ ⟨_,rfl,s1,rfl,rfl⟩
 refine u2 (j7 ?_)
 refine x8 (y7 ?_)
 refine q1 ?_;refine qq rfl rfl (k6 (out:=zni (seR 0 0)) rfl (by rfl)) ?_
 refine qv rfl rfl (v7 rfl rfl) ?_
 refine z7 rfl (w7 rfl rfl (z8.fr (z8.of_acall (fs:= []) (cs:= [pZ b1]) (zib s1 (dsE [] 0 [seW 0 1]) [seR 0 0] 1 b1 (by decide) (by decide))) (.refl _)) rfl ?_)
 rintro _ _ ⟨_,rfl,s2,rfl,rfl⟩
 refine u2 (j7 ?_)
 refine x8 (y7 ?_)
 refine q1 ?_;refine qq rfl rfl (k6 (out:= [iv 0,iv 1]) rfl (by rfl)) ?_
 refine qq rfl rfl (k6 (out:=zni (seR 0 1)) rfl (by rfl)) ?_
 refine qv rfl rfl (v7 rfl rfl) ?_
 refine z7 rfl (w7 rfl rfl (z8.fr (z8.of_acall (fs:= []) (cs:= [pZ b1]) (zib s2 (dsE (dsE [] 0 [seW 0 1]) 1 [seR 0 0]) [seR 0 1] 2 b1 (by decide) (by decide))) (.refl _)) rfl ?_)
 rintro _ _ ⟨_,rfl,s3,rfl,rfl⟩
 refine u2 (j7 ?_)
 refine x8 (y7 ?_)
 refine q1 ?_;refine qq rfl rfl (k6 (out:=zni (seR 0 0)) rfl (by rfl)) ?_
 refine qq rfl rfl (k6 (out:= [iv 3,iv 1]) rfl (by rfl)) ?_
 refine qq rfl rfl (k6 (out:=zni (seW 3 1)) rfl (by rfl)) ?_
 refine qv rfl rfl (v7 rfl rfl) ?_
 refine z7 rfl (w7 rfl rfl (z8.fr (z8.of_acall (fs:= []) (cs:= [pZ b1]) (zib s3 (dsE (dsE (dsE [] 0 [seW 0 1]) 1 [seR 0 0]) 2 [seR 0 1]) [seR 0 0,seW 3 1] 3 b1 (by decide) (by decide))) (.refl _)) rfl ?_)
 rintro _ _ ⟨_,rfl,s4,rfl,rfl⟩
 refine rn0 ?_;refine x8 ?_;show aw _ _ _ _ _ ⟨_,.row s4.v 9 66 ((seE).map zni):: .box b1 28 [.list true 1 [[sv (wT 48)],[sv (wT 49)],[sv (wT 50)],[sv (wT 51)]],.list true 1 [[sv zh0]],.list true 1 [[sv bxx]],.v (.slice none 0 0),.v s4.v,.v (.slice none 0 0),.v (.slice none 0 0),.v (.slice none 0 0)]:: .box b0 28 yb4:: [],_⟩
 refine rn ?_;refine qv rfl rfl (v7 rfl rfl) ?_
 refine qq rfl rfl (k6 (out:= [iv 0,.list true 1 [[iv 3],[iv 0]]]) rfl (by rfl)) ?_
 refine qv rfl rfl (v7 rfl rfl) ?_
 refine rn ?_;exact zfr (.cons _ _ _ _ (.agg _ _ _ _ _ _ _ rfl inferInstance inferInstance inferInstance rfl) .nil) (.trans (.perm ((pt1 _ _ _).trans (.cons _ (pt1 _ _ _))) _) (.drop [_,_] _ _)) ⟨s4,rfl,rfl⟩
theorem zlc:x3 Tryz.prog 52 [] [] (fun r h'=>h'= []∧r= .agg (x6 seH)):=
 zwm.ventR (by
  rintro _ _ ⟨s,rfl,rfl⟩
  exact ⟨_,_,.trans (zh2 [.list true 1 [[sv (wT 48)],[sv (wT 49)],[sv (wT 50)],[sv (wT 51)]],.list true 1 [[sv zh0]],.list true 1 [[sv bxx]],.v (.slice none 0 0)] [.list true 2 [[iv 0,.list true 1 [[iv 3],[iv 0]]]],.v (.slice none 0 0),.v (.slice none 0 0)]) (.le (Sb.aggs (bs:=x6 seH) (by exact ⟨.unfull,.unfull,.unfull,.nil _ _,(.lists (by simp [seE,dsE]) ⟨⟨.refl _,.refl _,.refl _,.refl _,.refl _,.refl _,.refl _,.refl _,.nil _ _,trivial⟩,⟨.refl _,.refl _,.refl _,.refl _,.refl _,.refl _,.refl _,.refl _,.nil _ _,trivial⟩,⟨.refl _,.refl _,.refl _,.refl _,.refl _,.refl _,.refl _,.refl _,.nil _ _,trivial⟩,⟨.refl _,.refl _,.refl _,.refl _,.refl _,.refl _,.refl _,.refl _,.nil _ _,trivial⟩,⟨.refl _,.refl _,.refl _,.refl _,.refl _,.refl _,.refl _,.refl _,.nil _ _,trivial⟩,⟨.refl _,.refl _,.refl _,.refl _,.refl _,.refl _,.refl _,.refl _,.nil _ _,trivial⟩,⟨.refl _,.refl _,.refl _,.refl _,.refl _,.refl _,.refl _,.refl _,.nil _ _,trivial⟩,⟨.refl _,.refl _,.refl _,.refl _,.refl _,.refl _,.refl _,.refl _,.nil _ _,trivial⟩,⟨.refl _,.refl _,.refl _,.refl _,.refl _,.refl _,.refl _,.refl _,.nil _ _,trivial⟩,⟨.refl _,.refl _,.refl _,.refl _,.refl _,.refl _,.refl _,.refl _,.nil _ _,trivial⟩,⟨.refl _,.refl _,.refl _,.refl _,.refl _,.refl _,.refl _,.refl _,.nil _ _,trivial⟩,⟨.refl _,.refl _,.refl _,.refl _,.refl _,.refl _,.refl _,.refl _,.nil _ _,trivial⟩,⟨.refl _,.refl _,.refl _,.refl _,.refl _,.refl _,.refl _,.refl _,.nil _ _,trivial⟩,trivial⟩),(.lists (by simp) ⟨⟨.refl _,.unfull,trivial⟩,trivial⟩),.nil _ _,.nil _ _,trivial⟩)).le),rfl,rfl⟩)
theorem zxu:Lim 4611686018427387904 seH:=⟨by decide,by decide,by decide,by decide,by decide,by decide,by decide,by decide,by decide,by decide,by decide⟩
theorem zle:zbx seH 0=0:=zsd zqg (by decide)
theorem zqf:zbx seH 1=2:=zvk zqg (by decide)
theorem zqh (g:Int) (hg:¬zkr g < 0):zf6 seH 0 g=0:=(zgg zle hg).1
theorem yi7:seB seH 0 2= [⟨2,2,3,0,7,10⟩]:=by rw [zrk (k:=1) (zqh 2 (by decide)) (by decide)];decide+kernel
theorem yi5:(seB seH 0 1).map prB= [(0,1),(0,3)]:=by rw [zrk (k:=0) (zqh 1 (by decide)) (by decide)];decide+kernel
theorem yi6:haO seH 0=0:=by rw [haO,if_pos zle];decide+kernel
theorem yds:zf6 seH 1 2=2:=by rw [(zj0 (g:=2) (show zbx seH 1≠0 by rw [zqf];decide)).1,zqf]
theorem sA1:x3 Tryz.prog 15 [.agg (x6 seH),iv 0,iv 2] (.glob 0 117 x7:: .glob 3 148 y8:: .glob 5 276 y9:: .glob 6 279 y4:: .glob 2 197 u3:: []) (fun r h'=>h'= .glob 0 117 x7:: .glob 3 148 y8:: .glob 5 276 y9:: .glob 6 279 y4:: .glob 2 197 u3:: []∧r= .tup [.agg (zdl ⟨2,2,3,0,7,10⟩),bv true,iv 0]):=(zld seH zxu 0 2).mono fun _ _ q=>⟨q.1,by rw [q.2,yi7,zqh 2 (by decide)];rfl⟩
theorem sA2:x3 Tryz.prog 16 [.agg (x6 seH),iv 0,iv 1] (.glob 0 117 x7:: .glob 3 148 y8:: .glob 5 276 y9:: .glob 6 279 y4:: .glob 2 197 u3:: []) (fun r h'=>h'= .glob 0 117 x7:: .glob 3 148 y8:: .glob 5 276 y9:: .glob 6 279 y4:: .glob 2 197 u3:: []∧r= .tup [yek [(0,1),(0,3)],iv 0]):=(zwp seH zxu 0 1).mono fun _ _ q=>⟨q.1,by rw [q.2,yi5,zqh 1 (by decide)]⟩
theorem sA3:x3 Tryz.prog 24 [.agg (x6 seH),iv 0] (.glob 0 117 x7:: .glob 3 148 y8:: .glob 5 276 y9:: .glob 6 279 y4:: .glob 2 197 u3:: []) (fun r h'=>h'= .glob 0 117 x7:: .glob 3 148 y8:: .glob 5 276 y9:: .glob 6 279 y4:: .glob 2 197 u3:: []∧r= .tup [iv 0,iv 0]):=(zyz seH zxu 0).mono fun _ _ q=>⟨q.1,by rw [q.2,yi6,zle]⟩
theorem sA4:x3 Tryz.prog 15 [.agg (x6 seH),iv 1,iv 2] (.glob 0 117 x7:: .glob 3 148 y8:: .glob 5 276 y9:: .glob 6 279 y4:: .glob 2 197 u3:: []) (fun r h'=>h'= .glob 0 117 x7:: .glob 3 148 y8:: .glob 5 276 y9:: .glob 6 279 y4:: .glob 2 197 u3:: []∧r= .tup [.agg (zdl br0),bv false,iv 2]):=(zld seH zxu 1 2).mono fun _ _ q=>⟨q.1,by rw [q.2,yao (by rw [yds];decide),yds];rfl⟩
theorem sEq {f g:Bool}:x3 Tryz.prog 21 [.list f 2 ([(0,1),(0,3)].map zqo),.list g 2 ([(0,1),(0,3)].map zqo)] [] (fun r h'=>h'= []∧r=bv true):=(zyb [(0,1),(0,3)] [(0,1),(0,3)] (by decide) (by decide)).mono fun _ _ q=>⟨q.1,by rw [q.2,decide_eq_true rfl]⟩
set_option maxHeartbeats 4000000 in
theorem zzz  :x3 Tryz.prog 12 [] (.glob 0 117 x7:: .glob 3 148 y8:: .glob 5 276 y9:: .glob 6 279 y4:: .glob 2 197 u3:: []) (fun r h'=>h'= .glob 0 117 x7:: .glob 3 148 y8:: .glob 5 276 y9:: .glob 6 279 y4:: .glob 2 197 u3:: []∧r=bv true):=by
 refine z6 Tryz.func12 rfl rfl rfl ?_
 refine rn ?_;refine qv rfl rfl (y6 rfl rfl (z8.pure (R:=fun r=>r= .agg (x6 seH)) (z8.of_fun zlc))) ?_
 refine qv rfl rfl (y6 rfl rfl (z8.qt (z8.of_fun sA1) (.refl _))) ?_
 refine rn ?_;refine z7 rfl (x5 rfl fun b1=> ?_)
 refine rn ?_;refine qv rfl rfl (y6 rfl rfl (z8.pure (R:=fun r=>r= .agg (x6 seH)) (z8.of_fun zlc))) ?_
 refine qv rfl rfl (y6 rfl rfl (z8.qt (z8.of_fun sA2) ((pt1 _ _ _).trans (.cons _ ((pt1 _ _ _).trans (.cons _ ((pt1 _ _ _).trans (.cons _ ((pt1 _ _ _).trans (.cons _ (pt1 _ _ _))))))))))) ?_
 refine rn ?_;refine qv rfl rfl (y6 rfl rfl (z8.pure (R:=fun r=>r= .agg (x6 seH)) (z8.of_fun zlc))) ?_
 refine qv rfl rfl (y6 rfl rfl (z8.qt (z8.of_fun sA3) ((pt1 _ _ _).trans (.cons _ ((pt1 _ _ _).trans (.cons _ ((pt1 _ _ _).trans (.cons _ ((pt1 _ _ _).trans (.cons _ (pt1 _ _ _))))))))))) ?_
 refine rn ?_;refine qv rfl rfl (y6 rfl rfl (z8.pure (R:=fun r=>r= .agg (x6 seH)) (z8.of_fun zlc))) ?_
 refine qv rfl rfl (y6 rfl rfl (z8.qt (z8.of_fun sA4) ((pt1 _ _ _).trans (.cons _ ((pt1 _ _ _).trans (.cons _ ((pt1 _ _ _).trans (.cons _ ((pt1 _ _ _).trans (.cons _ (pt1 _ _ _))))))))))) ?_
 refine rn ?_;refine z7 rfl (x5 rfl fun b8=> ?_)
 first|refine z7 rfl (k9 rfl rfl rfl ?_)|refine z7 rfl (zaq rfl rfl rfl rfl (Nat.le_of_ble_eq_true rfl) ?_)
 refine q1 ?_;refine q1 ?_;refine u2 (j7 ?_)
 refine x8 (y7 ?_)
 refine q1 ?_;refine q1 ?_;refine q1 ?_;refine q1 ?_;refine q1 ?_;refine q1 ?_;refine q1 ?_;refine q1 ?_;refine q1 ?_;refine q1 ?_;refine q1 ?_;refine q1 ?_;refine q1 ?_;refine q1 ?_;refine q1 ?_;refine q1 ?_;refine q1 ?_;refine q1 ?_;refine q1 ?_;refine q1 ?_;refine q1 ?_;refine q1 ?_;refine q1 ?_;refine q1 ?_;refine q1 ?_;refine q1 ?_;refine q1 ?_;refine q1 ?_;refine q1 ?_;refine q1 ?_;refine q1 ?_;refine q1 ?_;refine q1 ?_;refine qq rfl rfl (zcq (out:= [iv 0,iv 1]) rfl (by rfl)) ?_
 refine qq rfl rfl (zcq (out:= [iv 0,iv 3]) rfl (by rfl)) ?_
 refine qv rfl rfl (v7 rfl rfl) ?_
 refine qv rfl rfl (y6 rfl rfl (z8.pure (R:=fun r=>r=bv true) (z8.of_fun sEq))) ?_
 refine rn ?_;refine rq 2 ?_
 exact ⟨rfl,rfl⟩
theorem yca (h:Hist) (t:Int) {k:Nat} (hk:k < 4):zck k (zpk h t)=zn2 h.os.length (zmb h t (kdA (zes k))):=by
 rcases (by omega:k=0∨k=1∨k=2∨k=3) with rfl|rfl|rfl|rfl <;> rfl
theorem yae (h:Hist) (t:Int) {k:Nat} (hk:k < 4):zfi k (zpk h t)=zn2 h.os.length (zmb h t (kdB (zes k))):=by
 rcases (by omega:k=0∨k=1∨k=2∨k=3) with rfl|rfl|rfl|rfl <;> rfl
theorem ycs (h:Hist) (t1 t2:Int) {k:Nat} (hk:k < 4):zhk k (zpk h t1) (zpk h t2)=yie h.os.length (zes k) t1 t2 (zmb h t1 (kdA (zes k))) (zmb h t2 (kdB (zes k))):=by
 rw [zhk,yca h t1 hk,yae h t2 hk];rfl
theorem zvb (h:Hist) (s:Int) {k:Nat} (hk:k < 4):∀j,brW k (u9 h s) j=brL h.os.length (zes k) (zyc h s (zes k)) j
 |0=>rfl
 |j+1=>by
  rw [brW,brL,zvb h s hk j,u9,zyc,List.getElem?_map,List.getElem?_map]
  cases (zdy h.evs s)[j]? with
  |none=>rfl
  |some t2=>
   simp only [Option.map_some]
   rw [←List.map_take,←List.map_take,List.filterMap_map,List.filterMap_map]
   congr 1
   refine zq1 fun t1 _=> ?_
   simp only [Function.comp,hdW]
   rw [ycs h t1 t2 hk];rfl
theorem zjv (h:Hist) (s:Int) {k:Nat} (hk:k < 4):brW k (u9 h s) (u9 h s).length=brS h s (zes k):=by
 rw [zvb h s hk,brS,u9,zyc,List.length_map,List.length_map]
theorem zs8 {h:Hist} {s g:Int} (he:zf6 h s g=0):seB h s g=brS h s g:=by
 obtain ⟨_,_,k,hk,_,eB,eG⟩:=zps he
 rw [zrk he eG,zjv h s hk,eB]
theorem zum {h:Hist} {s:Int} (hl:zbx h s=0):haO h s=yfi h s:=by
 rw [haO,if_pos hl]
 simp only [haK,yfi,List.foldl_cons,List.foldl_nil]
 rw [zjv h s (by decide:0 < 4),zjv h s (by decide:1 < 4),zjv h s (by decide:2 < 4),zjv h s (by decide:3 < 4)]
 simp only [show zes 0=1 from rfl,show zes 1=2 from rfl,show zes 2=4 from rfl,show zes 3=8 from rfl]
 by_cases h1:brS h s 1= [] <;> by_cases h2:brS h s 2= [] <;> by_cases h3:brS h s 4= [] <;> by_cases h4:brS h s 8= [] <;> simp only [h1,h2,h3,h4,if_true,if_false,↓reduceIte] <;> decide
theorem zui {n m:Int}:isB n m=true ↔ 0≤n∧n < m:=by unfold isB;simp
theorem zo5 {h:Hist} (hc:za6 h=0) {s:Int} (hb:isB s h.ss.length=true):zbx h s=0:=zsd hc (zui.1 hb)
theorem yfk {g:Int}:zkr g < 0 ↔ isG g=false:=by
 unfold zkr isG
 by_cases h1:g=1
 ·subst h1;decide
 by_cases h2:g=2
 ·subst h2;decide
 by_cases h3:g=4
 ·subst h3;decide
 by_cases h4:g=8
 ·subst h4;decide
 simp [h1,h2,h3,h4]
theorem zzo {h:Hist} (hc:za6 h=0) {s:Int} (hb:isB s h.ss.length=true) {g:Int} (hg:isG g=true):zf6 h s g=0:=(zgg (zo5 hc hb) fun q=>by rw [yfk.1 q] at hg;cases hg).1
end Go.Proofs
namespace Go.Ab
open Go
section
variable {P:Program} {h:List Res} {f:Operand→Option AV} {dst:Option Tmp} {ty:TypeId} {pos:String} {after:Array Edge} {guard:Option (Nat×Bool)} {x:Operand}
theorem yeg {T T':TypeId} {k:IntKind} {a b c:Int} {y:Operand} (hx:f x=some (.v (.int k a))) (hy:f y=some (.v (.int k b))) (hb:b≠0) (hc:a.tmod b=c):
 QR P h f ⟨dst,.binOp .rem T x y T',ty,pos,after,guard⟩ (.v (.int k c)):=fun X ρ w he=>by
 refine ⟨_,run_v _ ?_,.v _⟩
 rw [(he.rel x _ hx).v_eq,(he.rel y _ hy).v_eq,zce]
 simp [binOp,Op.intDiv,hb,hc]
end
end Go.Ab
set_option maxRecDepth 10000
namespace Go.Proofs
open Go Go.Ab
attribute [local irreducible] QR QV OE zb4 aw zcn zby zbe zaj thn ze7 zdh jch zeh
open Go.H
theorem yit {g:Int} (hb:g∈zsc):isG g=true:=by
 simp only [zsc,List.mem_cons,List.not_mem_nil,or_false] at hb
 rcases hb with rfl|rfl|rfl|rfl <;> rfl
structure Shown (h:Hist) (s g:Int) (M:List (Int×Int)) (e l o:Int) (p q:Nat):Prop where
 is:isO h s ⟨g,e,l,o,p,q⟩=true
 m0:M[0]? =some (e,l)
 ix:zb8 (fun a=>a==e) 0 (zdy h.evs s) < zb8 (fun a=>a==l) 0 (zdy h.evs s)
 hp:p < h.evs.length
 hq:q < h.evs.length
 tp:h.evs[p].t=e
 tq:h.evs[q].t=l
 op:h.evs[p].o=o
 oq:h.evs[q].o=o
 rk:∃r1 r2,yd0 h o h.evs[p].v=(r1,true)∧yd0 h o h.evs[q].v=(r2,true)∧r2 < r1
theorem zqi (h:Hist) (la:Lim 4611686018427387904 h) {s g:Int} {z:Brch} {b:Bool} (he:zf6 h s g=0) (hz:(seB h s g).head?.getD br0=z) (hb:(seB h s g).head?.isSome=b):x3 Tryz.prog 15 [.agg (x6 h),iv s,iv g] (.glob 0 117 x7:: .glob 3 148 y8:: .glob 5 276 y9:: .glob 6 279 y4:: .glob 2 197 u3:: []) (fun r h'=>h'= .glob 0 117 x7:: .glob 3 148 y8:: .glob 5 276 y9:: .glob 6 279 y4:: .glob 2 197 u3:: []∧r= .tup [.agg (zdl z),bv b,iv 0]):=(zld h la s g).mono fun _ _ q=>⟨q.1,by rw [q.2,he,hz,hb]⟩
def zv5 (b:Int) (k:Nat):Int:=(IntKind.u64.wrap (IntKind.i64.wrap (b+k))).tmod 16
theorem ycp (b:Int) (k:Nat):0≤zv5 b k∧zv5 b k≤15:=by
 have h0:0≤IntKind.u64.wrap (IntKind.i64.wrap (b+k)):=Int.emod_nonneg _ (by decide)
 have h1:=Int.tmod_nonneg 16 h0
 have h2:=Int.tmod_lt_of_pos (IntKind.u64.wrap (IntKind.i64.wrap (b+k))) (show (0:Int) < 16 by decide)
 rw [zv5];omega
theorem zvc (b:Int) (k:Nat):IntKind.i64.wrap (zv5 b k)=zv5 b k:=by
 have:=ycp b k
 exact IntWalk.i64_in _ ⟨by omega,by omega⟩
def asW (b:Int) (n:Nat):List Wan:=(List.range n).map fun k=>⟨(k:Nat),zv5 b k⟩
theorem yig (b:Int) (n:Nat):asW b (n+1)=asW b n++ [⟨(n:Nat),zv5 b n⟩]:=by rw [asW,List.range_succ,List.map_append];rfl
theorem zvm (b:Int) (n:Nat):(asW b n).length=n:=by rw [asW,List.length_map,List.length_range]
def otherH (h:Hist) (b:Int) (n:Nat):Hist:={h with wants:=asW b n}
theorem zg9 {h:Hist} {N:Nat} (la:Lim N h) (b:Int) {n:Nat} (hn:n≤N):Lim N (otherH h b n):=⟨la.ts,la.ss,la.os,la.ps,la.evs,la.ords,la.mats,by rw [show (otherH h b n).wants=asW b n from rfl,zvm];exact hn,la.scans,la.ordts,la.matts⟩
theorem zx2 {h:Hist} {b:Int} {n:Nat} {s:Int} (hl:zbx h s=0) (hl2:zbx (otherH h b n) s=0):haO (otherH h b n) s=haO h s:=by rw [zum hl2,zum hl];exact zul _ _ _
theorem zs7 {h:Hist} {b:Int} {n:Nat} {s g:Int} (he:zf6 h s g=0) (he2:zf6 (otherH h b n) s g=0):seB (otherH h b n) s g=seB h s g:=by rw [zs8 he2,zs8 he];exact znv _ _ _ _
theorem zy1 (h:Hist) (la:Lim 4611686018427387904 h) {s v:Int} (hv:haO h s=v) (hl:zbx h s=0):x3 Tryz.prog 24 [.agg (x6 h),iv s] (.glob 0 117 x7:: .glob 3 148 y8:: .glob 5 276 y9:: .glob 6 279 y4:: .glob 2 197 u3:: []) (fun r h'=>h'= .glob 0 117 x7:: .glob 3 148 y8:: .glob 5 276 y9:: .glob 6 279 y4:: .glob 2 197 u3:: []∧r= .tup [iv v,iv 0]):=(zyz h la s).mono fun _ _ q=>⟨q.1,by rw [q.2,hv,hl]⟩
set_option maxHeartbeats 4000000 in
theorem zmp (x:Hist) (bits:Int) (lb:Big x)  :x3 Tryz.prog 4 [.agg (x6 x),iv bits] (.glob 0 117 x7:: .glob 3 148 y8:: .glob 5 276 y9:: .glob 6 279 y4:: .glob 2 197 u3:: []) (fun r h'=>h'= .glob 0 117 x7:: .glob 3 148 y8:: .glob 5 276 y9:: .glob 6 279 y4:: .glob 2 197 u3:: []∧r=bv true):=by
 refine z6 Tryz.func4 rfl rfl rfl ?_
 refine rn ?_;refine z7 rfl (x9 rfl rfl rfl fun b2=> ?_)
 refine rn ?_;refine qv rfl rfl (y6 rfl rfl (z8.qt (z8.of_fun zzz) ((pt1 _ _ _).trans (.cons _ ((pt1 _ _ _).trans (.cons _ ((pt1 _ _ _).trans (.cons _ ((pt1 _ _ _).trans (.cons _ (pt1 _ _ _))))))))))) ?_
 refine rn ?_;refine y3 rfl (fun hc22=> ?_) (fun hc22=> ?_)
 ·exact absurd hc22 (by decide)
 ·refine rn ?_;refine qv rfl rfl (y6 rfl rfl (zbr (yem x lb) (Sbs.refl _))) ?_
  refine z7 rfl (x5 rfl fun b5=> ?_)
  refine rn ?_;refine qv rfl rfl (y6 rfl rfl (zbr (yem x lb) (Sbs.refl _))) ?_
  refine z7 rfl (x5 rfl fun b6=> ?_)
  first|refine z7 rfl (k9 rfl rfl rfl ?_)|refine z7 rfl (zaq rfl rfl rfl rfl (Nat.le_of_ble_eq_true rfl) ?_)
  refine u2 (j7 ?_)
  refine x8 (y7 ?_)
  refine q1 ?_;first|refine z7 rfl (k9 rfl rfl rfl ?_)|refine z7 rfl (zaq rfl rfl rfl rfl (Nat.le_of_ble_eq_true rfl) ?_)
  refine u2 (j7 ?_)
  refine x8 ?_;refine x8 (y7 ?_)
  refine q1 ?_;refine q1 ?_;refine q1 ?_;refine qq rfl rfl (ztk ((k7 x).ss.map zg2).length 4 rfl rfl) ?_
  refine rn ?_;refine zl6 (min ((k7 x).ss.map zg2).length 4) (fun k v=>⟨[(32,iv k),(1,iv bits),(5,pZ b5),(6,pZ b6),(31,iv (min ((k7 x).ss.map zg2).length 4:Nat))],.row v.v 2 51 ((asW bits k).map zfq):: .box b6 28 [zbl (k7 x).ts,zbl (k7 x).ss,zbl (k7 x).os,zbl (k7 x).ps,zsi (k7 x).evs,zw8 (k7 x).ords,zoz (k7 x).mats,.v v.v]:: .box b5 28 (x6 (k7 x)):: .box b2 28 (x6 x):: .glob 0 117 x7:: .glob 3 148 y8:: .glob 5 276 y9:: .glob 6 279 y4:: .glob 2 197 u3:: [],[]⟩) ⟨none,0,0⟩ (v8 (zb9 2 51) es) ?_
  intro k v lk
  refine rn ?_;refine y3 rfl (fun hc33=> ?_) (fun hc33=> ?_)
  ·have hk:k < min ((k7 x).ss.map zg2).length 4:=by have q:=of_decide_eq_true hc33;omega
   refine zad ?_;refine j7 ?_;refine x8 ?_;refine zac ?_;refine x8 (y7 ?_)
   refine q1 ?_;refine q1 ?_;refine u2 (j7 ?_)
   refine y7 ?_;refine q1 ?_;refine q1 ?_;refine q1 ?_;refine q1 ?_;refine q1 ?_;refine qq rfl rfl (yba rfl rfl) ?_
   refine qq rfl rfl (zaz (m:=IntKind.u64.wrap (IntKind.i64.wrap (bits+(k:Nat)))) rfl rfl) ?_
   refine qq rfl rfl (yeg (c:=zv5 bits k) rfl rfl (by decide) rfl) ?_
   refine qq rfl rfl (zaz (m:=zv5 bits k) rfl (zvc bits k)) ?_
   refine qq rfl rfl (k6 (out:= [iv k,iv (zv5 bits k)]) rfl (by rfl)) ?_
   refine qv rfl rfl (v7 rfl rfl) ?_
   refine z7 rfl (k8 rfl rfl (by simp only [List.length_map,zvm,List.length_cons,List.length_nil];omega) rfl (fun s46=> ?_) (fun r hr=>by rw [List.mem_singleton.1 hr];rfl))
   refine za3 s46 fun sw hsw=> ?_
   subst hsw
   refine rn ?_;exact ⟨hk,sw,by rw [yig,List.map_append];exact eA⟩
  ·refine zfe ?_;refine rn0 ?_;refine x8 ?_;refine x8 ?_;refine zff (s':=⟨[(5,pZ b5),(6,pZ b6)],.box b6 28 (x6 (otherH (k7 x) bits k)):: .box b5 28 (x6 (k7 x)):: .box b2 28 (x6 x):: .glob 0 117 x7:: .glob 3 148 y8:: .glob 5 276 y9:: .glob 6 279 y4:: .glob 2 197 u3:: [],[]⟩) (by exact zpj [_,_,_,_,_,_,_] []) ?_
   have hk4:k≤4:=by omega
   refine rn ?_;refine qv rfl rfl (y6 rfl rfl (z8.qt (z8.of_fun (zpa (k7 x) (zda lb.lim))) ((pt4 _ _ _ _ _ _).trans (.cons _ ((pt4 _ _ _ _ _ _).trans (.cons _ ((pt4 _ _ _ _ _ _).trans (.cons _ (pt4 _ _ _ _ _ _))))))))) ?_
   refine rn ?_;refine q9 (fun hg11_3=> ?_) (fun hg11_3=> ?_)
   ·refine rn ?_;refine y3 rfl (fun hc56=> ?_) (fun hc56=> ?_)
    ·refine rn ?_;first|(refine rq 2 ?_;exact ⟨rfl,rfl⟩)|(refine rq 3 ?_;exact ⟨rfl,rfl⟩)|(refine rq 4 ?_;exact ⟨rfl,rfl⟩)
    ·first|cases hc56|exact absurd hc56 (by decide)|(exfalso;simp_all;done)
   ·refine rn ?_;refine qv rfl rfl (y6 rfl rfl (z8.qt (z8.of_fun (zpa (otherH (k7 x) bits k) (zg9 (zda lb.lim) bits (show k≤4611686018427387904 by omega)))) ((pt4 _ _ _ _ _ _).trans (.cons _ ((pt4 _ _ _ _ _ _).trans (.cons _ ((pt4 _ _ _ _ _ _).trans (.cons _ (pt4 _ _ _ _ _ _))))))))) ?_
    refine rn ?_;refine y3 rfl (fun hc56=> ?_) (fun hc56=> ?_)
    ·refine rn ?_;first|(refine rq 2 ?_;exact ⟨rfl,rfl⟩)|(refine rq 3 ?_;exact ⟨rfl,rfl⟩)|(refine rq 4 ?_;exact ⟨rfl,rfl⟩)
    ·first
     |(have hc:za6 (k7 x)=0:=by simpa using hg11_3)
     |skip
     first
     |(have hc2:za6 (otherH (k7 x) bits k)=0:=by simpa using hc56)
     |skip
     refine rn ?_;refine zvd (((k7 x).ss.map zg2).length) (fun i:Nat=>True) (fun i=> [(60,iv i)]) [(5,_),(6,_),(59,_)] trivial ?_
     intro i li _
     refine rn ?_;refine y3 rfl (fun hc61=> ?_) (fun hc61=> ?_)
     ·have hS9:((k7 x).ss.map zg2).length≤4611686018427387904:=by rw [List.length_map];exact lb.lim.ss
      have hi:i < ((k7 x).ss.map zg2).length:=by have q:=of_decide_eq_true hc61;omega
      have hb:isB (i:Int) (k7 x).ss.length=true:=zui.2 ⟨by omega,by rw [List.length_map] at hi;omega⟩
      have hl:zbx (k7 x) i=0:=zo5 hc hb
      have hl2:zbx (otherH (k7 x) bits k) i=0:=zo5 hc2 hb
      have hv:=zx2 hl hl2
      refine rn ?_;refine qv rfl rfl (y6 rfl rfl (z8.qt (z8.of_fun (zy1 (k7 x) (zda lb.lim) rfl hl)) ((pt3 _ _ _ _ _).trans (.cons _ ((pt3 _ _ _ _ _).trans (.cons _ ((pt3 _ _ _ _ _).trans (.cons _ ((pt3 _ _ _ _ _).trans (.cons _ (pt3 _ _ _ _ _))))))))))) ?_
      refine rn ?_;refine qv rfl rfl (y6 rfl rfl (z8.qt (z8.of_fun (zy1 (otherH (k7 x) bits k) (zg9 (zda lb.lim) bits (show k≤4611686018427387904 by omega)) hv hl2)) ((pt3 _ _ _ _ _).trans (.cons _ ((pt3 _ _ _ _ _).trans (.cons _ ((pt3 _ _ _ _ _).trans (.cons _ ((pt3 _ _ _ _ _).trans (.cons _ (pt3 _ _ _ _ _))))))))))) ?_
      refine q1 ?_;refine q1 ?_;refine q1 ?_;refine q1 ?_;refine q1 ?_;refine u2 (j7 ?_)
      refine x8 ?_;refine x8 (y7 ?_)
      refine q1 ?_;refine qq rfl rfl (zgs (c:=false) rfl rfl (congrArg some (bne_self_eq_false _))) ?_
      refine q1 ?_;refine q1 ?_;refine qq rfl rfl (zgs (c:=false) rfl rfl (congrArg some (bne_self_eq_false _))) ?_
      refine q1 ?_;refine q1 ?_;refine q1 ?_;refine q1 ?_;refine qq rfl rfl (zgs (c:=false) rfl rfl (congrArg some (bne_self_eq_false _))) ?_
      refine rn ?_;refine y3 rfl (fun hc85=> ?_) (fun hc85=> ?_)
      ·exact absurd hc85 (by decide)
      ·refine rn ?_;refine qv rfl rfl (v7 rfl rfl) ?_
       refine rn ?_;refine zaw 4 (fun _=>True) (fun m=>⟨[(88,iv m),(5,pZ b5),(6,pZ b6),(8,iv i),(59,iv ((k7 x).ss.map zg2).length),(60,iv i),(86,.list true 1 (zsc.map zcz)),(87,iv 4)],.box b6 28 (x6 (otherH (k7 x) bits k)):: .box b5 28 (x6 (k7 x)):: .box b2 28 (x6 x):: .glob 0 117 x7:: .glob 3 148 y8:: .glob 5 276 y9:: .glob 6 279 y4:: .glob 2 197 u3:: [],[]⟩) trivial es ?_
       intro m lm _
       refine rn ?_;refine y3 rfl (fun hc89=> ?_) (fun hc89=> ?_)
       ·have hm:m < 4:=by have q:=of_decide_eq_true hc89;omega
        have rm:=zc8 (f:=zcz) (l:=zsc) hm
        have hbm:=List.getElem_mem (l:=zsc) hm
        obtain ⟨gb,hgb⟩:∃gb,zsc[m]=gb:=⟨_,rfl⟩
        rw [hgb] at rm hbm
        have he:zf6 (k7 x) i gb=0:=zzo hc hb (yit hbm)
        have he2:zf6 (otherH (k7 x) bits k) i gb=0:=zzo hc2 hb (yit hbm)
        obtain ⟨z,hz⟩:∃z,(seB (k7 x) i gb).head?.getD br0=z:=⟨_,rfl⟩
        have hz2:(seB (otherH (k7 x) bits k) i gb).head?.getD br0=z:=by rw [zs7 he he2];exact hz
        refine rn ?_;refine qv rfl rfl (y6 rfl rfl (z8.qt (z8.of_fun (zqi (k7 x) (zda lb.lim) he hz rfl)) ((pt3 _ _ _ _ _).trans (.cons _ ((pt3 _ _ _ _ _).trans (.cons _ ((pt3 _ _ _ _ _).trans (.cons _ ((pt3 _ _ _ _ _).trans (.cons _ (pt3 _ _ _ _ _))))))))))) ?_
        refine rn ?_;refine z7 rfl (x5 rfl fun b15=> ?_)
        refine rn ?_;refine qv rfl rfl (y6 rfl rfl (z8.qt (z8.of_fun (zqi (otherH (k7 x) bits k) (zg9 (zda lb.lim) bits (show k≤4611686018427387904 by omega)) he2 hz2 rfl)) ((pt4 _ _ _ _ _ _).trans (.cons _ ((pt4 _ _ _ _ _ _).trans (.cons _ ((pt4 _ _ _ _ _ _).trans (.cons _ ((pt4 _ _ _ _ _ _).trans (.cons _ (pt4 _ _ _ _ _ _))))))))))) ?_
        refine rn ?_;refine z7 rfl (x5 rfl fun b18=> ?_)
        first|refine z7 rfl (k9 rfl rfl rfl ?_)|refine z7 rfl (zaq rfl rfl rfl rfl (Nat.le_of_ble_eq_true rfl) ?_)
        refine q1 ?_;refine q1 ?_;refine u2 (j7 ?_)
        refine x8 (y7 ?_)
        refine q1 ?_;refine q1 ?_;refine qq rfl rfl (yei (c:=false) (zlj rfl rfl rfl rfl) (by simp)) ?_
        refine rn ?_;refine y3 rfl (fun hc110=> ?_) (fun hc110=> ?_)
        ·exact absurd hc110 (by decide)
        ·refine rn ?_;exact ⟨hm,trivial,eA⟩
       ·refine rn ?_;exact ⟨hi,trivial,eA⟩
     ·refine rn ?_;first|(refine rq 2 ?_;exact ⟨rfl,rfl⟩)|(refine rq 3 ?_;exact ⟨rfl,rfl⟩)|(refine rq 4 ?_;exact ⟨rfl,rfl⟩)
end Go.Proofs
