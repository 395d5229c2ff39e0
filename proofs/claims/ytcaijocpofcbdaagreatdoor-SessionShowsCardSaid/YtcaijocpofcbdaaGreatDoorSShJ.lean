/- The walks of session's First, Pairs, Has. Conditions: none. -/
import Derived.Test.YtcaijocpofcbdaaGreatDoorSShI
set_option linter.unusedSectionVars false
set_option linter.unusedSimpArgs false
set_option linter.unusedVariables false
set_option maxRecDepth 10000
namespace Go.Proofs
open Go Go.Ab
attribute [local irreducible] QR QV OE zb0 aw zcx zb4 zbi zal thn zfo zdd jch zew
open Go.H
def br0:Brch:=⟨0,0,0,0,0,0⟩
theorem zoy (a b:Brch):(([a.g,a.e,a.l,a.o,a.a,a.b]:List Int)== [b.g,b.e,b.l,b.o,b.a,b.b])=(a==b):=by
 rw [Bool.eq_iff_iff]
 obtain ⟨a1,a2,a3,a4,a5,a6⟩:=a
 obtain ⟨b1,b2,b3,b4,b5,b6⟩:=b
 simp
theorem zkp {h:Hist} {s g:Int} (he:zep h s g=0):zb3 h s=0∧ybg h s g=x9 h s∧∃k:Nat,k < 4∧ybh h s g=(k:Int)∧zfa k=g∧zk0 g=(k:Int):=by
 by_cases hl:zb3 h s=0
 ·by_cases hg:zk0 g < 0
  ·have:=(zm9 hl hg).1;omega
  ·obtain ⟨k,hk,e1,e2⟩:=yhn hg
   exact ⟨hl,(zgw hl hg).2.1,k,hk,by rw [(zgw hl hg).2.2,e1],e2,e1⟩
 ·have:=(zko (g:=g) hl).1;omega
theorem zk5 (l:List Acc):∀n:Nat,(zk6 n l).length=(l.filter fun a=>decide (0≤a.o∧a.o < (n:Int))).length
 |0=>by
  have:(l.filter fun a=>decide (0≤a.o∧a.o < ((0:Nat):Int)))= []:=by
   rw [List.filter_eq_nil_iff];intro a _;simp <;> omega
  rw [this];rfl
 |n+1=>by
  have ih:=zk5 l n
  rw [zk6,yfg,List.flatMap_append,List.length_append]
  rw [zk6] at ih
  rw [ih]
  clear ih
  induction l with
  |nil=>rfl
  |cons a l ih=>
   simp only [List.filter_cons,List.flatMap_cons,List.flatMap_nil,List.append_nil] at ih ⊢
   by_cases h1:a.o=(n:Int)
   ·have e1:decide (0≤a.o∧a.o < (n:Int))=false:=decide_eq_false (by omega)
    have e2:decide (0≤a.o∧a.o < ((n+1:Nat):Int))=true:=decide_eq_true (by omega)
    have e3:(a.o==(n:Int))=true:=by simpa using h1
    rw [e1,e2,e3];simp only [↓reduceIte,List.length_cons,Bool.false_eq_true] at ih ⊢;omega
   ·have e3:(a.o==(n:Int))=false:=by simpa using h1
    by_cases h2:0≤a.o∧a.o < (n:Int)
    ·have e1:decide (0≤a.o∧a.o < (n:Int))=true:=decide_eq_true h2
     have e2:decide (0≤a.o∧a.o < ((n+1:Nat):Int))=true:=decide_eq_true (by omega)
     rw [e1,e2,e3];simp only [↓reduceIte,List.length_cons,Bool.false_eq_true] at ih ⊢;omega
    ·have e1:decide (0≤a.o∧a.o < (n:Int))=false:=decide_eq_false h2
     have e2:decide (0≤a.o∧a.o < ((n+1:Nat):Int))=false:=decide_eq_false (by omega)
     rw [e1,e2,e3];simp only [↓reduceIte,Bool.false_eq_true];exact ih
theorem zrd (n:Nat) (l:List Acc):(zk6 n l).length≤l.length:=by rw [zk5];exact List.length_filter_le _ _
theorem zi6 {h:Hist} (hc:k8 h=0) (s:Int):(x9 h s).length≤3000∧∀d∈x9 h s,d.A.length≤3000∧d.B.length≤3000:=by
 have lE:=(zkh hc).evs
 refine ⟨by rw [x9,List.length_map];exact Nat.le_trans (zmo h s) lE,fun d hd=> ?_⟩
 obtain ⟨t,_,rfl⟩:=List.mem_map.1 hd
 have h1:=zrd h.os.length (zna h t 3)
 have h2:=zrd h.os.length (zna h t 2)
 have h3:(zna h t 3).length≤h.evs.length:=ze2 h t 3 h.evs.length
 have h4:(zna h t 2).length≤h.evs.length:=ze2 h t 2 h.evs.length
 exact ⟨by show (zk6 _ _).length≤_;omega,by show (zk6 _ _).length≤_;omega⟩
theorem zmw {k n:Nat} {d:Dos} (h:d.A.length≤n∧d.B.length≤n):(zct k d).length≤n:=by rw [zct];split;exact h.2;exact h.1
theorem ziv {k n:Nat} {d:Dos} (h:d.A.length≤n∧d.B.length≤n):(zfy k d).length≤n:=by rw [zfy];split;exact h.1;exact h.2
theorem zwz (k:Nat) (L:List Dos):∀n,(brW k L n).length≤n * L.length
 |0=>by simp [brW]
 |n+1=>by
  have h1:=zwz k L n
  rw [brW,List.length_append,Nat.succ_mul]
  split
  ·rename_i d _
   have h2:=List.length_filterMap_le (hdW k d) (L.take n)
   have h3:(L.take n).length≤L.length:=by rw [List.length_take];omega
   omega
  ·simp;omega
def seB (h:Hist) (s g:Int):List Brch:=if zep h s g=0 then brW (zk0 g).toNat (x9 h s) (x9 h s).length else []
theorem yci {h:Hist} {s g:Int} (he:zep h s g≠0):seB h s g= []:=if_neg he
theorem zsv {h:Hist} {s g:Int} {k:Nat} (he:zep h s g=0) (hk:zk0 g=(k:Int)):seB h s g=brW k (x9 h s) (x9 h s).length:=by rw [seB,if_pos he,hk];rfl
theorem zry {α:Type} {l pre rest:List α} {d:α} (h:l=pre++d::rest) (e:pre= []):l=d::rest:=by rw [h,e];rfl
def haK (h:Hist) (s:Int):Nat→Int
 |0=>0
 |k+1=>if brW k (x9 h s) (x9 h s).length= [] then bI .or .i64 (haK h s k) (zfa k) else haK h s k
def haO (h:Hist) (s:Int):Int:=if zb3 h s=0 then haK h s 4 else 0
set_option maxHeartbeats 8000000 in
theorem zl8 (h:Hist) (la:Lim 4611686018427387904 h) (s g:Int):x3 Tryz.prog 15 [.agg (x5 h),iv s,iv g] (.glob 0 117 x6:: .glob 3 148 y8:: .glob 5 276 y9:: .glob 6 279 y4:: .glob 2 197 u0:: []) (fun r h'=>h'= .glob 0 117 x6:: .glob 3 148 y8:: .glob 5 276 y9:: .glob 6 279 y4:: .glob 2 197 u0:: []∧r= .tup [.agg (zbw ((seB h s g).head?.getD br0)),bv (seB h s g).head?.isSome,iv (zep h s g)]):=by
 refine z6 Tryz.func15 rfl rfl rfl ?_
 refine rn ?_;refine z7 rfl (x8 rfl rfl rfl fun b3=> ?_)
 refine z7 rfl (x4 rfl fun b6=> ?_)
 refine z7 rfl (x4 rfl fun b7=> ?_)
 refine z7 rfl (x4 rfl fun b8=> ?_)
 refine rn ?_;refine qv rfl rfl (y5 rfl rfl (z8.qt (z8.of_fun (zl9 h la s g)) ((pt4 _ _ _ _ _ _).trans (.cons _ ((pt4 _ _ _ _ _ _).trans (.cons _ ((pt4 _ _ _ _ _ _).trans (.cons _ ((pt4 _ _ _ _ _ _).trans (.cons _ (pt4 _ _ _ _ _ _))))))))))) ?_
 refine rn ?_;refine y3 rfl (fun hc22=> ?_) (fun hc22=> ?_)
 ·have he:zep h s g≠0:=nzT hc22
  refine rn ?_;exact zeh (.cons _ _ _ _ (.agg _ _ _ _ _ _ _ rfl inferInstance inferInstance inferInstance rfl) (.cons _ _ _ _ (.one _ _ _ _ _ _ _ rfl inferInstance inferInstance rfl) (.cons _ _ _ _ (.one _ _ _ _ _ _ _ rfl inferInstance inferInstance rfl) .nil))) (.drop [_,_,_,_] _ _) ⟨rfl,by rw [yci he];rfl⟩
 ·have he:zep h s g=0:=nzF hc22
  obtain ⟨hl0,eO,k,hk,eI,eB,eG⟩:=zkp he
  have hB:=zi6 (zcv.2 (zm8 hl0).1) s
  rw [eI,eO]
  refine rn ?_;refine z7 rfl (w7 rfl rfl (z8.of_fun (zuh k (x9 h s) _)) rfl ?_)
  rintro _ _ ⟨bi,bl,rfl,rfl⟩
  refine rn ?_;refine zkm (fun pend h''=>(pend=none∧(brW k (x9 h s) (x9 h s).length)= []∧h''= .box bl 101 [zcd (x9 h s)]:: .box bi 3 [iv ((k:Nat):Int)]:: .glob 0 117 x6:: .box b8 32 [iv 0]:: .box b7 4 [bv false]:: .box b6 36 (zbw br0):: .box b3 28 (x5 h):: .glob 3 148 y8:: .glob 5 276 y9:: .glob 6 279 y4:: .glob 2 197 u0:: [])∨(pend=some .ret∧∃d rest,(brW k (x9 h s) (x9 h s).length)=d::rest∧h''= .box bl 101 [zcd (x9 h s)]:: .box bi 3 [iv ((k:Nat):Int)]:: .glob 0 117 x6:: .box b8 32 [iv 0]:: .box b7 4 [bv true]:: .box b6 36 (zbw d):: .box b3 28 (x5 h):: .glob 3 148 y8:: .glob 5 276 y9:: .glob 6 279 y4:: .glob 2 197 u0:: [])) rfl (fun fn l q lp hlp=> ?_) (fun q h'' hK=> ?_) (fun q h'' cc hK=> ?_)
  ·suffices hy:∀pre d rest (x:Brch),(brW k (x9 h s) (x9 h s).length)=pre++d::rest→pre= []→z8 Tryz.prog (yv l) [.agg (zbw d)] (.box bl 101 [zcd (x9 h s)]:: .box bi 3 [iv ((k:Nat):Int)]:: .glob 0 117 x6::lp .ready none:: .defs q:: .box b8 32 [iv 0]:: .box b7 4 [bv false]:: .box b6 36 (zbw br0):: .box b3 28 (x5 h):: .glob 3 148 y8:: .glob 5 276 y9:: .glob 6 279 y4:: .glob 2 197 u0:: []) (fun r h'=>∃x',(r=bv true∧pre++ [d]= []∧h'= .box bl 101 [zcd (x9 h s)]:: .box bi 3 [iv ((k:Nat):Int)]:: .glob 0 117 x6::lp .ready none:: .defs q:: .box b8 32 [iv 0]:: .box b7 4 [bv false]:: .box b6 36 (zbw br0):: .box b3 28 (x5 h):: .glob 3 148 y8:: .glob 5 276 y9:: .glob 6 279 y4:: .glob 2 197 u0:: [])∨(r=bv false∧(∃rest,(brW k (x9 h s) (x9 h s).length)=x'::rest)∧h'= .box bl 101 [zcd (x9 h s)]:: .box bi 3 [iv ((k:Nat):Int)]:: .glob 0 117 x6::lp .done (some .ret):: .defs q:: .box b8 32 [iv 0]:: .box b7 4 [bv true]:: .box b6 36 (zbw x'):: .box b3 28 (x5 h):: .glob 3 148 y8:: .glob 5 276 y9:: .glob 6 279 y4:: .glob 2 197 u0:: [])) by
    refine x3.mono (x3.perm ((pt2 _ _ _ _).trans (.cons _ ((pt2 _ _ _ _).trans (.cons _ (pt6 _ _ _ _ _ _ _ _))))) (zug k hk (x9 h s) (by omega) (fun d hd=>zmw ⟨Nat.le_trans (hB.2 d hd).1 (by decide),Nat.le_trans (hB.2 d hd).2 (by decide)⟩) (fun d hd=>ziv ⟨Nat.le_trans (hB.2 d hd).1 (by decide),Nat.le_trans (hB.2 d hd).2 (by decide)⟩) (yv l) rfl bi bl (fun pre _=>pre= []) (fun d=>∃rest,(brW k (x9 h s) (x9 h s).length)=d::rest) (fun _ _=>lp .ready none:: .defs q:: .box b8 32 [iv 0]:: .box b7 4 [bv false]:: .box b6 36 (zbw br0):: .box b3 28 (x5 h):: .glob 3 148 y8:: .glob 5 276 y9:: .glob 6 279 y4:: .glob 2 197 u0:: []) (fun d=>lp .done (some .ret):: .defs q:: .box b8 32 [iv 0]:: .box b7 4 [bv true]:: .box b6 36 (zbw d):: .box b3 28 (x5 h):: .glob 3 148 y8:: .glob 5 276 y9:: .glob 6 279 y4:: .glob 2 197 u0:: []) br0 rfl hy)) ?_
    rintro _ _ ⟨x,⟨hn,rfl⟩|⟨⟨rest,hn⟩,rfl⟩⟩
    ·exact ⟨none,.ready,_,((pt3 _ _ _ _ _).trans (.cons _ (pt3 _ _ _ _ _))),by simp,.inl ⟨rfl,hn,rfl⟩⟩
    ·exact ⟨some .ret,.done,_,((pt3 _ _ _ _ _).trans (.cons _ (pt3 _ _ _ _ _))),by simp,.inr ⟨rfl,x,rest,hn,rfl⟩⟩
   intro pre d rest x hL hpre
   refine z8.perm (pt3 _ _ _ _ _) (z8.ventE ?_)
   refine zcu hlp rfl rfl ?_
   refine rn ?_;refine z7 rfl (x4 rfl fun b12=> ?_)
   refine rn ?_;refine ⟨[(12,pZ b12),(6,pZ b6),(7,pZ b7),(8,pZ b8)],.box b12 36 (zbw d):: .box bl 101 [zcd (x9 h s)]:: .box bi 3 [iv ((k:Nat):Int)]:: .glob 0 117 x6:: .defs q:: .box b8 32 [iv 0]:: .box b7 4 [bv false]:: .box b6 36 (zbw br0):: .box b3 28 (x5 h):: .glob 3 148 y8:: .glob 5 276 y9:: .glob 6 279 y4:: .glob 2 197 u0:: [],v8 (zae (pt1 _ _ _)) es,?_⟩
   refine rn ?_;exact zjt (.refl _) ⟨_,_,.trans (.perm ((pt1 _ _ _).trans (.cons _ ((pt1 _ _ _).trans (.cons _ ((pt1 _ _ _).trans (.cons _ (pt1 _ _ _))))))) _) (.drop [_] _ _),d,.inr ⟨rfl,⟨rest,zry hL hpre⟩,rfl⟩⟩
  ·obtain ⟨_,hn,rfl⟩|⟨hc',_⟩:=hK
   rotate_left
   ·cases hc'
   refine rn ?_;exact zfg (.refl _) (.cons _ _ _ _ (.agg _ _ _ _ _ _ _ rfl inferInstance inferInstance inferInstance rfl) (.cons _ _ _ _ (.one _ _ _ _ _ _ _ rfl inferInstance inferInstance rfl) (.cons _ _ _ _ (.one _ _ _ _ _ _ _ rfl inferInstance inferInstance rfl) .nil))) (.trans (.perm (.cons _ (.cons _ ((pt1 _ _ _).trans (.cons _ ((pt1 _ _ _).trans (.cons _ ((pt1 _ _ _).trans (.cons _ (pt1 _ _ _))))))))) _) (.drop [_,_,_,_,_,_] _ _)) ⟨rfl,by rw [zsv he eG,hn,he];rfl⟩
  ·obtain ⟨hc',_⟩|⟨hc',d,rest,hn,rfl⟩:=hK
   ·cases hc'
   obtain rfl:cc= .ret:=by simpa using hc'
   refine rn ?_;exact zfg (.refl _) (.cons _ _ _ _ (.agg _ _ _ _ _ _ _ rfl inferInstance inferInstance inferInstance rfl) (.cons _ _ _ _ (.one _ _ _ _ _ _ _ rfl inferInstance inferInstance rfl) (.cons _ _ _ _ (.one _ _ _ _ _ _ _ rfl inferInstance inferInstance rfl) .nil))) (.trans (.perm (.cons _ (.cons _ ((pt1 _ _ _).trans (.cons _ ((pt1 _ _ _).trans (.cons _ ((pt1 _ _ _).trans (.cons _ (pt1 _ _ _))))))))) _) (.drop [_,_,_,_,_,_] _ _)) ⟨rfl,by rw [zsv he eG,hn,he];rfl⟩
set_option maxHeartbeats 8000000 in
theorem zud (h:Hist) (la:Lim 4611686018427387904 h) (s g:Int):x3 Tryz.prog 16 [.agg (x5 h),iv s,iv g] (.glob 0 117 x6:: .glob 3 148 y8:: .glob 5 276 y9:: .glob 6 279 y4:: .glob 2 197 u0:: []) (fun r h'=>∃v:SV,h'= .row v.v 2 34 (((seB h s g).map prB).map zn1):: .glob 0 117 x6:: .glob 3 148 y8:: .glob 5 276 y9:: .glob 6 279 y4:: .glob 2 197 u0:: []∧r= .tup [.v v.v,iv (zep h s g)]):=by
 refine z6 Tryz.func16 rfl rfl rfl ?_
 refine rn ?_;refine z7 rfl (x8 rfl rfl rfl fun b3=> ?_)
 refine rn ?_;refine qv rfl rfl (y5 rfl rfl (z8.qt (z8.of_fun (zl9 h la s g)) ((pt1 _ _ _).trans (.cons _ ((pt1 _ _ _).trans (.cons _ ((pt1 _ _ _).trans (.cons _ ((pt1 _ _ _).trans (.cons _ (pt1 _ _ _))))))))))) ?_
 refine rn ?_;refine y3 rfl (fun hc22=> ?_) (fun hc22=> ?_)
 ·have he:zep h s g≠0:=nzT hc22
  refine rn ?_;exact zbo rfl rfl (.trans (.drop [_] _ _) (zax 2 34 _)) ⟨⟨none,0,0⟩,by rw [yci he];rfl,rfl⟩
 ·have he:zep h s g=0:=nzF hc22
  obtain ⟨hl0,eO,k,hk,eI,eB,eG⟩:=zkp he
  have hB:=zi6 (zcv.2 (zm8 hl0).1) s
  rw [eI,eO]
  refine rn ?_;refine z7 rfl (x4 rfl fun b11=> ?_)
  refine rn ?_;refine z7 rfl (w7 rfl rfl (z8.of_fun (zuh k (x9 h s) _)) rfl ?_)
  rintro _ _ ⟨bi,bl,rfl,rfl⟩
  refine rn ?_;refine zfv (s':=⟨[(26,.fn (.func 109) [] [pZ bi,pZ bl]),(11,pZ b11)],.row (⟨none,0,0⟩:SV).v 2 34 ((([]:List (Int×Int))).map zn1):: .box bl 101 [zcd (x9 h s)]:: .box bi 3 [iv (k:Int)]:: .box b11 29 [.v (⟨none,0,0⟩:SV).v]:: .box b3 28 (x5 h):: .glob 0 117 x6:: .glob 3 148 y8:: .glob 5 276 y9:: .glob 6 279 y4:: .glob 2 197 u0:: [],[]⟩) (v8 (zci 2 34) es) ?_
  refine zkm (fun pend h''=>pend=none∧∃x:SV,h''= .box bl 101 [zcd (x9 h s)]:: .box bi 3 [iv ((k:Nat):Int)]:: .glob 0 117 x6:: .row x.v 2 34 (((brW k (x9 h s) (x9 h s).length).map prB).map zn1):: .box b11 29 [.v x.v]:: .box b3 28 (x5 h):: .glob 3 148 y8:: .glob 5 276 y9:: .glob 6 279 y4:: .glob 2 197 u0:: []) rfl (fun fn l q lp hlp=> ?_) (fun q h'' hK=> ?_) (fun q h'' cc hK=> ?_)
  ·suffices hy:∀pre d rest (x:SV),(brW k (x9 h s) (x9 h s).length)=pre++d::rest→True→z8 Tryz.prog (yv l) [.agg (zbw d)] (.box bl 101 [zcd (x9 h s)]:: .box bi 3 [iv ((k:Nat):Int)]:: .glob 0 117 x6::lp .ready none:: .defs q:: .row x.v 2 34 (((pre).map prB).map zn1):: .box b11 29 [.v x.v]:: .box b3 28 (x5 h):: .glob 3 148 y8:: .glob 5 276 y9:: .glob 6 279 y4:: .glob 2 197 u0:: []) (fun r h'=>∃x':SV,(r=bv true∧True∧h'= .box bl 101 [zcd (x9 h s)]:: .box bi 3 [iv ((k:Nat):Int)]:: .glob 0 117 x6::lp .ready none:: .defs q:: .row x'.v 2 34 (((pre++ [d]).map prB).map zn1):: .box b11 29 [.v x'.v]:: .box b3 28 (x5 h):: .glob 3 148 y8:: .glob 5 276 y9:: .glob 6 279 y4:: .glob 2 197 u0:: [])∨(r=bv false∧False∧h'= .box bl 101 [zcd (x9 h s)]:: .box bi 3 [iv ((k:Nat):Int)]:: .glob 0 117 x6:: [])) by
    refine x3.mono (x3.perm ((pt3 _ _ _ _ _).trans (.cons _ ((pt3 _ _ _ _ _).trans (.cons _ (pt5 _ _ _ _ _ _ _))))) (zug k hk (x9 h s) (by omega) (fun d hd=>zmw ⟨Nat.le_trans (hB.2 d hd).1 (by decide),Nat.le_trans (hB.2 d hd).2 (by decide)⟩) (fun d hd=>ziv ⟨Nat.le_trans (hB.2 d hd).1 (by decide),Nat.le_trans (hB.2 d hd).2 (by decide)⟩) (yv l) rfl bi bl (fun _ (_:SV)=>True) (fun _=>False) (fun pre (x:SV)=>lp .ready none:: .defs q:: .row x.v 2 34 (((pre).map prB).map zn1):: .box b11 29 [.v x.v]:: .box b3 28 (x5 h):: .glob 3 148 y8:: .glob 5 276 y9:: .glob 6 279 y4:: .glob 2 197 u0:: []) (fun _=> []) ⟨none,0,0⟩ trivial hy)) ?_
    rintro _ _ ⟨x,⟨-,rfl⟩|⟨hF,_⟩⟩
    ·exact ⟨none,.ready,_,((pt3 _ _ _ _ _).trans (.cons _ (pt3 _ _ _ _ _))),by simp,rfl,x,rfl⟩
    ·exact hF.elim
   intro pre d rest x hL _
   have hpl:pre.length≤9000000:=by
    have h1:=zwz k (x9 h s) (x9 h s).length
    have h2:(x9 h s).length * (x9 h s).length≤3000 * 3000:=Nat.mul_le_mul hB.1 hB.1
    rw [hL,List.length_append] at h1
    omega
   refine z8.perm (pt3 _ _ _ _ _) (z8.ventE ?_)
   refine zcu hlp rfl rfl ?_
   refine rn ?_;refine z7 rfl (x4 rfl fun b12=> ?_)
   refine rn ?_;refine ⟨[(12,pZ b12),(11,pZ b11)],.box b12 36 (zbw d):: .box bl 101 [zcd (x9 h s)]:: .box bi 3 [iv ((k:Nat):Int)]:: .glob 0 117 x6:: .defs q:: .row x.v 2 34 ((pre.map prB).map zn1):: .box b11 29 [.v x.v]:: .box b3 28 (x5 h):: .glob 3 148 y8:: .glob 5 276 y9:: .glob 6 279 y4:: .glob 2 197 u0:: [],v8 (zae (pt1 _ _ _)) es,?_⟩
   refine zah ?_;refine y6 ?_;refine q1 ?_;refine q1 ?_;refine q1 ?_;refine q1 ?_;refine q1 ?_;refine qq rfl rfl (zcb (out:= [iv d.e,iv d.l]) rfl (by rfl)) ?_
   refine qv rfl rfl (u1 rfl rfl) ?_
   refine z7 rfl (zaa rfl rfl (by simp only [List.length_map,List.length_cons,List.length_nil];omega) rfl (fun s35=> ?_) (fun r hr=>by rw [List.mem_singleton.1 hr];rfl))
   refine za8 s35 fun sv hsv=> ?_
   subst hsv
   refine rn ?_;exact zd4 (.refl _) ⟨_,_,.trans (.perm ((pt1 _ _ _).trans (.cons _ ((pt1 _ _ _).trans (.cons _ ((pt1 _ _ _).trans (.cons _ (pt1 _ _ _))))))) _) (.drop [_] _ _),sv,.inl ⟨rfl,trivial,by rw [List.map_append,List.map_append];rfl⟩⟩
  ·obtain ⟨_,x,rfl⟩:=hK
   refine rn ?_;exact zfg (.refl _) (.cons _ _ _ _ (.tmp _ _ rfl) (.cons _ _ _ _ (.tmp _ _ rfl) .nil)) (.trans (.perm (.cons _ (.cons _ ((pt2 _ _ _ _).trans (.cons _ ((pt2 _ _ _ _).trans (.cons _ (pt1 _ _ _))))))) _) (.drop [_,_,_,_] _ _)) ⟨x,by rw [zsv he eG],by rw [he];rfl⟩
  ·obtain ⟨hc',_⟩:=hK
   exact absurd hc' (by simp)
theorem zrm (h:Hist) (la:Lim 4611686018427387904 h) (s g:Int):x3 Tryz.prog 16 [.agg (x5 h),iv s,iv g] (.glob 0 117 x6:: .glob 3 148 y8:: .glob 5 276 y9:: .glob 6 279 y4:: .glob 2 197 u0:: []) (fun r h'=>h'= .glob 0 117 x6:: .glob 3 148 y8:: .glob 5 276 y9:: .glob 6 279 y4:: .glob 2 197 u0:: []∧r= .tup [yc7 ((seB h s g).map prB),iv (zep h s g)]):=(zud h la s g).ventR (by rintro _ _ ⟨v,rfl,rfl⟩;exact ⟨_,_,za3 [] [_],rfl,rfl⟩)
set_option maxHeartbeats 8000000 in
theorem yao (h:Hist) (la:Lim 4611686018427387904 h) (s:Int):x3 Tryz.prog 24 [.agg (x5 h),iv s] (.glob 0 117 x6:: .glob 3 148 y8:: .glob 5 276 y9:: .glob 6 279 y4:: .glob 2 197 u0:: []) (fun r h'=>h'= .glob 0 117 x6:: .glob 3 148 y8:: .glob 5 276 y9:: .glob 6 279 y4:: .glob 2 197 u0:: []∧r= .tup [iv (haO h s),iv (zb3 h s)]):=by
 refine z6 Tryz.func24 rfl rfl rfl ?_
 refine rn ?_;refine z7 rfl (x8 rfl rfl rfl fun b2=> ?_)
 refine rn ?_;refine qv rfl rfl (y5 rfl rfl (z8.qt (z8.of_fun (zue h la s)) ((pt2 _ _ _ _).trans (.cons _ ((pt2 _ _ _ _).trans (.cons _ ((pt2 _ _ _ _).trans (.cons _ (pt2 _ _ _ _))))))))) ?_
 refine rn ?_;refine y3 rfl (fun hc19=> ?_) (fun hc19=> ?_)
 ·have he:zb3 h s≠0:=nzT hc19
  refine rn ?_;exact zbo rfl rfl (.drop [_] _ _) ⟨rfl,by rw [haO,if_neg he];rfl⟩
 ·have hl0:zb3 h s=0:=nzF hc19
  have hB:=zi6 (zcv.2 (zm8 hl0).1) s
  rw [zqc hl0]
  refine rn ?_;refine zgs 4 (fun _ (_:List Nat)=>True) (fun k dfs=>⟨[(22,iv (k:Nat)),(8,iv (haK h s k)),(6,zcd (x9 h s)),(21,.agg x6)],.box b2 28 (x5 h):: .glob 0 117 x6:: .glob 3 148 y8:: .glob 5 276 y9:: .glob 6 279 y4:: .glob 2 197 u0::(dfs.map Res.defs),dfs⟩) [] trivial es ?_
  intro k dfs lk _
  refine rn ?_;refine y3 rfl (fun hc23=> ?_) (fun hc23=> ?_)
  ·have hk:k < 4:=by have q:=of_decide_eq_true hc23;omega
   refine zab ?_;refine k7 ?_;refine w6 ?_;refine zah ?_;refine w6 (y6 ?_)
   refine q1 ?_;refine qq rfl rfl (ze4 (i:=k) (out:=zr6 k) rfl rfl hk (by show k * 3+3≤12;omega) (yec hk)) ?_
   refine z7 rfl (x4 rfl fun b10=> ?_)
   refine rn ?_;refine z7 rfl (x4 rfl fun b11=> ?_)
   refine rn ?_;refine z7 rfl (w7 rfl rfl (z8.of_fun (zuh k (x9 h s) _)) rfl ?_)
   rintro _ _ ⟨bi,bl,rfl,rfl⟩
   refine rn ?_;refine zkm (fun pend h''=>(pend=none∧(brW k (x9 h s) (x9 h s).length)= []∧h''= .box bl 101 [zcd (x9 h s)]:: .box bi 3 [iv ((k:Nat):Int)]:: .glob 0 117 x6:: .box b11 4 [bv false]:: .box b10 116 (zr6 k):: .box b2 28 (x5 h):: .glob 3 148 y8:: .glob 5 276 y9:: .glob 6 279 y4:: .glob 2 197 u0::(dfs.map Res.defs))∨(pend=some (.exit 2)∧(brW k (x9 h s) (x9 h s).length)≠ []∧h''= .box bl 101 [zcd (x9 h s)]:: .box bi 3 [iv ((k:Nat):Int)]:: .glob 0 117 x6:: .box b11 4 [bv true]:: .box b10 116 (zr6 k):: .box b2 28 (x5 h):: .glob 3 148 y8:: .glob 5 276 y9:: .glob 6 279 y4:: .glob 2 197 u0::(dfs.map Res.defs))) rfl (fun fn l q lp hlp=> ?_) (fun q h'' hK=> ?_) (fun q h'' cc hK=> ?_)
   ·suffices hy:∀pre d rest (x:Unit),(brW k (x9 h s) (x9 h s).length)=pre++d::rest→pre= []→z8 Tryz.prog (yv l) [.agg (zbw d)] (.box bl 101 [zcd (x9 h s)]:: .box bi 3 [iv ((k:Nat):Int)]:: .glob 0 117 x6::lp .ready none:: .defs q:: .box b11 4 [bv false]:: .box b10 116 (zr6 k):: .box b2 28 (x5 h):: .glob 3 148 y8:: .glob 5 276 y9:: .glob 6 279 y4:: .glob 2 197 u0::(dfs.map Res.defs)) (fun r h'=>∃x':Unit,(r=bv true∧pre++ [d]= []∧h'= .box bl 101 [zcd (x9 h s)]:: .box bi 3 [iv ((k:Nat):Int)]:: .glob 0 117 x6::lp .ready none:: .defs q:: .box b11 4 [bv false]:: .box b10 116 (zr6 k):: .box b2 28 (x5 h):: .glob 3 148 y8:: .glob 5 276 y9:: .glob 6 279 y4:: .glob 2 197 u0::(dfs.map Res.defs))∨(r=bv false∧(brW k (x9 h s) (x9 h s).length)≠ []∧h'= .box bl 101 [zcd (x9 h s)]:: .box bi 3 [iv ((k:Nat):Int)]:: .glob 0 117 x6::lp .done (some (.exit 2)):: .defs q:: .box b11 4 [bv true]:: .box b10 116 (zr6 k):: .box b2 28 (x5 h):: .glob 3 148 y8:: .glob 5 276 y9:: .glob 6 279 y4:: .glob 2 197 u0::(dfs.map Res.defs))) by
     refine x3.mono (x3.perm ((pt2 _ _ _ _).trans (.cons _ ((pt2 _ _ _ _).trans (.cons _ (pt5 _ _ _ _ _ _ _))))) (zug k hk (x9 h s) (by omega) (fun d hd=>zmw ⟨Nat.le_trans (hB.2 d hd).1 (by decide),Nat.le_trans (hB.2 d hd).2 (by decide)⟩) (fun d hd=>ziv ⟨Nat.le_trans (hB.2 d hd).1 (by decide),Nat.le_trans (hB.2 d hd).2 (by decide)⟩) (yv l) rfl bi bl (fun pre _=>pre= []) (fun _=>(brW k (x9 h s) (x9 h s).length)≠ []) (fun _ _=>lp .ready none:: .defs q:: .box b11 4 [bv false]:: .box b10 116 (zr6 k):: .box b2 28 (x5 h):: .glob 3 148 y8:: .glob 5 276 y9:: .glob 6 279 y4:: .glob 2 197 u0::(dfs.map Res.defs)) (fun _=>lp .done (some (.exit 2)):: .defs q:: .box b11 4 [bv true]:: .box b10 116 (zr6 k):: .box b2 28 (x5 h):: .glob 3 148 y8:: .glob 5 276 y9:: .glob 6 279 y4:: .glob 2 197 u0::(dfs.map Res.defs)) () rfl hy)) ?_
     rintro _ _ ⟨x,⟨hn,rfl⟩|⟨hn,rfl⟩⟩
     ·exact ⟨none,.ready,_,((pt3 _ _ _ _ _).trans (.cons _ (pt3 _ _ _ _ _))),by simp,.inl ⟨rfl,hn,rfl⟩⟩
     ·exact ⟨some (.exit 2),.done,_,((pt3 _ _ _ _ _).trans (.cons _ (pt3 _ _ _ _ _))),by simp,.inr ⟨rfl,hn,rfl⟩⟩
    intro pre d rest x hL hpre
    refine z8.perm (pt3 _ _ _ _ _) (z8.ventE ?_)
    refine zcu hlp rfl rfl ?_
    refine rn ?_;refine ⟨[(11,pZ b11)],.box bl 101 [zcd (x9 h s)]:: .box bi 3 [iv ((k:Nat):Int)]:: .glob 0 117 x6:: .defs q:: .box b11 4 [bv false]:: .box b10 116 (zr6 k):: .box b2 28 (x5 h):: .glob 3 148 y8:: .glob 5 276 y9:: .glob 6 279 y4:: .glob 2 197 u0::(dfs.map Res.defs),es,?_⟩
    refine rn ?_;exact zmc (.refl _) ⟨_,_,.perm ((pt1 _ _ _).trans (.cons _ ((pt1 _ _ _).trans (.cons _ (pt1 _ _ _))))) _,(),.inr ⟨rfl,by rw [zry hL hpre];exact List.cons_ne_nil _ _,rfl⟩⟩
   ·obtain ⟨_,hn,rfl⟩|⟨hc',_⟩:=hK
    rotate_left
    ·cases hc'
    refine rn ?_;refine y3 rfl (fun hc31=> ?_) (fun hc31=> ?_)
    ·refine rn ?_;exact ⟨hk,q::dfs,trivial,by rw [haK,if_pos hn];exact v8 (zae ((List.Perm.cons _ (.cons _ (.cons _ ((pt1 _ _ _).trans (.cons _ ((pt1 _ _ _).trans (.cons _ (pt1 _ _ _)))))))).trans (zg7 _ [_,_,_,_,_,_,_,_,_,_] [] _))) (v8 (zc6 (h1:= [_,_,_,_])) es)⟩
    ·refine rn ?_;exact absurd hc31 (by decide)
   ·obtain ⟨hc',_⟩|⟨hc',hn,rfl⟩:=hK
    ·cases hc'
    obtain rfl:cc= .exit 2:=by simpa using hc'
    refine rn ?_;refine y3 rfl (fun hc31=> ?_) (fun hc31=> ?_)
    ·refine rn ?_;exact absurd hc31 (by decide)
    ·refine rn ?_;exact ⟨hk,q::dfs,trivial,by rw [haK,if_neg hn];exact v8 (zae ((List.Perm.cons _ (.cons _ (.cons _ ((pt1 _ _ _).trans (.cons _ ((pt1 _ _ _).trans (.cons _ (pt1 _ _ _)))))))).trans (zg7 _ [_,_,_,_,_,_,_,_,_,_] [] _))) (v8 (zc6 (h1:= [_,_,_,_])) es)⟩
  ·have qk:k=4:=by have q:=of_decide_eq_false hc23;omega
   subst qk
   refine rn ?_;exact zfg (List.perm_append_comm (l₁:= [_,_,_,_,_,_]) (l₂:=(dfs.map Res.defs))) (.cons _ _ _ _ (.tmp _ _ rfl) (.cons _ _ _ _ (.tmp _ _ rfl) .nil)) (.drop [_] _ _) ⟨rfl,by rw [haO,if_pos hl0,hl0];rfl⟩
instance:EqInts Tryz.prog 36 6:=⟨by kernel_rfl,fun w xs ys h1 h2=>match xs,ys,h1,h2 with
 | [a0,a1,a2,a3,a4,a5],[c0,c1,c2,c3,c4,c5],_,_=>by
   rw [run_equalIn_struct w 9999 36 _ _ (by kernel_rfl) (by kernel_rfl)]
   simp only [Program.fieldsOf,Tryz.underlying36]
   simp [Op.eqFields,part,run_equalIn_int _ 9998 3 .i64 .i64 _ _ Tryz.underlying3]
   by_cases h0:a0=c0
   case neg=>simp [h0]
   subst h0
   by_cases h1:a1=c1
   case neg=>simp [h1]
   subst h1
   by_cases h2:a2=c2
   case neg=>simp [h2]
   subst h2
   by_cases h3:a3=c3
   case neg=>simp [h3]
   subst h3
   by_cases h4:a4=c4
   case neg=>simp [h4]
   subst h4
   by_cases h5:a5=c5
   case neg=>simp [h5]
   subst h5
   simp⟩
def zgf (L:List Dos) (t:Int):Int:=zaq (fun d:Dos=>d.t==t) 0 L
def isO (h:Hist) (s:Int) (z:Brch):Bool:=
 if zep h s z.g=0 then
  (if zgf (x9 h s) z.e < 0∨zgf (x9 h s) z.l≤zgf (x9 h s) z.e then false
   else (match (x9 h s)[(zgf (x9 h s) z.e).toNat]?,(x9 h s)[(zgf (x9 h s) z.l).toNat]? with|some e,some l=>decide (z∈zft (zk0 z.g).toNat e l)|_,_=>false))
 else false
theorem yj7 {h:Hist} {s:Int} {z:Brch} (he:zep h s z.g≠0):isO h s z=false:=if_neg he
theorem yd4 {h:Hist} {s:Int} {z:Brch} (he:zep h s z.g=0) (hq:zgf (x9 h s) z.e < 0∨zgf (x9 h s) z.l≤zgf (x9 h s) z.e):isO h s z=false:=by rw [isO,if_pos he,if_pos hq]
theorem zms {L:List Dos} {t:Int}: -1≤zgf L t∧zgf L t < L.length:=by
 rw [zgf]
 suffices ∀(l:List Dos) (i:Nat), -1≤zaq (fun d:Dos=>d.t==t) i l∧zaq (fun d:Dos=>d.t==t) i l < ((i+l.length:Nat):Int)∨zaq (fun d:Dos=>d.t==t) i l= -1 by
  rcases this L 0 with ⟨h1,h2⟩|h
  ·exact ⟨h1,by simpa using h2⟩
  ·rw [h];omega
 intro l
 induction l with
 |nil=>intro i;exact .inr rfl
 |cons a l ih=>
  intro i
  rw [zaq]
  split
  ·left;rw [List.length_cons];omega
  ·rcases ih (i+1) with ⟨h1,h2⟩|h
   ·left;rw [List.length_cons];omega
   ·right;exact h
theorem yd3 {h:Hist} {s:Int} {z:Brch} {k i j:Nat} (he:zep h s z.g=0) (hk:zk0 z.g=(k:Int)) (h1:zgf (x9 h s) z.e=(i:Int)) (h2:zgf (x9 h s) z.l=(j:Int)) (hij:i < j) (hi:i < (x9 h s).length) (hj:j < (x9 h s).length):
 isO h s z=decide (z∈zft k (x9 h s)[i] (x9 h s)[j]):=by
 rw [isO,if_pos he,if_neg (by rw [h1,h2];omega),h1,h2,hk]
 simp only [Int.toNat_natCast,List.getElem?_eq_getElem hi,List.getElem?_eq_getElem hj]
theorem zob {full:Bool} (l:List Dos) (fv:AV) (p:Dos→Bool) (G:List Res) (hp:∀a∈l,z8 Tryz.prog fv [.agg (zao a)] G (fun r h'=>h'=G∧r=bv (p a))) (hlen:l.length≤4611686018427387904):x3 Tryz.prog 67 [.list full 3 (l.map zao),fv] G (fun r h'=>h'=G∧r=iv (zaq p 0 l)):=by
 refine z6 Tryz.func67 rfl rfl rfl ?_
 refine rn ?_;refine j9 (fun k:Nat=>k≤l.length∧zaq p 0 l=zaq p k (l.drop k)) (fun k=>⟨[(8,iv k),(7,iv (l.map zao).length),(0,.list full 3 (l.map zao)),(1,fv)],G,[]⟩) (fun k=>l.length - k) 0 ⟨Nat.zero_le _,by simp⟩
  (w9 (.cons _ _ _ rfl (.cons _ _ _ rfl (.cons _ _ _ rfl (.cons _ _ _ rfl (.nil)))))) ?_
 rintro k ⟨hk,hnot⟩
 refine rn ?_;refine y3 rfl (fun hc9=> ?_) (fun hc9=> ?_)
 ·have hk2:k < l.length:=by simpa using hc9
  have hrow:(l.map zao)[k]? =some (zao l[k]):=by simp [hk2]
  have hd:=List.drop_eq_getElem_cons hk2
  refine rn ?_;refine qv rfl rfl (y5 rfl rfl (hp l[k] (by simp))) ?_
  refine rn ?_;refine y3 rfl (fun hc16=> ?_) (fun hc16=> ?_)
  ·refine rn ?_;exact zad rfl (.refl _ _) ⟨rfl,by rw [hnot,hd,zaq,if_pos hc16];rfl⟩
  ·refine rn ?_;exact ⟨k+1,⟨by omega,by rw [hnot,hd,zaq,if_neg (by simp [hc16])]⟩,(w9 (.cons _ _ _ rfl (.cons _ _ _ rfl (.cons _ _ _ rfl (.cons _ _ _ rfl (.nil)))))),by omega⟩
 ·have hk3:k=l.length:=by
   have:l.length≤k:=by simpa using hc9
   omega
  refine rn ?_;exact zad rfl (.refl _ _) ⟨rfl,by rw [hnot,hk3,List.drop_length,zaq];rfl⟩
theorem ycg (d:Dos) (t:Int) (b2:Nat):x3 Tryz.prog 68 [.agg (zao d),pZ b2] (.box b2 3 [iv t]:: []) (fun r h'=>h'= .box b2 3 [iv t]:: []∧r=bv (d.t==t)):=by
 refine z6 Tryz.func68 rfl rfl rfl ?_
 refine rn ?_;refine z7 rfl (x8 rfl rfl rfl fun b2=> ?_)
 refine rn ?_;refine rq 1 ?_
 exact ⟨rfl,rfl⟩
theorem yan (L:List Dos) (hL:L.length≤1000000) (t:Int) (b7:Nat):x3 Tryz.prog 66 [iv t,pZ b7] (.box b7 101 [zcd L]:: []) (fun r h'=>h'= .box b7 101 [zcd L]:: []∧r=iv (zgf L t)):=by
 refine z6 Tryz.func66 rfl rfl rfl ?_
 refine rn ?_;refine z7 rfl (x8 rfl rfl rfl fun b2=> ?_)
 refine rn ?_;refine qv rfl rfl (y5 rfl rfl (z8.of_fun (zob L _ (fun d:Dos=>d.t==t) _ (fun d _=>z8.qt (z8.of_acall (fs:= []) (cs:= [pZ b2]) (ycg d t b2)) (.refl _)) (Nat.le_trans hL (by decide))))) ?_
 refine rn ?_;refine rq 1 ?_
 exact ⟨rfl,rfl⟩
set_option maxHeartbeats 8000000 in
theorem yjf (h:Hist) (la:Lim 4611686018427387904 h) (s:Int) (z:Brch):x3 Tryz.prog 26 [.agg (x5 h),iv s,.agg (zbw z)] (.glob 0 117 x6:: .glob 3 148 y8:: .glob 5 276 y9:: .glob 6 279 y4:: .glob 2 197 u0:: []) (fun r h'=>h'= .glob 0 117 x6:: .glob 3 148 y8:: .glob 5 276 y9:: .glob 6 279 y4:: .glob 2 197 u0:: []∧r=bv (isO h s z)):=by
 refine z6 Tryz.func26 rfl rfl rfl ?_
 refine rn ?_;refine z7 rfl (x8 rfl rfl rfl fun b3=> ?_)
 refine z7 rfl (x8 rfl rfl rfl fun b5=> ?_)
 refine z7 rfl (x4 rfl fun b6=> ?_)
 refine rn ?_;refine qv rfl rfl (y5 rfl rfl (z8.qt (z8.of_fun (zl9 h la s z.g)) ((pt3 _ _ _ _ _).trans (.cons _ ((pt3 _ _ _ _ _).trans (.cons _ ((pt3 _ _ _ _ _).trans (.cons _ ((pt3 _ _ _ _ _).trans (.cons _ (pt3 _ _ _ _ _))))))))))) ?_
 refine rn ?_;refine z7 rfl (x4 rfl fun b7=> ?_)
 refine rn ?_;refine y3 rfl (fun hc24=> ?_) (fun hc24=> ?_)
 ·have he:zep h s z.g≠0:=nzT hc24
  refine rn ?_;exact zeh (.cons _ _ _ _ (.one _ _ _ _ _ _ _ rfl inferInstance inferInstance rfl) .nil) (.drop [_,_,_,_] _ _) ⟨rfl,by rw [yj7 he];rfl⟩
 ·have he:zep h s z.g=0:=nzF hc24
  obtain ⟨hl0,eO,k,hk,eI,eB,eG⟩:=zkp he
  have hB:=zi6 (zcv.2 (zm8 hl0).1) s
  rw [eI,eO]
  refine rn ?_;refine j4 7 rfl ?_
  refine rn ?_;refine dv rfl rfl (by exact y5 rfl rfl (z8.qt (z8.of_acall (fs:= []) (cs:= [pZ b7]) (yan (x9 h s) (by omega) z.e b7)) (.refl _))) ?_
  refine rn ?_;refine qv rfl rfl (y5 rfl rfl (z8.qt (z8.of_acall (fs:= []) (cs:= [pZ b7]) (yan (x9 h s) (by omega) z.l b7)) (.refl _))) ?_
  refine rn ?_;refine q9 (fun hg6_2=> ?_) (fun hg6_2=> ?_)
  ·refine rn ?_;refine ztp rfl ?_;have hq:zgf (x9 h s) z.e < 0∨zgf (x9 h s) z.l≤zgf (x9 h s) z.e:=by first|exact .inl (of_decide_eq_true hg6_2)|exact .inr (of_decide_eq_true hc40)
   refine rn ?_;exact zeh (.cons _ _ _ _ (.one _ _ _ _ _ _ _ rfl inferInstance inferInstance rfl) .nil) (.drop [_,_,_,_] _ _) ⟨rfl,by rw [yd4 he hq];rfl⟩
  ·refine rn ?_;refine y3 rfl (fun hc40=> ?_) (fun hc40=> ?_)
   ·have hq:zgf (x9 h s) z.e < 0∨zgf (x9 h s) z.l≤zgf (x9 h s) z.e:=by first|exact .inl (of_decide_eq_true hg6_2)|exact .inr (of_decide_eq_true hc40)
    refine rn ?_;exact zeh (.cons _ _ _ _ (.one _ _ _ _ _ _ _ rfl inferInstance inferInstance rfl) .nil) (.drop [_,_,_,_] _ _) ⟨rfl,by rw [yd4 he hq];rfl⟩
   ·have n1:¬zgf (x9 h s) z.e < 0:=of_decide_eq_false hg6_2
    have n2:¬zgf (x9 h s) z.l≤zgf (x9 h s) z.e:=of_decide_eq_false hc40
    have r1:=zms (L:=(x9 h s)) (t:=z.e)
    have r2:=zms (L:=(x9 h s)) (t:=z.l)
    obtain ⟨i,e1⟩:∃i:Nat,zgf (x9 h s) z.e=(i:Int):=⟨_,(Int.toNat_of_nonneg (by omega)).symm⟩
    obtain ⟨j,e2⟩:∃j:Nat,zgf (x9 h s) z.l=(j:Int):=⟨_,(Int.toNat_of_nonneg (by omega)).symm⟩
    have hij:i < j:=by omega
    have hi:i < (x9 h s).length:=by omega
    have hj:j < (x9 h s).length:=by omega
    have ri:=zcy (f:=zao) hi
    have rj:=zcy (f:=zao) hj
    rw [e1,e2]
    refine rn ?_;refine j4 9 rfl ?_
    refine dq rfl rfl qrA ?_;refine dq rfl rfl qrA ?_;refine dq rfl rfl qrA ?_;refine dq rfl rfl (zau (i:=i) rfl rfl ri) ?_
    refine dq rfl rfl qrA ?_;refine dq rfl rfl qrA ?_;refine dq rfl rfl qrA ?_;refine dq rfl rfl (zau (i:=j) rfl rfl rj) ?_
    refine rn ?_;refine z7 rfl (w7 rfl rfl (z8.of_fun (zuj k (x9 h s)[i] (x9 h s)[j] _)) rfl ?_)
    rintro _ _ ⟨ci,ce,cl,rfl,rfl⟩
    refine rn ?_;refine zkm (fun pend h''=>(pend=none∧(¬z∈(zft k (x9 h s)[i] (x9 h s)[j]))∧h''= .box cl 121 (zao (x9 h s)[j]):: .box ce 121 (zao (x9 h s)[i]):: .box ci 3 [iv (k:Int)]:: .glob 0 117 x6:: .box b7 101 [zcd (x9 h s)]:: .box b6 4 [bv false]:: .box b5 36 (zbw z):: .box b3 28 (x5 h):: .glob 3 148 y8:: .glob 5 276 y9:: .glob 6 279 y4:: .glob 2 197 u0:: [])∨(pend=some .ret∧z∈(zft k (x9 h s)[i] (x9 h s)[j])∧h''= .box cl 121 (zao (x9 h s)[j]):: .box ce 121 (zao (x9 h s)[i]):: .box ci 3 [iv (k:Int)]:: .glob 0 117 x6:: .box b7 101 [zcd (x9 h s)]:: .box b6 4 [bv true]:: .box b5 36 (zbw z):: .box b3 28 (x5 h):: .glob 3 148 y8:: .glob 5 276 y9:: .glob 6 279 y4:: .glob 2 197 u0:: [])) rfl (fun fn l q lp hlp=> ?_) (fun q h'' hK=> ?_) (fun q h'' cc hK=> ?_)
    ·suffices hy:∀pre d rest (x:Unit),(zft k (x9 h s)[i] (x9 h s)[j])=pre++d::rest→(¬z∈pre)→z8 Tryz.prog (yv l) [.agg (zbw d)] (.box cl 121 (zao (x9 h s)[j]):: .box ce 121 (zao (x9 h s)[i]):: .box ci 3 [iv (k:Int)]:: .glob 0 117 x6::lp .ready none:: .defs q:: .box b7 101 [zcd (x9 h s)]:: .box b6 4 [bv false]:: .box b5 36 (zbw z):: .box b3 28 (x5 h):: .glob 3 148 y8:: .glob 5 276 y9:: .glob 6 279 y4:: .glob 2 197 u0:: []) (fun r h'=>∃x':Unit,(r=bv true∧(¬z∈pre++ [d])∧h'= .box cl 121 (zao (x9 h s)[j]):: .box ce 121 (zao (x9 h s)[i]):: .box ci 3 [iv (k:Int)]:: .glob 0 117 x6::lp .ready none:: .defs q:: .box b7 101 [zcd (x9 h s)]:: .box b6 4 [bv false]:: .box b5 36 (zbw z):: .box b3 28 (x5 h):: .glob 3 148 y8:: .glob 5 276 y9:: .glob 6 279 y4:: .glob 2 197 u0:: [])∨(r=bv false∧z∈(zft k (x9 h s)[i] (x9 h s)[j])∧h'= .box cl 121 (zao (x9 h s)[j]):: .box ce 121 (zao (x9 h s)[i]):: .box ci 3 [iv (k:Int)]:: .glob 0 117 x6::lp .done (some .ret):: .defs q:: .box b7 101 [zcd (x9 h s)]:: .box b6 4 [bv true]:: .box b5 36 (zbw z):: .box b3 28 (x5 h):: .glob 3 148 y8:: .glob 5 276 y9:: .glob 6 279 y4:: .glob 2 197 u0:: [])) by
      refine x3.mono (x3.perm ((pt2 _ _ _ _).trans (.cons _ ((pt2 _ _ _ _).trans (.cons _ ((pt2 _ _ _ _).trans (.cons _ (pt6 _ _ _ _ _ _ _ _))))))) (zui k hk (x9 h s)[i] (x9 h s)[j] (zmw ⟨Nat.le_trans (hB.2 _ (List.getElem_mem hi)).1 (by decide),Nat.le_trans (hB.2 _ (List.getElem_mem hi)).2 (by decide)⟩) (ziv ⟨Nat.le_trans (hB.2 _ (List.getElem_mem hj)).1 (by decide),Nat.le_trans (hB.2 _ (List.getElem_mem hj)).2 (by decide)⟩) (yv l) ci ce cl (fun pre (_:Unit)=>¬z∈pre) (fun _=>z∈(zft k (x9 h s)[i] (x9 h s)[j])) (fun _ _=>lp .ready none:: .defs q:: .box b7 101 [zcd (x9 h s)]:: .box b6 4 [bv false]:: .box b5 36 (zbw z):: .box b3 28 (x5 h):: .glob 3 148 y8:: .glob 5 276 y9:: .glob 6 279 y4:: .glob 2 197 u0:: []) (fun _=>lp .done (some .ret):: .defs q:: .box b7 101 [zcd (x9 h s)]:: .box b6 4 [bv true]:: .box b5 36 (zbw z):: .box b3 28 (x5 h):: .glob 3 148 y8:: .glob 5 276 y9:: .glob 6 279 y4:: .glob 2 197 u0:: []) () (by simp) hy)) ?_
      rintro _ _ ⟨x,⟨hn,rfl⟩|⟨hn,rfl⟩⟩
      ·exact ⟨none,.ready,_,((pt4 _ _ _ _ _ _).trans (.cons _ (pt4 _ _ _ _ _ _))),by simp,.inl ⟨rfl,hn,rfl⟩⟩
      ·exact ⟨some .ret,.done,_,((pt4 _ _ _ _ _ _).trans (.cons _ (pt4 _ _ _ _ _ _))),by simp,.inr ⟨rfl,hn,rfl⟩⟩
     intro pre d rest x hL hpre
     refine z8.perm (pt4 _ _ _ _ _ _) (z8.ventE ?_)
     refine zcu hlp rfl rfl ?_
     refine rn ?_;refine z7 rfl (x4 rfl fun b13=> ?_)
     refine rn ?_;refine ⟨[(13,pZ b13),(5,pZ b5),(6,pZ b6)],.box b13 36 (zbw d):: .box cl 121 (zao (x9 h s)[j]):: .box ce 121 (zao (x9 h s)[i]):: .box ci 3 [iv (k:Int)]:: .glob 0 117 x6:: .defs q:: .box b7 101 [zcd (x9 h s)]:: .box b6 4 [bv false]:: .box b5 36 (zbw z):: .box b3 28 (x5 h):: .glob 3 148 y8:: .glob 5 276 y9:: .glob 6 279 y4:: .glob 2 197 u0:: [],v8 (zae (pt1 _ _ _)) es,?_⟩
     refine rn ?_;refine y3 rfl (fun hc54=> ?_) (fun hc54=> ?_)
     ·have hz:d=z:=eq_of_beq (by rw [←zoy];simpa using hc54)
      refine rn ?_;exact zjt (.refl _) ⟨_,_,.trans (.perm ((pt1 _ _ _).trans (.cons _ ((pt1 _ _ _).trans (.cons _ ((pt1 _ _ _).trans (.cons _ ((pt1 _ _ _).trans (.cons _ (pt1 _ _ _))))))))) _) (.drop [_] _ _),(),.inr ⟨rfl,by rw [hL,←hz];simp,rfl⟩⟩
     ·have hz:¬d=z:=fun e=>by rw [←beq_iff_eq,←zoy] at e;simp [e] at hc54
      refine rn ?_;exact zd4 (.refl _) ⟨_,_,.trans (.perm ((pt1 _ _ _).trans (.cons _ ((pt1 _ _ _).trans (.cons _ ((pt1 _ _ _).trans (.cons _ ((pt1 _ _ _).trans (.cons _ (pt1 _ _ _))))))))) _) (.drop [_] _ _),(),.inl ⟨rfl,by simp [hpre,Ne.symm hz],rfl⟩⟩
    ·obtain ⟨_,hn,rfl⟩|⟨hc',_⟩:=hK
     rotate_left
     ·cases hc'
     refine rn ?_;exact zfg (.refl _) (.cons _ _ _ _ (.one _ _ _ _ _ _ _ rfl inferInstance inferInstance rfl) .nil) (.trans (.perm (.cons _ (.cons _ (.cons _ ((pt1 _ _ _).trans (.cons _ ((pt1 _ _ _).trans (.cons _ ((pt1 _ _ _).trans (.cons _ (pt1 _ _ _)))))))))) _) (.drop [_,_,_,_,_,_,_] _ _)) ⟨rfl,by rw [yd3 he eG e1 e2 hij hi hj,decide_eq_false hn];rfl⟩
    ·obtain ⟨hc',_⟩|⟨hc',hn,rfl⟩:=hK
     ·cases hc'
     obtain rfl:cc= .ret:=by simpa using hc'
     refine rn ?_;exact zfg (.refl _) (.cons _ _ _ _ (.one _ _ _ _ _ _ _ rfl inferInstance inferInstance rfl) .nil) (.trans (.perm (.cons _ (.cons _ (.cons _ ((pt1 _ _ _).trans (.cons _ ((pt1 _ _ _).trans (.cons _ ((pt1 _ _ _).trans (.cons _ (pt1 _ _ _)))))))))) _) (.drop [_,_,_,_,_,_,_] _ _)) ⟨rfl,by rw [yd3 he eG e1 e2 hij hi hj,decide_eq_true hn];rfl⟩
theorem ykl {l:List Ev} {t x:Int} {a:Nat} (ha:l.length≤a) (h0:(((zea (zem t x a) l l.length).map zie).length:Int)=0):zo6 l t x=none:=by
 have hl:=zhu l t x a l.length (Nat.le_refl _)
 rw [Nat.min_eq_left ha] at hl
 rw [zo6,←hl]
 generalize zea (zem t x a) l l.length=L at *
 rw [List.length_map] at h0
 cases L with
 |nil=>rfl
 |cons b r=>rw [List.length_cons] at h0;omega
theorem ykk {l:List Ev} {t x:Int} {a:Nat} (h0:(((zea (zem t x a) l l.length).map zie).length:Int)≠0):∃p,zha l t x (min l.length a)=some p∧((zea (zem t x a) l l.length).map zie)[((((zea (zem t x a) l l.length).map zie).length:Int) - 1).toNat]? =some (zie p)∧0≤(((zea (zem t x a) l l.length).map zie).length:Int) - 1∧((((zea (zem t x a) l l.length).map zie).length:Int) - 1).toNat < ((zea (zem t x a) l l.length).map zie).length:=by
 have hl:=zhu l t x a l.length (Nat.le_refl _)
 generalize zea (zem t x a) l l.length=L at *
 rw [List.length_map] at h0 ⊢
 have hn:0 < L.length:=by omega
 refine ⟨L[L.length - 1],?_,?_,by omega,by omega⟩
 ·rw [←hl,List.getLast?_eq_getElem?,List.getElem?_eq_getElem (by omega)]
 ·rw [show ((L.length:Int) - 1).toNat=L.length - 1 by omega,List.getElem?_map,List.getElem?_eq_getElem (by omega)];rfl
def yht (h:Hist) (t x:Int):Ver×Nat:=(zo6 h.evs t x).getD (⟨0,0⟩,0)
theorem yhs (h:Hist) (t x:Int):(yht h t x).1=ye8 (zo6 h.evs t x):=by rw [yht];cases zo6 h.evs t x <;> rfl
def zku (h:Hist) (x:Int) (v:Ver):Int×Bool:=if zgv h x h.os.length=0 then (if v=⟨0,0⟩ then (0,true) else (zpq h x v+1,decide (zpq h x v ≥ 0))) else (0,false)
theorem zzp (h:Hist) (la:h.evs.length≤1000000) (t x:Int) (a:Nat) (W:List Res):x3 Tryz.prog 123 [.agg (x5 h),iv t,iv x,iv a] W (fun r h'=>∃s:SV,h'= .row s.v 3 133 ((zea (zem t x a) h.evs h.evs.length).map zie)::W∧r= .v s.v):=by
 refine z6 Tryz.func123 rfl rfl rfl ?_
 refine rn ?_;refine z7 rfl (x8 rfl rfl rfl fun b4=> ?_)
 refine z7 rfl (x8 rfl rfl rfl fun b5=> ?_)
 refine z7 rfl (x8 rfl rfl rfl fun b6=> ?_)
 refine z7 rfl (x8 rfl rfl rfl fun b7=> ?_)
 refine rn ?_;refine z7 rfl (w7 rfl rfl (z8.of_fun (yhe h la 2 _ rfl _ (fun k e=>(e.v,k)) (fun k e=>e.t==t && e.o==x && decide (k < a)) (fun k hk _=>z8.qt (z8.of_acall (fs:= []) (cs:= [pZ b5,pZ b6,pZ b7]) (ydt k a t x h.evs[k] b5 b6 b7)) ((pt2 _ _ _ _).trans (.cons _ (pt1 _ _ _)))))) rfl ?_)
 rintro _ _ ⟨s,rfl,rfl⟩
 refine rn ?_;exact zad rfl (.trans (.perm ((pt1 _ _ _).trans (.cons _ ((pt1 _ _ _).trans (.cons _ ((pt1 _ _ _).trans (.cons _ (pt1 _ _ _))))))) _) (.drop [_,_,_,_] _ _)) ⟨s,rfl,rfl⟩
theorem yj5 (h:Hist) (la:h.evs.length≤1000000) (t x:Int) (W:List Res):x3 Tryz.prog 78 [.agg (x5 h),iv t,iv x] W (fun r h'=>h'=W∧r= .tup [.agg (zie (yht h t x)),bv (zo6 h.evs t x).isSome]):=by
 refine z6 Tryz.func78 rfl rfl rfl ?_
 refine rn ?_;refine z7 rfl (x8 rfl rfl rfl fun b3=> ?_)
 refine z7 rfl (x4 rfl fun b6=> ?_)
 refine q1 ?_;refine u5 (k7 ?_)
 refine w6 (y6 ?_)
 refine q1 ?_;refine q1 ?_;refine q1 ?_;refine q1 ?_;refine q1 ?_;refine q1 ?_;rw [List.length_map]
 refine z7 rfl (w7 rfl rfl (z8.of_fun (zzp h la t x h.evs.length _)) rfl ?_)
 rintro _ _ ⟨s,rfl,rfl⟩
 refine rn ?_;refine y3 rfl (fun hc18=> ?_) (fun hc18=> ?_)
 ·have hw:=ykl (l:=h.evs) (t:=t) (x:=x) (a:=h.evs.length) (Nat.le_refl _) (by simpa using hc18)
  refine w6 (y6 ?_)
  refine qq rfl rfl (j8 (out:= [iv 0,iv 0,iv 0]) rfl (by rfl)) ?_
  refine rn ?_;exact zeh (.cons _ _ _ _ (.agg _ _ _ _ _ _ _ rfl inferInstance inferInstance inferInstance rfl) (.cons _ _ _ _ (.tmp _ _ rfl) .nil)) (.drop [_,_,_] _ _) ⟨rfl,by rw [yht,hw];rfl⟩
 ·obtain ⟨p,hp,f1,f2,f3⟩:=ykk (l:=h.evs) (t:=t) (x:=x) (a:=h.evs.length) (by simpa using hc18)
  rw [Nat.min_self] at hp
  have hL:=zhb (zem t x h.evs.length) h.evs h.evs.length
  refine zab ?_;refine k7 ?_;refine w6 (y6 ?_)
  refine q1 ?_;refine q1 ?_;refine q1 ?_;refine qq rfl rfl (j6 rfl rfl rfl (by rw [List.length_map];omega)) ?_
  refine qq rfl rfl (zmg rfl rfl f2 f3) ?_
  refine qq rfl rfl (u3 rfl f1 rfl) ?_
  refine rn ?_;exact zeh (.cons _ _ _ _ (.agg _ _ _ _ _ _ _ rfl inferInstance inferInstance inferInstance rfl) (.cons _ _ _ _ (.tmp _ _ rfl) .nil)) (.drop [_,_,_] _ _) ⟨rfl,by rw [yht,zo6,hp];rfl⟩
def kdR (rd:Bool):Int:=bif rd then 3 else 2
def rdA (g:Int):Bool:=g==2||g==8
def rdB (g:Int):Bool:=g==1||g==2
def yk9 (h:Hist) (t kd x:Int) (k:Nat):List Acc:=(znb h t kd k).filter fun a=>a.o==x
def hF (g t1 t2 x:Int) (a b:Acc):Option Brch:=if b.r < a.r then some ⟨g,t1,t2,x,a.a,b.a⟩ else none
def bG (h:Hist) (g t1 t2 x:Int) (i:Nat):List Brch:=(yk9 h t1 (kdR (rdA g)) x i).flatMap fun a=>(yk9 h t2 (kdR (rdB g)) x h.evs.length).filterMap (hF g t1 t2 x a)
def ylx (h:Hist) (g t1 t2:Int) (k:Nat):List Brch:=(upR k).flatMap fun x=>bG h g t1 t2 x h.evs.length
def eR (h:Hist) (g:Int) (l:List Int) (t2:Int) (i:Nat):List Brch:=(l.take i).flatMap fun t1=>ylx h g t1 t2 h.os.length
def isG (g:Int):Bool:=g==1||g==2||g==4||g==8
theorem zu4 (a b:Int×Int):(([a.1,a.2]:List Int)== [b.1,b.2])=(a==b):=by
 rw [Bool.eq_iff_iff]
 obtain ⟨a1,a2⟩:=a
 obtain ⟨b1,b2⟩:=b
 simp
def nmR (n:NV) (h:Hist) (L:List Res):List Res:= .row n.vT.v 1 9 (h.ts.map zh0):: .row n.vS.v 1 9 (h.ss.map zh0):: .row n.vO.v 1 9 (h.os.map zh0):: .row n.vP.v 1 9 (h.ps.map zh0)::L
theorem zs5 (l:List Ev):(l.map evR).take (min (l.map evR).length 60)=(l.take 60).map evR:=by
 rw [List.length_map,←List.map_take,Nat.min_comm,←List.take_take,List.take_length]
def zok (e:Ev):List AV:= [iv e.kind,iv e.t,iv e.s,iv e.l,iv e.o,iv e.v.t,iv e.v.k,iv e.p,.v (.slice none 0 0)]
theorem yel {α:Type} [DecidableEq α] {l m:List α} {k:Nat} (h1:k < l.length) (h2:k < m.length) (h:l.take k=m.take k) (e:l[k]=m[k]):l.take (k+1)=m.take (k+1):=by
 rw [List.take_succ_eq_append_getElem h1,List.take_succ_eq_append_getElem h2,h,e]
theorem yjz {α:Type} {l m:List α} {k:Nat} (h1:k < l.length) (h2:k < m.length) (e:l[k]≠m[k]):l≠m:=fun q=>e (by subst q;rfl)
set_option maxHeartbeats 4000000 in
theorem ygo (h:Hist) (la:Big h):x3 Tryz.prog 13 [.agg (x5 h)] [] (fun r h'=>∃(sE sO:SV) (O:List (SV×H.Ord)),O.map (·.2)=h.ords∧h'= .row sE.v 9 66 ((h.evs.take 60).map evR):: .row sO.v 2 99 (O.map zs8)::otR 3 O∧r= .agg [zb8 h.ts,zb8 h.ss,zb8 h.os,zb8 h.ps,.v sE.v,.v sO.v,zta h.mats,zsr h.wants]):=by
 refine z6 Tryz.func13 rfl rfl rfl ?_
 refine rn ?_;refine z7 rfl (x8 rfl rfl rfl fun b1=> ?_)
 refine z7 rfl (x4 rfl fun b2=> ?_)
 refine rn ?_;refine zsi 12 rfl ?_
 refine mq rfl rfl qrA ?_;refine mq rfl rfl qrA ?_;refine mq rfl rfl qrA ?_;refine mq rfl rfl qrA ?_;refine mq rfl rfl qrA ?_;refine mq rfl rfl (zuy (h.evs.map evR).length 60 rfl rfl) ?_
 refine mq rfl rfl (zpv (rows':=(h.evs.take 60).map evR) rfl rfl (Nat.min_le_left _ _) (zs5 h.evs)) ?_
 refine ydn (yfc 9 66 ((h.evs.take 60).map evR)) rfl rfl rfl (zvf (z8.of_fun (ztl _ (by rw [List.length_map,List.length_take];omega) (ygs _)))) ?_
 refine rn ?_;refine ydn (yfc 2 99 (h.ords.map zdy)) rfl rfl rfl (zvf (z8.of_fun (zow _ (by rw [List.length_map];have:=la.ords;omega) (ydb _)))) ?_
 refine rn ?_;refine yk2 ⟨.refl _,?_⟩
 refine rn ?_;refine zp8 fun s11=> ?_
 refine rn ?_;refine zp8 fun s14=> ?_
 refine rn0 ?_;refine w6 ?_;refine w6 ?_;refine zfv (zae ((pt2 _ _ _ _).trans (.cons _ ((pt2 _ _ _ _).trans (.cons _ (pt1 _ _ _)))))) ?_
 refine rn ?_;refine j9 (fun x:Nat×List (SV×H.Ord)=>x.1≤h.ords.length∧x.2.map (·.2)=h.ords.take x.1) (fun x=>⟨[(20,iv x.1),(19,iv (h.ords.map zdy).length),(1,pZ b1),(2,pZ b2)],.box b2 28 yd8:: .box b1 28 [zb8 h.ts,zb8 h.ss,zb8 h.os,zb8 h.ps,.v s11.v,.v s14.v,zta h.mats,zsr h.wants]:: .row s11.v 9 66 ((h.evs.take 60).map evR):: .row s14.v 2 99 (x.2.map zs8++(h.ords.drop x.1).map zdy)::otR 3 x.2,[]⟩) (fun x=>h.ords.length - x.1) (0,[]) ⟨by omega,rfl⟩
  (w9 (.cons _ _ _ rfl (.cons _ _ _ rfl (.cons _ _ _ rfl (.cons _ _ _ rfl (.nil)))))) ?_
 rintro ⟨k,x⟩ ⟨hk,hx⟩
 simp only at hk hx
 have hxl:=zy8 hx hk
 refine rn ?_;refine y3 rfl (fun hc21=> ?_) (fun hc21=> ?_)
 ·have hk2:k < h.ords.length:=by have q:=of_decide_eq_true hc21;rw [List.length_map] at q;omega
  obtain ⟨e,he⟩:∃e,e=h.ords[k]:=⟨_,rfl⟩
  have hd:=List.drop_eq_getElem_cons hk2
  rw [←he] at hd
  have hrow:(x.map zs8++(h.ords.drop k).map zdy)[k]? =some (zdy e):=ydl hxl hd
  have hmem:e∈h.ords:=by rw [he];exact List.getElem_mem hk2
  have hle:=la.lim.ords
  have hk3:k < (x.map zs8++(h.ords.drop k).map zdy).length:=by rw [ydk hxl hk];exact hk2
  refine rn ?_;refine zsi 10 rfl ?_
  refine mq rfl rfl qrA ?_;refine mq rfl rfl qrA ?_;refine mq rfl rfl qrA ?_;refine mq rfl rfl qrA ?_;refine mq rfl rfl qrA ?_;refine mq rfl rfl qrA ?_;refine mq rfl rfl (q8 rfl rfl hk3) ?_
  refine mq rfl rfl qrA ?_;refine mq rfl rfl (zgc rfl hrow rfl) ?_
  refine ydn (yfc 1 3 (e.ts.map zde)) rfl rfl rfl (zvf (z8.of_fun (zih _ (by rw [List.length_map];have:=(la.ordts e hmem);omega) (zmh _)))) ?_
  refine yk2 ⟨.refl _,?_⟩
  refine rn ?_;refine zp8 fun s32=> ?_
  refine rn2 ?_;refine qq rfl rfl (q8 rfl rfl hk3) ?_
  refine rn ?_;refine z7 rfl (zbf rfl rfl rfl hrow rfl (Nat.le_of_ble_eq_true rfl) ?_)
  refine rn ?_;have hset:=ydj (f:=zs8) (g:=zdy) (a:=(s32,e)) (r:=(zdy e).take 1++ [.v s32.v]++(zdy e).drop (1+1)) hxl hd rfl
  have htl:otR 3 (x++ [(s32,e)])=otR 3 x++ [.row s32.v 1 3 (e.ts.map zde)]:=by simp [otR]
  exact ⟨(k+1,x++ [(s32,e)]),⟨by omega,zy7 hx hk2 he⟩,by simp only [htl];exact v8 (zae (zdb [_] _)) (by rw [←hset];exact (w9 (.cons _ _ _ rfl (.cons _ _ _ rfl (.cons _ _ _ rfl (.cons _ _ _ rfl (.nil))))))),by simp only;omega⟩
 ·obtain rfl:k=h.ords.length:=by
   have q:=of_decide_eq_false hc21
   rw [List.length_map] at q
   omega
  rw [List.take_length] at hx
  rw [List.drop_length,List.map_nil,List.append_nil]
  refine rn ?_;exact zeh (.cons _ _ _ _ (.agg _ _ _ _ _ _ _ rfl inferInstance inferInstance inferInstance rfl) .nil) (.drop [_,_] _ _) ⟨s11,s14,x,hx,rfl,rfl⟩
theorem yjt (h:Hist) (la:Big h):x3 Tryz.prog 13 [.agg (x5 h)] [] (fun r h'=>h'= []∧r= .agg (x5 (j5 h))):=
 (ygo h la).ventR (by
  rintro _ _ ⟨sE,sO,O,hO,rfl,rfl⟩
  exact ⟨_,_,zs6 [] sE.v sO.v (j5 h) O 66 99 3 _ hO (by simp [j5]) (by simp) (fun r hr=>by simp [hr]),rfl,rfl⟩)
theorem yem {a b:Nat} (h:((a:Int) !=(b:Int))=false):a=b:=Int.ofNat.inj (by simpa using h)
theorem zz1 {f g:Bool} (l m:List (Int×Int)) (hl:l.length≤4611686018427387904) (hm:m.length≤4611686018427387904):x3 Tryz.prog 21 [.list f 2 (l.map zn1),.list g 2 (m.map zn1)] [] (fun r h'=>h'= []∧r=bv (decide (l=m))):=by
 refine z6 Tryz.func21 rfl rfl rfl ?_
 refine rn ?_;refine y3 rfl (fun hc10=> ?_) (fun hc10=> ?_)
 ·have hne:l.length≠m.length:=by have w:=hc10;intro e;rw [List.length_map,List.length_map,e] at w;simp at w
  refine rn ?_;refine rq 0 ?_
  exact ⟨rfl,by rw [decide_eq_false (fun e=>hne (by rw [e]))];rfl⟩
 ·have hlm:l.length=m.length:=by have w:=hc10;rw [List.length_map,List.length_map] at w;exact yem w
  refine rn ?_;refine zw4 (l.length) (fun k:Nat=>l.take k=m.take k) (fun k=> [(13,iv k)]) [(0,_),(1,_),(12,_)] rfl ?_
  intro k lk zk
  refine rn ?_;refine y3 rfl (fun hc14=> ?_) (fun hc14=> ?_)
  ·have hk:=zd7 hc14
   have rk:=zcy (f:=zn1) hk
   have hk2:k < m.length:=by omega
   have rk2:=zcy (f:=zn1) hk2
   refine rn ?_;refine j4 8 rfl ?_
   refine dq rfl rfl qrA ?_;refine dq rfl rfl qrA ?_;refine dq rfl rfl (zau rfl rfl rk) ?_
   refine dq rfl rfl qrA ?_;refine dq rfl rfl qrA ?_;refine dq rfl rfl qrA ?_;refine dq rfl rfl (zau rfl rfl rk2) ?_
   refine rn2 ?_;refine qq rfl rfl (zme rfl rfl rfl rfl) ?_
   refine rn ?_;refine y3 rfl (fun hc24=> ?_) (fun hc24=> ?_)
   ·have hne:l[k]≠m[k]:=fun e=>by have w:=zy2 hc24;rw [zu4,e] at w;simp at w
    refine rn ?_;refine rq 0 ?_
    exact ⟨rfl,by rw [decide_eq_false (yjz hk hk2 hne)];rfl⟩
   ·have heq:l[k]=m[k]:=by have w:=zy3 hc24;rw [zu4] at w;simpa using w
    refine rn ?_;exact ⟨hk,yel hk hk2 zk heq,eA⟩
  ·have qk:=zd9 hc14 lk
   refine rn ?_;refine rq 0 ?_
   exact ⟨rfl,by rw [decide_eq_true (by have w:=zk;rw [qk,List.take_length,hlm,List.take_length] at w;exact w)];rfl⟩
set_option maxHeartbeats 4000000 in
theorem ziw (s:SV) (l es:List Ev) (t:Int) (b1:Nat) (hl:l.length≤1000) (he:es.length≤1000):x3 Tryz.prog 105 [iv t,.list true 9 (es.map zok),pZ b1] [.row s.v 9 66 ((l).map zok),.box b1 28 [.list true 1 [[sv (wT 48)],[sv (wT 49)],[sv (wT 50)],[sv (wT 51)]],.list true 1 [[sv zii]],.list true 1 [[sv bxx]],.v (.slice none 0 0),.v s.v,.v (.slice none 0 0),.v (.slice none 0 0),.v (.slice none 0 0)]] (fun r h'=>∃s':SV,h'= [.row s'.v 9 66 ((dsE l t es).map zok),.box b1 28 [.list true 1 [[sv (wT 48)],[sv (wT 49)],[sv (wT 50)],[sv (wT 51)]],.list true 1 [[sv zii]],.list true 1 [[sv bxx]],.v (.slice none 0 0),.v s'.v,.v (.slice none 0 0),.v (.slice none 0 0),.v (.slice none 0 0)]]∧r= .tup []):=by
 refine z6 Tryz.func105 rfl rfl rfl ?_
 refine w6 (y6 ?_)
 refine q1 ?_;refine q1 ?_;refine q1 ?_;refine qq rfl rfl (j8 (out:=zok (yko t)) rfl (by rfl)) ?_
 refine qv rfl rfl (u1 rfl rfl) ?_
 refine z7 rfl (zaa rfl rfl (by simp only [List.length_map,List.length_append,List.length_cons,List.length_nil,List.length_take];omega) rfl (fun s12=> ?_) (fun r hr=>by rw [List.mem_singleton.1 hr];rfl))
 refine za8 s12 fun sw hsw=> ?_
 subst hsw
 refine rn ?_;refine zqx es.length (fun k s=>⟨[(16,iv k),(0,iv t),(2,pZ b1),(14,.list true 9 (es.map zok)),(15,iv (es.map zok).length)],.row s.v 9 66 ((l++ [yko t]++(es.take k).map (yfw t)).map zok):: .box b1 28 [.list true 1 [[sv (wT 48)],[sv (wT 49)],[sv (wT 50)],[sv (wT 51)]],.list true 1 [[sv zii]],.list true 1 [[sv bxx]],.v (.slice none 0 0),.v s.v,.v (.slice none 0 0),.v (.slice none 0 0),.v (.slice none 0 0)]:: [],[]⟩) sw (by simp only [List.take_zero,List.map_nil,List.append_nil,List.map_append];exact Go.Ab.es) ?_
 intro k s lk
 refine rn ?_;refine y3 rfl (fun hc17=> ?_) (fun hc17=> ?_)
 ·have hk:=zd7 hc17
  have rk:=zcy (f:=zok) hk
  refine rn ?_;refine z7 rfl (x4 rfl fun b6=> ?_)
  refine rn ?_;refine qv rfl rfl (u1 rfl rfl) ?_
  refine z7 rfl (zaa rfl rfl (by simp only [List.length_map,List.length_append,List.length_cons,List.length_nil,List.length_take];omega) rfl (fun s26=> ?_) (fun r hr=>by rw [List.mem_singleton.1 hr];rfl))
  refine za8 s26 fun sw hsw=> ?_
  subst hsw
  refine rn ?_;exact ⟨hk,sw,by rw [List.take_succ_eq_append_getElem hk];simp only [List.map_append,←List.append_assoc];exact eA⟩
 ·have qk:=zd9 hc17 lk
  refine zgu ?_;refine zgj ?_;refine zgj ?_;refine zdf ?_;refine k7 ?_;refine y6 ?_;refine q1 ?_;refine q1 ?_;refine q1 ?_;refine qq rfl rfl (j8 (out:=zok (yk4 t)) rfl (by rfl)) ?_
  refine qv rfl rfl (u1 rfl rfl) ?_
  refine z7 rfl (zaa rfl rfl (by simp only [List.length_map,List.length_append,List.length_cons,List.length_nil,List.length_take];omega) rfl (fun s34=> ?_) (fun r hr=>by rw [List.mem_singleton.1 hr];rfl))
  refine za8 s34 fun sw hsw=> ?_
  subst hsw
  refine rn ?_;refine yas ?_;exact ⟨sw,by rw [dsE];rw [qk,List.take_length];simp only [List.map_append];rfl,rfl⟩
set_option maxHeartbeats 8000000 in
theorem zyb  :x3 Tryz.prog 52 [] [] (fun r h'=>∃s:SV,h'= [.row s.v 9 66 ((seE).map zok)]∧r= .agg [.list true 1 [[sv (wT 48)],[sv (wT 49)],[sv (wT 50)],[sv (wT 51)]],.list true 1 [[sv zii]],.list true 1 [[sv bxx]],.v (.slice none 0 0),.v s.v,.list true 2 [[iv 0,.list true 1 [[iv 3],[iv 0]]]],.v (.slice none 0 0),.v (.slice none 0 0)]):=by
 refine z6 Tryz.func52 rfl rfl rfl ?_
 refine rn ?_;refine z7 rfl (x4 rfl fun b0=> ?_)
 refine rn ?_;refine qv rfl rfl (u1 rfl rfl) ?_
 refine qv rfl rfl (u1 rfl rfl) ?_
 refine qv rfl rfl (u1 rfl rfl) ?_
 refine rn ?_;refine z7 rfl (x4 rfl fun b1=> ?_)
 refine rn0 ?_;refine w6 (y6 ?_)
 refine rn0 ?_;refine w6 ?_;refine zfv (s':=⟨[(0,pZ b0),(1,pZ b1),(2,.fn (.func 105) [] [pZ b1])],.row (⟨none,0,0⟩:SV).v 9 66 ((([]:List Ev)).map zok):: .box b1 28 [.list true 1 [[sv (wT 48)],[sv (wT 49)],[sv (wT 50)],[sv (wT 51)]],.list true 1 [[sv zii]],.list true 1 [[sv bxx]],.v (.slice none 0 0),.v (⟨none,0,0⟩:SV).v,.v (.slice none 0 0),.v (.slice none 0 0),.v (.slice none 0 0)]:: .box b0 28 yd8:: [],[]⟩) (v8 (zci 9 66) es) ?_
 refine y6 ?_;refine q1 ?_;refine qq rfl rfl (j8 (out:= [iv 0,iv 1]) rfl (by rfl)) ?_
 refine qq rfl rfl (j8 (out:=zok (seW 0 1)) rfl (by rfl)) ?_
 refine qv rfl rfl (u1 rfl rfl) ?_
 refine z7 rfl (w7 rfl rfl (z8.fr (z8.of_acall (fs:= []) (cs:= [pZ b1]) (ziw ⟨none,0,0⟩ (([]:List Ev)) [seW 0 1] 0 b1 (by decide) (by decide))) (.refl _)) rfl ?_)
 rintro _ _ ⟨_,rfl,s1,rfl,rfl⟩
 refine u5 (k7 ?_)
 refine w6 (y6 ?_)
 refine q1 ?_;refine qq rfl rfl (j8 (out:=zok (seR 0 0)) rfl (by rfl)) ?_
 refine qv rfl rfl (u1 rfl rfl) ?_
 refine z7 rfl (w7 rfl rfl (z8.fr (z8.of_acall (fs:= []) (cs:= [pZ b1]) (ziw s1 (dsE [] 0 [seW 0 1]) [seR 0 0] 1 b1 (by decide) (by decide))) (.refl _)) rfl ?_)
 rintro _ _ ⟨_,rfl,s2,rfl,rfl⟩
 refine u5 (k7 ?_)
 refine w6 (y6 ?_)
 refine q1 ?_;refine qq rfl rfl (j8 (out:= [iv 0,iv 1]) rfl (by rfl)) ?_
 refine qq rfl rfl (j8 (out:=zok (seR 0 1)) rfl (by rfl)) ?_
 refine qv rfl rfl (u1 rfl rfl) ?_
 refine z7 rfl (w7 rfl rfl (z8.fr (z8.of_acall (fs:= []) (cs:= [pZ b1]) (ziw s2 (dsE (dsE [] 0 [seW 0 1]) 1 [seR 0 0]) [seR 0 1] 2 b1 (by decide) (by decide))) (.refl _)) rfl ?_)
 rintro _ _ ⟨_,rfl,s3,rfl,rfl⟩
 refine u5 (k7 ?_)
 refine w6 (y6 ?_)
 refine q1 ?_;refine qq rfl rfl (j8 (out:=zok (seR 0 0)) rfl (by rfl)) ?_
 refine qq rfl rfl (j8 (out:= [iv 3,iv 1]) rfl (by rfl)) ?_
 refine qq rfl rfl (j8 (out:=zok (seW 3 1)) rfl (by rfl)) ?_
 refine qv rfl rfl (u1 rfl rfl) ?_
 refine z7 rfl (w7 rfl rfl (z8.fr (z8.of_acall (fs:= []) (cs:= [pZ b1]) (ziw s3 (dsE (dsE (dsE [] 0 [seW 0 1]) 1 [seR 0 0]) 2 [seR 0 1]) [seR 0 0,seW 3 1] 3 b1 (by decide) (by decide))) (.refl _)) rfl ?_)
 rintro _ _ ⟨_,rfl,s4,rfl,rfl⟩
 refine rn0 ?_;refine w6 ?_;show aw _ _ _ _ _ ⟨_,.row s4.v 9 66 ((seE).map zok):: .box b1 28 [.list true 1 [[sv (wT 48)],[sv (wT 49)],[sv (wT 50)],[sv (wT 51)]],.list true 1 [[sv zii]],.list true 1 [[sv bxx]],.v (.slice none 0 0),.v s4.v,.v (.slice none 0 0),.v (.slice none 0 0),.v (.slice none 0 0)]:: .box b0 28 yd8:: [],_⟩
 refine rn ?_;refine qv rfl rfl (u1 rfl rfl) ?_
 refine qq rfl rfl (j8 (out:= [iv 0,.list true 1 [[iv 3],[iv 0]]]) rfl (by rfl)) ?_
 refine qv rfl rfl (u1 rfl rfl) ?_
 refine rn ?_;exact zeh (.cons _ _ _ _ (.agg _ _ _ _ _ _ _ rfl inferInstance inferInstance inferInstance rfl) .nil) (.trans (.perm ((pt1 _ _ _).trans (.cons _ (pt1 _ _ _))) _) (.drop [_,_] _ _)) ⟨s4,rfl,rfl⟩
theorem zl7:x3 Tryz.prog 52 [] [] (fun r h'=>h'= []∧r= .agg (x5 seH)):=
 zyb.ventR (by
  rintro _ _ ⟨s,rfl,rfl⟩
  exact ⟨_,_,.trans (zik [.list true 1 [[sv (wT 48)],[sv (wT 49)],[sv (wT 50)],[sv (wT 51)]],.list true 1 [[sv zii]],.list true 1 [[sv bxx]],.v (.slice none 0 0)] [.list true 2 [[iv 0,.list true 1 [[iv 3],[iv 0]]]],.v (.slice none 0 0),.v (.slice none 0 0)]) (.le (Sb.aggs (bs:=x5 seH) (by exact ⟨.unfull,.unfull,.unfull,.nil _ _,(.lists (by simp [seE,dsE]) ⟨⟨.refl _,.refl _,.refl _,.refl _,.refl _,.refl _,.refl _,.refl _,.nil _ _,trivial⟩,⟨.refl _,.refl _,.refl _,.refl _,.refl _,.refl _,.refl _,.refl _,.nil _ _,trivial⟩,⟨.refl _,.refl _,.refl _,.refl _,.refl _,.refl _,.refl _,.refl _,.nil _ _,trivial⟩,⟨.refl _,.refl _,.refl _,.refl _,.refl _,.refl _,.refl _,.refl _,.nil _ _,trivial⟩,⟨.refl _,.refl _,.refl _,.refl _,.refl _,.refl _,.refl _,.refl _,.nil _ _,trivial⟩,⟨.refl _,.refl _,.refl _,.refl _,.refl _,.refl _,.refl _,.refl _,.nil _ _,trivial⟩,⟨.refl _,.refl _,.refl _,.refl _,.refl _,.refl _,.refl _,.refl _,.nil _ _,trivial⟩,⟨.refl _,.refl _,.refl _,.refl _,.refl _,.refl _,.refl _,.refl _,.nil _ _,trivial⟩,⟨.refl _,.refl _,.refl _,.refl _,.refl _,.refl _,.refl _,.refl _,.nil _ _,trivial⟩,⟨.refl _,.refl _,.refl _,.refl _,.refl _,.refl _,.refl _,.refl _,.nil _ _,trivial⟩,⟨.refl _,.refl _,.refl _,.refl _,.refl _,.refl _,.refl _,.refl _,.nil _ _,trivial⟩,⟨.refl _,.refl _,.refl _,.refl _,.refl _,.refl _,.refl _,.refl _,.nil _ _,trivial⟩,⟨.refl _,.refl _,.refl _,.refl _,.refl _,.refl _,.refl _,.refl _,.nil _ _,trivial⟩,trivial⟩),(.lists (by simp) ⟨⟨.refl _,.unfull,trivial⟩,trivial⟩),.nil _ _,.nil _ _,trivial⟩)).le),rfl,rfl⟩)
theorem zzk:Lim 4611686018427387904 seH:=⟨by decide,by decide,by decide,by decide,by decide,by decide,by decide,by decide,by decide,by decide,by decide⟩
theorem zma:zb3 seH 0=0:=zq0 zrp (by decide)
theorem zro:zb3 seH 1=2:=zxb zrp (by decide)
theorem zrq (g:Int) (hg:¬zk0 g < 0):zep seH 0 g=0:=(zgw zma hg).1
theorem ylk:seB seH 0 2= [⟨2,2,3,0,7,10⟩]:=by rw [zsv (k:=1) (zrq 2 (by decide)) (by decide)];decide+kernel
theorem yli:(seB seH 0 1).map prB= [(0,1),(0,3)]:=by rw [zsv (k:=0) (zrq 1 (by decide)) (by decide)];decide+kernel
theorem ylj:haO seH 0=0:=by rw [haO,if_pos zma];decide+kernel
theorem yfz:zep seH 1 2=2:=by rw [(zko (g:=2) (show zb3 seH 1≠0 by rw [zro];decide)).1,zro]
theorem sA1:x3 Tryz.prog 15 [.agg (x5 seH),iv 0,iv 2] (.glob 0 117 x6:: .glob 3 148 y8:: .glob 5 276 y9:: .glob 6 279 y4:: .glob 2 197 u0:: []) (fun r h'=>h'= .glob 0 117 x6:: .glob 3 148 y8:: .glob 5 276 y9:: .glob 6 279 y4:: .glob 2 197 u0:: []∧r= .tup [.agg (zbw ⟨2,2,3,0,7,10⟩),bv true,iv 0]):=(zl8 seH zzk 0 2).mono fun _ _ q=>⟨q.1,by rw [q.2,ylk,zrq 2 (by decide)];rfl⟩
theorem sA2:x3 Tryz.prog 16 [.agg (x5 seH),iv 0,iv 1] (.glob 0 117 x6:: .glob 3 148 y8:: .glob 5 276 y9:: .glob 6 279 y4:: .glob 2 197 u0:: []) (fun r h'=>h'= .glob 0 117 x6:: .glob 3 148 y8:: .glob 5 276 y9:: .glob 6 279 y4:: .glob 2 197 u0:: []∧r= .tup [yc7 [(0,1),(0,3)],iv 0]):=(zrm seH zzk 0 1).mono fun _ _ q=>⟨q.1,by rw [q.2,yli,zrq 1 (by decide)]⟩
theorem sA3:x3 Tryz.prog 24 [.agg (x5 seH),iv 0] (.glob 0 117 x6:: .glob 3 148 y8:: .glob 5 276 y9:: .glob 6 279 y4:: .glob 2 197 u0:: []) (fun r h'=>h'= .glob 0 117 x6:: .glob 3 148 y8:: .glob 5 276 y9:: .glob 6 279 y4:: .glob 2 197 u0:: []∧r= .tup [iv 0,iv 0]):=(yao seH zzk 0).mono fun _ _ q=>⟨q.1,by rw [q.2,ylj,zma]⟩
theorem sA4:x3 Tryz.prog 15 [.agg (x5 seH),iv 1,iv 2] (.glob 0 117 x6:: .glob 3 148 y8:: .glob 5 276 y9:: .glob 6 279 y4:: .glob 2 197 u0:: []) (fun r h'=>h'= .glob 0 117 x6:: .glob 3 148 y8:: .glob 5 276 y9:: .glob 6 279 y4:: .glob 2 197 u0:: []∧r= .tup [.agg (zbw br0),bv false,iv 2]):=(zl8 seH zzk 1 2).mono fun _ _ q=>⟨q.1,by rw [q.2,yci (by rw [yfz];decide),yfz];rfl⟩
theorem sEq {f g:Bool}:x3 Tryz.prog 21 [.list f 2 ([(0,1),(0,3)].map zn1),.list g 2 ([(0,1),(0,3)].map zn1)] [] (fun r h'=>h'= []∧r=bv true):=(zz1 [(0,1),(0,3)] [(0,1),(0,3)] (by decide) (by decide)).mono fun _ _ q=>⟨q.1,by rw [q.2,decide_eq_true rfl]⟩
set_option maxHeartbeats 4000000 in
theorem ybs  :x3 Tryz.prog 12 [] (.glob 0 117 x6:: .glob 3 148 y8:: .glob 5 276 y9:: .glob 6 279 y4:: .glob 2 197 u0:: []) (fun r h'=>h'= .glob 0 117 x6:: .glob 3 148 y8:: .glob 5 276 y9:: .glob 6 279 y4:: .glob 2 197 u0:: []∧r=bv true):=by
 refine z6 Tryz.func12 rfl rfl rfl ?_
 refine rn ?_;refine qv rfl rfl (y5 rfl rfl (z8.pure (R:=fun r=>r= .agg (x5 seH)) (z8.of_fun zl7))) ?_
 refine qv rfl rfl (y5 rfl rfl (z8.qt (z8.of_fun sA1) (.refl _))) ?_
 refine rn ?_;refine z7 rfl (x4 rfl fun b1=> ?_)
 refine rn ?_;refine qv rfl rfl (y5 rfl rfl (z8.pure (R:=fun r=>r= .agg (x5 seH)) (z8.of_fun zl7))) ?_
 refine qv rfl rfl (y5 rfl rfl (z8.qt (z8.of_fun sA2) ((pt1 _ _ _).trans (.cons _ ((pt1 _ _ _).trans (.cons _ ((pt1 _ _ _).trans (.cons _ ((pt1 _ _ _).trans (.cons _ (pt1 _ _ _))))))))))) ?_
 refine rn ?_;refine qv rfl rfl (y5 rfl rfl (z8.pure (R:=fun r=>r= .agg (x5 seH)) (z8.of_fun zl7))) ?_
 refine qv rfl rfl (y5 rfl rfl (z8.qt (z8.of_fun sA3) ((pt1 _ _ _).trans (.cons _ ((pt1 _ _ _).trans (.cons _ ((pt1 _ _ _).trans (.cons _ ((pt1 _ _ _).trans (.cons _ (pt1 _ _ _))))))))))) ?_
 refine rn ?_;refine qv rfl rfl (y5 rfl rfl (z8.pure (R:=fun r=>r= .agg (x5 seH)) (z8.of_fun zl7))) ?_
 refine qv rfl rfl (y5 rfl rfl (z8.qt (z8.of_fun sA4) ((pt1 _ _ _).trans (.cons _ ((pt1 _ _ _).trans (.cons _ ((pt1 _ _ _).trans (.cons _ ((pt1 _ _ _).trans (.cons _ (pt1 _ _ _))))))))))) ?_
 refine rn ?_;refine z7 rfl (x4 rfl fun b8=> ?_)
 first|refine z7 rfl (zac rfl rfl rfl ?_)|refine z7 rfl (zbl rfl rfl rfl rfl (Nat.le_of_ble_eq_true rfl) ?_)
 refine q1 ?_;refine q1 ?_;refine u5 (k7 ?_)
 refine w6 (y6 ?_)
 refine q1 ?_;refine q1 ?_;refine q1 ?_;refine q1 ?_;refine q1 ?_;refine q1 ?_;refine q1 ?_;refine q1 ?_;refine q1 ?_;refine q1 ?_;refine q1 ?_;refine q1 ?_;refine q1 ?_;refine q1 ?_;refine q1 ?_;refine q1 ?_;refine q1 ?_;refine q1 ?_;refine q1 ?_;refine q1 ?_;refine q1 ?_;refine q1 ?_;refine q1 ?_;refine q1 ?_;refine q1 ?_;refine q1 ?_;refine q1 ?_;refine q1 ?_;refine q1 ?_;refine q1 ?_;refine q1 ?_;refine q1 ?_;refine q1 ?_;refine qq rfl rfl (zcb (out:= [iv 0,iv 1]) rfl (by rfl)) ?_
 refine qq rfl rfl (zcb (out:= [iv 0,iv 3]) rfl (by rfl)) ?_
 refine qv rfl rfl (u1 rfl rfl) ?_
 refine qv rfl rfl (y5 rfl rfl (z8.pure (R:=fun r=>r=bv true) (z8.of_fun sEq))) ?_
 refine rn ?_;refine rq 2 ?_
 exact ⟨rfl,rfl⟩
theorem yef (h:Hist) (t:Int) {k:Nat} (hk:k < 4):zct k (zom h t)=zk6 h.os.length (zna h t (kdA (zfa k))):=by
 rcases (by omega:k=0∨k=1∨k=2∨k=3) with rfl|rfl|rfl|rfl <;> rfl
theorem yb8 (h:Hist) (t:Int) {k:Nat} (hk:k < 4):zfy k (zom h t)=zk6 h.os.length (zna h t (kdB (zfa k))):=by
 rcases (by omega:k=0∨k=1∨k=2∨k=3) with rfl|rfl|rfl|rfl <;> rfl
theorem zm6 (h:Hist) (t1 t2:Int) {k:Nat} (hk:k < 4):zft k (zom h t1) (zom h t2)=zw3 h.os.length (zfa k) t1 t2 (zna h t1 (kdA (zfa k))) (zna h t2 (kdB (zfa k))):=by
 rw [zft,yef h t1 hk,yb8 h t2 hk];rfl
theorem zw0 (h:Hist) (s:Int) {k:Nat} (hk:k < 4):∀j,brW k (x9 h s) j=brL h.os.length (zfa k) (zqq h s (zfa k)) j
 |0=>rfl
 |j+1=>by
  rw [brW,brL,zw0 h s hk j,x9,zqq,List.getElem?_map,List.getElem?_map]
  cases (za7 h.evs s)[j]? with
  |none=>rfl
  |some t2=>
   simp only [Option.map_some]
   rw [←List.map_take,←List.map_take,List.filterMap_map,List.filterMap_map]
   congr 1
   refine zmx fun t1 _=> ?_
   simp only [Function.comp,hdW]
   rw [zm6 h t1 t2 hk];rfl
theorem zkj (h:Hist) (s:Int) {k:Nat} (hk:k < 4):brW k (x9 h s) (x9 h s).length=brS h s (zfa k):=by
 rw [zw0 h s hk,brS,x9,zqq,List.length_map,List.length_map]
theorem zum {h:Hist} {s g:Int} (he:zep h s g=0):seB h s g=brS h s g:=by
 obtain ⟨_,_,k,hk,_,eB,eG⟩:=zkp he
 rw [zsv he eG,zkj h s hk,eB]
theorem zv8 {h:Hist} {s:Int} (hl:zb3 h s=0):haO h s=yea h s:=by
 rw [haO,if_pos hl]
 simp only [haK,yea,List.foldl_cons,List.foldl_nil]
 rw [zkj h s (by decide:0 < 4),zkj h s (by decide:1 < 4),zkj h s (by decide:2 < 4),zkj h s (by decide:3 < 4)]
 simp only [show zfa 0=1 from rfl,show zfa 1=2 from rfl,show zfa 2=4 from rfl,show zfa 3=8 from rfl]
 by_cases h1:brS h s 1= [] <;> by_cases h2:brS h s 2= [] <;> by_cases h3:brS h s 4= [] <;> by_cases h4:brS h s 8= [] <;> simp only [h1,h2,h3,h4,if_true,if_false,↓reduceIte] <;> decide
theorem yg4 (h:Hist) (s:Int):(x9 h s).map Dos.t=za7 h.evs s:=by rw [x9,List.map_map];exact List.map_id' _
theorem zv2:∀{L:List Dos} {i:Nat},(L.map Dos.t).Nodup→(hi:i < L.length)→∀m:Nat,zaq (fun d:Dos=>d.t==L[i].t) m L=((m+i:Nat):Int)
 |d::L,0,_,_,m=>by rw [zaq,if_pos (by simp)];rfl
 |d::L,i+1,hn,hi,m=>by
  rw [List.map_cons,List.nodup_cons] at hn
  have hi':i < L.length:=by simpa using hi
  rw [zaq,if_neg,show (d::L)[i+1]=L[i] from rfl,zv2 hn.2 hi' (m+1)]
  ·congr 1;omega
  ·intro q
   have q:d.t=L[i].t:=by simpa using q
   exact hn.1 (by rw [q];exact List.mem_map_of_mem (List.getElem_mem _))
theorem yd5 {h:Hist} {s:Int} {z:Brch} (hs:za0 h=true) (he:zep h s z.g=0):isO h s z=decide (z∈eaS h s z.g):=by
 obtain ⟨_,_,k,hk,_,eB,eG⟩:=zkp he
 have hn:((x9 h s).map Dos.t).Nodup:=by rw [yg4];exact zli hs s
 have at':∀i,(hi:i < (x9 h s).length)→zgf (x9 h s) (x9 h s)[i].t=(i:Int):=fun i hi=>by rw [zgf,zv2 hn hi 0];simp
 have lt:∀i,(hi:i < (x9 h s).length)→(x9 h s)[i]=zom h ((za7 h.evs s)[i]'(by simpa [x9] using hi)):=fun i hi=>by simp [x9]
 have key:z∈eaS h s z.g ↔ ∃i j,∃hi:i < (x9 h s).length,∃hj:j < (x9 h s).length,i < j∧z∈zft k (x9 h s)[i] (x9 h s)[j]:=by
  rw [eaS,zsb]
  constructor
  ·rintro ⟨i,j,hj,hij,_,hz⟩
   have hj':j < (x9 h s).length:=by simpa [zqq,x9] using hj
   refine ⟨i,j,by omega,hj',hij,?_⟩
   rw [lt i (by omega),lt j hj',zm6 _ _ _ hk,eB]
   rw [zhw,zhw] at hz;exact hz
  ·rintro ⟨i,j,hi,hj,hij,hz⟩
   have hj':j < (zqq h s z.g).length:=by simpa [zqq,x9] using hj
   refine ⟨i,j,hj',hij,hj',?_⟩
   rw [lt i hi,lt j hj,zm6 _ _ _ hk,eB] at hz
   rw [zhw,zhw];exact hz
 have pr:∀i j,(hi:i < (x9 h s).length)→(hj:j < (x9 h s).length)→z∈zft k (x9 h s)[i] (x9 h s)[j]→z.e=(x9 h s)[i].t∧z.l=(x9 h s)[j].t:=fun i j hi hj hz=>by
  rw [lt i hi,lt j hj,zm6 _ _ _ hk] at hz
  have:=yic hz
  rw [lt i hi,lt j hj];exact this.2
 by_cases hq:zgf (x9 h s) z.e < 0∨zgf (x9 h s) z.l≤zgf (x9 h s) z.e
 ·rw [yd4 he hq]
  symm;rw [decide_eq_false_iff_not,key]
  rintro ⟨i,j,hi,hj,hij,hz⟩
  obtain ⟨e1,e2⟩:=pr i j hi hj hz
  rw [e1,e2,at' i hi,at' j hj] at hq
  omega
 ·have r1:=zms (L:=x9 h s) (t:=z.e)
  have r2:=zms (L:=x9 h s) (t:=z.l)
  obtain ⟨i,e1⟩:∃i:Nat,zgf (x9 h s) z.e=(i:Int):=⟨_,(Int.toNat_of_nonneg (by omega)).symm⟩
  obtain ⟨j,e2⟩:∃j:Nat,zgf (x9 h s) z.l=(j:Int):=⟨_,(Int.toNat_of_nonneg (by omega)).symm⟩
  rw [yd3 he eG e1 e2 (by omega) (by omega) (by omega),decide_eq_decide,key]
  constructor
  ·intro hz;exact ⟨i,j,by omega,by omega,by omega,hz⟩
  ·rintro ⟨i',j',hi,hj,hij,hz⟩
   obtain ⟨a1,a2⟩:=pr i' j' hi hj hz
   rw [a1,at' i' hi] at e1
   rw [a2,at' j' hj] at e2
   obtain rfl:i'=i:=by omega
   obtain rfl:j'=j:=by omega
   exact hz
theorem zv1 {n m:Int}:isB n m=true ↔ 0≤n∧n < m:=by unfold isB;simp
theorem zvn {h:Hist} (hc:k8 h≠0) (s:Int):zb3 h s=k8 h:=ye1 hc
theorem zqd {h:Hist} (hc:k8 h=0) {s:Int} (hb:isB s h.ss.length=true):zb3 h s=0:=zq0 hc (zv1.1 hb)
theorem yhm {g:Int}:zk0 g < 0 ↔ isG g=false:=by
 unfold zk0 isG
 by_cases h1:g=1
 ·subst h1;decide
 by_cases h2:g=2
 ·subst h2;decide
 by_cases h3:g=4
 ·subst h3;decide
 by_cases h4:g=8
 ·subst h4;decide
 simp [h1,h2,h3,h4]
theorem yii {h:Hist} (hc:k8 h=0) {s:Int} (hb:isB s h.ss.length=true) {g:Int} (hg:isG g=true):zep h s g=0:=(zgw (zqd hc hb) fun q=>by rw [yhm.1 q] at hg;cases hg).1
end Go.Proofs
namespace Go.Ab
open Go
section
variable {P:Program} {h:List Res} {f:Operand→Option AV} {dst:Option Tmp} {ty:TypeId} {pos:String} {after:Array Edge} {guard:Option (Nat×Bool)} {x:Operand}
end
end Go.Ab
set_option maxRecDepth 10000
namespace Go.Proofs
open Go Go.Ab
attribute [local irreducible] QR QV OE zb0 aw zcx zb4 zbi zal thn zfo zdd jch zew
open Go.H
theorem zv4 {h:Hist} {n many x:Int} (he:zgv h n many=0) (h0:0≤x) (h1:x < h.os.length):(zed h x).length≤4611686018427387904:=by
 obtain ⟨_,e,_⟩:=zgp (zm8 he).1 h0 h1
 rw [e,zc1 (zdt (zm8 he).1).1];exact Nat.le_trans (zo9 _ _) (Nat.le_trans (zq1 he).ts (by decide))
theorem zwg {α:Type} (p:α→Bool):∀(l:List α) (i:Nat), -1≤zaq p i l∧zaq p i l < (i+l.length:Nat)+1
 | [],i=>by simp only [zaq];omega
 |a::r,i=>by
  have:=zwg p r (i+1)
  simp only [zaq,List.length_cons]
  split
  ·omega
  ·omega
theorem ydw (h:Hist) (la:h.evs.length≤1000000) (x t:Int) (v:Ver) (b3 b4 b5:Nat):x3 Tryz.prog 77 [iv t,pZ b3,pZ b4,pZ b5] (.box b3 28 (x5 h):: .box b4 3 [iv x]:: .box b5 63 (zx0 v):: []) (fun r h'=>h'= .box b3 28 (x5 h):: .box b4 3 [iv x]:: .box b5 63 (zx0 v):: []∧r=bv (ye8 (zo6 h.evs t x)==v)):=by
 refine z6 Tryz.func77 rfl rfl rfl ?_
 refine rn ?_;refine qv rfl rfl (y5 rfl rfl (z8.of_fun (yj5 h la t x _))) ?_
 refine rn ?_;refine z7 rfl (x4 rfl fun b6=> ?_)
 refine rn ?_;refine rq 1 ?_
 exact ⟨rfl,by rw [←yhs,←zl1];rfl⟩
theorem yha (h:Hist) (la:Lim 4611686018427387904 h) (x:Int) (v:Ver):x3 Tryz.prog 30 [.agg (x5 h),iv x,.agg (zx0 v)] (.glob 3 148 y8:: .glob 5 276 y9:: .glob 6 279 y4:: .glob 2 197 u0:: []) (fun r h'=>h'= .glob 3 148 y8:: .glob 5 276 y9:: .glob 6 279 y4:: .glob 2 197 u0:: []∧r= .tup [iv (zku h x v).1,bv (zku h x v).2]):=by
 refine z6 Tryz.func30 rfl rfl rfl ?_
 refine rn ?_;refine z7 rfl (x8 rfl rfl rfl fun b3=> ?_)
 refine z7 rfl (x8 rfl rfl rfl fun b4=> ?_)
 refine z7 rfl (x8 rfl rfl rfl fun b5=> ?_)
 refine rn ?_;refine qv rfl rfl (y5 rfl rfl (z8.qt (z8.of_fun (ya1 h la x)) ((pt3 _ _ _ _ _).trans (.cons _ ((pt3 _ _ _ _ _).trans (.cons _ ((pt3 _ _ _ _ _).trans (.cons _ (pt3 _ _ _ _ _))))))))) ?_
 refine rn ?_;refine y3 rfl (fun hc17=> ?_) (fun hc17=> ?_)
 ·have hc:zgv h x h.os.length≠0:=by simpa using hc17
  refine rn ?_;refine rq 3 ?_
  exact ⟨rfl,by rw [zku,if_neg hc];rfl⟩
 ·have hc:zgv h x h.os.length=0:=by simpa using hc17
  refine w6 (y6 ?_)
  refine q1 ?_;refine qq rfl rfl (j8 (out:= [iv 0,iv 0]) rfl (by rfl)) ?_
  refine rn ?_;refine y3 rfl (fun hc20=> ?_) (fun hc20=> ?_)
  ·have hv:v=⟨0,0⟩:=eq_of_beq (by rw [←zl1];exact hc20)
   refine rn ?_;refine rq 3 ?_
   exact ⟨rfl,by rw [zku,if_pos hc,if_pos hv];rfl⟩
  ·have hv:v≠⟨0,0⟩:=beq_eq_false_iff_ne.1 (by rw [←zl1];exact hc20)
   have hn:=zm8 hc
   refine zab ?_;refine rn0 ?_;refine w6 ?_;rw [onE,if_pos hc]
   refine rn ?_;refine qv rfl rfl (y5 rfl rfl (z8.of_fun (zic (zed h x) _ (fun t=>ye8 (zo6 h.evs t x)==v) _ (fun t _=>z8.qt (z8.of_acall (fs:= []) (cs:= [pZ b3,pZ b4,pZ b5]) (ydw h (zxa hc) x t v b3 b4 b5)) ((pt2 _ _ _ _).trans (.cons _ (pt1 _ _ _)))) (zv4 hc hn.2.1 hn.2.2)))) ?_
   refine q1 ?_;refine u5 (k7 ?_)
   refine w6 (y6 ?_)
   refine q1 ?_;refine qq rfl rfl (j6 rfl rfl rfl (by have:=zwg (fun t=>ye8 (zo6 h.evs t x)==v) (zed h x) 0;have:=zv4 hc hn.2.1 hn.2.2;omega)) ?_
   refine rn ?_;refine rq 3 ?_
   exact ⟨rfl,by rw [zku,if_pos hc,if_neg hv];rfl⟩
theorem zus {h:Hist} (hc:k8 h=0) {x:Int} (h0:0≤x) (h1:x < h.os.length) {v:Ver} {r:Int} (hr:zsx h x v=some r):zku h x v=(r,true):=by
 rw [zku,if_pos (zq0 hc ⟨h0,h1⟩)]
 rw [zsx,zur (zcv.1 hc) v h0 h1 _ (Nat.le_refl _) h1] at hr
 by_cases q:v=⟨0,0⟩
 ·rw [if_pos q] at hr ⊢;injection hr with hr;rw [hr]
 ·rw [if_neg q] at hr ⊢
  split at hr
  ·rename_i q2;injection hr with hr;rw [hr,decide_eq_true q2]
  ·cases hr
theorem yjy {h:Hist} (hs:za0 h=true) {g:Int} {p:Nat} (hp:p < h.evs.length) (hk:h.evs[p].kind=kdA g∨h.evs[p].kind=kdB g):0≤h.evs[p].o∧h.evs[p].o < h.os.length:=by
 have he:=zrg hs _ (List.getElem_mem hp)
 have h23:h.evs[p].kind=2∨h.evs[p].kind=3:=by
  unfold kdA kdB at hk
  rcases hk with hk|hk <;> split at hk <;> omega
 rcases h23 with h2|h3
 ·have:=zji he h2;exact ⟨this.1,this.2.1⟩
 ·exact (yf5 he h3).1
theorem zqm:∀{l:List Int} {i:Nat},l.Nodup→(hi:i < l.length)→∀m:Nat,zaq (fun a=>a==l[i]) m l=((m+i:Nat):Int)
 |d::l,0,_,_,m=>by rw [zaq,if_pos (by simp)];rfl
 |d::l,i+1,hn,hi,m=>by
  rw [List.nodup_cons] at hn
  have hi':i < l.length:=by simpa using hi
  rw [zaq,if_neg,show (d::l)[i+1]=l[i] from rfl,zqm hn.2 hi' (m+1)]
  ·congr 1;omega
  ·intro q
   have q:d=l[i]:=by simpa using q
   exact hn.1 (by rw [q];exact List.getElem_mem _)
theorem zub {h:Hist} {s:Int} (hb:isB s h.ss.length=true):zb3 h s=k8 h:=by
 by_cases hc:k8 h=0
 ·rw [zqd hc hb,hc]
 ·exact zvn hc s
theorem ycf {h:Hist} (hc:k8 h≠0) (s:Int):haO h s=0:=by
 rw [haO,if_neg (by rw [zvn hc];exact hc)]
theorem zyd {h:Hist} {s:Int} (hl:zb3 h s=0) (hn:(za7 h.evs s).length < 2):haO h s=15:=by rw [zv8 hl,zv7 hn]
theorem yb7 {α:Type} (l:List α):l.head?.isSome= !decide (l= []):=by cases l <;> simp
theorem yly {g:Int} (hb:g∈zm5):isG g=true:=by
 simp only [zm5,List.mem_cons,List.not_mem_nil,or_false] at hb
 rcases hb with rfl|rfl|rfl|rfl <;> rfl
theorem yd9 {h:Hist} {s g:Int} (hb:g∈zm5):(bI .and .i64 (yea h s) g !=0)=decide (brS h s g= []):=by
 simp only [yea,List.foldl_cons,List.foldl_nil]
 simp only [zm5,List.mem_cons,List.not_mem_nil,or_false] at hb
 rcases hb with rfl|rfl|rfl|rfl <;> by_cases h1:brS h s 1= [] <;> by_cases h2:brS h s 2= [] <;> by_cases h3:brS h s 4= [] <;> by_cases h4:brS h s 8= [] <;> simp only [h1,h2,h3,h4,if_true,if_false,↓reduceIte] <;> decide
theorem yfv {h:Hist} {s g:Int} (hl:zb3 h s=0) (he:zep h s g=0) (hb:g∈zm5):((seB h s g).head?.isSome==(bI .and .i64 (haO h s) g !=0))=false:=by
 rw [zv8 hl,yd9 hb,zum he,yb7]
 cases decide (brS h s g= []) <;> rfl
theorem yfu {h:Hist} {s g:Int}:((seB h s g).head?.isSome !=decide ((0:Int) < (((seB h s g).map prB).map zn1).length))=false:=by
 cases seB h s g <;> simp
structure Shown (h:Hist) (s g:Int) (M:List (Int×Int)) (e l o:Int) (p q:Nat):Prop where
 is:isO h s ⟨g,e,l,o,p,q⟩=true
 m0:M[0]? =some (e,l)
 ix:zaq (fun a=>a==e) 0 (za7 h.evs s) < zaq (fun a=>a==l) 0 (za7 h.evs s)
 hp:p < h.evs.length
 hq:q < h.evs.length
 tp:h.evs[p].t=e
 tq:h.evs[q].t=l
 op:h.evs[p].o=o
 oq:h.evs[q].o=o
 rk:∃r1 r2,zku h o h.evs[p].v=(r1,true)∧zku h o h.evs[q].v=(r2,true)∧r2 < r1
theorem yjc {h:Hist} {s g:Int} (hc:k8 h=0) (he:zep h s g=0) {z:Brch} (hz:(seB h s g).head? =some z):∃(e l o:Int) (p q:Nat),z=⟨g,e,l,o,p,q⟩∧Shown h s g ((seB h s g).map prB) e l o p q:=by
 have hs:=zcv.1 hc
 have hz2:z∈eaS h s g:=by
  rw [zum he,zw1] at hz
  exact List.mem_of_head? hz
 have hm0:((seB h s g).map prB)[0]? =some (z.e,z.l):=by
  rw [List.getElem?_map,←List.head?_eq_getElem?,hz];rfl
 obtain ⟨h1,⟨i,j,hj,hij,e1,e2⟩,p,q,hp,hq,a1,a2,t1,t2,o1,o2,k1,k2,r1,r2,hr1,hr2,hlt⟩:=zsc hz2
 obtain ⟨zg,e,l,o,a,b⟩:=z
 simp only at h1 e1 e2 a1 a2 t1 t2 o1 o2 hr1 hr2 hm0
 subst h1 a1 a2
 have hn:=zli hs s
 have ho:=yjy (g:=zg) hs hp (.inl k1)
 rw [o1] at ho
 refine ⟨e,l,o,p,q,rfl,?_,hm0,?_,hp,hq,t1,t2,o1,o2,r1,r2,zus hc ho.1 ho.2 hr1,zus hc ho.1 ho.2 hr2,hlt⟩
 ·rw [yd5 hs (show zep h s (Brch.mk zg e l o p q).g=0 from he)];exact decide_eq_true hz2
 ·have f1:=zqm hn (show i < _ by omega) 0
  have f2:=zqm hn hj 0
  rw [←e1] at f1
  rw [←e2] at f2
  rw [f1,f2];omega
theorem yjd {α β:Type} {f:α→β} {l:List α} (h:decide (((l.map f).length:Int) < 2)=true):l.length < 2:=by
 rw [List.length_map] at h
 have:=of_decide_eq_true h
 omega
theorem yfs {h:Hist} {s g:Int} (hc:k8 h=0) (he:zep h s g=0) {z:Brch} {M:List (Int×Int)} (hz:(seB h s g).head?.getD br0=z) (hb:(seB h s g).head?.isSome=true) (hM:(seB h s g).map prB=M):∃(e l o:Int) (p q:Nat),z=⟨g,e,l,o,p,q⟩∧Shown h s g M e l o p q:=by
 obtain ⟨w,hw⟩:=Option.isSome_iff_exists.1 hb
 rw [hw] at hz
 obtain rfl:w=z:=hz
 rw [←hM];exact yjc hc he hw
theorem yf0 (h:Hist) (la:Lim 4611686018427387904 h) {s:Int} (hb:isB s h.ss.length=true):x3 Tryz.prog 24 [.agg (x5 h),iv s] (.glob 0 117 x6:: .glob 3 148 y8:: .glob 5 276 y9:: .glob 6 279 y4:: .glob 2 197 u0:: []) (fun r h'=>h'= .glob 0 117 x6:: .glob 3 148 y8:: .glob 5 276 y9:: .glob 6 279 y4:: .glob 2 197 u0:: []∧r= .tup [iv (haO h s),iv (k8 h)]):=(yao h la s).mono fun _ _ q=>⟨q.1,by rw [q.2,zub hb]⟩
theorem zyi (h:Hist) (la:Lim 4611686018427387904 h) {s g:Int} {z:Brch} {b:Bool} (he:zep h s g=0) (hz:(seB h s g).head?.getD br0=z) (hb:(seB h s g).head?.isSome=b):x3 Tryz.prog 15 [.agg (x5 h),iv s,iv g] (.glob 0 117 x6:: .glob 3 148 y8:: .glob 5 276 y9:: .glob 6 279 y4:: .glob 2 197 u0:: []) (fun r h'=>h'= .glob 0 117 x6:: .glob 3 148 y8:: .glob 5 276 y9:: .glob 6 279 y4:: .glob 2 197 u0:: []∧r= .tup [.agg (zbw z),bv b,iv 0]):=(zl8 h la s g).mono fun _ _ q=>⟨q.1,by rw [q.2,he,hz,hb]⟩
theorem zyh (h:Hist) (la:Lim 4611686018427387904 h) {s g:Int} {M:List (Int×Int)} (he:zep h s g=0) (hM:(seB h s g).map prB=M):x3 Tryz.prog 16 [.agg (x5 h),iv s,iv g] (.glob 0 117 x6:: .glob 3 148 y8:: .glob 5 276 y9:: .glob 6 279 y4:: .glob 2 197 u0:: []) (fun r h'=>h'= .glob 0 117 x6:: .glob 3 148 y8:: .glob 5 276 y9:: .glob 6 279 y4:: .glob 2 197 u0:: []∧r= .tup [yc7 M,iv 0]):=(zrm h la s g).mono fun _ _ q=>⟨q.1,by rw [q.2,he,hM]⟩
theorem yjh (h:Hist) (la:Lim 4611686018427387904 h) {s:Int} {z:Brch} (hz:isO h s z=true):x3 Tryz.prog 26 [.agg (x5 h),iv s,.agg (zbw z)] (.glob 0 117 x6:: .glob 3 148 y8:: .glob 5 276 y9:: .glob 6 279 y4:: .glob 2 197 u0:: []) (fun r h'=>h'= .glob 0 117 x6:: .glob 3 148 y8:: .glob 5 276 y9:: .glob 6 279 y4:: .glob 2 197 u0:: []∧r=bv true):=(yjf h la s z).mono fun _ _ q=>⟨q.1,by rw [q.2,hz]⟩
theorem ydx (h:Hist) (la:Lim 4611686018427387904 h) {s:Int} {L:List Int} (hb:isB s h.ss.length=true) (hL:onE (k8 h) (za7 h.evs s)=L):x3 Tryz.prog 28 [.agg (x5 h),iv s] (.glob 3 148 y8:: .glob 5 276 y9:: .glob 6 279 y4:: .glob 2 197 u0:: []) (fun r h'=>h'= .glob 3 148 y8:: .glob 5 276 y9:: .glob 6 279 y4:: .glob 2 197 u0:: []∧r= .tup [zel L,iv (k8 h)]):=(ya0 h la s).mono fun _ _ q=>⟨q.1,by rw [q.2,show zgv h s h.ss.length=k8 h from zub hb,hL]⟩
theorem zvx (h:Hist) (la:Lim 4611686018427387904 h) {o r:Int} {v:Ver} (hr:zku h o v=(r,true)):x3 Tryz.prog 30 [.agg (x5 h),iv o,.agg (zx0 v)] (.glob 3 148 y8:: .glob 5 276 y9:: .glob 6 279 y4:: .glob 2 197 u0:: []) (fun r' h'=>h'= .glob 3 148 y8:: .glob 5 276 y9:: .glob 6 279 y4:: .glob 2 197 u0:: []∧r'= .tup [iv r,bv true]):=(yha h la o v).mono fun _ _ q=>⟨q.1,by rw [q.2,hr]⟩
set_option maxHeartbeats 4000000 in
theorem zno (x:Hist)  (lb:Big x)  :x3 Tryz.prog 6 [.agg (x5 x)] (.glob 0 117 x6:: .glob 3 148 y8:: .glob 5 276 y9:: .glob 6 279 y4:: .glob 2 197 u0:: []) (fun r h'=>h'= .glob 0 117 x6:: .glob 3 148 y8:: .glob 5 276 y9:: .glob 6 279 y4:: .glob 2 197 u0:: []∧r=bv true):=by
 refine z6 Tryz.func6 rfl rfl rfl ?_
 refine rn ?_;refine z7 rfl (x8 rfl rfl rfl fun b1=> ?_)
 refine rn ?_;refine qv rfl rfl (y5 rfl rfl (z8.qt (z8.of_fun ybs) ((pt1 _ _ _).trans (.cons _ ((pt1 _ _ _).trans (.cons _ ((pt1 _ _ _).trans (.cons _ ((pt1 _ _ _).trans (.cons _ (pt1 _ _ _))))))))))) ?_
 refine rn ?_;refine y3 rfl (fun hc24=> ?_) (fun hc24=> ?_)
 ·exact absurd hc24 (by decide)
 ·refine rn ?_;refine qv rfl rfl (y5 rfl rfl (zbq (yjt x lb) (Sbs.refl _))) ?_
  refine z7 rfl (x4 rfl fun b3=> ?_)
  refine rn ?_;refine qv rfl rfl (y5 rfl rfl (z8.qt (z8.of_fun (zvz (j5 x) (zch lb.lim))) ((pt3 _ _ _ _ _).trans (.cons _ ((pt3 _ _ _ _ _).trans (.cons _ ((pt3 _ _ _ _ _).trans (.cons _ (pt3 _ _ _ _ _))))))))) ?_
  refine q1 ?_;refine u5 (k7 ?_)
  refine w6 ?_;refine w6 (y6 ?_)
  refine q1 ?_;refine q1 ?_;refine q1 ?_;refine qq rfl rfl (zuy ((j5 x).ss.map zh0).length 6 rfl rfl) ?_
  refine rn ?_;refine zw4 (min ((j5 x).ss.map zh0).length 6) (fun i:Nat=>True) (fun i=> [(33,iv i)]) [(3,_),(4,_),(32,_)] trivial ?_
  intro i li _
  refine rn ?_;refine y3 rfl (fun hc34=> ?_) (fun hc34=> ?_)
  ·have hi:i < min ((j5 x).ss.map zh0).length 6:=by have q:=of_decide_eq_true hc34;omega
   have hb:isB (i:Int) (j5 x).ss.length=true:=zv1.2 ⟨by omega,by rw [List.length_map] at hi;omega⟩
   obtain ⟨L,hL⟩:∃L,onE (k8 (j5 x)) (za7 (j5 x).evs i)=L:=⟨_,rfl⟩
   refine rn ?_;refine qv rfl rfl (y5 rfl rfl (z8.qt (z8.of_fun (yf0 (j5 x) (zch lb.lim) hb)) ((pt2 _ _ _ _).trans (.cons _ ((pt2 _ _ _ _).trans (.cons _ ((pt2 _ _ _ _).trans (.cons _ ((pt2 _ _ _ _).trans (.cons _ (pt2 _ _ _ _))))))))))) ?_
   refine rn ?_;refine qv rfl rfl (y5 rfl rfl (z8.qt (z8.of_fun (ydx (j5 x) (zch lb.lim) hb hL)) ((pt3 _ _ _ _ _).trans (.cons _ ((pt3 _ _ _ _ _).trans (.cons _ ((pt3 _ _ _ _ _).trans (.cons _ (pt3 _ _ _ _ _))))))))) ?_
   refine rn0 ?_;refine ze7 (⟨[(5,iv i),(6,iv (haO (j5 x) i)),(8,zel L),(3,pZ b3),(4,iv (k8 (j5 x))),(32,iv (min ((j5 x).ss.map zh0).length 6:Nat)),(33,iv i)],.box b3 28 (x5 (j5 x)):: .box b1 28 (x5 x):: .glob 0 117 x6:: .glob 3 148 y8:: .glob 5 276 y9:: .glob 6 279 y4:: .glob 2 197 u0:: [],[]⟩) ?_ ?_
   ·refine w6 (y6 ?_)
    refine q1 ?_;refine q1 ?_;refine qq rfl rfl (zco (c:=false) rfl rfl (congrArg some (bne_self_eq_false _))) ?_
    refine q1 ?_;refine q1 ?_;refine q1 ?_;refine qq rfl rfl (zco (c:=false) rfl rfl (congrArg some (bne_self_eq_false _))) ?_
    refine rn ?_;refine q9 (fun hg10_11=> ?_) (fun hg10_11=> ?_)
    ·refine q1 ?_;have hz0:=ycf (h:=(j5 x)) (by simpa using hg10_11) (i:Int)
     refine qq rfl rfl (zco (c:=false) rfl rfl (congrArg some (by rw [hz0];rfl))) ?_
     refine rn ?_;refine y3 rfl (fun hc63=> ?_) (fun hc63=> ?_)
     ·exact absurd hc63 (by decide)
     ·refine rn ?_;exact eA
    ·refine rn ?_;refine y3 rfl (fun hc63=> ?_) (fun hc63=> ?_)
     ·first|cases hc63|exact absurd hc63 (by decide)|(exfalso;simp_all;done)
     ·refine rn ?_;exact eA
   ·refine rn ?_;refine y3 rfl (fun hc65=> ?_) (fun hc65=> ?_)
    ·refine rn ?_;exact ⟨hi,trivial,eA⟩
    ·have hc:k8 (j5 x)=0:=by simpa using hc65
     obtain rfl:(za7 (j5 x).evs i)=L:=by rw [←hL,hc];rfl
     have hl:zb3 (j5 x) i=0:=zqd hc hb
     refine zab ?_;refine rn0 ?_;refine ze7 (⟨[(5,iv i),(6,iv (haO (j5 x) i)),(8,zel (za7 (j5 x).evs i)),(3,pZ b3),(4,iv (k8 (j5 x))),(32,iv (min ((j5 x).ss.map zh0).length 6:Nat)),(33,iv i)],.box b3 28 (x5 (j5 x)):: .box b1 28 (x5 x):: .glob 0 117 x6:: .glob 3 148 y8:: .glob 5 276 y9:: .glob 6 279 y4:: .glob 2 197 u0:: [],[]⟩) ?_ ?_
     ·refine rn ?_;refine q9 (fun hg13_3=> ?_) (fun hg13_3=> ?_)
      ·refine q1 ?_;have hz1:=zyd hl (yjd hg13_3)
       refine qq rfl rfl (zco (c:=false) rfl rfl (congrArg some (by rw [hz1];rfl))) ?_
       refine rn ?_;refine y3 rfl (fun hc72=> ?_) (fun hc72=> ?_)
       ·exact absurd hc72 (by decide)
       ·refine rn ?_;exact eA
      ·refine rn ?_;refine y3 rfl (fun hc72=> ?_) (fun hc72=> ?_)
       ·first|cases hc72|exact absurd hc72 (by decide)|(exfalso;simp_all;done)
       ·refine rn ?_;exact eA
     ·refine rn ?_;refine qv rfl rfl (u1 rfl rfl) ?_
      refine rn ?_;refine za1 4 (fun _=>True) (fun k=>⟨[(75,iv k),(73,.list true 1 (zm5.map zde)),(74,iv 4),(5,iv i),(6,iv (haO (j5 x) i)),(8,zel (za7 (j5 x).evs i)),(3,pZ b3),(4,iv (k8 (j5 x))),(32,iv (min ((j5 x).ss.map zh0).length 6:Nat)),(33,iv i)],.box b3 28 (x5 (j5 x)):: .box b1 28 (x5 x):: .glob 0 117 x6:: .glob 3 148 y8:: .glob 5 276 y9:: .glob 6 279 y4:: .glob 2 197 u0:: [],[]⟩) trivial es ?_
      intro k lk _
      refine rn ?_;refine y3 rfl (fun hc76=> ?_) (fun hc76=> ?_)
      ·have hk:k < 4:=by have q:=of_decide_eq_true hc76;omega
       have rk:=zcy (f:=zde) (l:=zm5) hk
       have hbm:=List.getElem_mem (l:=zm5) hk
       obtain ⟨gb,hgb⟩:∃gb,zm5[k]=gb:=⟨_,rfl⟩
       rw [hgb] at rk hbm
       have he:zep (j5 x) i gb=0:=yii hc hb (yly hbm)
       obtain ⟨z,hz⟩:∃z,(seB (j5 x) i gb).head?.getD br0=z:=⟨_,rfl⟩
       obtain ⟨b,hbb⟩:∃b,(seB (j5 x) i gb).head?.isSome=b:=⟨_,rfl⟩
       obtain ⟨M,hM⟩:∃M,(seB (j5 x) i gb).map prB=M:=⟨_,rfl⟩
       have hln:=yfu (h:=(j5 x)) (s:=i) (g:=gb)
       rw [hbb,hM] at hln
       have han:=yfv hl he hbm
       rw [hbb] at han
       refine rn ?_;refine qv rfl rfl (y5 rfl rfl (z8.qt (z8.of_fun (zyi (j5 x) (zch lb.lim) he hz hbb)) ((pt2 _ _ _ _).trans (.cons _ ((pt2 _ _ _ _).trans (.cons _ ((pt2 _ _ _ _).trans (.cons _ ((pt2 _ _ _ _).trans (.cons _ (pt2 _ _ _ _))))))))))) ?_
       refine rn ?_;refine z7 rfl (x4 rfl fun b12=> ?_)
       refine rn ?_;refine qv rfl rfl (y5 rfl rfl (z8.qt (z8.of_fun (zyh (j5 x) (zch lb.lim) he hM)) ((pt3 _ _ _ _ _).trans (.cons _ ((pt3 _ _ _ _ _).trans (.cons _ ((pt3 _ _ _ _ _).trans (.cons _ ((pt3 _ _ _ _ _).trans (.cons _ (pt3 _ _ _ _ _))))))))))) ?_
       refine q1 ?_;refine q1 ?_;refine q1 ?_;refine q1 ?_;refine q1 ?_;refine u5 (k7 ?_)
       refine w6 ?_;refine w6 (y6 ?_)
       refine q1 ?_;refine qq rfl rfl (zco (c:=false) rfl rfl (congrArg some (bne_self_eq_false _))) ?_
       refine q1 ?_;refine q1 ?_;refine qq rfl rfl (zco (c:=false) rfl rfl (congrArg some (bne_self_eq_false _))) ?_
       refine q1 ?_;refine q1 ?_;refine q1 ?_;refine q1 ?_;refine q1 ?_;refine q1 ?_;refine qq rfl rfl (zu1 (c:=false) (znt rfl rfl) (by exact hln)) ?_
       refine q1 ?_;refine q1 ?_;refine q1 ?_;refine q1 ?_;refine q1 ?_;refine q1 ?_;refine q1 ?_;refine qq rfl rfl (zu1 (c:=false) (zn0 rfl rfl rfl) (by exact han)) ?_
       refine rn ?_;refine y3 rfl (fun hc114=> ?_) (fun hc114=> ?_)
       ·exact absurd hc114 (by decide)
       ·refine rn ?_;refine y3 rfl (fun hc116=> ?_) (fun hc116=> ?_)
        ·refine rn ?_;exact ⟨hk,trivial,eA⟩
        ·obtain rfl:b=true:=by cases b with|true=>rfl|false=>cases hc116
         obtain ⟨e,l,o,p,q,rfl,hsh⟩:=yfs hc he hz hbb hM
         have r0:(M.map zn1)[0]? =some (zn1 (e,l)):=by rw [List.getElem?_map,hsh.m0];rfl
         have hp9:=hsh.hp
         have hq9:=hsh.hq
         have rp0:=zcy (f:=evR) hsh.hp
         have rq0:=zcy (f:=evR) hsh.hq
         obtain ⟨r1,r2,hr1,hr2,hrr⟩:=hsh.rk
         have hLl:(za7 (j5 x).evs i).length≤4611686018427387904:=Nat.le_trans (zmo _ _) (Nat.le_trans (zs7 x) (by decide))
         refine rn ?_;refine j4 30 rfl ?_
         refine rn ?_;refine dv rfl rfl (by exact y5 rfl rfl (z8.qt (z8.of_fun (yjh (j5 x) (zch lb.lim) hsh.is)) ((pt3 _ _ _ _ _).trans (.cons _ ((pt3 _ _ _ _ _).trans (.cons _ ((pt3 _ _ _ _ _).trans (.cons _ ((pt3 _ _ _ _ _).trans (.cons _ (pt3 _ _ _ _ _))))))))))) ?_
         refine dq rfl rfl qrA ?_;refine dq rfl rfl qrA ?_;refine dq rfl rfl qrA ?_;refine dq rfl rfl qrA ?_;refine dq rfl rfl qrA ?_;refine dq rfl rfl (zco (c:=false) rfl rfl (congrArg some (bne_self_eq_false _))) ?_
         refine dq rfl rfl qrA ?_;refine dq rfl rfl qrA ?_;refine dq rfl rfl qrA ?_;refine dq rfl rfl (zau rfl rfl r0) ?_
         refine dq rfl rfl qrA ?_;refine dq rfl rfl qrA ?_;refine dq rfl rfl qrA ?_;refine dq rfl rfl qrA ?_;refine dq rfl rfl qrA ?_;refine dq rfl rfl (zcb (out:= [iv e,iv l]) rfl (by rfl)) ?_
         refine dq rfl rfl (zu1 (c:=false) (zme rfl rfl rfl rfl) (by simp)) ?_
         refine rn ?_;refine dv rfl rfl (by exact y5 rfl rfl (zbq (zv5 (za7 (j5 x).evs i) e hLl) (Sbs.refl _))) ?_
         refine rn ?_;refine qv rfl rfl (y5 rfl rfl (zbq (zv5 (za7 (j5 x).evs i) l hLl) (Sbs.refl _))) ?_
         refine qq rfl rfl (zco (c:=false) rfl rfl (congrArg some (decide_eq_false (by have:=hsh.ix;omega)))) ?_
         refine rn ?_;refine y3 rfl (fun hc149=> ?_) (fun hc149=> ?_)
         ·exact absurd hc149 (by decide)
         ·refine zab ?_;refine rn0 ?_;refine w6 ?_;refine zw6 15 12 13 14 17 18 66 (evR (j5 x).evs[p]) rfl rfl rfl rfl rfl rfl rfl rfl rfl rfl rfl rfl rfl rfl rfl ?_
          refine jq rfl (fun he hC=>by rcases hC with rfl|⟨b,c,rfl⟩|⟨b,c,b',c',rfl⟩ <;> exact qrA) ?_
          refine jq rfl (fun he hC=>by rcases hC with rfl|⟨b,c,rfl⟩|⟨b,c,b',c',rfl⟩ <;> exact qrA) ?_
          refine jq rfl (fun he hC=>by rcases hC with rfl|⟨b,c,rfl⟩|⟨b,c,b',c',rfl⟩ <;> exact qrA) ?_
          refine jq rfl (fun he hC=>by rcases hC with rfl|⟨b,c,rfl⟩|⟨b,c,b',c',rfl⟩ <;> exact qrA) ?_
          refine jq rfl (fun he hC=>by rcases hC with rfl|⟨b,c,rfl⟩|⟨b,c,b',c',rfl⟩ <;> exact (by exact zau rfl rfl rp0)) ?_
          refine jq rfl (fun he hC=>by rcases hC with rfl|⟨b,c,rfl⟩|⟨b,c,b',c',rfl⟩ <;> exact qrA) ?_
          refine jq rfl (fun he hC=>by rcases hC with rfl|⟨b,c,rfl⟩|⟨b,c,b',c',rfl⟩ <;> exact qrA) ?_
          refine jq rfl (fun he hC=>by rcases hC with rfl|⟨b,c,rfl⟩|⟨b,c,b',c',rfl⟩ <;> exact qrA) ?_
          refine jq rfl (fun he hC=>by rcases hC with rfl|⟨b,c,rfl⟩|⟨b,c,b',c',rfl⟩ <;> exact qrA) ?_
          refine jq rfl (fun he hC=>by rcases hC with rfl|⟨b,c,rfl⟩|⟨b,c,b',c',rfl⟩ <;> exact qrA) ?_
          refine jq rfl (fun he hC=>by rcases hC with rfl|⟨b,c,rfl⟩|⟨b,c,b',c',rfl⟩ <;> exact (by exact zau rfl rfl rq0)) ?_
          refine jq rfl (fun he hC=>by rcases hC with rfl|⟨b,c,rfl⟩|⟨b,c,b',c',rfl⟩ <;> exact qrA) ?_
          refine je rfl ?_;refine je rfl ?_;refine je rfl ?_;refine zxt ⟨?_,fun b17 b18=> ?_⟩
          ·rintro ee u (⟨b,rfl⟩|⟨b,c,rfl⟩|⟨b,c,rfl⟩) <;> exact ⟨rfl,rfl⟩
          refine rn ?_;refine qv rfl rfl (y5 rfl rfl (z8.qt (z8.of_fun (zvx (j5 x) (zch lb.lim) hr1)) ((pt6 _ _ _ _ _ _ _ _).trans (.cons _ ((pt6 _ _ _ _ _ _ _ _).trans (.cons _ ((pt6 _ _ _ _ _ _ _ _).trans (.cons _ (pt6 _ _ _ _ _ _ _ _))))))))) ?_
          refine rn ?_;refine qv rfl rfl (y5 rfl rfl (z8.qt (z8.of_fun (zvx (j5 x) (zch lb.lim) hr2)) ((pt6 _ _ _ _ _ _ _ _).trans (.cons _ ((pt6 _ _ _ _ _ _ _ _).trans (.cons _ ((pt6 _ _ _ _ _ _ _ _).trans (.cons _ (pt6 _ _ _ _ _ _ _ _))))))))) ?_
          refine q1 ?_;refine q1 ?_;refine q1 ?_;refine q1 ?_;refine q1 ?_;refine u5 (k7 ?_)
          refine w6 (y6 ?_)
          refine q1 ?_;refine q1 ?_;refine q1 ?_;refine q1 ?_;refine qq rfl rfl (zco (c:=false) rfl rfl (congrArg some (by rw [hsh.tp];simp))) ?_
          refine q1 ?_;refine q1 ?_;refine q1 ?_;refine q1 ?_;refine q1 ?_;refine qq rfl rfl (zco (c:=false) rfl rfl (congrArg some (by rw [hsh.tq];simp))) ?_
          refine q1 ?_;refine q1 ?_;refine q1 ?_;refine q1 ?_;refine q1 ?_;refine q1 ?_;refine qq rfl rfl (zco (c:=false) rfl rfl (congrArg some (by rw [hsh.op];simp))) ?_
          refine q1 ?_;refine q1 ?_;refine q1 ?_;refine q1 ?_;refine q1 ?_;refine q1 ?_;refine qq rfl rfl (zco (c:=false) rfl rfl (congrArg some (by rw [hsh.oq];simp))) ?_
          refine q1 ?_;refine q1 ?_;refine q1 ?_;refine q1 ?_;refine q1 ?_;refine q1 ?_;refine q1 ?_;refine q1 ?_;refine q1 ?_;refine q1 ?_;refine q1 ?_;refine q1 ?_;refine qq rfl rfl (zco (c:=false) rfl rfl (congrArg some (decide_eq_false (by omega)))) ?_
          refine rn ?_;refine y3 rfl (fun hc218=> ?_) (fun hc218=> ?_)
          ·exact absurd hc218 (by decide)
          ·refine rn ?_;exact ⟨hk,trivial,eA⟩
      ·refine rn ?_;exact ⟨hi,trivial,eA⟩
  ·refine rn ?_;first|(refine rq 2 ?_;exact ⟨rfl,rfl⟩)|(refine rq 3 ?_;exact ⟨rfl,rfl⟩)|(refine rq 4 ?_;exact ⟨rfl,rfl⟩)
end Go.Proofs
