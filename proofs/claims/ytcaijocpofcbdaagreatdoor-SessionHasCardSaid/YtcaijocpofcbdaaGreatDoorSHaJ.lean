/- The walks of session's First, Pairs, Has. Conditions: none. -/
import Derived.Test.YtcaijocpofcbdaaGreatDoorSHaI
set_option linter.unusedSectionVars false
set_option linter.unusedSimpArgs false
set_option linter.unusedVariables false
set_option maxRecDepth 10000
namespace Go.Proofs
open Go Go.Ab
attribute [local irreducible] QR QV OE zcw aw zdx zcv zb3 za2 thn zgt zeq jch zf2
open Go.H
def br0:Brch:=⟨0,0,0,0,0,0⟩
theorem zji (a b:Brch):(([a.g,a.e,a.l,a.o,a.a,a.b]:List Int)== [b.g,b.e,b.l,b.o,b.a,b.b])=(a==b):=by
 rw [Bool.eq_iff_iff]
 obtain ⟨a1,a2,a3,a4,a5,a6⟩:=a
 obtain ⟨b1,b2,b3,b4,b5,b6⟩:=b
 simp
theorem zp1 {h:Hist} {s g:Int} (he:zh2 h s g=0):zb7 h s=0∧yhy h s g=q7 h s∧∃k:Nat,k < 4∧yhz h s g=(k:Int)∧zer k=g∧znj g=(k:Int):=by
 by_cases hl:zb7 h s=0
 ·by_cases hg:znj g < 0
  ·have:=(zm2 hl hg).1;omega
  ·obtain ⟨k,hk,e1,e2⟩:=yox hg
   exact ⟨hl,(zis hl hg).2.1,k,hk,by rw [(zis hl hg).2.2,e1],e2,e1⟩
 ·have:=(zj6 (g:=g) hl).1;omega
theorem znp (l:List Acc):∀n:Nat,(zqa n l).length=(l.filter fun a=>decide (0≤a.o∧a.o < (n:Int))).length
 |0=>by
  have:(l.filter fun a=>decide (0≤a.o∧a.o < ((0:Nat):Int)))= []:=by
   rw [List.filter_eq_nil_iff];intro a _;simp <;> omega
  rw [this];rfl
 |n+1=>by
  have ih:=znp l n
  rw [zqa,zyh,List.flatMap_append,List.length_append]
  rw [zqa] at ih
  rw [ih]
  clear ih
  induction l with
  |nil=>rfl
  |cons a l ih=>
   simp only [List.filter_cons,List.flatMap_cons,List.flatMap_nil,List.append_nil] at ih ⊢
   by_cases h1:a.o=(n:Int)
   ·have e1:decide (0≤a.o∧a.o < (n:Int))=false:=decide_eq_false (by omega)
    have e2:decide (0≤a.o∧a.o < ((n+1:Nat):Int))=true:=decide_eq_true (by omega)
    have e3:(a.o==(n:Int))=true:=by simpa using h1
    rw [e1,e2,e3];simp only [↓reduceIte,List.length_cons,Bool.false_eq_true] at ih ⊢;omega
   ·have e3:(a.o==(n:Int))=false:=by simpa using h1
    by_cases h2:0≤a.o∧a.o < (n:Int)
    ·have e1:decide (0≤a.o∧a.o < (n:Int))=true:=decide_eq_true h2
     have e2:decide (0≤a.o∧a.o < ((n+1:Nat):Int))=true:=decide_eq_true (by omega)
     rw [e1,e2,e3];simp only [↓reduceIte,List.length_cons,Bool.false_eq_true] at ih ⊢;omega
    ·have e1:decide (0≤a.o∧a.o < (n:Int))=false:=decide_eq_false h2
     have e2:decide (0≤a.o∧a.o < ((n+1:Nat):Int))=false:=decide_eq_false (by omega)
     rw [e1,e2,e3];simp only [↓reduceIte,Bool.false_eq_true];exact ih
theorem zuy (n:Nat) (l:List Acc):(zqa n l).length≤l.length:=by rw [znp];exact List.length_filter_le _ _
theorem zlg {h:Hist} (hc:j5 h=0) (s:Int):(q7 h s).length≤3000∧∀d∈q7 h s,d.A.length≤3000∧d.B.length≤3000:=by
 have lE:=(zej hc).evs
 refine ⟨by rw [q7,List.length_map];exact Nat.le_trans (zlf h s) lE,fun d hd=> ?_⟩
 obtain ⟨t,_,rfl⟩:=List.mem_map.1 hd
 have h1:=zuy h.os.length (zp4 h t 3)
 have h2:=zuy h.os.length (zp4 h t 2)
 have h3:(zp4 h t 3).length≤h.evs.length:=zfd h t 3 h.evs.length
 have h4:(zp4 h t 2).length≤h.evs.length:=zfd h t 2 h.evs.length
 exact ⟨by show (zqa _ _).length≤_;omega,by show (zqa _ _).length≤_;omega⟩
theorem zpk {k n:Nat} {d:Dos} (h:d.A.length≤n∧d.B.length≤n):(zdw k d).length≤n:=by rw [zdw];split;exact h.2;exact h.1
theorem zk4 {k n:Nat} {d:Dos} (h:d.A.length≤n∧d.B.length≤n):(zhm k d).length≤n:=by rw [zhm];split;exact h.1;exact h.2
theorem yb8 (k:Nat) (L:List Dos):∀n,(brW k L n).length≤n * L.length
 |0=>by simp [brW]
 |n+1=>by
  have h1:=yb8 k L n
  rw [brW,List.length_append,Nat.succ_mul]
  split
  ·rename_i d _
   have h2:=List.length_filterMap_le (hdW k d) (L.take n)
   have h3:(L.take n).length≤L.length:=by rw [List.length_take];omega
   omega
  ·simp;omega
def seB (h:Hist) (s g:Int):List Brch:=if zh2 h s g=0 then brW (znj g).toNat (q7 h s) (q7 h s).length else []
theorem yi6 {h:Hist} {s g:Int} (he:zh2 h s g≠0):seB h s g= []:=if_neg he
theorem zy4 {h:Hist} {s g:Int} {k:Nat} (he:zh2 h s g=0) (hk:znj g=(k:Int)):seB h s g=brW k (q7 h s) (q7 h s).length:=by rw [seB,if_pos he,hk];rfl
theorem zvo {α:Type} {l pre rest:List α} {d:α} (h:l=pre++d::rest) (e:pre= []):l=d::rest:=by rw [h,e];rfl
def haK (h:Hist) (s:Int):Nat→Int
 |0=>0
 |k+1=>if brW k (q7 h s) (q7 h s).length= [] then bI .or .i64 (haK h s k) (zer k) else haK h s k
def haO (h:Hist) (s:Int):Int:=if zb7 h s=0 then haK h s 4 else 0
set_option maxHeartbeats 8000000 in
theorem zu6 (h:Hist) (la:Lim 4611686018427387904 h) (s g:Int):x4 Tryz.prog 15 [.agg (x5 h),iv s,iv g] (.glob 0 117 w7:: .glob 3 148 x6:: .glob 5 276 x7:: .glob 6 279 y7:: .glob 2 197 u6:: []) (fun r h'=>h'= .glob 0 117 w7:: .glob 3 148 x6:: .glob 5 276 x7:: .glob 6 279 y7:: .glob 2 197 u6:: []∧r= .tup [.agg (zah ((seB h s g).head?.getD br0)),bv (seB h s g).head?.isSome,iv (zh2 h s g)]):=by
 refine z6 Tryz.func15 rfl rfl rfl ?_
 refine rn ?_;refine z8 rfl (x9 rfl rfl rfl fun b3=> ?_)
 refine z8 rfl (y6 rfl fun b6=> ?_)
 refine z8 rfl (y6 rfl fun b7=> ?_)
 refine z8 rfl (y6 rfl fun b8=> ?_)
 refine rn ?_;refine qv rfl rfl (y4 rfl rfl (y3.qt (y3.of_fun (zov h la s g)) ((pt4 _ _ _ _ _ _).trans (.cons _ ((pt4 _ _ _ _ _ _).trans (.cons _ ((pt4 _ _ _ _ _ _).trans (.cons _ ((pt4 _ _ _ _ _ _).trans (.cons _ (pt4 _ _ _ _ _ _))))))))))) ?_
 refine rn ?_;refine z7 rfl (fun hc22=> ?_) (fun hc22=> ?_)
 ·have he:zh2 h s g≠0:=nzT hc22
  refine rn ?_;exact zfw (.cons _ _ _ _ (.agg _ _ _ _ _ _ _ rfl inferInstance inferInstance inferInstance rfl) (.cons _ _ _ _ (.one _ _ _ _ _ _ _ rfl inferInstance inferInstance rfl) (.cons _ _ _ _ (.one _ _ _ _ _ _ _ rfl inferInstance inferInstance rfl) .nil))) (.drop [_,_,_,_] _ _) ⟨rfl,by rw [yi6 he];rfl⟩
 ·have he:zh2 h s g=0:=nzF hc22
  obtain ⟨hl0,eO,k,hk,eI,eB,eG⟩:=zp1 he
  have hB:=zlg (zdy.2 (zxz hl0).1) s
  rw [eI,eO]
  refine rn ?_;refine z8 rfl (w9 rfl rfl (y3.of_fun (zy0 k (q7 h s) _)) rfl ?_)
  rintro _ _ ⟨bi,bl,rfl,rfl⟩
  refine rn ?_;refine znk (fun pend h''=>(pend=none∧(brW k (q7 h s) (q7 h s).length)= []∧h''= .box bl 101 [zde (q7 h s)]:: .box bi 3 [iv ((k:Nat):Int)]:: .glob 0 117 w7:: .box b8 32 [iv 0]:: .box b7 4 [bv false]:: .box b6 36 (zah br0):: .box b3 28 (x5 h):: .glob 3 148 x6:: .glob 5 276 x7:: .glob 6 279 y7:: .glob 2 197 u6:: [])∨(pend=some .ret∧∃d rest,(brW k (q7 h s) (q7 h s).length)=d::rest∧h''= .box bl 101 [zde (q7 h s)]:: .box bi 3 [iv ((k:Nat):Int)]:: .glob 0 117 w7:: .box b8 32 [iv 0]:: .box b7 4 [bv true]:: .box b6 36 (zah d):: .box b3 28 (x5 h):: .glob 3 148 x6:: .glob 5 276 x7:: .glob 6 279 y7:: .glob 2 197 u6:: [])) rfl (fun fn l q lp hlp=> ?_) (fun q h'' hK=> ?_) (fun q h'' cc hK=> ?_)
  ·suffices hy:∀pre d rest (x:Brch),(brW k (q7 h s) (q7 h s).length)=pre++d::rest→pre= []→y3 Tryz.prog (yv l) [.agg (zah d)] (.box bl 101 [zde (q7 h s)]:: .box bi 3 [iv ((k:Nat):Int)]:: .glob 0 117 w7::lp .ready none:: .defs q:: .box b8 32 [iv 0]:: .box b7 4 [bv false]:: .box b6 36 (zah br0):: .box b3 28 (x5 h):: .glob 3 148 x6:: .glob 5 276 x7:: .glob 6 279 y7:: .glob 2 197 u6:: []) (fun r h'=>∃x',(r=bv true∧pre++ [d]= []∧h'= .box bl 101 [zde (q7 h s)]:: .box bi 3 [iv ((k:Nat):Int)]:: .glob 0 117 w7::lp .ready none:: .defs q:: .box b8 32 [iv 0]:: .box b7 4 [bv false]:: .box b6 36 (zah br0):: .box b3 28 (x5 h):: .glob 3 148 x6:: .glob 5 276 x7:: .glob 6 279 y7:: .glob 2 197 u6:: [])∨(r=bv false∧(∃rest,(brW k (q7 h s) (q7 h s).length)=x'::rest)∧h'= .box bl 101 [zde (q7 h s)]:: .box bi 3 [iv ((k:Nat):Int)]:: .glob 0 117 w7::lp .done (some .ret):: .defs q:: .box b8 32 [iv 0]:: .box b7 4 [bv true]:: .box b6 36 (zah x'):: .box b3 28 (x5 h):: .glob 3 148 x6:: .glob 5 276 x7:: .glob 6 279 y7:: .glob 2 197 u6:: [])) by
    refine x4.mono (x4.perm ((pt2 _ _ _ _).trans (.cons _ ((pt2 _ _ _ _).trans (.cons _ (pt6 _ _ _ _ _ _ _ _))))) (zyz k hk (q7 h s) (by omega) (fun d hd=>zpk ⟨Nat.le_trans (hB.2 d hd).1 (by decide),Nat.le_trans (hB.2 d hd).2 (by decide)⟩) (fun d hd=>zk4 ⟨Nat.le_trans (hB.2 d hd).1 (by decide),Nat.le_trans (hB.2 d hd).2 (by decide)⟩) (yv l) rfl bi bl (fun pre _=>pre= []) (fun d=>∃rest,(brW k (q7 h s) (q7 h s).length)=d::rest) (fun _ _=>lp .ready none:: .defs q:: .box b8 32 [iv 0]:: .box b7 4 [bv false]:: .box b6 36 (zah br0):: .box b3 28 (x5 h):: .glob 3 148 x6:: .glob 5 276 x7:: .glob 6 279 y7:: .glob 2 197 u6:: []) (fun d=>lp .done (some .ret):: .defs q:: .box b8 32 [iv 0]:: .box b7 4 [bv true]:: .box b6 36 (zah d):: .box b3 28 (x5 h):: .glob 3 148 x6:: .glob 5 276 x7:: .glob 6 279 y7:: .glob 2 197 u6:: []) br0 rfl hy)) ?_
    rintro _ _ ⟨x,⟨hn,rfl⟩|⟨⟨rest,hn⟩,rfl⟩⟩
    ·exact ⟨none,.ready,_,((pt3 _ _ _ _ _).trans (.cons _ (pt3 _ _ _ _ _))),by simp,.inl ⟨rfl,hn,rfl⟩⟩
    ·exact ⟨some .ret,.done,_,((pt3 _ _ _ _ _).trans (.cons _ (pt3 _ _ _ _ _))),by simp,.inr ⟨rfl,x,rest,hn,rfl⟩⟩
   intro pre d rest x hL hpre
   refine y3.perm (pt3 _ _ _ _ _) (y3.ventE ?_)
   refine zed hlp rfl rfl ?_
   refine rn ?_;refine z8 rfl (y6 rfl fun b12=> ?_)
   refine rn ?_;refine ⟨[(12,pZ b12),(6,pZ b6),(7,pZ b7),(8,pZ b8)],.box b12 36 (zah d):: .box bl 101 [zde (q7 h s)]:: .box bi 3 [iv ((k:Nat):Int)]:: .glob 0 117 w7:: .defs q:: .box b8 32 [iv 0]:: .box b7 4 [bv false]:: .box b6 36 (zah br0):: .box b3 28 (x5 h):: .glob 3 148 x6:: .glob 5 276 x7:: .glob 6 279 y7:: .glob 2 197 u6:: [],v6 (zay (pt1 _ _ _)) es,?_⟩
   refine rn ?_;exact zl4 (.refl _) ⟨_,_,.trans (.perm ((pt1 _ _ _).trans (.cons _ ((pt1 _ _ _).trans (.cons _ ((pt1 _ _ _).trans (.cons _ (pt1 _ _ _))))))) _) (.drop [_] _ _),d,.inr ⟨rfl,⟨rest,zvo hL hpre⟩,rfl⟩⟩
  ·obtain ⟨_,hn,rfl⟩|⟨hc',_⟩:=hK
   rotate_left
   ·cases hc'
   refine rn ?_;exact zhy (.refl _) (.cons _ _ _ _ (.agg _ _ _ _ _ _ _ rfl inferInstance inferInstance inferInstance rfl) (.cons _ _ _ _ (.one _ _ _ _ _ _ _ rfl inferInstance inferInstance rfl) (.cons _ _ _ _ (.one _ _ _ _ _ _ _ rfl inferInstance inferInstance rfl) .nil))) (.trans (.perm (.cons _ (.cons _ ((pt1 _ _ _).trans (.cons _ ((pt1 _ _ _).trans (.cons _ ((pt1 _ _ _).trans (.cons _ (pt1 _ _ _))))))))) _) (.drop [_,_,_,_,_,_] _ _)) ⟨rfl,by rw [zy4 he eG,hn,he];rfl⟩
  ·obtain ⟨hc',_⟩|⟨hc',d,rest,hn,rfl⟩:=hK
   ·cases hc'
   obtain rfl:cc= .ret:=by simpa using hc'
   refine rn ?_;exact zhy (.refl _) (.cons _ _ _ _ (.agg _ _ _ _ _ _ _ rfl inferInstance inferInstance inferInstance rfl) (.cons _ _ _ _ (.one _ _ _ _ _ _ _ rfl inferInstance inferInstance rfl) (.cons _ _ _ _ (.one _ _ _ _ _ _ _ rfl inferInstance inferInstance rfl) .nil))) (.trans (.perm (.cons _ (.cons _ ((pt1 _ _ _).trans (.cons _ ((pt1 _ _ _).trans (.cons _ ((pt1 _ _ _).trans (.cons _ (pt1 _ _ _))))))))) _) (.drop [_,_,_,_,_,_] _ _)) ⟨rfl,by rw [zy4 he eG,hn,he];rfl⟩
set_option maxHeartbeats 8000000 in
theorem zyw (h:Hist) (la:Lim 4611686018427387904 h) (s g:Int):x4 Tryz.prog 16 [.agg (x5 h),iv s,iv g] (.glob 0 117 w7:: .glob 3 148 x6:: .glob 5 276 x7:: .glob 6 279 y7:: .glob 2 197 u6:: []) (fun r h'=>∃v:SV,h'= .row v.v 2 34 (((seB h s g).map prB).map zvk):: .glob 0 117 w7:: .glob 3 148 x6:: .glob 5 276 x7:: .glob 6 279 y7:: .glob 2 197 u6:: []∧r= .tup [.v v.v,iv (zh2 h s g)]):=by
 refine z6 Tryz.func16 rfl rfl rfl ?_
 refine rn ?_;refine z8 rfl (x9 rfl rfl rfl fun b3=> ?_)
 refine rn ?_;refine qv rfl rfl (y4 rfl rfl (y3.qt (y3.of_fun (zov h la s g)) ((pt1 _ _ _).trans (.cons _ ((pt1 _ _ _).trans (.cons _ ((pt1 _ _ _).trans (.cons _ ((pt1 _ _ _).trans (.cons _ (pt1 _ _ _))))))))))) ?_
 refine rn ?_;refine z7 rfl (fun hc22=> ?_) (fun hc22=> ?_)
 ·have he:zh2 h s g≠0:=nzT hc22
  refine rn ?_;exact zcb rfl rfl (.trans (.drop [_] _ _) (zbn 2 34 _)) ⟨⟨none,0,0⟩,by rw [yi6 he];rfl,rfl⟩
 ·have he:zh2 h s g=0:=nzF hc22
  obtain ⟨hl0,eO,k,hk,eI,eB,eG⟩:=zp1 he
  have hB:=zlg (zdy.2 (zxz hl0).1) s
  rw [eI,eO]
  refine rn ?_;refine z8 rfl (y6 rfl fun b11=> ?_)
  refine rn ?_;refine z8 rfl (w9 rfl rfl (y3.of_fun (zy0 k (q7 h s) _)) rfl ?_)
  rintro _ _ ⟨bi,bl,rfl,rfl⟩
  refine rn ?_;refine zgr (s':=⟨[(26,.fn (.func 109) [] [pZ bi,pZ bl]),(11,pZ b11)],.row (⟨none,0,0⟩:SV).v 2 34 ((([]:List (Int×Int))).map zvk):: .box bl 101 [zde (q7 h s)]:: .box bi 3 [iv (k:Int)]:: .box b11 29 [.v (⟨none,0,0⟩:SV).v]:: .box b3 28 (x5 h):: .glob 0 117 w7:: .glob 3 148 x6:: .glob 5 276 x7:: .glob 6 279 y7:: .glob 2 197 u6:: [],[]⟩) (v6 (zar 2 34) es) ?_
  refine znk (fun pend h''=>pend=none∧∃x:SV,h''= .box bl 101 [zde (q7 h s)]:: .box bi 3 [iv ((k:Nat):Int)]:: .glob 0 117 w7:: .row x.v 2 34 (((brW k (q7 h s) (q7 h s).length).map prB).map zvk):: .box b11 29 [.v x.v]:: .box b3 28 (x5 h):: .glob 3 148 x6:: .glob 5 276 x7:: .glob 6 279 y7:: .glob 2 197 u6:: []) rfl (fun fn l q lp hlp=> ?_) (fun q h'' hK=> ?_) (fun q h'' cc hK=> ?_)
  ·suffices hy:∀pre d rest (x:SV),(brW k (q7 h s) (q7 h s).length)=pre++d::rest→True→y3 Tryz.prog (yv l) [.agg (zah d)] (.box bl 101 [zde (q7 h s)]:: .box bi 3 [iv ((k:Nat):Int)]:: .glob 0 117 w7::lp .ready none:: .defs q:: .row x.v 2 34 (((pre).map prB).map zvk):: .box b11 29 [.v x.v]:: .box b3 28 (x5 h):: .glob 3 148 x6:: .glob 5 276 x7:: .glob 6 279 y7:: .glob 2 197 u6:: []) (fun r h'=>∃x':SV,(r=bv true∧True∧h'= .box bl 101 [zde (q7 h s)]:: .box bi 3 [iv ((k:Nat):Int)]:: .glob 0 117 w7::lp .ready none:: .defs q:: .row x'.v 2 34 (((pre++ [d]).map prB).map zvk):: .box b11 29 [.v x'.v]:: .box b3 28 (x5 h):: .glob 3 148 x6:: .glob 5 276 x7:: .glob 6 279 y7:: .glob 2 197 u6:: [])∨(r=bv false∧False∧h'= .box bl 101 [zde (q7 h s)]:: .box bi 3 [iv ((k:Nat):Int)]:: .glob 0 117 w7:: [])) by
    refine x4.mono (x4.perm ((pt3 _ _ _ _ _).trans (.cons _ ((pt3 _ _ _ _ _).trans (.cons _ (pt5 _ _ _ _ _ _ _))))) (zyz k hk (q7 h s) (by omega) (fun d hd=>zpk ⟨Nat.le_trans (hB.2 d hd).1 (by decide),Nat.le_trans (hB.2 d hd).2 (by decide)⟩) (fun d hd=>zk4 ⟨Nat.le_trans (hB.2 d hd).1 (by decide),Nat.le_trans (hB.2 d hd).2 (by decide)⟩) (yv l) rfl bi bl (fun _ (_:SV)=>True) (fun _=>False) (fun pre (x:SV)=>lp .ready none:: .defs q:: .row x.v 2 34 (((pre).map prB).map zvk):: .box b11 29 [.v x.v]:: .box b3 28 (x5 h):: .glob 3 148 x6:: .glob 5 276 x7:: .glob 6 279 y7:: .glob 2 197 u6:: []) (fun _=> []) ⟨none,0,0⟩ trivial hy)) ?_
    rintro _ _ ⟨x,⟨-,rfl⟩|⟨hF,_⟩⟩
    ·exact ⟨none,.ready,_,((pt3 _ _ _ _ _).trans (.cons _ (pt3 _ _ _ _ _))),by simp,rfl,x,rfl⟩
    ·exact hF.elim
   intro pre d rest x hL _
   have hpl:pre.length≤9000000:=by
    have h1:=yb8 k (q7 h s) (q7 h s).length
    have h2:(q7 h s).length * (q7 h s).length≤3000 * 3000:=Nat.mul_le_mul hB.1 hB.1
    rw [hL,List.length_append] at h1
    omega
   refine y3.perm (pt3 _ _ _ _ _) (y3.ventE ?_)
   refine zed hlp rfl rfl ?_
   refine rn ?_;refine z8 rfl (y6 rfl fun b12=> ?_)
   refine rn ?_;refine ⟨[(12,pZ b12),(11,pZ b11)],.box b12 36 (zah d):: .box bl 101 [zde (q7 h s)]:: .box bi 3 [iv ((k:Nat):Int)]:: .glob 0 117 w7:: .defs q:: .row x.v 2 34 ((pre.map prB).map zvk):: .box b11 29 [.v x.v]:: .box b3 28 (x5 h):: .glob 3 148 x6:: .glob 5 276 x7:: .glob 6 279 y7:: .glob 2 197 u6:: [],v6 (zay (pt1 _ _ _)) es,?_⟩
   refine zal ?_;refine y5 ?_;refine q1 ?_;refine q1 ?_;refine q1 ?_;refine q1 ?_;refine q1 ?_;refine qq rfl rfl (zcn (out:= [iv d.e,iv d.l]) rfl (by rfl)) ?_
   refine qv rfl rfl (q9 rfl rfl) ?_
   refine z8 rfl (j7 rfl rfl (by simp only [List.length_map,List.length_cons,List.length_nil];omega) rfl (fun s35=> ?_) (fun r hr=>by rw [List.mem_singleton.1 hr];rfl))
   refine zaj s35 fun sv hsv=> ?_
   subst hsv
   refine rn ?_;exact zg2 (.refl _) ⟨_,_,.trans (.perm ((pt1 _ _ _).trans (.cons _ ((pt1 _ _ _).trans (.cons _ ((pt1 _ _ _).trans (.cons _ (pt1 _ _ _))))))) _) (.drop [_] _ _),sv,.inl ⟨rfl,trivial,by rw [List.map_append,List.map_append];rfl⟩⟩
  ·obtain ⟨_,x,rfl⟩:=hK
   refine rn ?_;exact zhy (.refl _) (.cons _ _ _ _ (.tmp _ _ rfl) (.cons _ _ _ _ (.tmp _ _ rfl) .nil)) (.trans (.perm (.cons _ (.cons _ ((pt2 _ _ _ _).trans (.cons _ ((pt2 _ _ _ _).trans (.cons _ (pt1 _ _ _))))))) _) (.drop [_,_,_,_] _ _)) ⟨x,by rw [zy4 he eG],by rw [he];rfl⟩
  ·obtain ⟨hc',_⟩:=hK
   exact absurd hc' (by simp)
theorem ydv (h:Hist) (la:Lim 4611686018427387904 h) (s g:Int):x4 Tryz.prog 16 [.agg (x5 h),iv s,iv g] (.glob 0 117 w7:: .glob 3 148 x6:: .glob 5 276 x7:: .glob 6 279 y7:: .glob 2 197 u6:: []) (fun r h'=>h'= .glob 0 117 w7:: .glob 3 148 x6:: .glob 5 276 x7:: .glob 6 279 y7:: .glob 2 197 u6:: []∧r= .tup [ynq ((seB h s g).map prB),iv (zh2 h s g)]):=(zyw h la s g).ventR (by rintro _ _ ⟨v,rfl,rfl⟩;exact ⟨_,_,zbv [] [_],rfl,rfl⟩)
set_option maxHeartbeats 8000000 in
theorem ygv (h:Hist) (la:Lim 4611686018427387904 h) (s:Int):x4 Tryz.prog 24 [.agg (x5 h),iv s] (.glob 0 117 w7:: .glob 3 148 x6:: .glob 5 276 x7:: .glob 6 279 y7:: .glob 2 197 u6:: []) (fun r h'=>h'= .glob 0 117 w7:: .glob 3 148 x6:: .glob 5 276 x7:: .glob 6 279 y7:: .glob 2 197 u6:: []∧r= .tup [iv (haO h s),iv (zb7 h s)]):=by
 refine z6 Tryz.func24 rfl rfl rfl ?_
 refine rn ?_;refine z8 rfl (x9 rfl rfl rfl fun b2=> ?_)
 refine rn ?_;refine qv rfl rfl (y4 rfl rfl (y3.qt (y3.of_fun (zyx h la s)) ((pt2 _ _ _ _).trans (.cons _ ((pt2 _ _ _ _).trans (.cons _ ((pt2 _ _ _ _).trans (.cons _ (pt2 _ _ _ _))))))))) ?_
 refine rn ?_;refine z7 rfl (fun hc19=> ?_) (fun hc19=> ?_)
 ·have he:zb7 h s≠0:=nzT hc19
  refine rn ?_;exact zcb rfl rfl (.drop [_] _ _) ⟨rfl,by rw [haO,if_neg he];rfl⟩
 ·have hl0:zb7 h s=0:=nzF hc19
  have hB:=zlg (zdy.2 (zxz hl0).1) s
  rw [ztr hl0]
  refine rn ?_;refine ziq 4 (fun _ (_:List Nat)=>True) (fun k dfs=>⟨[(22,iv (k:Nat)),(8,iv (haK h s k)),(6,zde (q7 h s)),(21,.agg w7)],.box b2 28 (x5 h):: .glob 0 117 w7:: .glob 3 148 x6:: .glob 5 276 x7:: .glob 6 279 y7:: .glob 2 197 u6::(dfs.map Res.defs),dfs⟩) [] trivial es ?_
  intro k dfs lk _
  refine rn ?_;refine z7 rfl (fun hc23=> ?_) (fun hc23=> ?_)
  ·have hk:k < 4:=by have q:=of_decide_eq_true hc23;omega
   refine zab ?_;refine k8 ?_;refine x8 ?_;refine zal ?_;refine x8 (y5 ?_)
   refine q1 ?_;refine qq rfl rfl (zdb (i:=k) (out:=zvy k) rfl rfl hk (by show k * 3+3≤12;omega) (yk9 hk)) ?_
   refine z8 rfl (y6 rfl fun b10=> ?_)
   refine rn ?_;refine z8 rfl (y6 rfl fun b11=> ?_)
   refine rn ?_;refine z8 rfl (w9 rfl rfl (y3.of_fun (zy0 k (q7 h s) _)) rfl ?_)
   rintro _ _ ⟨bi,bl,rfl,rfl⟩
   refine rn ?_;refine znk (fun pend h''=>(pend=none∧(brW k (q7 h s) (q7 h s).length)= []∧h''= .box bl 101 [zde (q7 h s)]:: .box bi 3 [iv ((k:Nat):Int)]:: .glob 0 117 w7:: .box b11 4 [bv false]:: .box b10 116 (zvy k):: .box b2 28 (x5 h):: .glob 3 148 x6:: .glob 5 276 x7:: .glob 6 279 y7:: .glob 2 197 u6::(dfs.map Res.defs))∨(pend=some (.exit 2)∧(brW k (q7 h s) (q7 h s).length)≠ []∧h''= .box bl 101 [zde (q7 h s)]:: .box bi 3 [iv ((k:Nat):Int)]:: .glob 0 117 w7:: .box b11 4 [bv true]:: .box b10 116 (zvy k):: .box b2 28 (x5 h):: .glob 3 148 x6:: .glob 5 276 x7:: .glob 6 279 y7:: .glob 2 197 u6::(dfs.map Res.defs))) rfl (fun fn l q lp hlp=> ?_) (fun q h'' hK=> ?_) (fun q h'' cc hK=> ?_)
   ·suffices hy:∀pre d rest (x:Unit),(brW k (q7 h s) (q7 h s).length)=pre++d::rest→pre= []→y3 Tryz.prog (yv l) [.agg (zah d)] (.box bl 101 [zde (q7 h s)]:: .box bi 3 [iv ((k:Nat):Int)]:: .glob 0 117 w7::lp .ready none:: .defs q:: .box b11 4 [bv false]:: .box b10 116 (zvy k):: .box b2 28 (x5 h):: .glob 3 148 x6:: .glob 5 276 x7:: .glob 6 279 y7:: .glob 2 197 u6::(dfs.map Res.defs)) (fun r h'=>∃x':Unit,(r=bv true∧pre++ [d]= []∧h'= .box bl 101 [zde (q7 h s)]:: .box bi 3 [iv ((k:Nat):Int)]:: .glob 0 117 w7::lp .ready none:: .defs q:: .box b11 4 [bv false]:: .box b10 116 (zvy k):: .box b2 28 (x5 h):: .glob 3 148 x6:: .glob 5 276 x7:: .glob 6 279 y7:: .glob 2 197 u6::(dfs.map Res.defs))∨(r=bv false∧(brW k (q7 h s) (q7 h s).length)≠ []∧h'= .box bl 101 [zde (q7 h s)]:: .box bi 3 [iv ((k:Nat):Int)]:: .glob 0 117 w7::lp .done (some (.exit 2)):: .defs q:: .box b11 4 [bv true]:: .box b10 116 (zvy k):: .box b2 28 (x5 h):: .glob 3 148 x6:: .glob 5 276 x7:: .glob 6 279 y7:: .glob 2 197 u6::(dfs.map Res.defs))) by
     refine x4.mono (x4.perm ((pt2 _ _ _ _).trans (.cons _ ((pt2 _ _ _ _).trans (.cons _ (pt5 _ _ _ _ _ _ _))))) (zyz k hk (q7 h s) (by omega) (fun d hd=>zpk ⟨Nat.le_trans (hB.2 d hd).1 (by decide),Nat.le_trans (hB.2 d hd).2 (by decide)⟩) (fun d hd=>zk4 ⟨Nat.le_trans (hB.2 d hd).1 (by decide),Nat.le_trans (hB.2 d hd).2 (by decide)⟩) (yv l) rfl bi bl (fun pre _=>pre= []) (fun _=>(brW k (q7 h s) (q7 h s).length)≠ []) (fun _ _=>lp .ready none:: .defs q:: .box b11 4 [bv false]:: .box b10 116 (zvy k):: .box b2 28 (x5 h):: .glob 3 148 x6:: .glob 5 276 x7:: .glob 6 279 y7:: .glob 2 197 u6::(dfs.map Res.defs)) (fun _=>lp .done (some (.exit 2)):: .defs q:: .box b11 4 [bv true]:: .box b10 116 (zvy k):: .box b2 28 (x5 h):: .glob 3 148 x6:: .glob 5 276 x7:: .glob 6 279 y7:: .glob 2 197 u6::(dfs.map Res.defs)) () rfl hy)) ?_
     rintro _ _ ⟨x,⟨hn,rfl⟩|⟨hn,rfl⟩⟩
     ·exact ⟨none,.ready,_,((pt3 _ _ _ _ _).trans (.cons _ (pt3 _ _ _ _ _))),by simp,.inl ⟨rfl,hn,rfl⟩⟩
     ·exact ⟨some (.exit 2),.done,_,((pt3 _ _ _ _ _).trans (.cons _ (pt3 _ _ _ _ _))),by simp,.inr ⟨rfl,hn,rfl⟩⟩
    intro pre d rest x hL hpre
    refine y3.perm (pt3 _ _ _ _ _) (y3.ventE ?_)
    refine zed hlp rfl rfl ?_
    refine rn ?_;refine ⟨[(11,pZ b11)],.box bl 101 [zde (q7 h s)]:: .box bi 3 [iv ((k:Nat):Int)]:: .glob 0 117 w7:: .defs q:: .box b11 4 [bv false]:: .box b10 116 (zvy k):: .box b2 28 (x5 h):: .glob 3 148 x6:: .glob 5 276 x7:: .glob 6 279 y7:: .glob 2 197 u6::(dfs.map Res.defs),es,?_⟩
    refine rn ?_;exact zoy (.refl _) ⟨_,_,.perm ((pt1 _ _ _).trans (.cons _ ((pt1 _ _ _).trans (.cons _ (pt1 _ _ _))))) _,(),.inr ⟨rfl,by rw [zvo hL hpre];exact List.cons_ne_nil _ _,rfl⟩⟩
   ·obtain ⟨_,hn,rfl⟩|⟨hc',_⟩:=hK
    rotate_left
    ·cases hc'
    refine rn ?_;refine z7 rfl (fun hc31=> ?_) (fun hc31=> ?_)
    ·refine rn ?_;exact ⟨hk,q::dfs,trivial,by rw [haK,if_pos hn];exact v6 (zay ((List.Perm.cons _ (.cons _ (.cons _ ((pt1 _ _ _).trans (.cons _ ((pt1 _ _ _).trans (.cons _ (pt1 _ _ _)))))))).trans (zi6 _ [_,_,_,_,_,_,_,_,_,_] [] _))) (v6 (zcs (h1:= [_,_,_,_])) es)⟩
    ·refine rn ?_;exact absurd hc31 (by decide)
   ·obtain ⟨hc',_⟩|⟨hc',hn,rfl⟩:=hK
    ·cases hc'
    obtain rfl:cc= .exit 2:=by simpa using hc'
    refine rn ?_;refine z7 rfl (fun hc31=> ?_) (fun hc31=> ?_)
    ·refine rn ?_;exact absurd hc31 (by decide)
    ·refine rn ?_;exact ⟨hk,q::dfs,trivial,by rw [haK,if_neg hn];exact v6 (zay ((List.Perm.cons _ (.cons _ (.cons _ ((pt1 _ _ _).trans (.cons _ ((pt1 _ _ _).trans (.cons _ (pt1 _ _ _)))))))).trans (zi6 _ [_,_,_,_,_,_,_,_,_,_] [] _))) (v6 (zcs (h1:= [_,_,_,_])) es)⟩
  ·have qk:k=4:=by have q:=of_decide_eq_false hc23;omega
   subst qk
   refine rn ?_;exact zhy (List.perm_append_comm (l₁:= [_,_,_,_,_,_]) (l₂:=(dfs.map Res.defs))) (.cons _ _ _ _ (.tmp _ _ rfl) (.cons _ _ _ _ (.tmp _ _ rfl) .nil)) (.drop [_] _ _) ⟨rfl,by rw [haO,if_pos hl0,hl0];rfl⟩
instance:EqInts Tryz.prog 36 6:=⟨by kernel_rfl,fun w xs ys h1 h2=>match xs,ys,h1,h2 with
 | [a0,a1,a2,a3,a4,a5],[c0,c1,c2,c3,c4,c5],_,_=>by
   rw [run_equalIn_struct w 9999 36 _ _ (by kernel_rfl) (by kernel_rfl)]
   simp only [Program.fieldsOf,Tryz.underlying36]
   simp [Op.eqFields,part,run_equalIn_int _ 9998 3 .i64 .i64 _ _ Tryz.underlying3]
   by_cases h0:a0=c0
   case neg=>simp [h0]
   subst h0
   by_cases h1:a1=c1
   case neg=>simp [h1]
   subst h1
   by_cases h2:a2=c2
   case neg=>simp [h2]
   subst h2
   by_cases h3:a3=c3
   case neg=>simp [h3]
   subst h3
   by_cases h4:a4=c4
   case neg=>simp [h4]
   subst h4
   by_cases h5:a5=c5
   case neg=>simp [h5]
   subst h5
   simp⟩
def zia (L:List Dos) (t:Int):Int:=zbh (fun d:Dos=>d.t==t) 0 L
def isO (h:Hist) (s:Int) (z:Brch):Bool:=
 if zh2 h s z.g=0 then
  (if zia (q7 h s) z.e < 0∨zia (q7 h s) z.l≤zia (q7 h s) z.e then false
   else (match (q7 h s)[(zia (q7 h s) z.e).toNat]?,(q7 h s)[(zia (q7 h s) z.l).toNat]? with|some e,some l=>decide (z∈zhg (znj z.g).toNat e l)|_,_=>false))
 else false
theorem yky {h:Hist} {s:Int} {z:Brch} (he:zh2 h s z.g≠0):isO h s z=false:=if_neg he
theorem ykx {h:Hist} {s:Int} {z:Brch} (he:zh2 h s z.g=0) (hq:zia (q7 h s) z.e < 0∨zia (q7 h s) z.l≤zia (q7 h s) z.e):isO h s z=false:=by rw [isO,if_pos he,if_pos hq]
theorem zpe {L:List Dos} {t:Int}: -1≤zia L t∧zia L t < L.length:=by
 rw [zia]
 suffices ∀(l:List Dos) (i:Nat), -1≤zbh (fun d:Dos=>d.t==t) i l∧zbh (fun d:Dos=>d.t==t) i l < ((i+l.length:Nat):Int)∨zbh (fun d:Dos=>d.t==t) i l= -1 by
  rcases this L 0 with ⟨h1,h2⟩|h
  ·exact ⟨h1,by simpa using h2⟩
  ·rw [h];omega
 intro l
 induction l with
 |nil=>intro i;exact .inr rfl
 |cons a l ih=>
  intro i
  rw [zbh]
  split
  ·left;rw [List.length_cons];omega
  ·rcases ih (i+1) with ⟨h1,h2⟩|h
   ·left;rw [List.length_cons];omega
   ·right;exact h
theorem ykw {h:Hist} {s:Int} {z:Brch} {k i j:Nat} (he:zh2 h s z.g=0) (hk:znj z.g=(k:Int)) (h1:zia (q7 h s) z.e=(i:Int)) (h2:zia (q7 h s) z.l=(j:Int)) (hij:i < j) (hi:i < (q7 h s).length) (hj:j < (q7 h s).length):
 isO h s z=decide (z∈zhg k (q7 h s)[i] (q7 h s)[j]):=by
 rw [isO,if_pos he,if_neg (by rw [h1,h2];omega),h1,h2,hk]
 simp only [Int.toNat_natCast,List.getElem?_eq_getElem hi,List.getElem?_eq_getElem hj]
theorem zrn {full:Bool} (l:List Dos) (fv:AV) (p:Dos→Bool) (G:List Res) (hp:∀a∈l,y3 Tryz.prog fv [.agg (zbd a)] G (fun r h'=>h'=G∧r=bv (p a))) (hlen:l.length≤4611686018427387904):x4 Tryz.prog 67 [.list full 3 (l.map zbd),fv] G (fun r h'=>h'=G∧r=iv (zbh p 0 l)):=by
 refine z6 Tryz.func67 rfl rfl rfl ?_
 refine rn ?_;refine j3 (fun k:Nat=>k≤l.length∧zbh p 0 l=zbh p k (l.drop k)) (fun k=>⟨[(8,iv k),(7,iv (l.map zbd).length),(0,.list full 3 (l.map zbd)),(1,fv)],G,[]⟩) (fun k=>l.length - k) 0 ⟨Nat.zero_le _,by simp⟩
  (w8 (.cons _ _ _ rfl (.cons _ _ _ rfl (.cons _ _ _ rfl (.cons _ _ _ rfl (.nil)))))) ?_
 rintro k ⟨hk,hnot⟩
 refine rn ?_;refine z7 rfl (fun hc9=> ?_) (fun hc9=> ?_)
 ·have hk2:k < l.length:=by simpa using hc9
  have hrow:(l.map zbd)[k]? =some (zbd l[k]):=by simp [hk2]
  have hd:=List.drop_eq_getElem_cons hk2
  refine rn ?_;refine qv rfl rfl (y4 rfl rfl (hp l[k] (by simp))) ?_
  refine rn ?_;refine z7 rfl (fun hc16=> ?_) (fun hc16=> ?_)
  ·refine rn ?_;exact u9 rfl (.refl _ _) ⟨rfl,by rw [hnot,hd,zbh,if_pos hc16];rfl⟩
  ·refine rn ?_;exact ⟨k+1,⟨by omega,by rw [hnot,hd,zbh,if_neg (by simp [hc16])]⟩,(w8 (.cons _ _ _ rfl (.cons _ _ _ rfl (.cons _ _ _ rfl (.cons _ _ _ rfl (.nil)))))),by omega⟩
 ·have hk3:k=l.length:=by
   have:l.length≤k:=by simpa using hc9
   omega
  refine rn ?_;exact u9 rfl (.refl _ _) ⟨rfl,by rw [hnot,hk3,List.drop_length,zbh];rfl⟩
theorem yi3 (d:Dos) (t:Int) (b2:Nat):x4 Tryz.prog 68 [.agg (zbd d),pZ b2] (.box b2 3 [iv t]:: []) (fun r h'=>h'= .box b2 3 [iv t]:: []∧r=bv (d.t==t)):=by
 refine z6 Tryz.func68 rfl rfl rfl ?_
 refine rn ?_;refine z8 rfl (x9 rfl rfl rfl fun b2=> ?_)
 refine rn ?_;refine rq 1 ?_
 exact ⟨rfl,rfl⟩
theorem ygu (L:List Dos) (hL:L.length≤1000000) (t:Int) (b7:Nat):x4 Tryz.prog 66 [iv t,pZ b7] (.box b7 101 [zde L]:: []) (fun r h'=>h'= .box b7 101 [zde L]:: []∧r=iv (zia L t)):=by
 refine z6 Tryz.func66 rfl rfl rfl ?_
 refine rn ?_;refine z8 rfl (x9 rfl rfl rfl fun b2=> ?_)
 refine rn ?_;refine qv rfl rfl (y4 rfl rfl (y3.of_fun (zrn L _ (fun d:Dos=>d.t==t) _ (fun d _=>y3.qt (y3.of_acall (fs:= []) (cs:= [pZ b2]) (yi3 d t b2)) (.refl _)) (Nat.le_trans hL (by decide))))) ?_
 refine rn ?_;refine rq 1 ?_
 exact ⟨rfl,rfl⟩
set_option maxHeartbeats 8000000 in
theorem ymw (h:Hist) (la:Lim 4611686018427387904 h) (s:Int) (z:Brch):x4 Tryz.prog 26 [.agg (x5 h),iv s,.agg (zah z)] (.glob 0 117 w7:: .glob 3 148 x6:: .glob 5 276 x7:: .glob 6 279 y7:: .glob 2 197 u6:: []) (fun r h'=>h'= .glob 0 117 w7:: .glob 3 148 x6:: .glob 5 276 x7:: .glob 6 279 y7:: .glob 2 197 u6:: []∧r=bv (isO h s z)):=by
 refine z6 Tryz.func26 rfl rfl rfl ?_
 refine rn ?_;refine z8 rfl (x9 rfl rfl rfl fun b3=> ?_)
 refine z8 rfl (x9 rfl rfl rfl fun b5=> ?_)
 refine z8 rfl (y6 rfl fun b6=> ?_)
 refine rn ?_;refine qv rfl rfl (y4 rfl rfl (y3.qt (y3.of_fun (zov h la s z.g)) ((pt3 _ _ _ _ _).trans (.cons _ ((pt3 _ _ _ _ _).trans (.cons _ ((pt3 _ _ _ _ _).trans (.cons _ ((pt3 _ _ _ _ _).trans (.cons _ (pt3 _ _ _ _ _))))))))))) ?_
 refine rn ?_;refine z8 rfl (y6 rfl fun b7=> ?_)
 refine rn ?_;refine z7 rfl (fun hc24=> ?_) (fun hc24=> ?_)
 ·have he:zh2 h s z.g≠0:=nzT hc24
  refine rn ?_;exact zfw (.cons _ _ _ _ (.one _ _ _ _ _ _ _ rfl inferInstance inferInstance rfl) .nil) (.drop [_,_,_,_] _ _) ⟨rfl,by rw [yky he];rfl⟩
 ·have he:zh2 h s z.g=0:=nzF hc24
  obtain ⟨hl0,eO,k,hk,eI,eB,eG⟩:=zp1 he
  have hB:=zlg (zdy.2 (zxz hl0).1) s
  rw [eI,eO]
  refine rn ?_;refine j6 7 rfl ?_
  refine rn ?_;refine dv rfl rfl (by exact y4 rfl rfl (y3.qt (y3.of_acall (fs:= []) (cs:= [pZ b7]) (ygu (q7 h s) (by omega) z.e b7)) (.refl _))) ?_
  refine rn ?_;refine qv rfl rfl (y4 rfl rfl (y3.qt (y3.of_acall (fs:= []) (cs:= [pZ b7]) (ygu (q7 h s) (by omega) z.l b7)) (.refl _))) ?_
  refine rn ?_;refine y9 (fun hg6_2=> ?_) (fun hg6_2=> ?_)
  ·refine rn ?_;refine zdf rfl ?_;have hq:zia (q7 h s) z.e < 0∨zia (q7 h s) z.l≤zia (q7 h s) z.e:=by first|exact .inl (of_decide_eq_true hg6_2)|exact .inr (of_decide_eq_true hc40)
   refine rn ?_;exact zfw (.cons _ _ _ _ (.one _ _ _ _ _ _ _ rfl inferInstance inferInstance rfl) .nil) (.drop [_,_,_,_] _ _) ⟨rfl,by rw [ykx he hq];rfl⟩
  ·refine rn ?_;refine z7 rfl (fun hc40=> ?_) (fun hc40=> ?_)
   ·have hq:zia (q7 h s) z.e < 0∨zia (q7 h s) z.l≤zia (q7 h s) z.e:=by first|exact .inl (of_decide_eq_true hg6_2)|exact .inr (of_decide_eq_true hc40)
    refine rn ?_;exact zfw (.cons _ _ _ _ (.one _ _ _ _ _ _ _ rfl inferInstance inferInstance rfl) .nil) (.drop [_,_,_,_] _ _) ⟨rfl,by rw [ykx he hq];rfl⟩
   ·have n1:¬zia (q7 h s) z.e < 0:=of_decide_eq_false hg6_2
    have n2:¬zia (q7 h s) z.l≤zia (q7 h s) z.e:=of_decide_eq_false hc40
    have r1:=zpe (L:=(q7 h s)) (t:=z.e)
    have r2:=zpe (L:=(q7 h s)) (t:=z.l)
    obtain ⟨i,e1⟩:∃i:Nat,zia (q7 h s) z.e=(i:Int):=⟨_,(Int.toNat_of_nonneg (by omega)).symm⟩
    obtain ⟨j,e2⟩:∃j:Nat,zia (q7 h s) z.l=(j:Int):=⟨_,(Int.toNat_of_nonneg (by omega)).symm⟩
    have hij:i < j:=by omega
    have hi:i < (q7 h s).length:=by omega
    have hj:j < (q7 h s).length:=by omega
    have ri:=zac (f:=zbd) hi
    have rj:=zac (f:=zbd) hj
    rw [e1,e2]
    refine rn ?_;refine j6 9 rfl ?_
    refine dq rfl rfl qrA ?_;refine dq rfl rfl qrA ?_;refine dq rfl rfl qrA ?_;refine dq rfl rfl (zbl (i:=i) rfl rfl ri) ?_
    refine dq rfl rfl qrA ?_;refine dq rfl rfl qrA ?_;refine dq rfl rfl qrA ?_;refine dq rfl rfl (zbl (i:=j) rfl rfl rj) ?_
    refine rn ?_;refine z8 rfl (w9 rfl rfl (y3.of_fun (zy2 k (q7 h s)[i] (q7 h s)[j] _)) rfl ?_)
    rintro _ _ ⟨ci,ce,cl,rfl,rfl⟩
    refine rn ?_;refine znk (fun pend h''=>(pend=none∧(¬z∈(zhg k (q7 h s)[i] (q7 h s)[j]))∧h''= .box cl 121 (zbd (q7 h s)[j]):: .box ce 121 (zbd (q7 h s)[i]):: .box ci 3 [iv (k:Int)]:: .glob 0 117 w7:: .box b7 101 [zde (q7 h s)]:: .box b6 4 [bv false]:: .box b5 36 (zah z):: .box b3 28 (x5 h):: .glob 3 148 x6:: .glob 5 276 x7:: .glob 6 279 y7:: .glob 2 197 u6:: [])∨(pend=some .ret∧z∈(zhg k (q7 h s)[i] (q7 h s)[j])∧h''= .box cl 121 (zbd (q7 h s)[j]):: .box ce 121 (zbd (q7 h s)[i]):: .box ci 3 [iv (k:Int)]:: .glob 0 117 w7:: .box b7 101 [zde (q7 h s)]:: .box b6 4 [bv true]:: .box b5 36 (zah z):: .box b3 28 (x5 h):: .glob 3 148 x6:: .glob 5 276 x7:: .glob 6 279 y7:: .glob 2 197 u6:: [])) rfl (fun fn l q lp hlp=> ?_) (fun q h'' hK=> ?_) (fun q h'' cc hK=> ?_)
    ·suffices hy:∀pre d rest (x:Unit),(zhg k (q7 h s)[i] (q7 h s)[j])=pre++d::rest→(¬z∈pre)→y3 Tryz.prog (yv l) [.agg (zah d)] (.box cl 121 (zbd (q7 h s)[j]):: .box ce 121 (zbd (q7 h s)[i]):: .box ci 3 [iv (k:Int)]:: .glob 0 117 w7::lp .ready none:: .defs q:: .box b7 101 [zde (q7 h s)]:: .box b6 4 [bv false]:: .box b5 36 (zah z):: .box b3 28 (x5 h):: .glob 3 148 x6:: .glob 5 276 x7:: .glob 6 279 y7:: .glob 2 197 u6:: []) (fun r h'=>∃x':Unit,(r=bv true∧(¬z∈pre++ [d])∧h'= .box cl 121 (zbd (q7 h s)[j]):: .box ce 121 (zbd (q7 h s)[i]):: .box ci 3 [iv (k:Int)]:: .glob 0 117 w7::lp .ready none:: .defs q:: .box b7 101 [zde (q7 h s)]:: .box b6 4 [bv false]:: .box b5 36 (zah z):: .box b3 28 (x5 h):: .glob 3 148 x6:: .glob 5 276 x7:: .glob 6 279 y7:: .glob 2 197 u6:: [])∨(r=bv false∧z∈(zhg k (q7 h s)[i] (q7 h s)[j])∧h'= .box cl 121 (zbd (q7 h s)[j]):: .box ce 121 (zbd (q7 h s)[i]):: .box ci 3 [iv (k:Int)]:: .glob 0 117 w7::lp .done (some .ret):: .defs q:: .box b7 101 [zde (q7 h s)]:: .box b6 4 [bv true]:: .box b5 36 (zah z):: .box b3 28 (x5 h):: .glob 3 148 x6:: .glob 5 276 x7:: .glob 6 279 y7:: .glob 2 197 u6:: [])) by
      refine x4.mono (x4.perm ((pt2 _ _ _ _).trans (.cons _ ((pt2 _ _ _ _).trans (.cons _ ((pt2 _ _ _ _).trans (.cons _ (pt6 _ _ _ _ _ _ _ _))))))) (zy1 k hk (q7 h s)[i] (q7 h s)[j] (zpk ⟨Nat.le_trans (hB.2 _ (List.getElem_mem hi)).1 (by decide),Nat.le_trans (hB.2 _ (List.getElem_mem hi)).2 (by decide)⟩) (zk4 ⟨Nat.le_trans (hB.2 _ (List.getElem_mem hj)).1 (by decide),Nat.le_trans (hB.2 _ (List.getElem_mem hj)).2 (by decide)⟩) (yv l) ci ce cl (fun pre (_:Unit)=>¬z∈pre) (fun _=>z∈(zhg k (q7 h s)[i] (q7 h s)[j])) (fun _ _=>lp .ready none:: .defs q:: .box b7 101 [zde (q7 h s)]:: .box b6 4 [bv false]:: .box b5 36 (zah z):: .box b3 28 (x5 h):: .glob 3 148 x6:: .glob 5 276 x7:: .glob 6 279 y7:: .glob 2 197 u6:: []) (fun _=>lp .done (some .ret):: .defs q:: .box b7 101 [zde (q7 h s)]:: .box b6 4 [bv true]:: .box b5 36 (zah z):: .box b3 28 (x5 h):: .glob 3 148 x6:: .glob 5 276 x7:: .glob 6 279 y7:: .glob 2 197 u6:: []) () (by simp) hy)) ?_
      rintro _ _ ⟨x,⟨hn,rfl⟩|⟨hn,rfl⟩⟩
      ·exact ⟨none,.ready,_,((pt4 _ _ _ _ _ _).trans (.cons _ (pt4 _ _ _ _ _ _))),by simp,.inl ⟨rfl,hn,rfl⟩⟩
      ·exact ⟨some .ret,.done,_,((pt4 _ _ _ _ _ _).trans (.cons _ (pt4 _ _ _ _ _ _))),by simp,.inr ⟨rfl,hn,rfl⟩⟩
     intro pre d rest x hL hpre
     refine y3.perm (pt4 _ _ _ _ _ _) (y3.ventE ?_)
     refine zed hlp rfl rfl ?_
     refine rn ?_;refine z8 rfl (y6 rfl fun b13=> ?_)
     refine rn ?_;refine ⟨[(13,pZ b13),(5,pZ b5),(6,pZ b6)],.box b13 36 (zah d):: .box cl 121 (zbd (q7 h s)[j]):: .box ce 121 (zbd (q7 h s)[i]):: .box ci 3 [iv (k:Int)]:: .glob 0 117 w7:: .defs q:: .box b7 101 [zde (q7 h s)]:: .box b6 4 [bv false]:: .box b5 36 (zah z):: .box b3 28 (x5 h):: .glob 3 148 x6:: .glob 5 276 x7:: .glob 6 279 y7:: .glob 2 197 u6:: [],v6 (zay (pt1 _ _ _)) es,?_⟩
     refine rn ?_;refine z7 rfl (fun hc54=> ?_) (fun hc54=> ?_)
     ·have hz:d=z:=eq_of_beq (by rw [←zji];simpa using hc54)
      refine rn ?_;exact zl4 (.refl _) ⟨_,_,.trans (.perm ((pt1 _ _ _).trans (.cons _ ((pt1 _ _ _).trans (.cons _ ((pt1 _ _ _).trans (.cons _ ((pt1 _ _ _).trans (.cons _ (pt1 _ _ _))))))))) _) (.drop [_] _ _),(),.inr ⟨rfl,by rw [hL,←hz];simp,rfl⟩⟩
     ·have hz:¬d=z:=fun e=>by rw [←beq_iff_eq,←zji] at e;simp [e] at hc54
      refine rn ?_;exact zg2 (.refl _) ⟨_,_,.trans (.perm ((pt1 _ _ _).trans (.cons _ ((pt1 _ _ _).trans (.cons _ ((pt1 _ _ _).trans (.cons _ ((pt1 _ _ _).trans (.cons _ (pt1 _ _ _))))))))) _) (.drop [_] _ _),(),.inl ⟨rfl,by simp [hpre,Ne.symm hz],rfl⟩⟩
    ·obtain ⟨_,hn,rfl⟩|⟨hc',_⟩:=hK
     rotate_left
     ·cases hc'
     refine rn ?_;exact zhy (.refl _) (.cons _ _ _ _ (.one _ _ _ _ _ _ _ rfl inferInstance inferInstance rfl) .nil) (.trans (.perm (.cons _ (.cons _ (.cons _ ((pt1 _ _ _).trans (.cons _ ((pt1 _ _ _).trans (.cons _ ((pt1 _ _ _).trans (.cons _ (pt1 _ _ _)))))))))) _) (.drop [_,_,_,_,_,_,_] _ _)) ⟨rfl,by rw [ykw he eG e1 e2 hij hi hj,decide_eq_false hn];rfl⟩
    ·obtain ⟨hc',_⟩|⟨hc',hn,rfl⟩:=hK
     ·cases hc'
     obtain rfl:cc= .ret:=by simpa using hc'
     refine rn ?_;exact zhy (.refl _) (.cons _ _ _ _ (.one _ _ _ _ _ _ _ rfl inferInstance inferInstance rfl) .nil) (.trans (.perm (.cons _ (.cons _ (.cons _ ((pt1 _ _ _).trans (.cons _ ((pt1 _ _ _).trans (.cons _ ((pt1 _ _ _).trans (.cons _ (pt1 _ _ _)))))))))) _) (.drop [_,_,_,_,_,_,_] _ _)) ⟨rfl,by rw [ykw he eG e1 e2 hij hi hj,decide_eq_true hn];rfl⟩
theorem yji {f g:Bool} (l m:List Seen) (hl:l.length≤4611686018427387904) (hm:m.length≤4611686018427387904):x4 Tryz.prog 116 [.list f 3 (l.map zaz),.list g 3 (m.map zaz)] [] (fun r h'=>h'= []∧r=bv (eqF zfq l m)):=by
 refine z6 Tryz.func116 rfl rfl rfl ?_
 refine rn ?_;refine z7 rfl (fun hc10=> ?_) (fun hc10=> ?_)
 ·refine rn ?_;have hne:(l.length==m.length)=false:=beq_eq_false_iff_ne.2 fun q=>by simp [q] at hc10
  exact u9 rfl (.refl _ _) ⟨rfl,by rw [eqF,hne,Bool.false_and];rfl⟩
 ·have hlm:l.length=m.length:=by simp at hc10;omega
  refine rn ?_;refine j3 (fun k:Nat=>k≤l.length∧zm7 zfq l m=zm7 zfq (l.drop k) (m.drop k)) (fun k=>⟨[(13,iv k),(12,iv (l.map zaz).length),(0,.list f 3 (l.map zaz)),(1,.list g 3 (m.map zaz))],[],[]⟩) (fun k=>l.length - k) 0 ⟨Nat.zero_le _,by simp⟩
   (w8 (.cons _ _ _ rfl (.cons _ _ _ rfl (.cons _ _ _ rfl (.cons _ _ _ rfl (.nil)))))) ?_
  rintro k ⟨hk,hz⟩
  refine rn ?_;refine z7 rfl (fun hc14=> ?_) (fun hc14=> ?_)
  ·have hk2:k < l.length:=by simpa using hc14
   have hk3:k < m.length:=by omega
   have hrow1:(l.map zaz)[k]? =some (zaz l[k]):=by simp [hk2]
   have hrow2:(m.map zaz)[k]? =some (zaz m[k]):=by simp [hk3]
   have hd1:=List.drop_eq_getElem_cons hk2
   have hd2:=List.drop_eq_getElem_cons hk3
   refine rn ?_;refine j6 8 rfl ?_
   refine rn ?_;refine z7 rfl (fun hc24=> ?_) (fun hc24=> ?_)
   ·refine rn ?_;exact u9 rfl (.refl _ _) ⟨rfl,by rw [eqF,hz,hd1,hd2,zm7,show zfq l[k] m[k]=false from zq8 hc24,Bool.false_and,Bool.and_false];rfl⟩
   ·refine rn ?_;exact ⟨k+1,⟨by omega,by rw [hz,hd1,hd2,zm7,show zfq l[k] m[k]=true from zq9 hc24,Bool.true_and]⟩,(w8 (.cons _ _ _ rfl (.cons _ _ _ rfl (.cons _ _ _ rfl (.cons _ _ _ rfl (.nil)))))),by omega⟩
  ·have hk3:k=l.length:=by
    have:l.length≤k:=by simpa using hc14
    omega
   refine rn ?_;exact u9 rfl (.refl _ _) ⟨rfl,by rw [eqF,hz,hk3,List.drop_length,zkx,hlm,beq_self_eq_true];rfl⟩
theorem yd6 {f g:Bool} (l m:List ByteArray) (hl:l.length≤4611686018427387904) (hm:m.length≤4611686018427387904):x4 Tryz.prog 62 [.list f 1 (l.map ze7),.list g 1 (m.map ze7)] [] (fun r h'=>h'= []∧r=bv (eqF zqj l m)):=by
 refine z6 Tryz.func62 rfl rfl rfl ?_
 refine rn ?_;refine z7 rfl (fun hc10=> ?_) (fun hc10=> ?_)
 ·refine rn ?_;have hne:(l.length==m.length)=false:=beq_eq_false_iff_ne.2 fun q=>by simp [q] at hc10
  exact u9 rfl (.refl _ _) ⟨rfl,by rw [eqF,hne,Bool.false_and];rfl⟩
 ·have hlm:l.length=m.length:=by simp at hc10;omega
  refine rn ?_;refine j3 (fun k:Nat=>k≤l.length∧zm7 zqj l m=zm7 zqj (l.drop k) (m.drop k)) (fun k=>⟨[(13,iv k),(12,iv (l.map ze7).length),(0,.list f 1 (l.map ze7)),(1,.list g 1 (m.map ze7))],[],[]⟩) (fun k=>l.length - k) 0 ⟨Nat.zero_le _,by simp⟩
   (w8 (.cons _ _ _ rfl (.cons _ _ _ rfl (.cons _ _ _ rfl (.cons _ _ _ rfl (.nil)))))) ?_
  rintro k ⟨hk,hz⟩
  refine rn ?_;refine z7 rfl (fun hc14=> ?_) (fun hc14=> ?_)
  ·have hk2:k < l.length:=by simpa using hc14
   have hk3:k < m.length:=by omega
   have hrow1:(l.map ze7)[k]? =some (ze7 l[k]):=by simp [hk2]
   have hrow2:(m.map ze7)[k]? =some (ze7 m[k]):=by simp [hk3]
   have hd1:=List.drop_eq_getElem_cons hk2
   have hd2:=List.drop_eq_getElem_cons hk3
   refine rn ?_;refine j6 8 rfl ?_
   refine rn ?_;refine z7 rfl (fun hc24=> ?_) (fun hc24=> ?_)
   ·refine rn ?_;exact u9 rfl (.refl _ _) ⟨rfl,by rw [eqF,hz,hd1,hd2,zm7,show zqj l[k] m[k]=false from zq8 hc24,Bool.false_and,Bool.and_false];rfl⟩
   ·refine rn ?_;exact ⟨k+1,⟨by omega,by rw [hz,hd1,hd2,zm7,show zqj l[k] m[k]=true from zq9 hc24,Bool.true_and]⟩,(w8 (.cons _ _ _ rfl (.cons _ _ _ rfl (.cons _ _ _ rfl (.cons _ _ _ rfl (.nil)))))),by omega⟩
  ·have hk3:k=l.length:=by
    have:l.length≤k:=by simpa using hc14
    omega
   refine rn ?_;exact u9 rfl (.refl _ _) ⟨rfl,by rw [eqF,hz,hk3,List.drop_length,zkx,hlm,beq_self_eq_true];rfl⟩
theorem zwy {f g:Bool} (l m:List Int) (hl:l.length≤4611686018427387904) (hm:m.length≤4611686018427387904):x4 Tryz.prog 64 [.list f 1 (l.map zad),.list g 1 (m.map zad)] [] (fun r h'=>h'= []∧r=bv (eqF zrj l m)):=by
 refine z6 Tryz.func64 rfl rfl rfl ?_
 refine rn ?_;refine z7 rfl (fun hc10=> ?_) (fun hc10=> ?_)
 ·refine rn ?_;have hne:(l.length==m.length)=false:=beq_eq_false_iff_ne.2 fun q=>by simp [q] at hc10
  exact u9 rfl (.refl _ _) ⟨rfl,by rw [eqF,hne,Bool.false_and];rfl⟩
 ·have hlm:l.length=m.length:=by simp at hc10;omega
  refine rn ?_;refine j3 (fun k:Nat=>k≤l.length∧zm7 zrj l m=zm7 zrj (l.drop k) (m.drop k)) (fun k=>⟨[(13,iv k),(12,iv (l.map zad).length),(0,.list f 1 (l.map zad)),(1,.list g 1 (m.map zad))],[],[]⟩) (fun k=>l.length - k) 0 ⟨Nat.zero_le _,by simp⟩
   (w8 (.cons _ _ _ rfl (.cons _ _ _ rfl (.cons _ _ _ rfl (.cons _ _ _ rfl (.nil)))))) ?_
  rintro k ⟨hk,hz⟩
  refine rn ?_;refine z7 rfl (fun hc14=> ?_) (fun hc14=> ?_)
  ·have hk2:k < l.length:=by simpa using hc14
   have hk3:k < m.length:=by omega
   have hrow1:(l.map zad)[k]? =some (zad l[k]):=by simp [hk2]
   have hrow2:(m.map zad)[k]? =some (zad m[k]):=by simp [hk3]
   have hd1:=List.drop_eq_getElem_cons hk2
   have hd2:=List.drop_eq_getElem_cons hk3
   refine rn ?_;refine j6 8 rfl ?_
   refine rn ?_;refine z7 rfl (fun hc24=> ?_) (fun hc24=> ?_)
   ·refine rn ?_;exact u9 rfl (.refl _ _) ⟨rfl,by rw [eqF,hz,hd1,hd2,zm7,show zrj l[k] m[k]=false from zq8 hc24,Bool.false_and,Bool.and_false];rfl⟩
   ·refine rn ?_;exact ⟨k+1,⟨by omega,by rw [hz,hd1,hd2,zm7,show zrj l[k] m[k]=true from zq9 hc24,Bool.true_and]⟩,(w8 (.cons _ _ _ rfl (.cons _ _ _ rfl (.cons _ _ _ rfl (.cons _ _ _ rfl (.nil)))))),by omega⟩
  ·have hk3:k=l.length:=by
    have:l.length≤k:=by simpa using hc14
    omega
   refine rn ?_;exact u9 rfl (.refl _ _) ⟨rfl,by rw [eqF,hz,hk3,List.drop_length,zkx,hlm,beq_self_eq_true];rfl⟩
theorem zhz (n m:Int):x4 Tryz.prog 43 [iv n,iv m] [] (fun r h'=>h'= []∧r=bv (isB n m)):=by
 refine z6 Tryz.func43 rfl rfl rfl ?_
 refine rn ?_;refine y9 (fun hg1_2=> ?_) (fun hg1_2=> ?_)
 ·refine rn ?_;exact u9 rfl (.refl _ _) ⟨rfl,congrArg bv (by first|(simp only [isB, *,Bool.true_and,Bool.false_and,Bool.and_false,Bool.and_true,Bool.true_or,Bool.or_false,Bool.false_or,Bool.or_true,if_true,if_false,Bool.false_eq_true,Bool.not_true,Bool.not_false];done)|(simp_all [isB];done)|(simp_all [isB] <;> omega))⟩
 ·refine rn ?_;exact u9 rfl (.refl _ _) ⟨rfl,congrArg bv (by first|(simp only [isB, *,Bool.true_and,Bool.false_and,Bool.and_false,Bool.and_true,Bool.true_or,Bool.or_false,Bool.false_or,Bool.or_true,if_true,if_false,Bool.false_eq_true,Bool.not_true,Bool.not_false];done)|(simp_all [isB];done)|(simp_all [isB] <;> omega))⟩
theorem bvz0_2846 {a b:Bool} (h:a=b:=by first|(simp only [ze8, *,Bool.true_and,Bool.false_and,Bool.and_false,Bool.and_true,Bool.true_or,Bool.or_false,Bool.false_or,Bool.or_true,if_true,if_false,Bool.false_eq_true,Bool.not_true,Bool.not_false];done)|(simp_all [ze8];done)|(simp_all [ze8] <;> omega)):bv a=bv b:=congrArg bv h
theorem zfx (v:Ver) (m:Int):x4 Tryz.prog 192 [.agg (ydc v),iv m] [] (fun r h'=>h'= []∧r=bv (ze8 v m)):=by
 refine z6 Tryz.func192 rfl rfl rfl ?_
 refine rn ?_;refine z8 rfl (x9 rfl rfl rfl fun b2=> ?_)
 refine rn ?_;refine y9 (fun hg1_3=> ?_) (fun hg1_3=> ?_)
 ·refine rn ?_;exact u9 rfl (.drop [_] _ _) ⟨rfl,bvz0_2846⟩
 ·refine rn ?_;refine qv rfl rfl (y4 rfl rfl (v7 (zhz _ _) (Sbs.refl _))) ?_
  refine rn ?_;refine y9 (fun hg1_8=> ?_) (fun hg1_8=> ?_)
  ·refine rn ?_;refine y9 (fun hg1_13=> ?_) (fun hg1_13=> ?_)
   ·refine rn ?_;exact u9 rfl (.drop [_] _ _) ⟨rfl,bvz0_2846⟩
   ·refine rn ?_;exact u9 rfl (.drop [_] _ _) ⟨rfl,bvz0_2846⟩
  ·refine rn ?_;exact u9 rfl (.drop [_] _ _) ⟨rfl,bvz0_2846⟩
theorem bvz1_7590 {a b:Bool} (h:a=b:=by first|(simp only [zje, *,Bool.true_and,Bool.false_and,Bool.and_false,Bool.and_true,Bool.true_or,Bool.or_false,Bool.false_or,Bool.or_true,if_true,if_false,Bool.false_eq_true,Bool.not_true,Bool.not_false];done)|(simp_all [zje];done)|(simp_all [zje] <;> omega)):bv a=bv b:=congrArg bv h
theorem zfa (a b:Ev) (ha:a.scan.length≤4611686018427387904) (hb:b.scan.length≤4611686018427387904):x4 Tryz.prog 63 [.agg (evR a),.agg (evR b)] [] (fun r h'=>h'= []∧r=bv (zje a b)):=by
 refine z6 Tryz.func63 rfl rfl rfl ?_
 refine rn ?_;refine z8 rfl (x9 rfl rfl rfl fun b2=> ?_)
 refine z8 rfl (x9 rfl rfl rfl fun b3=> ?_)
 refine rn ?_;refine y9 (fun hg1_5=> ?_) (fun hg1_5=> ?_)
 ·refine rn ?_;refine y9 (fun hg1_12=> ?_) (fun hg1_12=> ?_)
  ·refine rn ?_;refine y9 (fun hg1_19=> ?_) (fun hg1_19=> ?_)
   ·refine rn ?_;refine y9 (fun hg1_26=> ?_) (fun hg1_26=> ?_)
    ·refine rn ?_;refine y9 (fun hg1_33=> ?_) (fun hg1_33=> ?_)
     ·refine rn ?_;refine y9 (fun hg1_40=> ?_) (fun hg1_40=> ?_)
      ·refine rn ?_;refine y9 (fun hg1_47=> ?_) (fun hg1_47=> ?_)
       ·refine rn ?_;refine qv rfl rfl (y4 rfl rfl (v7 (yji _ _ ha hb) (Sbs.refl _))) ?_
        refine rn ?_;exact u9 rfl (.drop [_,_] _ _) ⟨rfl,bvz1_7590⟩
       ·refine rn ?_;exact u9 rfl (.drop [_,_] _ _) ⟨rfl,bvz1_7590⟩
      ·refine rn ?_;exact u9 rfl (.drop [_,_] _ _) ⟨rfl,bvz1_7590⟩
     ·refine rn ?_;exact u9 rfl (.drop [_,_] _ _) ⟨rfl,bvz1_7590⟩
    ·refine rn ?_;exact u9 rfl (.drop [_,_] _ _) ⟨rfl,bvz1_7590⟩
   ·refine rn ?_;exact u9 rfl (.drop [_,_] _ _) ⟨rfl,bvz1_7590⟩
  ·refine rn ?_;exact u9 rfl (.drop [_,_] _ _) ⟨rfl,bvz1_7590⟩
 ·refine rn ?_;exact u9 rfl (.drop [_,_] _ _) ⟨rfl,bvz1_7590⟩
theorem yjk {f:Bool} (l:List Int) (n:Int) (hl:l.length≤4611686018427387904):x4 Tryz.prog 193 [.list f 1 (l.map zad),iv n] [] (fun r h'=>h'= []∧r=iv (atI n 0 l)):=by
 refine z6 Tryz.func193 rfl rfl rfl ?_
 refine rn ?_;refine j3 (fun k:Nat=>k≤l.length∧atI n 0 l=atI n k (l.drop k)) (fun k=>⟨[(9,iv k),(8,iv (l.map zad).length),(7,.list f 1 (l.map zad)),(1,iv n)],[],[]⟩) (fun k=>l.length - k) 0 ⟨Nat.zero_le _,by simp⟩
  (w8 (.cons _ _ _ rfl (.cons _ _ _ rfl (.cons _ _ _ rfl (.cons _ _ _ rfl (.nil)))))) ?_
 rintro k ⟨hk,hz⟩
 refine rn ?_;refine z7 rfl (fun hc10=> ?_) (fun hc10=> ?_)
 ·have hk2:k < l.length:=by simpa using hc10
  have hrow:(l.map zad)[k]? =some (zad l[k]):=by simp [hk2]
  have hd:=List.drop_eq_getElem_cons hk2
  refine rn ?_;refine z7 rfl (fun hc16=> ?_) (fun hc16=> ?_)
  ·have hx:l[k]=n:=by simpa using hc16
   refine rn ?_;exact u9 rfl (.refl _ _) ⟨rfl,congrArg iv (by rw [hz,hd,atI,if_pos hx])⟩
  ·have hx:¬l[k]=n:=by simpa using hc16
   refine rn ?_;exact ⟨k+1,⟨by omega,by rw [hz,hd,atI,if_neg hx]⟩,(w8 (.cons _ _ _ rfl (.cons _ _ _ rfl (.cons _ _ _ rfl (.cons _ _ _ rfl (.nil)))))),by omega⟩
 ·have hk3:k=l.length:=by
   have:l.length≤k:=by simpa using hc10
   omega
  refine rn ?_;exact u9 rfl (.refl _ _) ⟨rfl,congrArg iv (by rw [hz,hk3,List.drop_length];rfl)⟩
theorem ym6 (h:Hist) (t c:Int) (la:Lim 4611686018427387904 h):x4 Tryz.prog 154 [.agg (x5 h),iv t,iv c] [] (fun r h'=>h'= []∧r=bv (zrq h.evs t c)):=by
 refine z6 Tryz.func154 rfl rfl rfl ?_
 refine rn ?_;refine z8 rfl (x9 rfl rfl rfl fun b3=> ?_)
 refine rn ?_;refine zbp (h.evs.length) (fun k:Nat=>h.evs.all (fun e:Ev=> !(e.t==t && e.kind==c))=(h.evs.drop k).all (fun e:Ev=> !(e.t==t && e.kind==c))) (fun k=> [(12,iv k)]) [(1,_),(2,_),(10,_),(11,_)] rfl ?_
 intro k lk zk
 refine rn ?_;refine z7 rfl (fun hc13=> ?_) (fun hc13=> ?_)
 ·have hk:=zao hc13
  have rk:=zac (f:=evR) hk
  have bk:=la.evs
  refine rn ?_;refine z8 rfl (y6 rfl fun b8=> ?_)
  refine rn ?_;refine y9 (fun hg4_4=> ?_) (fun hg4_4=> ?_)
  ·refine rn ?_;refine z7 rfl (fun hc25=> ?_) (fun hc25=> ?_)
   ·refine rn ?_;refine rq 2 ?_
    exact ⟨rfl,congrArg bv (by rw [zrq,zsl hk (by simp_all)];rfl)⟩
   ·refine rn ?_;exact ⟨hk,zug hk zk (by simp_all),eA⟩
  ·refine rn ?_;refine ze2 rfl ?_;refine rn ?_;exact ⟨hk,zug hk zk (by simp_all),eA⟩
 ·have qk:=zap hc13 lk
  have ak:=zx5 qk zk
  refine rn ?_;refine rq 1 ?_
  exact ⟨rfl,congrArg bv (by rw [zrq,ak];rfl)⟩
theorem zzk (h:Hist) (t:Int) (la:Lim 4611686018427387904 h):x4 Tryz.prog 113 [.agg (x5 h),iv t] [] (fun r h'=>h'= []∧r=bv (zrq h.evs t 5)):=by
 refine z6 Tryz.func113 rfl rfl rfl ?_
 refine rn ?_;refine z8 rfl (x9 rfl rfl rfl fun b2=> ?_)
 refine rn ?_;refine qv rfl rfl (y4 rfl rfl (v7 (ym6 h t 5 la) (Sbs.refl _))) ?_
 refine rn ?_;refine rq 1 ?_
 exact ⟨rfl,rfl⟩
theorem zs4 (ts f:List Int) (hl:ts.length≤4611686018427387904) (hm:f.length≤4611686018427387904):x4 Tryz.prog 223 [zb8 ts,zb8 f] [] (fun r h'=>h'= []∧r=bv (zf9 ts f)):=by
 refine z6 Tryz.func223 rfl rfl rfl ?_
 refine rn ?_;refine zbp (ts.length) (fun k:Nat=>ygi ts f k) (fun k=> [(9,iv k)]) [(0,_),(1,_),(7,_),(8,_)] (fun j _ h=>absurd h (Nat.not_lt_zero _)) ?_
 intro k lk zk
 refine rn ?_;refine z7 rfl (fun hc10=> ?_) (fun hc10=> ?_)
 ·have hk:=zao hc10
  have rk:=zac (f:=zad) hk
  refine rn ?_;refine qv rfl rfl (y4 rfl rfl (v7 (yjk f ts[k] hm) (Sbs.refl _))) ?_
  refine rn ?_;refine y9 (fun hg4_4=> ?_) (fun hg4_4=> ?_)
  ·refine rn ?_;refine zdf rfl ?_;refine rn ?_;refine rq 0 ?_
   exact ⟨rfl,congrArg bv (by rw [ygs hk (by first|exact .inl hg4_4|exact .inr (by simpa using hc24))])⟩
  ·refine rn ?_;refine qv rfl rfl (y4 rfl rfl (v7 (yjk ts ts[k] hl) (Sbs.refl _))) ?_
   refine rn ?_;refine z7 rfl (fun hc24=> ?_) (fun hc24=> ?_)
   ·refine rn ?_;refine rq 0 ?_
    exact ⟨rfl,congrArg bv (by rw [ygs hk (by first|exact .inl hg4_4|exact .inr (by simpa using hc24))])⟩
   ·refine rn ?_;exact ⟨hk,yiv hk zk (by simp_all) (by simp_all),eA⟩
 ·have qk:=zap hc10 lk
  refine rn ?_;refine rq 0 ?_
  exact ⟨rfl,congrArg bv (by rw [ymp (qk ▸ zk)])⟩
theorem zhp (h:Hist) (x:Int) (la:Lim 1000000 h):x4 Tryz.prog 214 [.agg (x5 h),iv x] [] (fun r h'=>h'= []∧r=zb8 (za0 h x)):=by
 refine z6 Tryz.func214 rfl rfl rfl ?_
 have be:=la.evs
 have bt:=la.ts
 refine rn ?_;refine z8 rfl (x9 rfl rfl rfl fun b2=> ?_)
 refine rn0 ?_;refine x8 (y5 ?_)
 refine rn0 ?_;refine x8 ?_;refine x8 ?_;refine zgr (zar 1 3) ?_
 refine rn ?_;refine ze0 h.ts.length (fun k s=>⟨[(13,iv k),(5,.v s.v),(1,iv x),(2,pZ b2),(12,iv (h.ts.map ze7).length)],.row s.v 1 3 ((zc9 h x k).map zad):: .box b2 28 (x5 h):: [],[]⟩) ⟨none,0,0⟩ es ?_
 intro k s lk
 refine rn ?_;refine z7 rfl (fun hc14=> ?_) (fun hc14=> ?_)
 ·have hk:=zao hc14
  have rk:=zac (f:=ze7) hk
  refine rn ?_;refine zuc h.evs.length (fun j wb=>wb=(h.evs.take j).any (zbf k x)) (fun j wb=> [(19,iv j),(7,bv wb)]) [(1,_),(2,_),(5,_),(6,_),(12,_),(13,_),(17,_),(18,_)] false rfl ?_
  intro j wb lj zj
  refine rn ?_;refine z7 rfl (fun hc20=> ?_) (fun hc20=> ?_)
  ·have hj:=zao hc20
   have rj:=zac (f:=evR) hj
   refine rn ?_;refine z8 rfl (y6 rfl fun b9=> ?_)
   refine rn ?_;refine y9 (fun hg9_1=> ?_) (fun hg9_1=> ?_)
   ·refine rn ?_;refine ⟨hj,_,?_,eA⟩
    rw [zat hj,←zj]
    simp_all [zbf]
   ·refine rn ?_;refine y9 (fun hg9_5=> ?_) (fun hg9_5=> ?_)
    ·refine rn ?_;refine y9 (fun hg9_11=> ?_) (fun hg9_11=> ?_)
     ·refine rn ?_;refine ⟨hj,_,?_,eA⟩
      rw [zat hj,←zj]
      simp_all [zbf]
     ·refine rn ?_;refine ⟨hj,_,?_,eA⟩
      rw [zat hj,←zj]
      simp_all [zbf]
    ·refine rn ?_;refine ⟨hj,_,?_,eA⟩
     rw [zat hj,←zj]
     simp_all [zbf]
  ·have qj:=zap hc20 lj
   have wq:wb=h.evs.any (zbf k x):=by rw [zj,qj,List.take_length]
   refine rn ?_;refine y9 (fun hg11_1=> ?_) (fun hg11_1=> ?_)
   ·refine rn ?_;refine qv rfl rfl (y4 rfl rfl (v7 (zzk h k (la.mono (by decide))) (Sbs.refl _))) ?_
    refine rn ?_;refine z7 rfl (fun hc47=> ?_) (fun hc47=> ?_)
    ·refine rn ?_;refine qv rfl rfl (q9 rfl rfl) ?_
     refine z8 rfl (j7 rfl rfl (by simp only [List.length_map];have:=zj7 h x k;simp;omega) rfl (fun s51=> ?_) (zju [(k:Int)]))
     refine zaj s51 fun sv hsv=> ?_
     subst hsv
     refine rn ?_;first|exact ⟨hk,sv,by rw [zjl (by simp_all) (by simp_all),List.map_append];exact eA⟩|exact ⟨hk,s,by rw [zjm (by simp_all)];exact eA⟩
    ·refine rn ?_;first|exact ⟨hk,sv,by rw [zjl (by simp_all) (by simp_all),List.map_append];exact eA⟩|exact ⟨hk,s,by rw [zjm (by simp_all)];exact eA⟩
   ·refine rn ?_;refine ze2 rfl ?_;refine rn ?_;first|exact ⟨hk,sv,by rw [zjl (by simp_all) (by simp_all),List.map_append];exact eA⟩|exact ⟨hk,s,by rw [zjm (by simp_all)];exact eA⟩
 ·have qk:=zap hc14 lk
  refine rn ?_;exact u9 rfl (.trans zd3 (.drop1 _ _ _)) ⟨rfl,by rw [qk,zqg];rfl⟩
theorem yd5 (h:Hist) (i:Nat) (hi:i < h.ords.length) (la:Lim 1000000 h):x4 Tryz.prog 209 [.agg (x5 h),iv i] [] (fun r h'=>h'= []∧r=bv (zi7 h i h.ords[i])):=by
 refine z6 Tryz.func209 rfl rfl rfl ?_
 have ri:=zac (f:=zdk) hi
 have bo:=la.ords
 have si:=la.ordts h.ords[i] (List.getElem_mem hi)
 refine rn ?_;refine z8 rfl (x9 rfl rfl rfl fun b2=> ?_)
 refine rn ?_;refine z8 rfl (y6 rfl fun b5=> ?_)
 first|refine z8 rfl (zam rfl rfl rfl ?_)|refine z8 rfl (zba rfl rfl rfl rfl (Nat.le_of_ble_eq_true rfl) ?_)
 refine u5 (k8 ?_)
 refine x8 ?_;refine x8 (y5 ?_)
 refine q1 ?_;refine q1 ?_;refine q1 ?_;refine qq rfl rfl (za5 (k:=i) rfl rfl (by simp;omega)) ?_
 rw [←List.map_take]
 refine rn ?_;refine zbp ((h.ords.take i).length) (fun j:Nat=>(h.ords.take i).all (fun p:Ord=> !(p.o==h.ords[i].o))=((h.ords.take i).drop j).all (fun p:Ord=> !(p.o==h.ords[i].o))) (fun j=> [(19,iv j)]) [(2,_),(5,_),(17,_),(18,_)] rfl ?_
 intro j lj zj
 refine rn ?_;refine z7 rfl (fun hc20=> ?_) (fun hc20=> ?_)
 ·have hj:=zao hc20
  have rj:=zac (f:=zdk) hj
  have bj:(h.ords.take i).length≤4611686018427387904:=by simp;omega
  refine rn ?_;refine z8 rfl (y6 rfl fun b7=> ?_)
  refine rn ?_;refine z7 rfl (fun hc27=> ?_) (fun hc27=> ?_)
  ·refine rn ?_;refine rq 3 ?_
   exact ⟨rfl,congrArg bv (by rw [yeo (zsl hj (by simpa using hc27))])⟩
  ·refine rn ?_;exact ⟨hj,zug hj zj (by simpa using hc27),eA⟩
 ·have qj:=zap hc20 lj
  have aj:=zx5 qj zj
  refine rn ?_;refine qv rfl rfl (y4 rfl rfl (v7 (zhp h h.ords[i].o la) (Sbs.refl _))) ?_
  refine rn ?_;refine qv rfl rfl (y4 rfl rfl (v7 (zs4 h.ords[i].ts (za0 h h.ords[i].o) (Nat.le_trans si (by decide)) (Nat.le_trans (zf7 _ _) (Nat.le_trans la.ts (by decide)))) (Sbs.refl _))) ?_
  refine rn ?_;refine y9 (fun hg9_5=> ?_) (fun hg9_5=> ?_)
  ·refine rn ?_;refine rq 2 ?_
   exact ⟨rfl,congrArg bv (by rw [zvm aj];simp_all)⟩
  ·refine rn ?_;refine qv rfl rfl (y4 rfl rfl (v7 (zs4 (za0 h h.ords[i].o) h.ords[i].ts (Nat.le_trans (zf7 _ _) (Nat.le_trans la.ts (by decide))) (Nat.le_trans si (by decide))) (Sbs.refl _))) ?_
   refine rn ?_;refine rq 2 ?_
   exact ⟨rfl,congrArg bv (by rw [zvm aj];simp_all)⟩
theorem zwz (h:Hist) (x:Int) (la:Lim 1000000 h):x4 Tryz.prog 210 [.agg (x5 h),iv x] [] (fun r h'=>h'= []∧r=bv (znh h x)):=by
 refine z6 Tryz.func210 rfl rfl rfl ?_
 refine rn ?_;refine z8 rfl (x9 rfl rfl rfl fun b2=> ?_)
 refine rn ?_;refine zbp (h.ords.length) (fun j:Nat=>h.ords.all (fun p:Ord=> !(p.o==x))=(h.ords.drop j).all (fun p:Ord=> !(p.o==x))) (fun j=> [(10,iv j)]) [(1,_),(2,_),(8,_),(9,_)] rfl ?_
 intro j lj zj
 refine rn ?_;refine z7 rfl (fun hc11=> ?_) (fun hc11=> ?_)
 ·have hj:=zao hc11
  have rj:=zac (f:=zdk) hj
  have bo:=la.ords
  refine rn ?_;refine z8 rfl (y6 rfl fun b6=> ?_)
  refine rn ?_;refine z7 rfl (fun hc17=> ?_) (fun hc17=> ?_)
  ·refine rn ?_;refine rq 2 ?_
   exact ⟨rfl,congrArg bv (by rw [yka (zsl hj (by simpa using hc17))])⟩
  ·refine rn ?_;exact ⟨hj,zug hj zj (by simpa using hc17),eA⟩
 ·have qj:=zap hc11 lj
  have aj:=zx5 qj zj
  refine rn ?_;refine qv rfl rfl (y4 rfl rfl (v7 (zhp h x la) (Sbs.refl _))) ?_
  refine rn ?_;refine rq 1 ?_
  exact ⟨rfl,congrArg bv (by rw [ykb aj];simp;omega)⟩
theorem yd7 (h:Hist) (i:Nat) (hi:i < h.mats.length) (la:Lim 1000000 h):x4 Tryz.prog 211 [.agg (x5 h),iv i] [] (fun r h'=>h'= []∧r=bv (zi9 h i h.mats[i])):=by
 refine z6 Tryz.func211 rfl rfl rfl ?_
 have ri:=zac (f:=ze4) hi
 have bo:=la.mats
 have si:=la.matts h.mats[i] (List.getElem_mem hi)
 refine rn ?_;refine z8 rfl (x9 rfl rfl rfl fun b2=> ?_)
 refine rn ?_;refine z8 rfl (y6 rfl fun b5=> ?_)
 first|refine z8 rfl (zam rfl rfl rfl ?_)|refine z8 rfl (zba rfl rfl rfl rfl (Nat.le_of_ble_eq_true rfl) ?_)
 refine u5 (k8 ?_)
 refine x8 ?_;refine x8 (y5 ?_)
 refine q1 ?_;refine q1 ?_;refine q1 ?_;refine qq rfl rfl (za5 (k:=i) rfl rfl (by simp;omega)) ?_
 rw [←List.map_take]
 refine rn ?_;refine zbp ((h.mats.take i).length) (fun j:Nat=>(h.mats.take i).all (fun p:Mat=> !(p.p==h.mats[i].p && p.o==h.mats[i].o))=((h.mats.take i).drop j).all (fun p:Mat=> !(p.p==h.mats[i].p && p.o==h.mats[i].o))) (fun j=> [(18,iv j)]) [(2,_),(5,_),(16,_),(17,_)] rfl ?_
 intro j lj zj
 refine rn ?_;refine z7 rfl (fun hc19=> ?_) (fun hc19=> ?_)
 ·have hj:=zao hc19
  have rj:=zac (f:=ze4) hj
  have bj:(h.mats.take i).length≤4611686018427387904:=by simp;omega
  refine rn ?_;refine z8 rfl (y6 rfl fun b7=> ?_)
  refine rn ?_;refine y9 (fun hg5_5=> ?_) (fun hg5_5=> ?_)
  ·refine rn ?_;refine z7 rfl (fun hc33=> ?_) (fun hc33=> ?_)
   ·refine rn ?_;refine rq 3 ?_
    exact ⟨rfl,congrArg bv (by rw [ye0 (zsl hj (by simp_all))])⟩
   ·refine rn ?_;exact ⟨hj,zug hj zj (by simp_all),eA⟩
  ·refine rn ?_;refine ze2 rfl ?_;refine rn ?_;exact ⟨hj,zug hj zj (by simp_all),eA⟩
 ·have qj:=zap hc19 lj
  have aj:=zx5 qj zj
  refine rn ?_;refine j6 6 rfl ?_
  refine rn ?_;refine dv rfl rfl (by exact y4 rfl rfl (v7 (zhp h h.mats[i].o la) (Sbs.refl _))) ?_
  refine rn ?_;refine qv rfl rfl (y4 rfl rfl (v7 (zs4 h.mats[i].ts (za0 h h.mats[i].o) (Nat.le_trans si (by decide)) (Nat.le_trans (zf7 _ _) (Nat.le_trans la.ts (by decide)))) (Sbs.refl _))) ?_
  refine rn ?_;refine rq 2 ?_
  exact ⟨rfl,congrArg bv (by rw [ye1 aj])⟩
theorem yjh (h:Hist) (i:Nat) (hi:i < h.wants.length) (la:Lim 1000000 h):x4 Tryz.prog 212 [.agg (x5 h),iv i] [] (fun r h'=>h'= []∧r=bv (zjn h i h.wants[i])):=by
 refine z6 Tryz.func212 rfl rfl rfl ?_
 have ri:=zac (f:=zff) hi
 have bo:=la.wants
 refine rn ?_;refine z8 rfl (x9 rfl rfl rfl fun b2=> ?_)
 refine q1 ?_;refine u5 (k8 ?_)
 refine x8 ?_;refine x8 (y5 ?_)
 refine q1 ?_;refine q1 ?_;refine q1 ?_;refine qq rfl rfl (za5 (k:=i) rfl rfl (by simp;omega)) ?_
 rw [←List.map_take]
 refine rn ?_;refine zbp ((h.wants.take i).length) (fun j:Nat=>(h.wants.take i).all (fun p:Wan=> !(p.s==h.wants[i].s))=((h.wants.take i).drop j).all (fun p:Wan=> !(p.s==h.wants[i].s))) (fun j=> [(14,iv j)]) [(1,_),(2,_),(12,_),(13,_)] rfl ?_
 intro j lj zj
 refine rn ?_;refine z7 rfl (fun hc15=> ?_) (fun hc15=> ?_)
 ·have hj:=zao hc15
  have rj:=zac (f:=zff) hj
  have bj:(h.wants.take i).length≤4611686018427387904:=by simp;omega
  refine rn ?_;refine z8 rfl (y6 rfl fun b6=> ?_)
  refine rn ?_;refine j6 8 rfl ?_
  refine rn ?_;refine z7 rfl (fun hc26=> ?_) (fun hc26=> ?_)
  ·refine rn ?_;refine rq 2 ?_
   exact ⟨rfl,congrArg bv (by rw [yib (zsl hj (by simpa using hc26))])⟩
  ·refine rn ?_;exact ⟨hj,zug hj zj (by simpa using hc26),eA⟩
 ·have qj:=zap hc15 lj
  have aj:=zx5 qj zj
  refine rn ?_;refine zbp (h.evs.length) (fun k:Nat=>h.evs.all (fun e:Ev=> !(e.kind==1 && e.s==h.wants[i].s))=(h.evs.drop k).all (fun e:Ev=> !(e.kind==1 && e.s==h.wants[i].s))) (fun k=> [(31,iv k)]) [(1,_),(2,_),(29,_),(30,_)] rfl ?_
  intro k lk zk
  refine rn ?_;refine z7 rfl (fun hc32=> ?_) (fun hc32=> ?_)
  ·have hk:=zao hc32
   have rk:=zac (f:=evR) hk
   have bk:=la.evs
   refine rn ?_;refine z8 rfl (y6 rfl fun b8=> ?_)
   refine rn ?_;refine j6 12 rfl ?_
   refine rn ?_;refine zel (fun hg10_3=> ?_) (fun hg10_3=> ?_)
   ·refine rn ?_;refine z7 rfl (fun hc48=> ?_) (fun hc48=> ?_)
    ·refine rn ?_;refine rq 2 ?_
     exact ⟨rfl,congrArg bv (by rw [zyc aj (zsl hk (by simp_all))])⟩
    ·refine rn ?_;exact ⟨hk,zug hk zk (by simp_all),eA⟩
   ·refine rn ?_;refine ze2 rfl ?_;refine rn ?_;exact ⟨hk,zug hk zk (by simp_all),eA⟩
  ·have qk:=zap hc32 lk
   have ak:=zx5 qk zk
   refine rn ?_;refine rq 1 ?_
   exact ⟨rfl,congrArg bv (by rw [zyc aj ak])⟩
theorem zzf (e:Ev):x4 Tryz.prog 225 [.agg (evR e)] [] (fun r h'=>h'= []∧r=zka (v8 e)):=by
 refine z6 Tryz.func225 rfl rfl rfl ?_
 refine rn ?_;refine z8 rfl (x9 rfl rfl rfl fun b1=> ?_)
 refine rn ?_;refine z7 rfl (fun hc5=> ?_) (fun hc5=> ?_)
 ·refine rn ?_;refine qv rfl rfl (q9 rfl rfl) ?_
  refine rn ?_;exact u9 rfl (.trans (.drop [_] _ _) (.le Sb.unfull.le)) ⟨rfl,by rw [v8,if_pos (by simpa using hc5)];rfl⟩
 ·refine rn ?_;refine rq 1 ?_
  exact ⟨rfl,by rw [v8,if_neg (by simpa using hc5)];rfl⟩
theorem zve (l:List Ev) (t x:Int) (la:l.length≤1000000):x4 Tryz.prog 224 [zm4 l,iv t,iv x] [] (fun r h'=>h'= []∧r=zm4 (zb9 l t x)):=by
 refine z6 Tryz.func224 rfl rfl rfl ?_
 refine x8 (y5 ?_)
 refine rn0 ?_;refine x8 (y5 ?_)
 refine rn0 ?_;refine x8 ?_;refine x8 ?_;refine zgr (zar 9 66) ?_
 refine rn ?_;refine ze0 l.length (fun k s=>⟨[(12,iv k),(7,.v s.v),(1,iv t),(2,iv x),(10,zm4 l),(11,iv (l.map evR).length)],.row s.v 9 66 ((zb9 (l.take k) t x).map evR):: [],[]⟩) ⟨none,0,0⟩ es ?_
 intro k s lk
 refine rn ?_;refine z7 rfl (fun hc13=> ?_) (fun hc13=> ?_)
 ·have hk:=zao hc13
  have rk:=zac (f:=evR) hk
  refine rn ?_;refine z8 rfl (y6 rfl fun b9=> ?_)
  refine rn ?_;refine y9 (fun hg5_3=> ?_) (fun hg5_3=> ?_)
  ·refine rn ?_;refine y9 (fun hg5_9=> ?_) (fun hg5_9=> ?_)
   ·refine rn ?_;refine z7 rfl (fun hc30=> ?_) (fun hc30=> ?_)
    ·refine rn ?_;refine qv rfl rfl (q9 rfl rfl) ?_
     refine z8 rfl (j7 rfl rfl (by simp only [List.length_map];have:=yc6 l t x k;simp;omega) rfl (fun s34=> ?_) (yg4 [l[k]]))
     refine zaj s34 fun sv hsv=> ?_
     subst hsv
     refine rn ?_;first|exact ⟨hk,sv,by rw [zom hk (by simp_all),List.map_append];exact eA⟩|exact ⟨hk,s,by rw [zon hk (by simp_all)];exact eA⟩
    ·refine rn ?_;first|exact ⟨hk,sv,by rw [zom hk (by simp_all),List.map_append];exact eA⟩|exact ⟨hk,s,by rw [zon hk (by simp_all)];exact eA⟩
   ·refine rn ?_;refine ze2 rfl ?_;refine rn ?_;first|exact ⟨hk,sv,by rw [zom hk (by simp_all),List.map_append];exact eA⟩|exact ⟨hk,s,by rw [zon hk (by simp_all)];exact eA⟩
  ·refine rn ?_;refine ze2 rfl ?_;refine rn ?_;first|exact ⟨hk,sv,by rw [zom hk (by simp_all),List.map_append];exact eA⟩|exact ⟨hk,s,by rw [zon hk (by simp_all)];exact eA⟩
 ·have qk:=zap hc13 lk
  refine rn ?_;exact u9 rfl zd3 ⟨rfl,by rw [qk,List.take_length];rfl⟩
theorem bvz2_4042 {a b:Bool} (h:a=b:=by subst e1;show _=(zef l e.t && e.kind==1|| !zef l e.t && e.kind !=1);rw [←zB];clear zb zo zB zO;simp_all):bv a=bv b:=congrArg bv h
set_option maxHeartbeats 4000000 in
theorem zw3 (rl:Nat) (e:Ev) (l:List Ev) (h1:1≤rl) (h6:rl≤6) (la:l.length≤1000000) (hl:e.scan.length≤1000000):x4 Tryz.prog 213 [iv rl,.agg (evR e),zm4 l] [] (fun r h'=>h'= []∧r=bv (zc3 rl e l)):=by
 refine z6 Tryz.func213 rfl rfl rfl ?_
 refine rn ?_;refine z8 rfl (x9 rfl rfl rfl fun b4=> ?_)
 refine rn ?_;refine zuc l.length (fun j x=>x.1=(l.take j).any (fun y:Ev=>y.t==e.t && y.kind==1)∧x.2=(l.take j).any (fun y:Ev=>y.t==e.t && (y.kind==5||y.kind==6))) (fun j x=> [(21,iv j),(7,bv x.1),(8,bv x.2)]) [(0,_),(2,_),(4,_),(19,_),(20,_)] (false,false) ⟨rfl,rfl⟩ ?_
 rintro j ⟨bg,ov⟩ lj ⟨zb,zo⟩
 refine rn ?_;refine z7 rfl (fun hc22=> ?_) (fun hc22=> ?_)
 ·have hj:=zao hc22
  have rj:=zac (f:=evR) hj
  refine rn ?_;refine z8 rfl (y6 rfl fun b10=> ?_)
  refine rn ?_;refine z7 rfl (fun hc29=> ?_) (fun hc29=> ?_)
  ·refine rn ?_;refine y9 (fun hg6_1=> ?_) (fun hg6_1=> ?_)
   ·refine rn ?_;refine y9 (fun hg7_1=> ?_) (fun hg7_1=> ?_)
    ·refine rn ?_;refine ⟨hj,(_,_),?_,eA⟩
     rw [zat hj,zat hj]
     generalize (l.take j).any (fun y:Ev=>y.t==e.t && y.kind==1)=A at *
     generalize (l.take j).any (fun y:Ev=>y.t==e.t && (y.kind==5||y.kind==6))=B at *
     simp_all
    ·refine rn ?_;refine y9 (fun hg7_6=> ?_) (fun hg7_6=> ?_)
     ·refine rn ?_;refine ⟨hj,(_,_),?_,eA⟩
      rw [zat hj,zat hj]
      generalize (l.take j).any (fun y:Ev=>y.t==e.t && y.kind==1)=A at *
      generalize (l.take j).any (fun y:Ev=>y.t==e.t && (y.kind==5||y.kind==6))=B at *
      simp_all
     ·refine rn ?_;refine ⟨hj,(_,_),?_,eA⟩
      rw [zat hj,zat hj]
      generalize (l.take j).any (fun y:Ev=>y.t==e.t && y.kind==1)=A at *
      generalize (l.take j).any (fun y:Ev=>y.t==e.t && (y.kind==5||y.kind==6))=B at *
      simp_all
   ·refine rn ?_;refine y9 (fun hg7_1=> ?_) (fun hg7_1=> ?_)
    ·refine rn ?_;refine ⟨hj,(_,_),?_,eA⟩
     rw [zat hj,zat hj]
     generalize (l.take j).any (fun y:Ev=>y.t==e.t && y.kind==1)=A at *
     generalize (l.take j).any (fun y:Ev=>y.t==e.t && (y.kind==5||y.kind==6))=B at *
     simp_all
    ·refine rn ?_;refine y9 (fun hg7_6=> ?_) (fun hg7_6=> ?_)
     ·refine rn ?_;refine ⟨hj,(_,_),?_,eA⟩
      rw [zat hj,zat hj]
      generalize (l.take j).any (fun y:Ev=>y.t==e.t && y.kind==1)=A at *
      generalize (l.take j).any (fun y:Ev=>y.t==e.t && (y.kind==5||y.kind==6))=B at *
      simp_all
     ·refine rn ?_;refine ⟨hj,(_,_),?_,eA⟩
      rw [zat hj,zat hj]
      generalize (l.take j).any (fun y:Ev=>y.t==e.t && y.kind==1)=A at *
      generalize (l.take j).any (fun y:Ev=>y.t==e.t && (y.kind==5||y.kind==6))=B at *
      simp_all
  ·refine rn ?_;refine ⟨hj,(_,_),?_,eA⟩
   rw [zat hj,zat hj]
   generalize (l.take j).any (fun y:Ev=>y.t==e.t && y.kind==1)=A at *
   generalize (l.take j).any (fun y:Ev=>y.t==e.t && (y.kind==5||y.kind==6))=B at *
   simp_all
 ·have qj:=zap hc22 lj
  have zB:bg=zef l e.t:=by rw [ycd,zwb];simpa [qj] using zb
  have zO:ov=zq7 l e.t:=by rw [zq7];simpa [qj] using zo
  refine rn ?_;refine z7 rfl (fun hc49=> ?_) (fun hc49=> ?_)
  ·have e1:rl=1:=by have h:=hc49;simp at h;omega
   refine rn ?_;refine y9 (fun hg11_1=> ?_) (fun hg11_1=> ?_)
   ·refine rn ?_;refine y9 (fun hg11_6=> ?_) (fun hg11_6=> ?_)
    ·refine rn ?_;refine rq 1 ?_
     exact ⟨rfl,bvz2_4042⟩
    ·refine rn ?_;refine y9 (fun hg11_9=> ?_) (fun hg11_9=> ?_)
     ·refine rn ?_;refine rq 1 ?_
      exact ⟨rfl,bvz2_4042⟩
     ·refine rn ?_;refine rq 1 ?_
      exact ⟨rfl,bvz2_4042⟩
   ·refine rn ?_;refine y9 (fun hg11_9=> ?_) (fun hg11_9=> ?_)
    ·refine rn ?_;refine rq 1 ?_
     exact ⟨rfl,bvz2_4042⟩
    ·refine rn ?_;refine rq 1 ?_
     exact ⟨rfl,bvz2_4042⟩
  ·have n1:rl≠1:=by intro h;subst h;exact absurd hc49 (by decide)
   refine rn ?_;refine z7 rfl (fun hc66=> ?_) (fun hc66=> ?_)
   ·have e2:rl=2:=by have h:=hc66;simp at h;omega
    refine rn ?_;refine rq 1 ?_
    exact ⟨rfl,congrArg bv (by subst e2;show _=zq7 l e.t;rw [←zO])⟩
   ·have n2:rl≠2:=by intro h;subst h;exact absurd hc66 (by decide)
    refine rn ?_;refine z7 rfl (fun hc69=> ?_) (fun hc69=> ?_)
    ·have e3:rl=3:=by have h:=hc69;simp at h;omega
     refine rn ?_;refine j6 15 rfl ?_
     refine rn ?_;refine zel (fun hg15_3=> ?_) (fun hg15_3=> ?_)
     ·refine rn ?_;refine dv rfl rfl (by exact y4 rfl rfl (v7 (zve l e.t e.o la) (Sbs.refl _))) ?_
      refine dq rfl rfl qrA ?_;first|refine ds rfl rfl ?_|refine dq rfl rfl (k9 rfl rfl rfl (by rw [List.length_map];have:=zgu l e.t e.o;omega)) ?_
      refine rn ?_;refine rq 1 ?_
      exact ⟨rfl,congrArg bv (by subst e3;simp_all [zc3])⟩
     ·refine rn ?_;refine rq 1 ?_
      exact ⟨rfl,congrArg bv (by subst e3;simp_all [zc3])⟩
    ·have n3:rl≠3:=by intro h;subst h;exact absurd hc69 (by decide)
     refine rn ?_;refine qv rfl rfl (y4 rfl rfl (v7 (zzf e) (Sbs.refl _))) ?_
     refine rn ?_;refine zbp ((v8 e).length) (fun k:Nat=>OkS rl e l k) (fun k=> [(91,iv k)]) [(0,_),(2,_),(4,_),(89,_),(90,_)] (fun i _ h=>absurd h (Nat.not_lt_zero _)) ?_
     intro k lk zk
     refine rn ?_;refine z7 rfl (fun hc92=> ?_) (fun hc92=> ?_)
     ·have hk:=zao hc92
      have rk:=zac (f:=zaz) hk
      have sl:=zjq (e:=e) (Nat.le_trans hl (by decide))
      refine rn ?_;refine z8 rfl (y6 rfl fun b12=> ?_)
      refine rn ?_;refine qv rfl rfl (y4 rfl rfl (v7 (zve l e.t (v8 e)[k].o la) (Sbs.refl _))) ?_
      refine rn ?_;refine zuc l.length (fun m x=>x=((v8 e)[k].v.k==0||(l.take m).any (fun y:Ev=>y.kind==2 && y.o==(v8 e)[k].o && y.v==(v8 e)[k].v))) (fun m x=> [(108,iv m),(14,bv x)]) [(0,_),(2,_),(4,_),(11,_),(12,_),(13,_),(89,_),(90,_),(91,_),(106,_),(107,_)] ((v8 e)[k].v.k==0) (by simp) ?_
      intro m th lm zm
      refine rn ?_;refine z7 rfl (fun hc109=> ?_) (fun hc109=> ?_)
      ·have hm:=zao hc109
       have rm:=zac (f:=evR) hm
       refine rn ?_;refine z8 rfl (y6 rfl fun b16=> ?_)
       refine rn ?_;refine y9 (fun hg24_1=> ?_) (fun hg24_1=> ?_)
       ·refine rn ?_;refine ⟨hm,_,?_,eA⟩
        try rw [zcg]
        rw [zat hm]
        generalize (l.take m).any (fun y:Ev=>y.kind==2 && y.o==(v8 e)[k].o && y.v==(v8 e)[k].v)=A at *
        generalize ((v8 e)[k].v.k==0)=B at *
        generalize (l[m].v==(v8 e)[k].v)=D at *
        cases A <;> cases B <;> simp_all
       ·refine rn ?_;refine y9 (fun hg24_5=> ?_) (fun hg24_5=> ?_)
        ·refine rn ?_;refine y9 (fun hg24_12=> ?_) (fun hg24_12=> ?_)
         ·refine rn ?_;refine ⟨hm,_,?_,eA⟩
          try rw [zcg]
          rw [zat hm]
          generalize (l.take m).any (fun y:Ev=>y.kind==2 && y.o==(v8 e)[k].o && y.v==(v8 e)[k].v)=A at *
          generalize ((v8 e)[k].v.k==0)=B at *
          generalize (l[m].v==(v8 e)[k].v)=D at *
          cases A <;> cases B <;> simp_all
         ·refine rn ?_;refine ⟨hm,_,?_,eA⟩
          try rw [zcg]
          rw [zat hm]
          generalize (l.take m).any (fun y:Ev=>y.kind==2 && y.o==(v8 e)[k].o && y.v==(v8 e)[k].v)=A at *
          generalize ((v8 e)[k].v.k==0)=B at *
          generalize (l[m].v==(v8 e)[k].v)=D at *
          cases A <;> cases B <;> simp_all
        ·refine rn ?_;refine ⟨hm,_,?_,eA⟩
         try rw [zcg]
         rw [zat hm]
         generalize (l.take m).any (fun y:Ev=>y.kind==2 && y.o==(v8 e)[k].o && y.v==(v8 e)[k].v)=A at *
         generalize ((v8 e)[k].v.k==0)=B at *
         generalize (l[m].v==(v8 e)[k].v)=D at *
         cases A <;> cases B <;> simp_all
      ·have qm:=zap hc109 lm
       have zT:th=((v8 e)[k].v.k==0||zeu l (v8 e)[k].o (v8 e)[k].v):=by rw [zm,qm,List.take_length];rfl
       refine rn ?_;refine z7 rfl (fun hc134=> ?_) (fun hc134=> ?_)
       ·have e4:rl=4:=by have h:=hc134;simp at h;omega
        refine rn ?_;refine z7 rfl (fun hc137=> ?_) (fun hc137=> ?_)
        ·refine rn ?_;refine rq 2 ?_
         exact ⟨rfl,congrArg bv (by subst e4;rw [zoo (by omega) hk (by show (!((v8 e)[k].v.k==0||zeu l (v8 e)[k].o (v8 e)[k].v))=true;rw [←zT];exact hc137)])⟩
        ·refine rn ?_;exact ⟨hk,zz9 hk zk (by first|(subst e4;show (!((v8 e)[k].v.k==0||zeu l (v8 e)[k].o (v8 e)[k].v))=false;rw [←zT];exact hc137)|(subst e5;rw [zjr hw1,bne,←zcg];exact hc154)|(subst e5;exact zl3 hg31_3)|(subst e6;show ((v8 e).take k).any _=false;rw [zem,au];rfl)|(exfalso;omega)),eA⟩
       ·have n4:rl≠4:=by intro h;subst h;exact absurd hc134 (by decide)
        refine rn ?_;refine z7 rfl (fun hc138=> ?_) (fun hc138=> ?_)
        ·have e5:rl=5:=by have h:=hc138;simp at h;omega
         refine rn ?_;refine j6 13 rfl ?_
         refine rn ?_;refine zel (fun hg31_3=> ?_) (fun hg31_3=> ?_)
         ·try obtain ⟨w,hw1,hw2,hw3⟩:=zvt hg31_3
          refine dq rfl rfl qrA ?_;refine dq rfl rfl qrA ?_;refine dq rfl rfl qrA ?_;first|refine ds rfl rfl ?_|refine dq rfl rfl (k9 rfl rfl rfl (by rw [List.length_map];have:=zgu l e.t (v8 e)[k].o;omega)) ?_
          first|refine ds rfl rfl ?_|refine dq rfl rfl (zkc rfl rfl hw3 hw2) ?_
          refine rn ?_;refine z7 rfl (fun hc154=> ?_) (fun hc154=> ?_)
          ·refine rn ?_;refine rq 2 ?_
           exact ⟨rfl,congrArg bv (by subst e5;rw [zoo (by omega) hk (by rw [zjr hw1,bne,←zcg];exact hc154)])⟩
          ·refine rn ?_;exact ⟨hk,zz9 hk zk (by first|(subst e4;show (!((v8 e)[k].v.k==0||zeu l (v8 e)[k].o (v8 e)[k].v))=false;rw [←zT];exact hc137)|(subst e5;rw [zjr hw1,bne,←zcg];exact hc154)|(subst e5;exact zl3 hg31_3)|(subst e6;show ((v8 e).take k).any _=false;rw [zem,au];rfl)|(exfalso;omega)),eA⟩
         ·try obtain ⟨w,hw1,hw2,hw3⟩:=zvt hg31_3
          refine rn ?_;refine ze2 rfl ?_;refine rn ?_;exact ⟨hk,zz9 hk zk (by first|(subst e4;show (!((v8 e)[k].v.k==0||zeu l (v8 e)[k].o (v8 e)[k].v))=false;rw [←zT];exact hc137)|(subst e5;rw [zjr hw1,bne,←zcg];exact hc154)|(subst e5;exact zl3 hg31_3)|(subst e6;show ((v8 e).take k).any _=false;rw [zem,au];rfl)|(exfalso;omega)),eA⟩
        ·have n5:rl≠5:=by intro h;subst h;exact absurd hc138 (by decide)
         refine rn ?_;refine z7 rfl (fun hc155=> ?_) (fun hc155=> ?_)
         ·have e6:rl=6:=by have h:=hc155;simp at h;omega
          refine rn ?_;refine qv rfl rfl (y4 rfl rfl (v7 (zzf e) (Sbs.refl _))) ?_
          refine q1 ?_;refine qq rfl rfl (za5 (k:=k) rfl rfl (by simp;omega)) ?_
          rw [←List.map_take]
          refine rn ?_;refine zbp (((v8 e).take k).length) (fun u:Nat=>((v8 e).take k).all (fun p:Seen=> !(p.o==(v8 e)[k].o))=(((v8 e).take k).drop u).all (fun p:Seen=> !(p.o==(v8 e)[k].o))) (fun u=> [(162,iv u)]) [(0,_),(2,_),(4,_),(12,_),(89,_),(90,_),(91,_),(160,_),(161,_)] rfl ?_
          intro u lu zu
          refine rn ?_;refine z7 rfl (fun hc163=> ?_) (fun hc163=> ?_)
          ·have hu:=zao hc163
           have ru:=zac (f:=zaz) hu
           have bu:((v8 e).take k).length≤4611686018427387904:=by simp;omega
           refine rn ?_;refine z8 rfl (y6 rfl fun b18=> ?_)
           refine rn ?_;refine z7 rfl (fun hc170=> ?_) (fun hc170=> ?_)
           ·refine rn ?_;refine rq 3 ?_
            exact ⟨rfl,congrArg bv (by subst e6;rw [zoo (by omega) hk (by show ((v8 e).take k).any _=true;rw [zem,zsl hu (by simpa using hc170)];rfl)])⟩
           ·refine rn ?_;exact ⟨hu,zug hu zu (by simpa using hc170),eA⟩
          ·have qu:=zap hc163 lu
           have au:=zx5 qu zu
           refine rn ?_;exact ⟨hk,zz9 hk zk (by first|(subst e4;show (!((v8 e)[k].v.k==0||zeu l (v8 e)[k].o (v8 e)[k].v))=false;rw [←zT];exact hc137)|(subst e5;rw [zjr hw1,bne,←zcg];exact hc154)|(subst e5;exact zl3 hg31_3)|(subst e6;show ((v8 e).take k).any _=false;rw [zem,au];rfl)|(exfalso;omega)),eA⟩
         ·have n6:rl≠6:=by intro h;subst h;exact absurd hc155 (by decide)
          refine rn ?_;exact ⟨hk,zz9 hk zk (by first|(subst e4;show (!((v8 e)[k].v.k==0||zeu l (v8 e)[k].o (v8 e)[k].v))=false;rw [←zT];exact hc137)|(subst e5;rw [zjr hw1,bne,←zcg];exact hc154)|(subst e5;exact zl3 hg31_3)|(subst e6;show ((v8 e).take k).any _=false;rw [zem,au];rfl)|(exfalso;omega)),eA⟩
     ·have qk:=zap hc92 lk
      refine rn ?_;refine rq 1 ?_
      exact ⟨rfl,congrArg bv (by rw [yc8 (by omega) (qk ▸ zk)])⟩
theorem zzl (h:Hist) (rl i:Nat) (h1:1≤rl) (h10:rl≤10) (hi:i < zgg h rl) (la:Lim 1000000 h):x4 Tryz.prog 194 [.agg (x5 h),iv rl,iv i] [] (fun r h'=>h'= []∧r=bv (zgp h rl i)):=by
 refine z6 Tryz.func194 rfl rfl rfl ?_
 refine rn ?_;refine z8 rfl (x9 rfl rfl rfl fun b3=> ?_)
 refine rn ?_;refine z7 rfl (fun hc8=> ?_) (fun hc8=> ?_)
 ·obtain rfl:rl=7:=by have q:=hc8;simp at q;omega
  have hi2:i < h.ords.length:=hi
  refine rn ?_;refine qv rfl rfl (y4 rfl rfl (v7 (yd5 h i hi2 la) (Sbs.refl _))) ?_
  refine rn ?_;refine rq 1 ?_
  exact ⟨rfl,congrArg bv (by exact (zkp hi2).symm)⟩
 ·have n7:rl≠7:=by intro q;subst q;exact absurd hc8 (by decide)
  refine rn ?_;refine z7 rfl (fun hc13=> ?_) (fun hc13=> ?_)
  ·obtain rfl:rl=8:=by have q:=hc13;simp at q;omega
   have hi2:i < h.os.length:=hi
   refine rn ?_;refine qv rfl rfl (y4 rfl rfl (v7 (zwz h i la) (Sbs.refl _))) ?_
   refine rn ?_;refine rq 1 ?_
   exact ⟨rfl,congrArg bv (by exact (zkp (w:=fun x _=>znh h (x:Int)) hi2).symm)⟩
  ·have n8:rl≠8:=by intro q;subst q;exact absurd hc13 (by decide)
   refine rn ?_;refine z7 rfl (fun hc18=> ?_) (fun hc18=> ?_)
   ·obtain rfl:rl=9:=by have q:=hc18;simp at q;omega
    have hi2:i < h.mats.length:=hi
    refine rn ?_;refine qv rfl rfl (y4 rfl rfl (v7 (yd7 h i hi2 la) (Sbs.refl _))) ?_
    refine rn ?_;refine rq 1 ?_
    exact ⟨rfl,congrArg bv (by exact (zkp hi2).symm)⟩
   ·have n9:rl≠9:=by intro q;subst q;exact absurd hc18 (by decide)
    refine rn ?_;refine z7 rfl (fun hc23=> ?_) (fun hc23=> ?_)
    ·obtain rfl:rl=10:=by have q:=hc23;simp at q;omega
     have hi2:i < h.wants.length:=hi
     refine rn ?_;refine qv rfl rfl (y4 rfl rfl (v7 (yjh h i hi2 la) (Sbs.refl _))) ?_
     refine rn ?_;refine rq 1 ?_
     exact ⟨rfl,congrArg bv (by exact (zkp hi2).symm)⟩
    ·have n10:rl≠10:=by intro q;subst q;exact absurd hc23 (by decide)
     have hi2:i < h.evs.length:=by rw [←yak n7 n8 n9 n10];exact hi
     have ri:=zac (f:=evR) hi2
     have be:=la.evs
     have sc:=la.scans h.evs[i] (List.getElem_mem hi2)
     refine rn ?_;refine j6 10 rfl ?_
     refine dq rfl rfl qrA ?_;refine dq rfl rfl qrA ?_;refine dq rfl rfl qrA ?_;refine dq rfl rfl qrA ?_;refine dq rfl rfl qrA ?_;refine dq rfl rfl qrA ?_;refine dq rfl rfl qrA ?_;refine dq rfl rfl qrA ?_;refine dq rfl rfl qrA ?_;refine dq rfl rfl (za5 (k:=i) rfl rfl (by simp;omega)) ?_
     rw [←List.map_take]
     refine rn ?_;refine qv rfl rfl (y4 rfl rfl (v7 (zw3 rl h.evs[i] (h.evs.take i) h1 (by omega) (by simp;omega) sc) (Sbs.refl _))) ?_
     refine rn ?_;refine rq 1 ?_
     exact ⟨rfl,congrArg bv (by rw [yb4 n7 n8 n9 n10,zkp hi2])⟩
theorem yd4 (h:Hist) (rl:Nat) (h1:1≤rl) (h10:rl≤10) (la:Lim 1000000 h):x4 Tryz.prog 152 [.agg (x5 h),iv rl] [] (fun r h'=>h'= []∧r=iv (zvi (zek h rl))):=by
 refine z6 Tryz.func152 rfl rfl rfl ?_
 refine rn ?_;refine z8 rfl (x9 rfl rfl rfl fun b2=> ?_)
 refine rn0 ?_;refine x8 (y5 ?_)
 refine rn0 ?_;refine ze1 (⟨[(5,iv (zgg h rl)),(1,iv rl),(2,pZ b2)],.box b2 28 (x5 h):: [],[]⟩) ?_ ?_
 ·refine rn ?_;refine z7 rfl (fun hc11=> ?_) (fun hc11=> ?_)
  ·obtain rfl:rl=7:=by have q:=hc11;simp at q;omega
   refine rn ?_;first|(rw [yao];exact es)|(rw [yan];exact es)|(rw [yam];exact es)|(rw [zrc];exact es)|(rw [yal n7 n8 n9 n10];exact es)
  ·have n7:rl≠7:=by intro q;subst q;exact absurd hc11 (by decide)
   refine rn ?_;refine z7 rfl (fun hc16=> ?_) (fun hc16=> ?_)
   ·obtain rfl:rl=8:=by have q:=hc16;simp at q;omega
    refine rn ?_;first|(rw [yao];exact es)|(rw [yan];exact es)|(rw [yam];exact es)|(rw [zrc];exact es)|(rw [yal n7 n8 n9 n10];exact es)
   ·have n8:rl≠8:=by intro q;subst q;exact absurd hc16 (by decide)
    refine rn ?_;refine z7 rfl (fun hc21=> ?_) (fun hc21=> ?_)
    ·obtain rfl:rl=9:=by have q:=hc21;simp at q;omega
     refine rn ?_;first|(rw [yao];exact es)|(rw [yan];exact es)|(rw [yam];exact es)|(rw [zrc];exact es)|(rw [yal n7 n8 n9 n10];exact es)
    ·have n9:rl≠9:=by intro q;subst q;exact absurd hc21 (by decide)
     refine rn ?_;refine z7 rfl (fun hc26=> ?_) (fun hc26=> ?_)
     ·obtain rfl:rl=10:=by have q:=hc26;simp at q;omega
      refine rn ?_;first|(rw [yao];exact es)|(rw [yan];exact es)|(rw [yam];exact es)|(rw [zrc];exact es)|(rw [yal n7 n8 n9 n10];exact es)
     ·have n10:rl≠10:=by intro q;subst q;exact absurd hc26 (by decide)
      refine rn ?_;first|(rw [yao];exact es)|(rw [yan];exact es)|(rw [yam];exact es)|(rw [zrc];exact es)|(rw [yal n7 n8 n9 n10];exact es)
 ·refine rn ?_;refine zbp (zgg h rl) (fun k:Nat=>∀j,j < k→zgp h rl j=false) (fun k=> [(32,iv k)]) [(1,_),(2,_),(31,_)] (fun j q=>absurd q (Nat.not_lt_zero _)) ?_
  intro k lk zk
  refine rn ?_;refine z7 rfl (fun hc33=> ?_) (fun hc33=> ?_)
  ·have hk:k < zgg h rl:=by have q:=hc33;simp at q;omega
   have mb:zgg h rl≤1000000:=ye4 la
   refine rn ?_;refine qv rfl rfl (y4 rfl rfl (v7 (zzl h rl k h1 h10 hk la) (Sbs.refl _))) ?_
   refine rn ?_;refine z7 rfl (fun hc38=> ?_) (fun hc38=> ?_)
   ·refine rn ?_;refine rq 1 ?_
    exact ⟨rfl,by rw [zz3 hk hc38 zk];rfl⟩
   ·refine rn ?_;exact ⟨hk,yih zk hc38,eA⟩
  ·have qk:k=zgg h rl:=by have q:=hc33;simp at q;omega
   refine rn ?_;refine rq 1 ?_
   exact ⟨rfl,by rw [zxe (qk ▸ zk)];rfl⟩
theorem zz5 {o:Option Nat} (h:decide (zvi o ≥ 0)=true):∃n,o=some n:=by
 cases o with
 |none=>exact absurd h (by decide)
 |some n=>exact ⟨n,rfl⟩
theorem zz4 {o:Option Nat} (h:decide (zvi o ≥ 0)=false):o=none:=by
 cases o with
 |none=>rfl
 |some n=>have:=of_decide_eq_false h;simp [zvi] at this
theorem zw1 (h:Hist) (la:Lim 1000000 h):x4 Tryz.prog 108 [.agg (x5 h)] [] (fun r h'=>h'= []∧r= .tup [.agg (yr6 (zas (zek h) rules10)),bv (zas (zek h) rules10).isSome]):=by
 refine z6 Tryz.func108 rfl rfl rfl ?_
 refine rn ?_;refine z8 rfl (x9 rfl rfl rfl fun b1=> ?_)
 refine z8 rfl (y6 rfl fun b2=> ?_)
 refine rn ?_;refine zct (fun k:Nat=>(1≤k∧k≤11)∧zas (zek h) rules10=zas (zek h) (rules10.drop (k - 1))) (fun k=>⟨[(4,iv k),(1,pZ b1),(2,pZ b2)],(.box b2 152 [iv 0,iv 0]:: .box b1 28 (x5 h):: []),[]⟩) (fun k=>11 - k) 1 ⟨by omega,rfl⟩ es ?_
 rintro k ⟨⟨k1,k3⟩,zk⟩
 refine rn ?_;refine z7 rfl (fun hc7=> ?_) (fun hc7=> ?_)
 ·have k2:k≤10:=by have:=of_decide_eq_true hc7;omega
  refine rn ?_;refine qv rfl rfl (y4 rfl rfl (v7 (yd4 h k k1 k2 la) (Sbs.refl _))) ?_
  refine rn ?_;refine z7 rfl (fun hc14=> ?_) (fun hc14=> ?_)
  ·refine rn ?_;exact zfw (.cons _ _ _ _ (.agg _ _ _ _ _ _ _ rfl inferInstance inferInstance inferInstance rfl) (.cons _ _ _ _ (.tmp _ _ rfl) .nil)) (.drop [_,_] _ _) ⟨rfl,by
    obtain ⟨n,hp⟩:=zz5 hc14
    rw [zru k1 k2 zk hp,hp];rfl⟩
  ·refine rn ?_;exact ⟨k+1,⟨by omega,zn6 k1 k2 zk (zz4 hc14)⟩,eA,by omega⟩
 ·have k2:11≤k:=by have:=of_decide_eq_false hc7;omega
  refine rn ?_;exact zfw (.cons _ _ _ _ (.agg _ _ _ _ _ _ _ rfl inferInstance inferInstance inferInstance rfl) (.cons _ _ _ _ (.tmp _ _ rfl) .nil)) (.drop [_,_] _ _) ⟨rfl,by rw [zn7 k2 k3 zk];rfl⟩
theorem ys3 (l:Int):x4 Tryz.prog 191 [iv l] [] (fun r h'=>h'= []∧r=bv (zh6 l)):=by
 refine z6 Tryz.func191 rfl rfl rfl ?_
 refine rn ?_;refine y9 (fun hg1_2=> ?_) (fun hg1_2=> ?_)
 ·refine rn ?_;exact u9 rfl (.refl _ _) ⟨rfl,congrArg bv (by first|(simp only [zh6, *,Bool.true_and,Bool.false_and,Bool.and_false,Bool.and_true,Bool.true_or,Bool.or_false,Bool.false_or,Bool.or_true,if_true,if_false,Bool.false_eq_true,Bool.not_true,Bool.not_false];done)|(simp_all [zh6];done)|(simp_all [zh6] <;> omega))⟩
 ·refine rn ?_;exact u9 rfl (.refl _ _) ⟨rfl,congrArg bv (by first|(simp only [zh6, *,Bool.true_and,Bool.false_and,Bool.and_false,Bool.and_true,Bool.true_or,Bool.or_false,Bool.false_or,Bool.or_true,if_true,if_false,Bool.false_eq_true,Bool.not_true,Bool.not_false];done)|(simp_all [zh6];done)|(simp_all [zh6] <;> omega))⟩
theorem bvz3_6222 {a b:Bool} (h:a=b:=by first|(simp only [zrh, *,Bool.true_and,Bool.false_and,Bool.and_false,Bool.and_true,Bool.true_or,Bool.or_false,Bool.false_or,Bool.or_true,if_true,if_false,Bool.false_eq_true,Bool.not_true,Bool.not_false];done)|(simp_all [zrh];done)|(simp_all [zrh] <;> omega)):bv a=bv b:=congrArg bv h
theorem zw5 (c:Int):x4 Tryz.prog 207 [.v (.int .i32 c)] [] (fun r h'=>h'= []∧r=bv (zrh c)):=by
 refine z6 Tryz.func207 rfl rfl rfl ?_
 refine rn ?_;refine y9 (fun hg1_2=> ?_) (fun hg1_2=> ?_)
 ·refine rn ?_;refine y9 (fun hg1_6=> ?_) (fun hg1_6=> ?_)
  ·refine rn ?_;exact u9 rfl (.refl _ _) ⟨rfl,bvz3_6222⟩
  ·refine rn ?_;refine y9 (fun hg1_9=> ?_) (fun hg1_9=> ?_)
   ·refine rn ?_;refine y9 (fun hg1_14=> ?_) (fun hg1_14=> ?_)
    ·refine rn ?_;exact u9 rfl (.refl _ _) ⟨rfl,bvz3_6222⟩
    ·refine rn ?_;refine y9 (fun hg1_18=> ?_) (fun hg1_18=> ?_)
     ·refine rn ?_;exact u9 rfl (.refl _ _) ⟨rfl,bvz3_6222⟩
     ·refine rn ?_;exact u9 rfl (.refl _ _) ⟨rfl,bvz3_6222⟩
   ·refine rn ?_;refine y9 (fun hg1_18=> ?_) (fun hg1_18=> ?_)
    ·refine rn ?_;exact u9 rfl (.refl _ _) ⟨rfl,bvz3_6222⟩
    ·refine rn ?_;exact u9 rfl (.refl _ _) ⟨rfl,bvz3_6222⟩
 ·refine rn ?_;refine y9 (fun hg1_9=> ?_) (fun hg1_9=> ?_)
  ·refine rn ?_;refine y9 (fun hg1_14=> ?_) (fun hg1_14=> ?_)
   ·refine rn ?_;exact u9 rfl (.refl _ _) ⟨rfl,bvz3_6222⟩
   ·refine rn ?_;refine y9 (fun hg1_18=> ?_) (fun hg1_18=> ?_)
    ·refine rn ?_;exact u9 rfl (.refl _ _) ⟨rfl,bvz3_6222⟩
    ·refine rn ?_;exact u9 rfl (.refl _ _) ⟨rfl,bvz3_6222⟩
  ·refine rn ?_;refine y9 (fun hg1_18=> ?_) (fun hg1_18=> ?_)
   ·refine rn ?_;exact u9 rfl (.refl _ _) ⟨rfl,bvz3_6222⟩
   ·refine rn ?_;exact u9 rfl (.refl _ _) ⟨rfl,bvz3_6222⟩
theorem zq0 (c:Int):x4 Tryz.prog 208 [.v (.int .i32 c)] [] (fun r h'=>h'= []∧r=bv (zjj c)):=by
 refine z6 Tryz.func208 rfl rfl rfl ?_
 refine rn ?_;refine y9 (fun hg1_2=> ?_) (fun hg1_2=> ?_)
 ·refine rn ?_;exact u9 rfl (.refl _ _) ⟨rfl,congrArg bv (by first|(simp only [zjj, *,Bool.true_and,Bool.false_and,Bool.and_false,Bool.and_true,Bool.true_or,Bool.or_false,Bool.false_or,Bool.or_true,if_true,if_false,Bool.false_eq_true,Bool.not_true,Bool.not_false];done)|(simp_all [zjj];done)|(simp_all [zjj] <;> omega))⟩
 ·refine rn ?_;exact u9 rfl (.refl _ _) ⟨rfl,congrArg bv (by first|(simp only [zjj, *,Bool.true_and,Bool.false_and,Bool.and_false,Bool.and_true,Bool.true_or,Bool.or_false,Bool.false_or,Bool.or_true,if_true,if_false,Bool.false_eq_true,Bool.not_true,Bool.not_false];done)|(simp_all [zjj];done)|(simp_all [zjj] <;> omega))⟩
theorem ym5 {f:Bool} (h:Hist) (l:List Int) (hl:l.length≤4611686018427387904):x4 Tryz.prog 149 [.agg (x5 h),.list f 1 (l.map zad)] [] (fun r h'=>h'= []∧r=bv (zgb h l)):=by
 refine z6 Tryz.func149 rfl rfl rfl ?_
 refine rn ?_;refine z8 rfl (x9 rfl rfl rfl fun b2=> ?_)
 refine rn ?_;refine j3 (fun k:Nat=>k≤l.length∧l.all (fun t=>isB t h.ts.length)=(l.drop k).all (fun t=>isB t h.ts.length)) (fun k=>⟨[(9,iv k),(8,iv (l.map zad).length),(7,.list f 1 (l.map zad)),(1,.list f 1 (l.map zad)),(2,pZ b2)],[.box b2 28 (x5 h)],[]⟩) (fun k=>l.length - k) 0 ⟨Nat.zero_le _,by simp⟩
  (w8 (.cons _ _ _ rfl (.cons _ _ _ rfl (.cons _ _ _ rfl (.cons _ _ _ rfl (.cons _ _ _ rfl (.nil))))))) ?_
 rintro k ⟨hk,hz⟩
 refine rn ?_;refine z7 rfl (fun hc10=> ?_) (fun hc10=> ?_)
 ·have hk2:k < l.length:=by simpa using hc10
  have hrow:(l.map zad)[k]? =some (zad l[k]):=by simp [hk2]
  have hd:=List.drop_eq_getElem_cons hk2
  refine rn ?_;refine qv rfl rfl (y4 rfl rfl (v7 (zhz _ _) (Sbs.refl _))) ?_
  refine rn ?_;refine z7 rfl (fun hc18=> ?_) (fun hc18=> ?_)
  ·have hx:isB l[k] h.ts.length=false:=by simpa using hc18
   refine rn ?_;exact u9 rfl (.drop [_] _ _) ⟨rfl,congrArg bv (by rw [zgb,hz,hd,List.all_cons,hx,Bool.false_and];rfl)⟩
  ·have hx:isB l[k] h.ts.length=true:=by simpa using hc18
   refine rn ?_;exact ⟨k+1,⟨by omega,by rw [hz,hd,List.all_cons,hx,Bool.true_and]⟩,(w8 (.cons _ _ _ rfl (.cons _ _ _ rfl (.cons _ _ _ rfl (.cons _ _ _ rfl (.cons _ _ _ rfl (.nil))))))),by omega⟩
 ·have hk3:k=l.length:=by
   have:l.length≤k:=by simpa using hc10
   omega
  refine rn ?_;exact u9 rfl (.drop [_] _ _) ⟨rfl,congrArg bv (by rw [zgb,hz,hk3,List.drop_length];simp)⟩
theorem bvz4_3860 {a b:Bool} (h:a=b:=by first|(simp only [zjs,zub, *,Bool.true_and,Bool.false_and,Bool.and_false,Bool.and_true,Bool.true_or,Bool.or_false,Bool.false_or,Bool.or_true,if_true,if_false,Bool.false_eq_true,Bool.not_true,Bool.not_false];done)|(simp_all [zjs,zub];done)|(simp_all [zjs,zub] <;> omega)):bv a=bv b:=congrArg bv h
theorem zww (h:Hist) (e:Ev) (hl:e.scan.length≤4611686018427387904):x4 Tryz.prog 148 [.agg (x5 h),.agg (evR e)] [] (fun r h'=>h'= []∧r=bv (zjs h e)):=by
 refine z6 Tryz.func148 rfl rfl rfl ?_
 refine rn ?_;refine z8 rfl (x9 rfl rfl rfl fun b2=> ?_)
 refine z8 rfl (x9 rfl rfl rfl fun b3=> ?_)
 refine rn ?_;refine qv rfl rfl (y4 rfl rfl (v7 (zhz _ _) (Sbs.refl _))) ?_
 refine rn ?_;refine z7 rfl (fun hc16=> ?_) (fun hc16=> ?_)
 ·refine rn ?_;exact u9 rfl (.drop [_,_] _ _) ⟨rfl,bvz4_3860⟩
 ·refine rn ?_;refine z8 rfl (y6 rfl fun b6=> ?_)
  refine rn ?_;refine z7 rfl (fun hc24=> ?_) (fun hc24=> ?_)
  ·refine rn ?_;refine zd9 6 [(b6,66,_)] rfl (List.perm_append_comm (l₁:= [_])) ?_
   refine rn ?_;refine dw 0 rfl rfl rfl rfl rfl (Nat.le_of_ble_eq_true rfl) ?_
   refine rn2 ?_;show zcw _ _ _ _ _ _ ⟨_,.box b6 66 [iv e.kind,iv e.t,iv e.s,iv 0,iv 0,iv 0,iv 0,iv 0,.v (.slice none 0 0)]:: .box b3 66 (evR e):: .box b2 28 (x5 h):: [],_⟩
   refine rn0 ?_;refine x8 ?_;show aw _ _ _ _ _ ⟨_,.box b6 66 [iv e.kind,iv e.t,iv e.s,iv e.l,iv 0,iv 0,iv 0,iv 0,.v (.slice none 0 0)]:: .box b3 66 (evR e):: .box b2 28 (x5 h):: [],_⟩
   refine rn ?_;refine qv rfl rfl (y4 rfl rfl (v7 (zfa ⟨e.kind,e.t,e.s,e.l,0,⟨0,0⟩,0,[]⟩ e (by simp [hl]) hl) (by exact ⟨(by exact Sb.aggs (by exact ⟨.refl _,.refl _,.refl _,.refl _,.refl _,.refl _,.refl _,.refl _,.nil _ _,trivial⟩)),.refl _,trivial⟩))) ?_
   refine rn ?_;refine y9 (fun hg8_3=> ?_) (fun hg8_3=> ?_)
   ·refine rn ?_;refine qv rfl rfl (y4 rfl rfl (v7 (zhz _ _) (Sbs.refl _))) ?_
    refine rn ?_;refine y9 (fun hg8_11=> ?_) (fun hg8_11=> ?_)
    ·refine rn ?_;refine qv rfl rfl (y4 rfl rfl (v7 (ys3 _) (Sbs.refl _))) ?_
     refine rn ?_;exact u9 rfl (.drop [_,_,_] _ _) ⟨rfl,bvz4_3860⟩
    ·refine rn ?_;exact u9 rfl (.drop [_,_,_] _ _) ⟨rfl,bvz4_3860⟩
   ·refine rn ?_;exact u9 rfl (.drop [_,_,_] _ _) ⟨rfl,bvz4_3860⟩
  ·refine rn ?_;refine z7 rfl (fun hc48=> ?_) (fun hc48=> ?_)
   ·refine rn ?_;refine z7 rfl (fun hc48=> ?_) (fun hc48=> ?_)
    ·refine rn ?_;refine zd9 6 [(b6,66,_)] rfl (List.perm_append_comm (l₁:= [_])) ?_
     refine rn ?_;refine dw 0 rfl rfl rfl rfl rfl (Nat.le_of_ble_eq_true rfl) ?_
     refine rn2 ?_;show zcw _ _ _ _ _ _ ⟨_,.box b6 66 [iv e.kind,iv e.t,iv 0,iv 0,iv e.o,iv 0,iv 0,iv 0,.v (.slice none 0 0)]:: .box b3 66 (evR e):: .box b2 28 (x5 h):: [],_⟩
     refine rn0 ?_;refine x8 ?_;refine x8 ?_;show aw _ _ _ _ _ ⟨_,.box b6 66 [iv e.kind,iv e.t,iv 0,iv 0,iv e.o,iv e.v.t,iv e.v.k,iv 0,.v (.slice none 0 0)]:: .box b3 66 (evR e):: .box b2 28 (x5 h):: [],_⟩
     refine rn ?_;refine y9 (fun hg12_3=> ?_) (fun hg12_3=> ?_)
     ·refine rn ?_;refine y9 (fun hg12_8=> ?_) (fun hg12_8=> ?_)
      ·refine rn ?_;refine zdf rfl ?_;refine rn ?_;exact u9 rfl (.drop [_,_,_] _ _) ⟨rfl,bvz4_3860⟩
      ·refine rn ?_;refine z7 rfl (fun hc73=> ?_) (fun hc73=> ?_)
       ·refine rn ?_;exact u9 rfl (.drop [_,_,_] _ _) ⟨rfl,bvz4_3860⟩
       ·refine rn ?_;refine qv rfl rfl (y4 rfl rfl (v7 (zfa ⟨e.kind,e.t,0,0,e.o,e.v,0,[]⟩ e (by simp [hl]) hl) (by exact ⟨(by exact Sb.aggs (by exact ⟨.refl _,.refl _,.refl _,.refl _,.refl _,.refl _,.refl _,.refl _,.nil _ _,trivial⟩)),.refl _,trivial⟩))) ?_
        refine rn ?_;refine y9 (fun hg14_3=> ?_) (fun hg14_3=> ?_)
        ·refine rn ?_;refine qv rfl rfl (y4 rfl rfl (v7 (zhz _ _) (Sbs.refl _))) ?_
         refine rn ?_;refine y9 (fun hg14_11=> ?_) (fun hg14_11=> ?_)
         ·refine rn ?_;refine qv rfl rfl (y4 rfl rfl (v7 (zfx e.v _) (Sbs.refl _))) ?_
          refine rn ?_;exact u9 rfl (.drop [_,_,_] _ _) ⟨rfl,bvz4_3860⟩
         ·refine rn ?_;exact u9 rfl (.drop [_,_,_] _ _) ⟨rfl,bvz4_3860⟩
        ·refine rn ?_;exact u9 rfl (.drop [_,_,_] _ _) ⟨rfl,bvz4_3860⟩
     ·refine rn ?_;refine ze2 rfl ?_;refine rn ?_;refine qv rfl rfl (y4 rfl rfl (v7 (zfa ⟨e.kind,e.t,0,0,e.o,e.v,0,[]⟩ e (by simp [hl]) hl) (by exact ⟨(by exact Sb.aggs (by exact ⟨.refl _,.refl _,.refl _,.refl _,.refl _,.refl _,.refl _,.refl _,.nil _ _,trivial⟩)),.refl _,trivial⟩))) ?_
      refine rn ?_;refine y9 (fun hg14_3=> ?_) (fun hg14_3=> ?_)
      ·refine rn ?_;refine qv rfl rfl (y4 rfl rfl (v7 (zhz _ _) (Sbs.refl _))) ?_
       refine rn ?_;refine y9 (fun hg14_11=> ?_) (fun hg14_11=> ?_)
       ·refine rn ?_;refine qv rfl rfl (y4 rfl rfl (v7 (zfx e.v _) (Sbs.refl _))) ?_
        refine rn ?_;exact u9 rfl (.drop [_,_,_] _ _) ⟨rfl,bvz4_3860⟩
       ·refine rn ?_;exact u9 rfl (.drop [_,_,_] _ _) ⟨rfl,bvz4_3860⟩
      ·refine rn ?_;exact u9 rfl (.drop [_,_,_] _ _) ⟨rfl,bvz4_3860⟩
    ·first|cases hc48|exact absurd hc48 (by decide)|(exfalso;simp_all;done)
   ·refine rn ?_;refine z7 rfl (fun hc48=> ?_) (fun hc48=> ?_)
    ·refine rn ?_;refine zd9 6 [(b6,66,_)] rfl (List.perm_append_comm (l₁:= [_])) ?_
     refine rn ?_;refine dw 0 rfl rfl rfl rfl rfl (Nat.le_of_ble_eq_true rfl) ?_
     refine rn2 ?_;show zcw _ _ _ _ _ _ ⟨_,.box b6 66 [iv e.kind,iv e.t,iv 0,iv 0,iv e.o,iv 0,iv 0,iv 0,.v (.slice none 0 0)]:: .box b3 66 (evR e):: .box b2 28 (x5 h):: [],_⟩
     refine rn0 ?_;refine x8 ?_;refine x8 ?_;show aw _ _ _ _ _ ⟨_,.box b6 66 [iv e.kind,iv e.t,iv 0,iv 0,iv e.o,iv e.v.t,iv e.v.k,iv 0,.v (.slice none 0 0)]:: .box b3 66 (evR e):: .box b2 28 (x5 h):: [],_⟩
     refine rn ?_;refine y9 (fun hg12_3=> ?_) (fun hg12_3=> ?_)
     ·refine rn ?_;refine y9 (fun hg12_8=> ?_) (fun hg12_8=> ?_)
      ·refine rn ?_;refine zdf rfl ?_;refine rn ?_;exact u9 rfl (.drop [_,_,_] _ _) ⟨rfl,bvz4_3860⟩
      ·refine rn ?_;refine z7 rfl (fun hc73=> ?_) (fun hc73=> ?_)
       ·refine rn ?_;exact u9 rfl (.drop [_,_,_] _ _) ⟨rfl,bvz4_3860⟩
       ·refine rn ?_;refine qv rfl rfl (y4 rfl rfl (v7 (zfa ⟨e.kind,e.t,0,0,e.o,e.v,0,[]⟩ e (by simp [hl]) hl) (by exact ⟨(by exact Sb.aggs (by exact ⟨.refl _,.refl _,.refl _,.refl _,.refl _,.refl _,.refl _,.refl _,.nil _ _,trivial⟩)),.refl _,trivial⟩))) ?_
        refine rn ?_;refine y9 (fun hg14_3=> ?_) (fun hg14_3=> ?_)
        ·refine rn ?_;refine qv rfl rfl (y4 rfl rfl (v7 (zhz _ _) (Sbs.refl _))) ?_
         refine rn ?_;refine y9 (fun hg14_11=> ?_) (fun hg14_11=> ?_)
         ·refine rn ?_;refine qv rfl rfl (y4 rfl rfl (v7 (zfx e.v _) (Sbs.refl _))) ?_
          refine rn ?_;exact u9 rfl (.drop [_,_,_] _ _) ⟨rfl,bvz4_3860⟩
         ·refine rn ?_;exact u9 rfl (.drop [_,_,_] _ _) ⟨rfl,bvz4_3860⟩
        ·refine rn ?_;exact u9 rfl (.drop [_,_,_] _ _) ⟨rfl,bvz4_3860⟩
     ·refine rn ?_;refine ze2 rfl ?_;refine rn ?_;refine qv rfl rfl (y4 rfl rfl (v7 (zfa ⟨e.kind,e.t,0,0,e.o,e.v,0,[]⟩ e (by simp [hl]) hl) (by exact ⟨(by exact Sb.aggs (by exact ⟨.refl _,.refl _,.refl _,.refl _,.refl _,.refl _,.refl _,.refl _,.nil _ _,trivial⟩)),.refl _,trivial⟩))) ?_
      refine rn ?_;refine y9 (fun hg14_3=> ?_) (fun hg14_3=> ?_)
      ·refine rn ?_;refine qv rfl rfl (y4 rfl rfl (v7 (zhz _ _) (Sbs.refl _))) ?_
       refine rn ?_;refine y9 (fun hg14_11=> ?_) (fun hg14_11=> ?_)
       ·refine rn ?_;refine qv rfl rfl (y4 rfl rfl (v7 (zfx e.v _) (Sbs.refl _))) ?_
        refine rn ?_;exact u9 rfl (.drop [_,_,_] _ _) ⟨rfl,bvz4_3860⟩
       ·refine rn ?_;exact u9 rfl (.drop [_,_,_] _ _) ⟨rfl,bvz4_3860⟩
      ·refine rn ?_;exact u9 rfl (.drop [_,_,_] _ _) ⟨rfl,bvz4_3860⟩
    ·refine rn ?_;refine z7 rfl (fun hc91=> ?_) (fun hc91=> ?_)
     ·refine rn ?_;refine zd9 6 [(b6,66,_)] rfl (List.perm_append_comm (l₁:= [_])) ?_
      refine rn ?_;refine dw 0 rfl rfl rfl rfl rfl (Nat.le_of_ble_eq_true rfl) ?_
      refine rn2 ?_;show zcw _ _ _ _ _ _ ⟨_,.box b6 66 [iv e.kind,iv e.t,iv 0,iv 0,iv 0,iv 0,iv 0,iv e.p,.v (.slice none 0 0)]:: .box b3 66 (evR e):: .box b2 28 (x5 h):: [],_⟩
      refine rn0 ?_;refine x8 ?_;refine x8 ?_;show aw _ _ _ _ _ ⟨_,.box b6 66 [iv e.kind,iv e.t,iv 0,iv 0,iv 0,iv 0,iv 0,iv e.p,zka e.scan]:: .box b3 66 (evR e):: .box b2 28 (x5 h):: [],_⟩
      refine rn ?_;refine j3 (fun k:Nat=>k≤e.scan.length∧e.scan.all (zbk h)=(e.scan.drop k).all (zbk h)) (fun k=>⟨[(102,iv k),(101,iv (e.scan.map zaz).length),(100,zka e.scan),(2,pZ b2),(3,pZ b3),(6,pZ b6),(5,iv (h.ts.map ze7).length)],[.box b6 66 (evR ⟨e.kind,e.t,0,0,0,⟨0,0⟩,e.p,e.scan⟩),.box b3 66 (evR e),.box b2 28 (x5 h)],[]⟩) (fun k=>e.scan.length - k) 0 ⟨Nat.zero_le _,by simp⟩
       (w8 (.cons _ _ _ rfl (.cons _ _ _ rfl (.cons _ _ _ rfl (.cons _ _ _ rfl (.cons _ _ _ rfl (.cons _ _ _ rfl (.cons _ _ _ rfl (.nil))))))))) ?_
      rintro k ⟨hk,hz⟩
      refine rn ?_;refine z7 rfl (fun hc103=> ?_) (fun hc103=> ?_)
      ·have hk2:k < e.scan.length:=by simpa using hc103
       obtain ⟨s,hs⟩:∃s,s=e.scan[k]:=⟨_,rfl⟩
       have hrow:(e.scan.map zaz)[k]? =some (zaz s):=by rw [hs];simp [hk2]
       have hd:=List.drop_eq_getElem_cons hk2
       rw [←hs] at hd
       refine rn ?_;refine z8 rfl (y6 rfl fun b8=> ?_)
       refine rn ?_;refine qv rfl rfl (y4 rfl rfl (v7 (zhz _ _) (Sbs.refl _))) ?_
       refine rn ?_;refine y9 (fun hg20_7=> ?_) (fun hg20_7=> ?_)
       ·refine rn ?_;refine zdf rfl ?_;have hx:zbk h s=false:=by clear hz hd hrow hs hc103 hk2 hk;simp_all [zbk]
        have hall:e.scan.all (zbk h)=false:=by rw [hz,hd,List.all_cons,hx,Bool.false_and]
        clear hz hd hx hrow
        refine rn ?_;exact u9 rfl (.drop [_,_,_,_] _ _) ⟨rfl,bvz4_3860⟩
       ·refine rn ?_;refine qv rfl rfl (y4 rfl rfl (v7 (zfx s.v _) (Sbs.refl _))) ?_
        refine rn ?_;refine z7 rfl (fun hc119=> ?_) (fun hc119=> ?_)
        ·have hx:zbk h s=false:=by clear hz hd hrow hs hc103 hk2 hk;simp_all [zbk]
         have hall:e.scan.all (zbk h)=false:=by rw [hz,hd,List.all_cons,hx,Bool.false_and]
         clear hz hd hx hrow
         refine rn ?_;exact u9 rfl (.drop [_,_,_,_] _ _) ⟨rfl,bvz4_3860⟩
        ·have hx:zbk h s=true:=by clear hz hd hrow hs hc103 hk2 hk;simp_all [zbk]
         refine rn ?_;exact ⟨k+1,⟨by omega,by rw [hz,hd,List.all_cons,hx,Bool.true_and]⟩,(v6 (zcs (h1:= [_])) (w8 (.cons _ _ _ rfl (.cons _ _ _ rfl (.cons _ _ _ rfl (.cons _ _ _ rfl (.cons _ _ _ rfl (.cons _ _ _ rfl (.cons _ _ _ rfl (.nil)))))))))),by omega⟩
      ·have hk3:k=e.scan.length:=by
        have:e.scan.length≤k:=by simpa using hc103
        omega
       rw [hk3,List.drop_length,List.all_nil] at hz
       refine rn ?_;refine qv rfl rfl (y4 rfl rfl (v7 (zfa ⟨e.kind,e.t,0,0,0,⟨0,0⟩,e.p,e.scan⟩ e (by simp [hl]) hl) (by exact ⟨(by exact Sb.aggs (by exact ⟨.refl _,.refl _,.refl _,.refl _,.refl _,.refl _,.refl _,.refl _,.refl _,trivial⟩)),.refl _,trivial⟩))) ?_
       refine rn ?_;refine y9 (fun hg23_3=> ?_) (fun hg23_3=> ?_)
       ·refine rn ?_;refine qv rfl rfl (y4 rfl rfl (v7 (zhz _ _) (Sbs.refl _))) ?_
        refine rn ?_;refine y9 (fun hg23_11=> ?_) (fun hg23_11=> ?_)
        ·refine rn ?_;exact u9 rfl (.drop [_,_,_] _ _) ⟨rfl,bvz4_3860⟩
        ·refine rn ?_;exact u9 rfl (.drop [_,_,_] _ _) ⟨rfl,bvz4_3860⟩
       ·refine rn ?_;exact u9 rfl (.drop [_,_,_] _ _) ⟨rfl,bvz4_3860⟩
     ·refine rn ?_;refine qv rfl rfl (y4 rfl rfl (v7 (zfa ⟨e.kind,e.t,0,0,0,⟨0,0⟩,0,[]⟩ e (by simp [hl]) hl) (by exact ⟨(by exact Sb.aggs (by exact ⟨.refl _,.refl _,.refl _,.refl _,.refl _,.refl _,.refl _,.refl _,.nil _ _,trivial⟩)),.refl _,trivial⟩))) ?_
      refine rn ?_;refine y9 (fun hg24_3=> ?_) (fun hg24_3=> ?_)
      ·refine rn ?_;refine y9 (fun hg24_7=> ?_) (fun hg24_7=> ?_)
       ·refine rn ?_;exact u9 rfl (.drop [_,_,_] _ _) ⟨rfl,bvz4_3860⟩
       ·refine rn ?_;exact u9 rfl (.drop [_,_,_] _ _) ⟨rfl,bvz4_3860⟩
      ·refine rn ?_;exact u9 rfl (.drop [_,_,_] _ _) ⟨rfl,bvz4_3860⟩
theorem zzp (s:ByteArray):x4 Tryz.prog 206 [sv s] [] (fun r h'=>h'= []∧r= .tup [.v (.int .i32 (zb0 s).1),iv (zb0 s).2]):=by
 refine z6 Tryz.func206 rfl rfl rfl ?_
 refine rn ?_;refine z8 rfl (zkd rfl rfl fun b8=> ?_)
 refine rn ?_;refine j3 (fun x:Unit=>True) (fun x=>⟨[(8,pZ b8),(0,sv s),(2,.v (.int .i32 0)),(3,iv 0)],[.obj b8 (.stringIter s 0)],[]⟩) (fun x=>0) () trivial
  (w8 (.cons _ _ _ rfl (.cons _ _ _ rfl (.cons _ _ _ rfl (.cons _ _ _ rfl (.nil)))))) ?_
 rintro _ _
 refine x8 (y5 ?_)
 refine z8 rfl (zme rfl rfl (fun hp=> ?_) (fun hp=> ?_))
 ·refine rn ?_;refine z7 rfl (fun hc10=> ?_) (fun hc10=> ?_)
  ·first|cases hc10|exact absurd hc10 (by decide)|(exfalso;simp_all;done)
  ·refine rn ?_;exact zcb rfl rfl (.drop1 _ _ _) ⟨rfl,by first|(rw [zb0,if_pos hp];rfl)|(rw [zb0,if_neg (by omega)];split <;> first|rfl|(exfalso;simp_all;done)|(exfalso;simp_all;omega))⟩
 ·refine rn ?_;refine z7 rfl (fun hc10=> ?_) (fun hc10=> ?_)
  ·refine rn ?_;refine z7 rfl (fun hc14=> ?_) (fun hc14=> ?_)
   ·exact absurd hc14 (by decide)
   ·refine zab ?_;refine k8 ?_;refine x8 (y5 ?_)
    refine q1 ?_;refine qq rfl rfl (zng rfl) ?_
    refine rn ?_;refine y9 (fun hg6_2=> ?_) (fun hg6_2=> ?_)
    ·refine rn ?_;refine y9 (fun hg6_6=> ?_) (fun hg6_6=> ?_)
     ·refine rn ?_;refine z7 rfl (fun hc29=> ?_) (fun hc29=> ?_)
      ·refine rn ?_;exact zcb rfl rfl (.drop1 _ _ _) ⟨rfl,by first|(rw [zb0,if_pos hp];rfl)|(rw [zb0,if_neg (by omega)];split <;> first|rfl|(exfalso;simp_all;done)|(exfalso;simp_all;omega))⟩
      ·first|cases hc29|exact absurd hc29 (by decide)|(exfalso;simp_all;done)
     ·refine q1 ?_;refine qq rfl rfl (zfy (k:=3) rfl rfl (by have:=hg6_6;simp at this;omega)) ?_
      refine rn ?_;refine z7 rfl (fun hc29=> ?_) (fun hc29=> ?_)
      ·refine rn ?_;exact zcb rfl rfl (.drop1 _ _ _) ⟨rfl,by first|(rw [zb0,if_pos hp];rfl)|(rw [zb0,if_neg (by omega)];split <;> first|rfl|(exfalso;simp_all;done)|(exfalso;simp_all;omega))⟩
      ·refine rn ?_;exact zcb rfl rfl (.drop1 _ _ _) ⟨rfl,by first|(rw [zb0,if_pos hp];rfl)|(rw [zb0,if_neg (by omega)];split <;> first|rfl|(exfalso;simp_all;done)|(exfalso;simp_all;omega))⟩
    ·refine rn ?_;refine z7 rfl (fun hc29=> ?_) (fun hc29=> ?_)
     ·first|cases hc29|exact absurd hc29 (by decide)|(exfalso;simp_all;done)
     ·refine rn ?_;exact zcb rfl rfl (.drop1 _ _ _) ⟨rfl,by first|(rw [zb0,if_pos hp];rfl)|(rw [zb0,if_neg (by omega)];split <;> first|rfl|(exfalso;simp_all;done)|(exfalso;simp_all;omega))⟩
  ·first|cases hc10|exact absurd hc10 (by decide)|(exfalso;simp_all;done)
theorem zw6 (s:ByteArray) (c n:Int) (h:zb0 s=(c,n)):x4 Tryz.prog 206 [sv s] [] (fun r h'=>h'= []∧r= .tup [.v (.int .i32 c),iv n]):=
 (zzp s).mono fun _ _ q=>⟨q.1,by rw [q.2,h]⟩
theorem yd9 (s:ByteArray):x4 Tryz.prog 190 [sv s] [] (fun r h'=>h'= []∧r=bv (zgs s)):=by
 refine z6 Tryz.func190 rfl rfl rfl ?_
 refine rn ?_;refine y9 (fun hg1_2=> ?_) (fun hg1_2=> ?_)
 ·refine rn ?_;refine zdf rfl ?_;refine rn ?_;refine rq 0 ?_
  exact ⟨rfl,congrArg bv (by first|(rw [zf8,←ybp,hg1_2];rfl)|(rw [zf8,decide_eq_false (show ¬(s.size:Int)≤24 by simp at hc12;omega),Bool.and_false];rfl))⟩
 ·refine rn ?_;refine z7 rfl (fun hc12=> ?_) (fun hc12=> ?_)
  ·refine rn ?_;refine rq 0 ?_
   exact ⟨rfl,congrArg bv (by first|(rw [zf8,←ybp,hg1_2];rfl)|(rw [zf8,decide_eq_false (show ¬(s.size:Int)≤24 by simp at hc12;omega),Bool.and_false];rfl))⟩
  ·have hlen:s.size≤24:=by simp at hc12;omega
   refine rn ?_;refine zct (fun i:Nat=>zhw s 0=zhw s i∧i≤48) (fun i=>⟨[(3,iv i),(0,sv s)],[],[]⟩) (fun i=>s.size - i) 0 ⟨rfl,by omega⟩ es ?_
   rintro i ⟨hz,hi⟩
   refine rn ?_;refine z7 rfl (fun hc16=> ?_) (fun hc16=> ?_)
   ·have h1:i < s.size:=by simpa using hc16
    refine zab ?_;refine k8 ?_;refine zal ?_;refine x8 (y5 ?_)
    refine q1 ?_;refine q1 ?_;refine qq rfl rfl (zd4 (k:=i) rfl rfl (by omega)) ?_
    obtain ⟨c,n,hw,hn1,hn4⟩:=yfu h1
    refine qv rfl rfl (y4 rfl rfl (v7 (zw6 _ c n hw) (Sbs.refl _))) ?_
    refine rn ?_;refine qv rfl rfl (y4 rfl rfl (v7 (zw5 _) (Sbs.refl _))) ?_
    refine rn ?_;refine y9 (fun hg6_3=> ?_) (fun hg6_3=> ?_)
    ·refine rn ?_;refine y9 (fun hg6_6=> ?_) (fun hg6_6=> ?_)
     ·refine rn ?_;refine zdf rfl ?_;refine rn ?_;refine rq 0 ?_
      exact ⟨rfl,congrArg bv (by rw [zf8,hz,znm h1 hw (by simpa using hg6_3) (by first|exact .inl (by simpa using hg6_6)|exact .inr (by simpa using hc35)),Bool.and_false])⟩
     ·refine rn ?_;refine qv rfl rfl (y4 rfl rfl (v7 (zq0 _) (Sbs.refl _))) ?_
      refine rn ?_;refine z7 rfl (fun hc35=> ?_) (fun hc35=> ?_)
      ·refine rn ?_;refine rq 0 ?_
       exact ⟨rfl,congrArg bv (by rw [zf8,hz,znm h1 hw (by simpa using hg6_3) (by first|exact .inl (by simpa using hg6_6)|exact .inr (by simpa using hc35)),Bool.and_false])⟩
      ·refine rn ?_;exact ⟨i+n,⟨hz.trans (zuj h1 hw hn1 (.inr ⟨by simpa using hg6_6,by simpa using hc35⟩)),by omega⟩,eA,by omega⟩
    ·refine rn ?_;first|(refine qv rfl rfl (y4 rfl rfl (v7 (zq0 _) (Sbs.refl _))) ?_)|refine qs rfl rfl ?_|skip
     refine rn ?_;refine ze2 rfl ?_;refine rn ?_;exact ⟨i+n,⟨hz.trans (zuj h1 hw hn1 (.inl (by simpa using hg6_3))),by omega⟩,eA,by omega⟩
   ·have h1:¬i < s.size:=by simpa using hc16
    refine rn ?_;refine rq 0 ?_
    exact ⟨rfl,congrArg bv (by rw [zf8,←ybp,hg1_2,hz,zyb h1,decide_eq_true (show (s.size:Int)≤24 by omega)];rfl)⟩
theorem zeo (l:List ByteArray) (most:Nat) (hl:l.length≤4611686018427387904):x4 Tryz.prog 147 [zc4 l,iv most] [] (fun r h'=>h'= []∧r=bv (zcj most l)):=by
 refine z6 Tryz.func147 rfl rfl rfl ?_
 refine rn ?_;refine zbp (l.length) (fun k:Nat=>za3 [] l=za3 (l.take k) (l.drop k)) (fun k=> [(11,iv k)]) [(0,_),(1,_),(9,_),(10,_)] rfl ?_
 intro k lk zk
 refine rn ?_;refine z7 rfl (fun hc12=> ?_) (fun hc12=> ?_)
 ·have hk:=zao hc12
  have rk:=zac (f:=ze7) hk
  refine rn ?_;refine qv rfl rfl (y4 rfl rfl (v7 (yd9 _) (Sbs.refl _))) ?_
  refine rn ?_;refine z7 rfl (fun hc18=> ?_) (fun hc18=> ?_)
  ·refine rn ?_;refine rq 0 ?_
   exact ⟨rfl,congrArg bv (by rw [zcj,yld hk zk (by simpa using hc18),Bool.and_false])⟩
  ·refine zab ?_;refine k8 ?_;refine x8 (y5 ?_)
   refine q1 ?_;refine q1 ?_;refine qq rfl rfl (za5 (k:=k) rfl rfl (by simp;omega)) ?_
   rw [←List.map_take]
   refine rn ?_;refine zbp ((l.take k).length) (fun j:Nat=>(l.take k).all (fun t=> !(l[k].toList==t.toList))=((l.take k).drop j).all (fun t=> !(l[k].toList==t.toList))) (fun j=> [(23,iv j)]) [(0,_),(1,_),(6,_),(9,_),(10,_),(11,_),(21,_),(22,_)] rfl ?_
   intro j lj zj
   refine rn ?_;refine z7 rfl (fun hc24=> ?_) (fun hc24=> ?_)
   ·have hj:=zao hc24
    have rj:=zac (f:=ze7) hj
    have bj:(l.take k).length≤4611686018427387904:=by simp;omega
    refine rn ?_;refine z7 rfl (fun hc29=> ?_) (fun hc29=> ?_)
    ·refine rn ?_;refine rq 0 ?_
     exact ⟨rfl,congrArg bv (by rw [zcj,yle hk zk (zsl hj (by simpa using hc29)),Bool.and_false])⟩
    ·refine rn ?_;exact ⟨hj,zug hj zj (by simpa using hc29),eA⟩
   ·have qj:=zap hc24 lj
    have aj:=zx5 qj zj
    refine rn ?_;exact ⟨hk,zxp hk zk (by simpa using hc18) aj,eA⟩
 ·have qk:=zap hc12 lk
  refine rn ?_;refine rq 0 ?_
  exact ⟨rfl,congrArg bv (by rw [zcj,ylf qk zk];simp)⟩
theorem zs5 (h:Hist) (e:Ev) (hl:e.scan.length≤4611686018427387904):x4 Tryz.prog 148 [.agg (x5 h),.agg (evR e)] [] (fun r h'=>h'= []∧r=bv (zb1 h e)):=
 (zww h e hl).mono fun _ _ q=>⟨q.1,by rw [q.2,zwu]⟩
theorem bvz5_9821 {a b:Bool} (h:a=b:=by rw [zys (by simp_all) (by simp_all) (by simp_all) (by simp_all) ai aj ak am];first|(simp_all;done)|(simp_all;intros;omega)):bv a=bv b:=congrArg bv h
theorem zze (h:Hist) (la:Lim 4611686018427387904 h):x4 Tryz.prog 106 [.agg (x5 h)] [] (fun r h'=>h'= []∧r=bv (j8 h)):=by
 refine z6 Tryz.func106 rfl rfl rfl ?_
 refine rn ?_;refine z8 rfl (x9 rfl rfl rfl fun b1=> ?_)
 refine rn ?_;refine qv rfl rfl (y4 rfl rfl (v7 (zeo h.ts 300 la.ts) (Sbs.refl _))) ?_
 refine rn ?_;refine y9 (fun hg1_4=> ?_) (fun hg1_4=> ?_)
 ·refine rn ?_;refine zdf rfl ?_;refine rn ?_;refine rq 1 ?_
  exact ⟨rfl,congrArg bv (by rw [ziz (by simp_all)])⟩
 ·refine rn ?_;refine qv rfl rfl (y4 rfl rfl (v7 (zeo h.ss 60 la.ss) (Sbs.refl _))) ?_
  refine rn ?_;refine y9 (fun hg1_10=> ?_) (fun hg1_10=> ?_)
  ·refine rn ?_;refine zdf rfl ?_;refine rn ?_;refine rq 1 ?_
   exact ⟨rfl,congrArg bv (by rw [ziz (by simp_all)])⟩
  ·refine rn ?_;refine qv rfl rfl (y4 rfl rfl (v7 (zeo h.os 300 la.os) (Sbs.refl _))) ?_
   refine rn ?_;refine y9 (fun hg1_16=> ?_) (fun hg1_16=> ?_)
   ·refine rn ?_;refine zdf rfl ?_;refine rn ?_;refine rq 1 ?_
    exact ⟨rfl,congrArg bv (by rw [ziz (by simp_all)])⟩
   ·refine rn ?_;refine qv rfl rfl (y4 rfl rfl (v7 (zeo h.ps 60 la.ps) (Sbs.refl _))) ?_
    refine rn ?_;refine z7 rfl (fun hc32=> ?_) (fun hc32=> ?_)
    ·refine rn ?_;refine rq 1 ?_
     exact ⟨rfl,congrArg bv (by rw [ziz (by simp_all)])⟩
    ·refine rn ?_;refine zbp (h.evs.length) (fun i:Nat=>h.evs.all (zb1 h)=(h.evs.drop i).all (zb1 h)) (fun i=> [(36,iv i)]) [(1,_),(34,_),(35,_)] rfl ?_
     intro i li zi
     refine rn ?_;refine z7 rfl (fun hc37=> ?_) (fun hc37=> ?_)
     ·have hi:=zao hc37
      have ri:=zac (f:=evR) hi
      have bi:=la.evs
      have si:=la.scans h.evs[i] (List.getElem_mem hi)
      refine rn ?_;refine z8 rfl (y6 rfl fun b4=> ?_)
      refine rn ?_;refine qv rfl rfl (y4 rfl rfl (v7 (zs5 h h.evs[i] si) (Sbs.refl _))) ?_
      refine rn ?_;refine z7 rfl (fun hc43=> ?_) (fun hc43=> ?_)
      ·refine rn ?_;refine rq 2 ?_
       exact ⟨rfl,congrArg bv (by rw [zyt (zsl hi (by simpa using hc43))])⟩
      ·refine rn ?_;exact ⟨hi,zug hi zi (by simpa using hc43),eA⟩
     ·have qi:=zap hc37 li
      have ai:=zx5 qi zi
      refine rn ?_;refine zbp (h.ords.length) (fun j:Nat=>h.ords.all (zqb h)=(h.ords.drop j).all (zqb h)) (fun j=> [(48,iv j)]) [(1,_),(46,_),(47,_)] rfl ?_
      intro j lj zj
      refine rn ?_;refine z7 rfl (fun hc49=> ?_) (fun hc49=> ?_)
      ·have hj:=zao hc49
       have rj:=zac (f:=zdk) hj
       have bj:=la.ords
       have sj:=la.ordts h.ords[j] (List.getElem_mem hj)
       refine rn ?_;refine z8 rfl (y6 rfl fun b6=> ?_)
       refine rn ?_;refine qv rfl rfl (y4 rfl rfl (v7 (zhz _ _) (Sbs.refl _))) ?_
       refine rn ?_;refine y9 (fun hg12_7=> ?_) (fun hg12_7=> ?_)
       ·refine rn ?_;refine zdf rfl ?_;refine rn ?_;refine rq 2 ?_
        exact ⟨rfl,congrArg bv (by rw [zqs (zsl hj (by rw [zte];simp_all))])⟩
       ·refine rn ?_;refine qv rfl rfl (y4 rfl rfl (v7 (ym5 h h.ords[j].ts sj) (Sbs.refl _))) ?_
        refine rn ?_;refine z7 rfl (fun hc65=> ?_) (fun hc65=> ?_)
        ·refine rn ?_;refine rq 2 ?_
         exact ⟨rfl,congrArg bv (by rw [zqs (zsl hj (by rw [zte];simp_all))])⟩
        ·refine rn ?_;exact ⟨hj,zug hj zj (by rw [zte];simp_all),eA⟩
      ·have qj:=zap hc49 lj
       have aj:=zx5 qj zj
       refine rn ?_;refine zbp (h.mats.length) (fun k:Nat=>h.mats.all (ztm h)=(h.mats.drop k).all (ztm h)) (fun k=> [(70,iv k)]) [(1,_),(68,_),(69,_)] rfl ?_
       intro k lk zk
       refine rn ?_;refine z7 rfl (fun hc71=> ?_) (fun hc71=> ?_)
       ·have hk:=zao hc71
        have rk:=zac (f:=ze4) hk
        have bk:=la.mats
        have sk:=la.matts h.mats[k] (List.getElem_mem hk)
        refine rn ?_;refine z8 rfl (y6 rfl fun b8=> ?_)
        refine rn ?_;refine qv rfl rfl (y4 rfl rfl (v7 (zhz _ _) (Sbs.refl _))) ?_
        refine rn ?_;refine y9 (fun hg18_7=> ?_) (fun hg18_7=> ?_)
        ·refine rn ?_;refine zdf rfl ?_;refine rn ?_;refine rq 2 ?_
         exact ⟨rfl,congrArg bv (by rw [zlz (zsl hk (by rw [zo9];simp_all))])⟩
        ·refine rn ?_;refine qv rfl rfl (y4 rfl rfl (v7 (zhz _ _) (Sbs.refl _))) ?_
         refine rn ?_;refine y9 (fun hg18_16=> ?_) (fun hg18_16=> ?_)
         ·refine rn ?_;refine zdf rfl ?_;refine rn ?_;refine rq 2 ?_
          exact ⟨rfl,congrArg bv (by rw [zlz (zsl hk (by rw [zo9];simp_all))])⟩
         ·refine rn ?_;refine qv rfl rfl (y4 rfl rfl (v7 (ym5 h h.mats[k].ts sk) (Sbs.refl _))) ?_
          refine rn ?_;refine z7 rfl (fun hc96=> ?_) (fun hc96=> ?_)
          ·refine rn ?_;refine rq 2 ?_
           exact ⟨rfl,congrArg bv (by rw [zlz (zsl hk (by rw [zo9];simp_all))])⟩
          ·refine rn ?_;exact ⟨hk,zug hk zk (by rw [zo9];simp_all),eA⟩
       ·have qk:=zap hc71 lk
        have ak:=zx5 qk zk
        refine rn ?_;refine zbp (h.wants.length) (fun m:Nat=>h.wants.all (zuk h)=(h.wants.drop m).all (zuk h)) (fun m=> [(101,iv m)]) [(1,_),(99,_),(100,_)] rfl ?_
        intro m lm zm
        refine rn ?_;refine z7 rfl (fun hc102=> ?_) (fun hc102=> ?_)
        ·have hm:=zao hc102
         have rm:=zac (f:=zff) hm
         have bm:=la.wants
         refine rn ?_;refine z8 rfl (y6 rfl fun b10=> ?_)
         refine rn ?_;refine qv rfl rfl (y4 rfl rfl (v7 (zhz _ _) (Sbs.refl _))) ?_
         refine rn ?_;refine y9 (fun hg24_7=> ?_) (fun hg24_7=> ?_)
         ·refine rn ?_;refine zdf rfl ?_;refine rn ?_;refine rq 2 ?_
          exact ⟨rfl,congrArg bv (by rw [zqr (zsl hm (by rw [zsr];simp_all))])⟩
         ·refine rn ?_;refine qv rfl rfl (y4 rfl rfl (v7 (zhz _ _) (Sbs.refl _))) ?_
          refine rn ?_;refine z7 rfl (fun hc117=> ?_) (fun hc117=> ?_)
          ·refine rn ?_;refine rq 2 ?_
           exact ⟨rfl,congrArg bv (by rw [zqr (zsl hm (by rw [zsr];simp_all))])⟩
          ·refine rn ?_;exact ⟨hm,zug hm zm (by rw [zsr];simp_all),eA⟩
        ·have qm:=zap hc102 lm
         have am:=zx5 qm zm
         refine rn ?_;refine y9 (fun hg27_4=> ?_) (fun hg27_4=> ?_)
         ·refine rn ?_;refine y9 (fun hg27_10=> ?_) (fun hg27_10=> ?_)
          ·refine rn ?_;refine y9 (fun hg27_16=> ?_) (fun hg27_16=> ?_)
           ·refine rn ?_;refine rq 1 ?_
            exact ⟨rfl,bvz5_9821⟩
           ·refine rn ?_;refine rq 1 ?_
            exact ⟨rfl,bvz5_9821⟩
          ·refine rn ?_;refine rq 1 ?_
           exact ⟨rfl,bvz5_9821⟩
         ·refine rn ?_;refine rq 1 ?_
          exact ⟨rfl,bvz5_9821⟩
theorem za4 (s:SV) (l:List Int) (n:Int) (hl:l.length≤1000000000):x4 Tryz.prog 150 [.v s.v,iv n] [.row s.v 1 3 (l.map zad)] (fun r h'=>∃s':SV,h'= [.row s'.v 1 3 ((yc4 l n).map zad)]∧r= .v s'.v):=by
 refine z6 Tryz.func150 rfl rfl rfl ?_
 refine rn ?_;refine qv rfl rfl (y4 rfl rfl (y3.lend (R:=fun x=>x=iv (atI n 0 l)) (y3.of_fun (yjk (f:=false) l n (by omega))) (fun r hr=>by rw [hr];rfl) (.refl _ _) ⟨ylt,.refl _ _,trivial⟩)) ?_
 refine rn ?_;refine z7 rfl (fun hc8=> ?_) (fun hc8=> ?_)
 ·refine rn ?_;refine rq 0 ?_
  exact ⟨s,by rw [yc4,if_pos (by simpa using hc8)];rfl,rfl⟩
 ·refine rn ?_;refine qv rfl rfl (q9 rfl rfl) ?_
  refine z8 rfl (j7 rfl rfl (by simp;omega) rfl (fun s13=> ?_) (fun r hr=>by simp at hr;subst hr;rfl))
  refine zaj s13 fun sv hsv=> ?_
  subst hsv
  refine rn ?_;refine rq 0 ?_
  exact ⟨sv,by rw [yc4,if_neg (by simpa using hc8),List.map_append];rfl,rfl⟩
theorem zl7 (s:SV) (l:List Int) (v:Ver) (hl:l.length≤1000000000):x4 Tryz.prog 151 [.v s.v,.agg (ydc v)] [.row s.v 1 3 (l.map zad)] (fun r h'=>∃s':SV,h'= [.row s'.v 1 3 ((yl3 l v).map zad)]∧r= .v s'.v):=by
 refine z6 Tryz.func151 rfl rfl rfl ?_
 refine rn ?_;refine z8 rfl (x9 rfl rfl rfl fun b3=> ?_)
 refine rn ?_;refine z7 rfl (fun hc7=> ?_) (fun hc7=> ?_)
 ·refine rn ?_;refine rq 1 ?_
  exact ⟨s,by rw [yl3,if_pos (by simpa using hc7)];rfl,rfl⟩
 ·refine rn ?_;refine z8 rfl (w9 rfl rfl (zaq (y3.of_fun (za4 s l v.t hl))) rfl ?_)
  rintro _ _ ⟨s',rfl,rfl⟩
  refine rn ?_;refine rq 1 ?_
  exact ⟨s',by rw [yl3,if_neg (by simpa using hc7)];rfl,rfl⟩
set_option maxHeartbeats 4000000 in
theorem zzd (h:Hist) (la:Lim 3000 h):x4 Tryz.prog 107 [.agg (x5 h)] [] (fun r h'=>h'= []∧r= .agg [zb8 (zb4 h 0),zb8 (zb4 h 1),zb8 (zb4 h 2),zb8 (zb4 h 3)]):=by
 refine z6 Tryz.func107 rfl rfl rfl ?_
 refine rn ?_;refine z8 rfl (x9 rfl rfl rfl fun b1=> ?_)
 refine z8 rfl (y6 rfl fun b2=> ?_)
 refine rn ?_;refine z8 rfl (y6 rfl fun b3=> ?_)
 refine rn ?_;refine zir h.evs.length (fun k s0 s1 s2 s3=>⟨[(21,iv k),(1,pZ b1),(2,pZ b2),(3,pZ b3),(19,zm4 h.evs),(20,iv (h.evs.map evR).length)],[.row s0.v 1 3 (((spE h k) 0).map zad),.row s1.v 1 3 (((spE h k) 1).map zad),.row s2.v 1 3 (((spE h k) 2).map zad),.row s3.v 1 3 (((spE h k) 3).map zad),.box b3 171 [.v s0.v,.v s1.v,.v s2.v,.v s3.v],.box b2 171 [.v (.slice none 0 0),.v (.slice none 0 0),.v (.slice none 0 0),.v (.slice none 0 0)],.box b1 28 (x5 h)],[]⟩) (⟨none,0,0⟩) (⟨none,0,0⟩) (⟨none,0,0⟩) (⟨none,0,0⟩) (v6 (zar 1 3) (v6 (zar 1 3) (v6 (zar 1 3) (v6 (zar 1 3) es)))) ?_
 intro k s0 s1 s2 s3 lk
 refine rn ?_;refine z7 rfl (fun hc22=> ?_) (fun hc22=> ?_)
 ·have hk:=zao hc22
  have rk:=zac (f:=evR) hk
  have bd:=bdE la k lk
  have ls:=la.scans h.evs[k] (List.getElem_mem hk)
  have le:=la.evs
  refine rn ?_;refine z8 rfl (y6 rfl fun b5=> ?_)
  refine rn ?_;refine qq rfl rfl (y8 rfl rfl (by decide) (by decide)) ?_
  refine rn ?_;refine z8 rfl (w9 rfl rfl (zaq (y3.of_fun (za4 _ _ _ (by have:=bd 0;omega)))) rfl ?_)
  rintro _ _ ⟨s',rfl,rfl⟩
  refine qq rfl rfl (y8 rfl rfl (by decide) (by decide)) ?_
  refine rn0 ?_;refine ylw (fun s0 s1 s2 s3=>⟨[(5,pZ b5),(21,iv k),(20,iv (h.evs.map evR).length),(19,zm4 h.evs),(1,pZ b1),(2,pZ b2),(3,pZ b3)],[.box b5 66 (evR h.evs[k]),.row s0.v 1 3 (((zfg (zak (spE h k) (0,h.evs[k].t)) h.evs[k]) 0).map zad),.row s1.v 1 3 (((zfg (zak (spE h k) (0,h.evs[k].t)) h.evs[k]) 1).map zad),.row s2.v 1 3 (((zfg (zak (spE h k) (0,h.evs[k].t)) h.evs[k]) 2).map zad),.row s3.v 1 3 (((zfg (zak (spE h k) (0,h.evs[k].t)) h.evs[k]) 3).map zad),.box b3 171 [.v s0.v,.v s1.v,.v s2.v,.v s3.v],.box b2 171 [.v (.slice none 0 0),.v (.slice none 0 0),.v (.slice none 0 0),.v (.slice none 0 0)],.box b1 28 (x5 h)],[]⟩) ?_ ?_
  ·refine rn ?_;refine z7 rfl (fun hc33=> ?_) (fun hc33=> ?_)
   ·refine rn ?_;refine qq rfl rfl (y8 rfl rfl (by decide) (by decide)) ?_
    refine rn ?_;refine z8 rfl (w9 rfl rfl (zaq (y3.of_fun (za4 _ _ _ (by have:=bd 1;omega)))) rfl ?_)
    rintro _ _ ⟨s',rfl,rfl⟩
    refine qq rfl rfl (y8 rfl rfl (by decide) (by decide)) ?_
    refine rn ?_;exact ⟨_,_,_,_,by unfold zfg;first|(rw [if_pos (by simpa using hc33)];exact eA)|(rw [if_neg (by simpa using hc33),if_pos (by simp at hc33;simp_all)];exact eA)|(rw [if_neg (by simpa using hc33),if_neg (by simp at hc33;simp_all),if_pos (by simpa using hc56)];exact eA)|(rw [if_neg (by simpa using hc33),if_neg (by simp at hc33;simp_all),if_neg (by simpa using hc56)];exact eA)⟩
   ·refine rn ?_;refine z7 rfl (fun hc41=> ?_) (fun hc41=> ?_)
    ·refine rn ?_;refine z7 rfl (fun hc41=> ?_) (fun hc41=> ?_)
     ·refine rn ?_;refine qq rfl rfl (y8 rfl rfl (by decide) (by decide)) ?_
      refine rn ?_;refine z8 rfl (w9 rfl rfl (zaq (y3.of_fun (za4 _ _ _ (by have:=bd 2;omega)))) rfl ?_)
      rintro _ _ ⟨s',rfl,rfl⟩
      refine qq rfl rfl (y8 rfl rfl (by decide) (by decide)) ?_
      refine rn ?_;refine qq rfl rfl (y8 rfl rfl (by decide) (by decide)) ?_
      refine rn ?_;refine z8 rfl (w9 rfl rfl (zaq (y3.of_fun (zl7 _ _ _ (by have:=(bd.f (0,h.evs[k].t)) 0;exact Nat.le_trans this (by omega))))) rfl ?_)
      rintro _ _ ⟨s',rfl,rfl⟩
      refine qq rfl rfl (y8 rfl rfl (by decide) (by decide)) ?_
      refine rn ?_;exact ⟨_,_,_,_,by unfold zfg;first|(rw [if_pos (by simpa using hc33)];exact eA)|(rw [if_neg (by simpa using hc33),if_pos (by simp at hc33;simp_all)];exact eA)|(rw [if_neg (by simpa using hc33),if_neg (by simp at hc33;simp_all),if_pos (by simpa using hc56)];exact eA)|(rw [if_neg (by simpa using hc33),if_neg (by simp at hc33;simp_all),if_neg (by simpa using hc56)];exact eA)⟩
     ·first|cases hc41|exact absurd hc41 (by decide)|(exfalso;simp_all;done)
    ·refine rn ?_;refine z7 rfl (fun hc41=> ?_) (fun hc41=> ?_)
     ·refine rn ?_;refine qq rfl rfl (y8 rfl rfl (by decide) (by decide)) ?_
      refine rn ?_;refine z8 rfl (w9 rfl rfl (zaq (y3.of_fun (za4 _ _ _ (by have:=bd 2;omega)))) rfl ?_)
      rintro _ _ ⟨s',rfl,rfl⟩
      refine qq rfl rfl (y8 rfl rfl (by decide) (by decide)) ?_
      refine rn ?_;refine qq rfl rfl (y8 rfl rfl (by decide) (by decide)) ?_
      refine rn ?_;refine z8 rfl (w9 rfl rfl (zaq (y3.of_fun (zl7 _ _ _ (by have:=(bd.f (0,h.evs[k].t)) 0;exact Nat.le_trans this (by omega))))) rfl ?_)
      rintro _ _ ⟨s',rfl,rfl⟩
      refine qq rfl rfl (y8 rfl rfl (by decide) (by decide)) ?_
      refine rn ?_;exact ⟨_,_,_,_,by unfold zfg;first|(rw [if_pos (by simpa using hc33)];exact eA)|(rw [if_neg (by simpa using hc33),if_pos (by simp at hc33;simp_all)];exact eA)|(rw [if_neg (by simpa using hc33),if_neg (by simp at hc33;simp_all),if_pos (by simpa using hc56)];exact eA)|(rw [if_neg (by simpa using hc33),if_neg (by simp at hc33;simp_all),if_neg (by simpa using hc56)];exact eA)⟩
     ·refine rn ?_;refine z7 rfl (fun hc56=> ?_) (fun hc56=> ?_)
      ·refine rn ?_;refine qq rfl rfl (y8 rfl rfl (by decide) (by decide)) ?_
       refine rn ?_;refine z8 rfl (w9 rfl rfl (zaq (y3.of_fun (za4 _ _ _ (by have:=bd 3;omega)))) rfl ?_)
       rintro _ _ ⟨s',rfl,rfl⟩
       refine qq rfl rfl (y8 rfl rfl (by decide) (by decide)) ?_
       refine rn ?_;exact ⟨_,_,_,_,by unfold zfg;first|(rw [if_pos (by simpa using hc33)];exact eA)|(rw [if_neg (by simpa using hc33),if_pos (by simp at hc33;simp_all)];exact eA)|(rw [if_neg (by simpa using hc33),if_neg (by simp at hc33;simp_all),if_pos (by simpa using hc56)];exact eA)|(rw [if_neg (by simpa using hc33),if_neg (by simp at hc33;simp_all),if_neg (by simpa using hc56)];exact eA)⟩
      ·refine rn ?_;exact ⟨_,_,_,_,by unfold zfg;first|(rw [if_pos (by simpa using hc33)];exact eA)|(rw [if_neg (by simpa using hc33),if_pos (by simp at hc33;simp_all)];exact eA)|(rw [if_neg (by simpa using hc33),if_neg (by simp at hc33;simp_all),if_pos (by simpa using hc56)];exact eA)|(rw [if_neg (by simpa using hc33),if_neg (by simp at hc33;simp_all),if_neg (by simpa using hc56)];exact eA)⟩
  ·intro s0 s1 s2 s3
   refine rn ?_;refine zir h.evs[k].scan.length (fun j s0 s1 s2 s3=>⟨[(67,iv j),(1,pZ b1),(2,pZ b2),(3,pZ b3),(19,zm4 h.evs),(20,iv (h.evs.map evR).length),(21,iv k),(65,zka h.evs[k].scan),(66,iv (h.evs[k].scan.map zaz).length)],[.box b5 66 (evR h.evs[k]),.row s0.v 1 3 ((((h.evs[k].scan.take j).foldl stepS (zfg (zak (spE h k) (0,h.evs[k].t)) h.evs[k])) 0).map zad),.row s1.v 1 3 ((((h.evs[k].scan.take j).foldl stepS (zfg (zak (spE h k) (0,h.evs[k].t)) h.evs[k])) 1).map zad),.row s2.v 1 3 ((((h.evs[k].scan.take j).foldl stepS (zfg (zak (spE h k) (0,h.evs[k].t)) h.evs[k])) 2).map zad),.row s3.v 1 3 ((((h.evs[k].scan.take j).foldl stepS (zfg (zak (spE h k) (0,h.evs[k].t)) h.evs[k])) 3).map zad),.box b3 171 [.v s0.v,.v s1.v,.v s2.v,.v s3.v],.box b2 171 [.v (.slice none 0 0),.v (.slice none 0 0),.v (.slice none 0 0),.v (.slice none 0 0)],.box b1 28 (x5 h)],[]⟩) _ _ _ _ (es) ?_
   intro j s0 s1 s2 s3 lj
   refine rn ?_;refine z7 rfl (fun hc68=> ?_) (fun hc68=> ?_)
   ·have hj:=zao hc68
    have rj:=zac (f:=zaz) hj
    have bj:=Bd.fold (c:=2) (l:=h.evs[k].scan.take j) (fun s _ L n h=>h.s s) ((bd.f (0,h.evs[k].t)).k h.evs[k])
    have bl:(h.evs[k].scan.take j).length≤3000:=by rw [List.length_take];omega
    refine rn ?_;refine z8 rfl (y6 rfl fun b7=> ?_)
    refine rn ?_;refine qq rfl rfl (y8 rfl rfl (by decide) (by decide)) ?_
    refine rn ?_;refine z8 rfl (w9 rfl rfl (zaq (y3.of_fun (za4 _ _ _ (by have:=bj 2;omega)))) rfl ?_)
    rintro _ _ ⟨s',rfl,rfl⟩
    refine qq rfl rfl (y8 rfl rfl (by decide) (by decide)) ?_
    refine rn ?_;refine qq rfl rfl (y8 rfl rfl (by decide) (by decide)) ?_
    refine rn ?_;refine z8 rfl (w9 rfl rfl (zaq (y3.of_fun (zl7 _ _ _ (by have:=bj 0;omega)))) rfl ?_)
    rintro _ _ ⟨s',rfl,rfl⟩
    refine qq rfl rfl (y8 rfl rfl (by decide) (by decide)) ?_
    refine rn ?_;have e:(h.evs[k].scan.take (j+1)).foldl stepS (zfg (zak (spE h k) (0,h.evs[k].t)) h.evs[k])=stepS ((h.evs[k].scan.take j).foldl stepS (zfg (zak (spE h k) (0,h.evs[k].t)) h.evs[k])) h.evs[k].scan[j]:=zgj _ _ hj
    exact ⟨hj,_,_,_,_,by simp only [e];exact eA⟩
   ·have qj:=zap hc68 lj
    refine rn ?_;have e:spE h (k+1)=(h.evs[k].scan.take j).foldl stepS (zfg (zak (spE h k) (0,h.evs[k].t)) h.evs[k]):=by rw [spE,zgj _ _ hk,H.stepE,zin _ _ qj];rfl
    exact ⟨hk,_,_,_,_,by simp only [e];exact eA⟩
 ·have qk:=zap hc22 lk
  refine rn ?_;refine zir h.ords.length (fun k s0 s1 s2 s3=>⟨[(88,iv k),(1,pZ b1),(2,pZ b2),(3,pZ b3),(86,zxh h.ords),(87,iv (h.ords.map zdk).length)],[.row s0.v 1 3 (((spO h k) 0).map zad),.row s1.v 1 3 (((spO h k) 1).map zad),.row s2.v 1 3 (((spO h k) 2).map zad),.row s3.v 1 3 (((spO h k) 3).map zad),.box b3 171 [.v s0.v,.v s1.v,.v s2.v,.v s3.v],.box b2 171 [.v (.slice none 0 0),.v (.slice none 0 0),.v (.slice none 0 0),.v (.slice none 0 0)],.box b1 28 (x5 h)],[]⟩) _ _ _ _ (by rw [show spO h 0=spE h k from (zin stepE noR qk).symm];exact es) ?_
  intro k s0 s1 s2 s3 lk
  refine rn ?_;refine z7 rfl (fun hc89=> ?_) (fun hc89=> ?_)
  ·have hk:=zao hc89
   have rk:=zac (f:=zdk) hk
   have bd:=bdO la k lk
   have ls:=la.ordts h.ords[k] (List.getElem_mem hk)
   have le:=la.ords
   refine rn ?_;refine z8 rfl (y6 rfl fun b9=> ?_)
   refine rn ?_;refine qq rfl rfl (y8 rfl rfl (by decide) (by decide)) ?_
   refine rn ?_;refine z8 rfl (w9 rfl rfl (zaq (y3.of_fun (za4 _ _ _ (by have:=bd 2;omega)))) rfl ?_)
   rintro _ _ ⟨s',rfl,rfl⟩
   refine qq rfl rfl (y8 rfl rfl (by decide) (by decide)) ?_
   refine rn ?_;refine zir h.ords[k].ts.length (fun j s0 s1 s2 s3=>⟨[(101,iv j),(1,pZ b1),(2,pZ b2),(3,pZ b3),(86,zxh h.ords),(87,iv (h.ords.map zdk).length),(88,iv k),(99,zb8 h.ords[k].ts),(100,iv (h.ords[k].ts.map zad).length)],[.box b9 99 (zdk h.ords[k]),.row s0.v 1 3 ((((h.ords[k].ts.take j).foldl zoh (zak (spO h k) (2,h.ords[k].o))) 0).map zad),.row s1.v 1 3 ((((h.ords[k].ts.take j).foldl zoh (zak (spO h k) (2,h.ords[k].o))) 1).map zad),.row s2.v 1 3 ((((h.ords[k].ts.take j).foldl zoh (zak (spO h k) (2,h.ords[k].o))) 2).map zad),.row s3.v 1 3 ((((h.ords[k].ts.take j).foldl zoh (zak (spO h k) (2,h.ords[k].o))) 3).map zad),.box b3 171 [.v s0.v,.v s1.v,.v s2.v,.v s3.v],.box b2 171 [.v (.slice none 0 0),.v (.slice none 0 0),.v (.slice none 0 0),.v (.slice none 0 0)],.box b1 28 (x5 h)],[]⟩) _ _ _ _ (es) ?_
   intro j s0 s1 s2 s3 lj
   refine rn ?_;refine z7 rfl (fun hc102=> ?_) (fun hc102=> ?_)
   ·have hj:=zao hc102
    have rj:=zac (f:=zad) hj
    have bj:=Bd.fold (c:=1) (l:=h.ords[k].ts.take j) (fun s _ L n h=>h.t s) (bd.f (2,h.ords[k].o))
    have bl:(h.ords[k].ts.take j).length≤3000:=by rw [List.length_take];omega
    refine rn ?_;refine qq rfl rfl (y8 rfl rfl (by decide) (by decide)) ?_
    refine rn ?_;refine z8 rfl (w9 rfl rfl (zaq (y3.of_fun (za4 _ _ _ (by have:=bj 0;omega)))) rfl ?_)
    rintro _ _ ⟨s',rfl,rfl⟩
    refine qq rfl rfl (y8 rfl rfl (by decide) (by decide)) ?_
    refine rn ?_;have e:(h.ords[k].ts.take (j+1)).foldl zoh (zak (spO h k) (2,h.ords[k].o))=zoh ((h.ords[k].ts.take j).foldl zoh (zak (spO h k) (2,h.ords[k].o))) h.ords[k].ts[j]:=zgj _ _ hj
    exact ⟨hj,_,_,_,_,by simp only [e];exact eA⟩
   ·have qj:=zap hc102 lj
    refine rn ?_;have e:spO h (k+1)=(h.ords[k].ts.take j).foldl zoh (zak (spO h k) (2,h.ords[k].o)):=by rw [spO,zgj _ _ hk,zqk,zin _ _ qj];rfl
    exact ⟨hk,_,_,_,_,by simp only [e];exact eA⟩
  ·have qk:=zap hc89 lk
   refine rn ?_;refine zir h.mats.length (fun k s0 s1 s2 s3=>⟨[(115,iv k),(1,pZ b1),(2,pZ b2),(3,pZ b3),(113,zo8 h.mats),(114,iv (h.mats.map ze4).length)],[.row s0.v 1 3 (((spM h k) 0).map zad),.row s1.v 1 3 (((spM h k) 1).map zad),.row s2.v 1 3 (((spM h k) 2).map zad),.row s3.v 1 3 (((spM h k) 3).map zad),.box b3 171 [.v s0.v,.v s1.v,.v s2.v,.v s3.v],.box b2 171 [.v (.slice none 0 0),.v (.slice none 0 0),.v (.slice none 0 0),.v (.slice none 0 0)],.box b1 28 (x5 h)],[]⟩) _ _ _ _ (by rw [show spM h 0=spO h k from (zin zqk _ qk).symm];exact es) ?_
   intro k s0 s1 s2 s3 lk
   refine rn ?_;refine z7 rfl (fun hc116=> ?_) (fun hc116=> ?_)
   ·have hk:=zao hc116
    have rk:=zac (f:=ze4) hk
    have bd:=bdM la k lk
    have ls:=la.matts h.mats[k] (List.getElem_mem hk)
    have le:=la.mats
    refine rn ?_;refine z8 rfl (y6 rfl fun b13=> ?_)
    refine rn ?_;refine qq rfl rfl (y8 rfl rfl (by decide) (by decide)) ?_
    refine rn ?_;refine z8 rfl (w9 rfl rfl (zaq (y3.of_fun (za4 _ _ _ (by have:=bd 3;omega)))) rfl ?_)
    rintro _ _ ⟨s',rfl,rfl⟩
    refine qq rfl rfl (y8 rfl rfl (by decide) (by decide)) ?_
    refine rn ?_;refine qq rfl rfl (y8 rfl rfl (by decide) (by decide)) ?_
    refine rn ?_;refine z8 rfl (w9 rfl rfl (zaq (y3.of_fun (za4 _ _ _ (by have:=bd 2;omega)))) rfl ?_)
    rintro _ _ ⟨s',rfl,rfl⟩
    refine qq rfl rfl (y8 rfl rfl (by decide) (by decide)) ?_
    refine rn ?_;refine zir h.mats[k].ts.length (fun j s0 s1 s2 s3=>⟨[(134,iv j),(1,pZ b1),(2,pZ b2),(3,pZ b3),(113,zo8 h.mats),(114,iv (h.mats.map ze4).length),(115,iv k),(132,zb8 h.mats[k].ts),(133,iv (h.mats[k].ts.map zad).length)],[.box b13 112 (ze4 h.mats[k]),.row s0.v 1 3 ((((h.mats[k].ts.take j).foldl zoh (zak (zak (spM h k) (3,h.mats[k].p)) (2,h.mats[k].o))) 0).map zad),.row s1.v 1 3 ((((h.mats[k].ts.take j).foldl zoh (zak (zak (spM h k) (3,h.mats[k].p)) (2,h.mats[k].o))) 1).map zad),.row s2.v 1 3 ((((h.mats[k].ts.take j).foldl zoh (zak (zak (spM h k) (3,h.mats[k].p)) (2,h.mats[k].o))) 2).map zad),.row s3.v 1 3 ((((h.mats[k].ts.take j).foldl zoh (zak (zak (spM h k) (3,h.mats[k].p)) (2,h.mats[k].o))) 3).map zad),.box b3 171 [.v s0.v,.v s1.v,.v s2.v,.v s3.v],.box b2 171 [.v (.slice none 0 0),.v (.slice none 0 0),.v (.slice none 0 0),.v (.slice none 0 0)],.box b1 28 (x5 h)],[]⟩) _ _ _ _ (es) ?_
    intro j s0 s1 s2 s3 lj
    refine rn ?_;refine z7 rfl (fun hc135=> ?_) (fun hc135=> ?_)
    ·have hj:=zao hc135
     have rj:=zac (f:=zad) hj
     have bj:=Bd.fold (c:=1) (l:=h.mats[k].ts.take j) (fun s _ L n h=>h.t s) ((bd.f (3,h.mats[k].p)).f (2,h.mats[k].o))
     have bl:(h.mats[k].ts.take j).length≤3000:=by rw [List.length_take];omega
     refine rn ?_;refine qq rfl rfl (y8 rfl rfl (by decide) (by decide)) ?_
     refine rn ?_;refine z8 rfl (w9 rfl rfl (zaq (y3.of_fun (za4 _ _ _ (by have:=bj 0;omega)))) rfl ?_)
     rintro _ _ ⟨s',rfl,rfl⟩
     refine qq rfl rfl (y8 rfl rfl (by decide) (by decide)) ?_
     refine rn ?_;have e:(h.mats[k].ts.take (j+1)).foldl zoh (zak (zak (spM h k) (3,h.mats[k].p)) (2,h.mats[k].o))=zoh ((h.mats[k].ts.take j).foldl zoh (zak (zak (spM h k) (3,h.mats[k].p)) (2,h.mats[k].o))) h.mats[k].ts[j]:=zgj _ _ hj
     exact ⟨hj,_,_,_,_,by simp only [e];exact eA⟩
    ·have qj:=zap hc135 lj
     refine rn ?_;have e:spM h (k+1)=(h.mats[k].ts.take j).foldl zoh (zak (zak (spM h k) (3,h.mats[k].p)) (2,h.mats[k].o)):=by rw [spM,zgj _ _ hk,stepM,zin _ _ qj];rfl
     exact ⟨hk,_,_,_,_,by simp only [e];exact eA⟩
   ·have qk:=zap hc116 lk
    refine rn ?_;refine zir h.wants.length (fun k s0 s1 s2 s3=>⟨[(148,iv k),(2,pZ b2),(3,pZ b3),(146,zsq h.wants),(147,iv (h.wants.map zff).length)],[.row s0.v 1 3 (((spW h k) 0).map zad),.row s1.v 1 3 (((spW h k) 1).map zad),.row s2.v 1 3 (((spW h k) 2).map zad),.row s3.v 1 3 (((spW h k) 3).map zad),.box b3 171 [.v s0.v,.v s1.v,.v s2.v,.v s3.v],.box b2 171 [.v (.slice none 0 0),.v (.slice none 0 0),.v (.slice none 0 0),.v (.slice none 0 0)],.box b1 28 (x5 h)],[]⟩) _ _ _ _ (by rw [show spW h 0=spM h k from (zin stepM _ qk).symm];exact es) ?_
    intro k s0 s1 s2 s3 lk
    refine rn ?_;refine z7 rfl (fun hc149=> ?_) (fun hc149=> ?_)
    ·have hk:=zao hc149
     have rk:=zac (f:=zff) hk
     have bd:=bdW la k lk
     have le:=la.wants
     refine rn ?_;refine z8 rfl (y6 rfl fun b17=> ?_)
     refine rn ?_;refine qq rfl rfl (y8 rfl rfl (by decide) (by decide)) ?_
     refine rn ?_;refine z8 rfl (w9 rfl rfl (zaq (y3.of_fun (za4 _ _ _ (by have:=bd 1;omega)))) rfl ?_)
     rintro _ _ ⟨s',rfl,rfl⟩
     refine qq rfl rfl (y8 rfl rfl (by decide) (by decide)) ?_
     refine rn ?_;have e:spW h (k+1)=ydi (spW h k) h.wants[k]:=zgj _ _ hk
     exact ⟨hk,_,_,_,_,by simp only [e];exact eA⟩
    ·have qk:=zap hc149 lk
     refine rn ?_;exact zfw (.cons _ _ _ _ (.agg _ _ _ _ _ _ _ rfl inferInstance inferInstance inferInstance rfl) .nil) (.trans (zca [] _) (.trans (zca [_] _) (.trans (zca [_,_] _) (.trans (zca [_,_,_] _) (.drop [_,_,_] _ _))))) ⟨rfl,by rw [←show spW h k=zb4 h from zin _ _ qk];rfl⟩
theorem yd3 (h:Hist) (la:Lim 4611686018427387904 h):x4 Tryz.prog 56 [.agg (x5 h)] [] (fun r h'=>h'= []∧r=bv (zi4 h)):=by
 refine z6 Tryz.func56 rfl rfl rfl ?_
 refine rn ?_;refine z8 rfl (x9 rfl rfl rfl fun b1=> ?_)
 refine rn ?_;refine qv rfl rfl (y4 rfl rfl (v7 (zze h la) (Sbs.refl _))) ?_
 refine rn ?_;refine z7 rfl (fun hc10=> ?_) (fun hc10=> ?_)
 ·refine rn ?_;refine rq 1 ?_
  exact ⟨rfl,congrArg bv (by rw [yjf (by simpa using hc10)])⟩
 ·have hs:j8 h=true:=by simpa using hc10
  have la3:=znr hs
  refine rn ?_;refine qv rfl rfl (y4 rfl rfl (v7 (zzd h la3) (Sbs.refl _))) ?_
  refine rn ?_;refine zbp (4) (fun k:Nat=>∀j,j < k→okS h j=true) (fun k=> [(13,iv k)]) [(1,_),(12,_)] (fun j hj=>by omega) ?_
  intro k lk zk
  refine rn ?_;refine z7 rfl (fun hc14=> ?_) (fun hc14=> ?_)
  ·have hk:k < 4:=by simp at hc14;omega
   have r0:=yqv h hk
   have r1:=ykh h hk
   have bl:=zwp la3 k
   refine rn ?_;refine z7 rfl (fun hc35=> ?_) (fun hc35=> ?_)
   ·refine rn ?_;refine rq 1 ?_
    exact ⟨rfl,congrArg bv (by rw [zzb hk];rw [okS,beq_eq_false_iff_ne.2 (by simp at hc35;omega),Bool.false_and])⟩
   ·have hlen:(zb4 h k).length=(nmK h k).length:=by simp at hc35;omega
    refine rn ?_;refine zbp ((zb4 h k).length) (fun i:Nat=>ze3 0 (zb4 h k)=ze3 i ((zb4 h k).drop i)) (fun i=> [(38,iv i)]) [(1,_),(12,_),(13,_),(36,_),(37,_)] rfl ?_
    intro i li zi
    refine rn ?_;refine z7 rfl (fun hc39=> ?_) (fun hc39=> ?_)
    ·have hi:=zao hc39
     have ri:=zac (f:=zad) hi
     refine rn ?_;refine z7 rfl (fun hc45=> ?_) (fun hc45=> ?_)
     ·refine rn ?_;refine rq 1 ?_
      exact ⟨rfl,congrArg bv (by rw [zzb hk];rw [okS,ymf hi zi (by simp at hc45;omega),Bool.and_false])⟩
     ·refine rn ?_;exact ⟨hi,zyg hi zi (by simp at hc45;omega),eA⟩
    ·have qi:=zap hc39 li
     refine rn ?_;exact ⟨hk,fun j hj=>(Nat.lt_or_ge j k).elim (zk j) (fun q=>by
      obtain rfl:j=k:=by omega
      rw [okS,hlen,ymg qi zi];simp),eA⟩
  ·have qk:k=4:=by simp at hc14;omega
   subst qk
   refine rn ?_;refine rq 1 ?_
   exact ⟨rfl,congrArg bv (by rw [yje hs zk])⟩
theorem zqx (h:Hist) (la:Lim 4611686018427387904 h):x4 Tryz.prog 56 [.agg (x5 h)] [] (fun r h'=>h'= []∧r=bv (zfb h)):=
 (yd3 h la).mono fun _ _ q=>⟨q.1,by rw [q.2,zzc]⟩
theorem yn7 {l:List Ev} {t x:Int} {j:Nat} (h:j < l.length) (hw:zbf t x l[j]=true):zg8 l t x (j+1)=some (l[j].v,j):=by
 rw [zg8,List.getElem?_eq_getElem h];simp only [hw,if_true]
theorem ztp {l:List Ev} {t x:Int} {j:Nat} (h:j < l.length) (hw:zbf t x l[j]=false):zg8 l t x (j+1)=zg8 l t x j:=by
 rw [zg8,List.getElem?_eq_getElem h];simp [hw]
theorem yd0 {l:List Ev} {j:Nat} (h:j < l.length):(l.map evR)[(((j+1:Nat):Int) - 1).toNat]? =some (evR l[j]):=by
 rw [show (((j+1:Nat):Int) - 1).toNat=j by omega,List.getElem?_map,List.getElem?_eq_getElem h];rfl
theorem zwf {α:Type} {l:List α} {q:α→Bool} {k:Nat} (hk:k < l.length):(l.take (k+1)).all q=((l.take k).all q && q l[k]):=by
 rw [List.take_succ_eq_append_getElem hk,List.all_append,List.all_cons,List.all_nil,Bool.and_true]
theorem yd2 (h:Hist) (la:Lim 4611686018427387904 h):x4 Tryz.prog 57 [.agg (x5 h)] [] (fun r h'=>h'= []∧r=bv (zbg h)):=by
 refine z6 Tryz.func57 rfl rfl rfl ?_
 refine rn ?_;refine z8 rfl (x9 rfl rfl rfl fun b1=> ?_)
 refine rn ?_;refine qv rfl rfl (y4 rfl rfl (v7 (zqx h la) (Sbs.refl _))) ?_
 refine rn ?_;refine z7 rfl (fun hc7=> ?_) (fun hc7=> ?_)
 ·have hm:zfb h=false:=by simpa using hc7
  refine rn ?_;refine rq 1 ?_
  exact ⟨rfl,congrArg bv (by rw [zbg,hm];rfl)⟩
 ·have hm:zfb h=true:=by simpa using hc7
  refine rn ?_;refine qv rfl rfl (y4 rfl rfl (v7 (zw1 h ((zo7 hm).mono (by decide))) (Sbs.refl _))) ?_
  obtain ⟨bi,bj,be⟩:=yb5 (zas (zek h) rules10)
  rw [be]
  refine rn ?_;refine z8 rfl (y6 rfl fun b3=> ?_)
  refine rn ?_;refine rq 2 ?_
  exact ⟨rfl,congrArg bv (by rw [zbg,hm,show zjc h=zas (zek h) rules10 from zv2 hm];cases zas (zek h) rules10 <;> rfl)⟩
theorem zw4 (h:Hist) (la:Lim 4611686018427387904 h):x4 Tryz.prog 14 [.agg (x5 h)] [] (fun r h'=>h'= []∧r=iv (j5 h)):=by
 refine z6 Tryz.func14 rfl rfl rfl ?_
 refine rn ?_;refine z8 rfl (x9 rfl rfl rfl fun b1=> ?_)
 refine rn ?_;refine qv rfl rfl (y4 rfl rfl (v7 (zqx h la) (Sbs.refl _))) ?_
 refine rn ?_;refine z7 rfl (fun hc5=> ?_) (fun hc5=> ?_)
 ·have hm:zfb h=false:=by simpa using hc5
  refine rn ?_;refine rq 1 ?_
  exact ⟨rfl,by rw [j5,hm];rfl⟩
 ·have hm:zfb h=true:=by simpa using hc5
  refine rn ?_;refine qv rfl rfl (y4 rfl rfl (v7 (yd2 h la) (Sbs.refl _))) ?_
  refine rn ?_;refine z7 rfl (fun hc8=> ?_) (fun hc8=> ?_)
  ·refine rn ?_;refine rq 1 ?_
   exact ⟨rfl,by rw [j5,hm,if_pos rfl,if_neg (by simpa using hc8)];rfl⟩
  ·refine rn ?_;refine rq 1 ?_
   exact ⟨rfl,by rw [j5,hm,if_pos rfl,if_pos (by simpa using hc8)];rfl⟩
theorem zw2 (h:Hist) (la:h.evs.length≤1000000) (t x:Int):x4 Tryz.prog 196 [.agg (x5 h),iv t,iv x] [] (fun r h'=>h'= []∧r= .tup [.agg (ydc (yie (zv4 h.evs t x))),iv (atO (zv4 h.evs t x)),bv (zv4 h.evs t x).isSome]):=by
 refine z6 Tryz.func196 rfl rfl rfl ?_
 refine rn ?_;refine z8 rfl (x9 rfl rfl rfl fun b3=> ?_)
 refine z8 rfl (y6 rfl fun b6=> ?_)
 refine q1 ?_;refine q1 ?_;refine u5 (k8 ?_)
 refine x8 ?_;refine x8 (y5 ?_)
 refine q1 ?_;refine q1 ?_;refine q1 ?_;refine qq rfl rfl (k9 rfl rfl rfl (by rw [List.length_map];omega)) ?_
 refine rn ?_;refine zct (fun k:Nat=>k≤h.evs.length∧zg8 h.evs t x h.evs.length=zg8 h.evs t x k) (fun k=>⟨[(9,iv ((k:Int) - 1)),(1,iv t),(2,iv x),(3,pZ b3),(6,pZ b6),(7,iv 0),(8,bv false)],.box b6 63 [iv 0,iv 0]:: .box b3 28 (x5 h):: [],[]⟩) (fun k=>k) h.evs.length ⟨Nat.le_refl _,rfl⟩ (by rw [List.length_map];exact es) ?_
 rintro k ⟨lk,zk⟩
 refine rn ?_;refine z7 rfl (fun hc16=> ?_) (fun hc16=> ?_)
 ·obtain ⟨j,rfl⟩:∃j,k=j+1:=⟨k - 1,by have:=of_decide_eq_true hc16;omega⟩
  have hj:j < h.evs.length:=by omega
  refine zab ?_;refine k8 ?_;refine x8 ?_;refine zal ?_;refine x8 (y5 ?_)
  refine q1 ?_;refine q1 ?_;refine q1 ?_;refine qq rfl rfl (zkc rfl rfl (by omega) (yd0 hj)) ?_
  refine rn ?_;refine z8 rfl (y6 rfl fun b10=> ?_)
  refine rn ?_;refine y9 (fun hg5_3=> ?_) (fun hg5_3=> ?_)
  ·refine rn ?_;refine y9 (fun hg5_9=> ?_) (fun hg5_9=> ?_)
   ·refine rn ?_;refine z7 rfl (fun hc38=> ?_) (fun hc38=> ?_)
    ·have hw:zbf t x h.evs[j]=true:=by rw [zbf];first|(rw [hg5_3,hg5_9,hc38];rfl)|(rw [hg5_3,hg5_9];rfl)|(rw [hg5_3];rfl)
     refine rn ?_;exact zfw (.cons _ _ _ _ (.agg _ _ _ _ _ _ _ rfl inferInstance inferInstance inferInstance rfl) (.cons _ _ _ _ (.tmp _ _ rfl) (.cons _ _ _ _ (.tmp _ _ rfl) .nil))) (.drop [_,_,_] _ _) ⟨rfl,by rw [zv4,zk,yn7 hj hw];simp only [yie,atO];rw [show (((j+1:Nat):Int) - 1)=(j:Int) by omega];rfl⟩
    ·have hw:zbf t x h.evs[j]=false:=by rw [zbf];first|(rw [hg5_3,hg5_9,hc38];rfl)|(rw [hg5_3,hg5_9];rfl)|(rw [hg5_3];rfl)
     refine zab ?_;refine zg9 ?_;refine k8 ?_;refine y5 ?_;refine q1 ?_;refine qq rfl rfl (k9 rfl rfl rfl (by omega)) ?_
     refine rn ?_;exact ⟨j,⟨by omega,by rw [zk,ztp hj hw]⟩,by rw [show (((j+1:Nat):Int) - 1 - 1)=(j:Int) - 1 by omega];exact eA,by omega⟩
   ·refine rn ?_;refine ze2 rfl ?_;have hw:zbf t x h.evs[j]=false:=by rw [zbf];first|(rw [hg5_3,hg5_9,hc38];rfl)|(rw [hg5_3,hg5_9];rfl)|(rw [hg5_3];rfl)
    refine zab ?_;refine zg9 ?_;refine k8 ?_;refine y5 ?_;refine q1 ?_;refine qq rfl rfl (k9 rfl rfl rfl (by omega)) ?_
    refine rn ?_;exact ⟨j,⟨by omega,by rw [zk,ztp hj hw]⟩,by rw [show (((j+1:Nat):Int) - 1 - 1)=(j:Int) - 1 by omega];exact eA,by omega⟩
  ·refine rn ?_;refine ze2 rfl ?_;have hw:zbf t x h.evs[j]=false:=by rw [zbf];first|(rw [hg5_3,hg5_9,hc38];rfl)|(rw [hg5_3,hg5_9];rfl)|(rw [hg5_3];rfl)
   refine zab ?_;refine zg9 ?_;refine k8 ?_;refine y5 ?_;refine q1 ?_;refine qq rfl rfl (k9 rfl rfl rfl (by omega)) ?_
   refine rn ?_;exact ⟨j,⟨by omega,by rw [zk,ztp hj hw]⟩,by rw [show (((j+1:Nat):Int) - 1 - 1)=(j:Int) - 1 by omega];exact eA,by omega⟩
 ·have qk:k=0:=by have:=of_decide_eq_false hc16;omega
  subst qk
  refine zhi ?_;refine zgy ?_;refine zgy ?_;refine zdv ?_;refine k8 ?_;refine x8 (y5 ?_)
  refine qq rfl rfl (zai (out:= [iv 0,iv 0]) rfl (by rfl)) ?_
  refine rn ?_;exact zfw (.cons _ _ _ _ (.agg _ _ _ _ _ _ _ rfl inferInstance inferInstance inferInstance rfl) (.cons _ _ _ _ (.tmp _ _ rfl) (.cons _ _ _ _ (.tmp _ _ rfl) .nil))) (.drop [_,_] _ _) ⟨rfl,by rw [zv4,zk];rfl⟩
end Go.Proofs
