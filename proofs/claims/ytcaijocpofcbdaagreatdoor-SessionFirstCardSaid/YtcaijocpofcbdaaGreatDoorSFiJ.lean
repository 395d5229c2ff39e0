/- The walks of session's First, Pairs, Has. Conditions: none. -/
import Derived.Test.YtcaijocpofcbdaaGreatDoorSFiI
set_option linter.unusedSectionVars false
set_option linter.unusedSimpArgs false
set_option linter.unusedVariables false
set_option maxRecDepth 10000
namespace Go.Proofs
open Go Go.Ab
attribute [local irreducible] QR QV OE zcw aw zdw zc3 zb7 za6 thn zg2 zes jch zf8
open Go.H
def br0:Brch:=⟨0,0,0,0,0,0⟩
theorem zuc {h:Hist} {s g:Int} (he:zgh h s g=0):zdh h s=0∧yhm h s g=k9 h s∧∃k:Nat,k < 4∧yhn h s g=(k:Int)∧zh1 k=g∧zpe g=(k:Int):=by
 by_cases hl:zdh h s=0
 ·by_cases hg:zpe g < 0
  ·have:=(zmu hl hg).1;omega
  ·obtain ⟨k,hk,e1,e2⟩:=yoo hg
   exact ⟨hl,(zii hl hg).2.1,k,hk,by rw [(zii hl hg).2.2,e1],e2,e1⟩
 ·have:=(zij (g:=g) hl).1;omega
theorem znf (l:List Acc):∀n:Nat,(zp1 n l).length=(l.filter fun a=>decide (0≤a.o∧a.o < (n:Int))).length
 |0=>by
  have:(l.filter fun a=>decide (0≤a.o∧a.o < ((0:Nat):Int)))= []:=by
   rw [List.filter_eq_nil_iff];intro a _;simp <;> omega
  rw [this];rfl
 |n+1=>by
  have ih:=znf l n
  rw [zp1,zye,List.flatMap_append,List.length_append]
  rw [zp1] at ih
  rw [ih]
  clear ih
  induction l with
  |nil=>rfl
  |cons a l ih=>
   simp only [List.filter_cons,List.flatMap_cons,List.flatMap_nil,List.append_nil] at ih ⊢
   by_cases h1:a.o=(n:Int)
   ·have e1:decide (0≤a.o∧a.o < (n:Int))=false:=decide_eq_false (by omega)
    have e2:decide (0≤a.o∧a.o < ((n+1:Nat):Int))=true:=decide_eq_true (by omega)
    have e3:(a.o==(n:Int))=true:=by simpa using h1
    rw [e1,e2,e3];simp only [↓reduceIte,List.length_cons,Bool.false_eq_true] at ih ⊢;omega
   ·have e3:(a.o==(n:Int))=false:=by simpa using h1
    by_cases h2:0≤a.o∧a.o < (n:Int)
    ·have e1:decide (0≤a.o∧a.o < (n:Int))=true:=decide_eq_true h2
     have e2:decide (0≤a.o∧a.o < ((n+1:Nat):Int))=true:=decide_eq_true (by omega)
     rw [e1,e2,e3];simp only [↓reduceIte,List.length_cons,Bool.false_eq_true] at ih ⊢;omega
    ·have e1:decide (0≤a.o∧a.o < (n:Int))=false:=decide_eq_false h2
     have e2:decide (0≤a.o∧a.o < ((n+1:Nat):Int))=false:=decide_eq_false (by omega)
     rw [e1,e2,e3];simp only [↓reduceIte,Bool.false_eq_true];exact ih
theorem zuv (n:Nat) (l:List Acc):(zp1 n l).length≤l.length:=by rw [znf];exact List.length_filter_le _ _
theorem zo8 {h:Hist} (hc:j8 h=0) (s:Int):(k9 h s).length≤3000∧∀d∈k9 h s,d.A.length≤3000∧d.B.length≤3000:=by
 have lE:=(zg9 hc).evs
 refine ⟨by rw [k9,List.length_map];exact Nat.le_trans (zlb h s) lE,fun d hd=> ?_⟩
 obtain ⟨t,_,rfl⟩:=List.mem_map.1 hd
 have h1:=zuv h.os.length (zpv h t 3)
 have h2:=zuv h.os.length (zpv h t 2)
 have h3:(zpv h t 3).length≤h.evs.length:=ze6 h t 3 h.evs.length
 have h4:(zpv h t 2).length≤h.evs.length:=ze6 h t 2 h.evs.length
 exact ⟨by show (zp1 _ _).length≤_;omega,by show (zp1 _ _).length≤_;omega⟩
theorem ztx {k n:Nat} {d:Dos} (h:d.A.length≤n∧d.B.length≤n):(zds k d).length≤n:=by rw [zds];split;exact h.2;exact h.1
theorem zol {k n:Nat} {d:Dos} (h:d.A.length≤n∧d.B.length≤n):(zhf k d).length≤n:=by rw [zhf];split;exact h.1;exact h.2
theorem yb1 (k:Nat) (L:List Dos):∀n,(brW k L n).length≤n * L.length
 |0=>by simp [brW]
 |n+1=>by
  have h1:=yb1 k L n
  rw [brW,List.length_append,Nat.succ_mul]
  split
  ·rename_i d _
   have h2:=List.length_filterMap_le (hdW k d) (L.take n)
   have h3:(L.take n).length≤L.length:=by rw [List.length_take];omega
   omega
  ·simp;omega
def seB (h:Hist) (s g:Int):List Brch:=if zgh h s g=0 then brW (zpe g).toNat (k9 h s) (k9 h s).length else []
theorem zyy {h:Hist} {s g:Int} (he:zgh h s g≠0):seB h s g= []:=if_neg he
theorem zwn {h:Hist} {s g:Int} {k:Nat} (he:zgh h s g=0) (hk:zpe g=(k:Int)):seB h s g=brW k (k9 h s) (k9 h s).length:=by rw [seB,if_pos he,hk];rfl
theorem zvj {α:Type} {l pre rest:List α} {d:α} (h:l=pre++d::rest) (e:pre= []):l=d::rest:=by rw [h,e];rfl
def haK (h:Hist) (s:Int):Nat→Int
 |0=>0
 |k+1=>if brW k (k9 h s) (k9 h s).length= [] then bI .or .i64 (haK h s k) (zh1 k) else haK h s k
def haO (h:Hist) (s:Int):Int:=if zdh h s=0 then haK h s 4 else 0
set_option maxHeartbeats 8000000 in
theorem zon (h:Hist) (la:Lim 4611686018427387904 h) (s g:Int):x4 Tryz.prog 15 [.agg (x5 h),iv s,iv g] (.glob 0 117 w9:: .glob 3 148 x7:: .glob 5 276 x8:: .glob 6 279 x3:: .glob 2 197 j4:: []) (fun r h'=>h'= .glob 0 117 w9:: .glob 3 148 x7:: .glob 5 276 x8:: .glob 6 279 x3:: .glob 2 197 j4:: []∧r= .tup [.agg (zch ((seB h s g).head?.getD br0)),bv (seB h s g).head?.isSome,iv (zgh h s g)]):=by
 refine z6 Tryz.func15 rfl rfl rfl ?_
 refine rn ?_;refine z8 rfl (x9 rfl rfl rfl fun b3=> ?_)
 refine z8 rfl (y7 rfl fun b6=> ?_)
 refine z8 rfl (y7 rfl fun b7=> ?_)
 refine z8 rfl (y7 rfl fun b8=> ?_)
 refine rn ?_;refine qv rfl rfl (y4 rfl rfl (y3.qt (y3.of_fun (zu4 h la s g)) ((pt4 _ _ _ _ _ _).trans (.cons _ ((pt4 _ _ _ _ _ _).trans (.cons _ ((pt4 _ _ _ _ _ _).trans (.cons _ ((pt4 _ _ _ _ _ _).trans (.cons _ (pt4 _ _ _ _ _ _))))))))))) ?_
 refine rn ?_;refine z7 rfl (fun hc22=> ?_) (fun hc22=> ?_)
 ·have he:zgh h s g≠0:=nzT hc22
  refine rn ?_;exact zgj (.cons _ _ _ _ (.agg _ _ _ _ _ _ _ rfl inferInstance inferInstance inferInstance rfl) (.cons _ _ _ _ (.one _ _ _ _ _ _ _ rfl inferInstance inferInstance rfl) (.cons _ _ _ _ (.one _ _ _ _ _ _ _ rfl inferInstance inferInstance rfl) .nil))) (.drop [_,_,_,_] _ _) ⟨rfl,by rw [zyy he];rfl⟩
 ·have he:zgh h s g=0:=nzF hc22
  obtain ⟨hl0,eO,k,hk,eI,eB,eG⟩:=zuc he
  have hB:=zo8 (zdt.2 (yca hl0).1) s
  rw [eI,eO]
  refine rn ?_;refine z8 rfl (w8 rfl rfl (y3.of_fun (zyw k (k9 h s) _)) rfl ?_)
  rintro _ _ ⟨bi,bl,rfl,rfl⟩
  refine rn ?_;refine zpr (fun pend h''=>(pend=none∧(brW k (k9 h s) (k9 h s).length)= []∧h''= .box bl 101 [zd8 (k9 h s)]:: .box bi 3 [iv ((k:Nat):Int)]:: .glob 0 117 w9:: .box b8 32 [iv 0]:: .box b7 4 [bv false]:: .box b6 36 (zch br0):: .box b3 28 (x5 h):: .glob 3 148 x7:: .glob 5 276 x8:: .glob 6 279 x3:: .glob 2 197 j4:: [])∨(pend=some .ret∧∃d rest,(brW k (k9 h s) (k9 h s).length)=d::rest∧h''= .box bl 101 [zd8 (k9 h s)]:: .box bi 3 [iv ((k:Nat):Int)]:: .glob 0 117 w9:: .box b8 32 [iv 0]:: .box b7 4 [bv true]:: .box b6 36 (zch d):: .box b3 28 (x5 h):: .glob 3 148 x7:: .glob 5 276 x8:: .glob 6 279 x3:: .glob 2 197 j4:: [])) rfl (fun fn l q lp hlp=> ?_) (fun q h'' hK=> ?_) (fun q h'' cc hK=> ?_)
  ·suffices hy:∀pre d rest (x:Brch),(brW k (k9 h s) (k9 h s).length)=pre++d::rest→pre= []→y3 Tryz.prog (yv l) [.agg (zch d)] (.box bl 101 [zd8 (k9 h s)]:: .box bi 3 [iv ((k:Nat):Int)]:: .glob 0 117 w9::lp .ready none:: .defs q:: .box b8 32 [iv 0]:: .box b7 4 [bv false]:: .box b6 36 (zch br0):: .box b3 28 (x5 h):: .glob 3 148 x7:: .glob 5 276 x8:: .glob 6 279 x3:: .glob 2 197 j4:: []) (fun r h'=>∃x',(r=bv true∧pre++ [d]= []∧h'= .box bl 101 [zd8 (k9 h s)]:: .box bi 3 [iv ((k:Nat):Int)]:: .glob 0 117 w9::lp .ready none:: .defs q:: .box b8 32 [iv 0]:: .box b7 4 [bv false]:: .box b6 36 (zch br0):: .box b3 28 (x5 h):: .glob 3 148 x7:: .glob 5 276 x8:: .glob 6 279 x3:: .glob 2 197 j4:: [])∨(r=bv false∧(∃rest,(brW k (k9 h s) (k9 h s).length)=x'::rest)∧h'= .box bl 101 [zd8 (k9 h s)]:: .box bi 3 [iv ((k:Nat):Int)]:: .glob 0 117 w9::lp .done (some .ret):: .defs q:: .box b8 32 [iv 0]:: .box b7 4 [bv true]:: .box b6 36 (zch x'):: .box b3 28 (x5 h):: .glob 3 148 x7:: .glob 5 276 x8:: .glob 6 279 x3:: .glob 2 197 j4:: [])) by
    refine x4.mono (x4.perm ((pt2 _ _ _ _).trans (.cons _ ((pt2 _ _ _ _).trans (.cons _ (pt6 _ _ _ _ _ _ _ _))))) (zyv k hk (k9 h s) (by omega) (fun d hd=>ztx ⟨Nat.le_trans (hB.2 d hd).1 (by decide),Nat.le_trans (hB.2 d hd).2 (by decide)⟩) (fun d hd=>zol ⟨Nat.le_trans (hB.2 d hd).1 (by decide),Nat.le_trans (hB.2 d hd).2 (by decide)⟩) (yv l) rfl bi bl (fun pre _=>pre= []) (fun d=>∃rest,(brW k (k9 h s) (k9 h s).length)=d::rest) (fun _ _=>lp .ready none:: .defs q:: .box b8 32 [iv 0]:: .box b7 4 [bv false]:: .box b6 36 (zch br0):: .box b3 28 (x5 h):: .glob 3 148 x7:: .glob 5 276 x8:: .glob 6 279 x3:: .glob 2 197 j4:: []) (fun d=>lp .done (some .ret):: .defs q:: .box b8 32 [iv 0]:: .box b7 4 [bv true]:: .box b6 36 (zch d):: .box b3 28 (x5 h):: .glob 3 148 x7:: .glob 5 276 x8:: .glob 6 279 x3:: .glob 2 197 j4:: []) br0 rfl hy)) ?_
    rintro _ _ ⟨x,⟨hn,rfl⟩|⟨⟨rest,hn⟩,rfl⟩⟩
    ·exact ⟨none,.ready,_,((pt3 _ _ _ _ _).trans (.cons _ (pt3 _ _ _ _ _))),by simp,.inl ⟨rfl,hn,rfl⟩⟩
    ·exact ⟨some .ret,.done,_,((pt3 _ _ _ _ _).trans (.cons _ (pt3 _ _ _ _ _))),by simp,.inr ⟨rfl,x,rest,hn,rfl⟩⟩
   intro pre d rest x hL hpre
   refine y3.perm (pt3 _ _ _ _ _) (y3.ventE ?_)
   refine zet hlp rfl rfl ?_
   refine rn ?_;refine z8 rfl (y7 rfl fun b12=> ?_)
   refine rn ?_;refine ⟨[(12,pZ b12),(6,pZ b6),(7,pZ b7),(8,pZ b8)],.box b12 36 (zch d):: .box bl 101 [zd8 (k9 h s)]:: .box bi 3 [iv ((k:Nat):Int)]:: .glob 0 117 w9:: .defs q:: .box b8 32 [iv 0]:: .box b7 4 [bv false]:: .box b6 36 (zch br0):: .box b3 28 (x5 h):: .glob 3 148 x7:: .glob 5 276 x8:: .glob 6 279 x3:: .glob 2 197 j4:: [],v6 (za0 (pt1 _ _ _)) es,?_⟩
   refine rn ?_;exact zoq (.refl _) ⟨_,_,.trans (.perm ((pt1 _ _ _).trans (.cons _ ((pt1 _ _ _).trans (.cons _ ((pt1 _ _ _).trans (.cons _ (pt1 _ _ _))))))) _) (.drop [_] _ _),d,.inr ⟨rfl,⟨rest,zvj hL hpre⟩,rfl⟩⟩
  ·obtain ⟨_,hn,rfl⟩|⟨hc',_⟩:=hK
   rotate_left
   ·cases hc'
   refine rn ?_;exact ziw (.refl _) (.cons _ _ _ _ (.agg _ _ _ _ _ _ _ rfl inferInstance inferInstance inferInstance rfl) (.cons _ _ _ _ (.one _ _ _ _ _ _ _ rfl inferInstance inferInstance rfl) (.cons _ _ _ _ (.one _ _ _ _ _ _ _ rfl inferInstance inferInstance rfl) .nil))) (.trans (.perm (.cons _ (.cons _ ((pt1 _ _ _).trans (.cons _ ((pt1 _ _ _).trans (.cons _ ((pt1 _ _ _).trans (.cons _ (pt1 _ _ _))))))))) _) (.drop [_,_,_,_,_,_] _ _)) ⟨rfl,by rw [zwn he eG,hn,he];rfl⟩
  ·obtain ⟨hc',_⟩|⟨hc',d,rest,hn,rfl⟩:=hK
   ·cases hc'
   obtain rfl:cc= .ret:=by simpa using hc'
   refine rn ?_;exact ziw (.refl _) (.cons _ _ _ _ (.agg _ _ _ _ _ _ _ rfl inferInstance inferInstance inferInstance rfl) (.cons _ _ _ _ (.one _ _ _ _ _ _ _ rfl inferInstance inferInstance rfl) (.cons _ _ _ _ (.one _ _ _ _ _ _ _ rfl inferInstance inferInstance rfl) .nil))) (.trans (.perm (.cons _ (.cons _ ((pt1 _ _ _).trans (.cons _ ((pt1 _ _ _).trans (.cons _ ((pt1 _ _ _).trans (.cons _ (pt1 _ _ _))))))))) _) (.drop [_,_,_,_,_,_] _ _)) ⟨rfl,by rw [zwn he eG,hn,he];rfl⟩
set_option maxHeartbeats 8000000 in
theorem zys (h:Hist) (la:Lim 4611686018427387904 h) (s g:Int):x4 Tryz.prog 16 [.agg (x5 h),iv s,iv g] (.glob 0 117 w9:: .glob 3 148 x7:: .glob 5 276 x8:: .glob 6 279 x3:: .glob 2 197 j4:: []) (fun r h'=>∃v:SV,h'= .row v.v 2 34 (((seB h s g).map prB).map zjo):: .glob 0 117 w9:: .glob 3 148 x7:: .glob 5 276 x8:: .glob 6 279 x3:: .glob 2 197 j4:: []∧r= .tup [.v v.v,iv (zgh h s g)]):=by
 refine z6 Tryz.func16 rfl rfl rfl ?_
 refine rn ?_;refine z8 rfl (x9 rfl rfl rfl fun b3=> ?_)
 refine rn ?_;refine qv rfl rfl (y4 rfl rfl (y3.qt (y3.of_fun (zu4 h la s g)) ((pt1 _ _ _).trans (.cons _ ((pt1 _ _ _).trans (.cons _ ((pt1 _ _ _).trans (.cons _ ((pt1 _ _ _).trans (.cons _ (pt1 _ _ _))))))))))) ?_
 refine rn ?_;refine z7 rfl (fun hc22=> ?_) (fun hc22=> ?_)
 ·have he:zgh h s g≠0:=nzT hc22
  refine rn ?_;exact zb4 rfl rfl (.trans (.drop [_] _ _) (zbj 2 34 _)) ⟨⟨none,0,0⟩,by rw [zyy he];rfl,rfl⟩
 ·have he:zgh h s g=0:=nzF hc22
  obtain ⟨hl0,eO,k,hk,eI,eB,eG⟩:=zuc he
  have hB:=zo8 (zdt.2 (yca hl0).1) s
  rw [eI,eO]
  refine rn ?_;refine z8 rfl (y7 rfl fun b11=> ?_)
  refine rn ?_;refine z8 rfl (w8 rfl rfl (y3.of_fun (zyw k (k9 h s) _)) rfl ?_)
  rintro _ _ ⟨bi,bl,rfl,rfl⟩
  refine rn ?_;refine zgl (s':=⟨[(26,.fn (.func 109) [] [pZ bi,pZ bl]),(11,pZ b11)],.row (⟨none,0,0⟩:SV).v 2 34 ((([]:List (Int×Int))).map zjo):: .box bl 101 [zd8 (k9 h s)]:: .box bi 3 [iv (k:Int)]:: .box b11 29 [.v (⟨none,0,0⟩:SV).v]:: .box b3 28 (x5 h):: .glob 0 117 w9:: .glob 3 148 x7:: .glob 5 276 x8:: .glob 6 279 x3:: .glob 2 197 j4:: [],[]⟩) (v6 (zaj 2 34) es) ?_
  refine zpr (fun pend h''=>pend=none∧∃x:SV,h''= .box bl 101 [zd8 (k9 h s)]:: .box bi 3 [iv ((k:Nat):Int)]:: .glob 0 117 w9:: .row x.v 2 34 (((brW k (k9 h s) (k9 h s).length).map prB).map zjo):: .box b11 29 [.v x.v]:: .box b3 28 (x5 h):: .glob 3 148 x7:: .glob 5 276 x8:: .glob 6 279 x3:: .glob 2 197 j4:: []) rfl (fun fn l q lp hlp=> ?_) (fun q h'' hK=> ?_) (fun q h'' cc hK=> ?_)
  ·suffices hy:∀pre d rest (x:SV),(brW k (k9 h s) (k9 h s).length)=pre++d::rest→True→y3 Tryz.prog (yv l) [.agg (zch d)] (.box bl 101 [zd8 (k9 h s)]:: .box bi 3 [iv ((k:Nat):Int)]:: .glob 0 117 w9::lp .ready none:: .defs q:: .row x.v 2 34 (((pre).map prB).map zjo):: .box b11 29 [.v x.v]:: .box b3 28 (x5 h):: .glob 3 148 x7:: .glob 5 276 x8:: .glob 6 279 x3:: .glob 2 197 j4:: []) (fun r h'=>∃x':SV,(r=bv true∧True∧h'= .box bl 101 [zd8 (k9 h s)]:: .box bi 3 [iv ((k:Nat):Int)]:: .glob 0 117 w9::lp .ready none:: .defs q:: .row x'.v 2 34 (((pre++ [d]).map prB).map zjo):: .box b11 29 [.v x'.v]:: .box b3 28 (x5 h):: .glob 3 148 x7:: .glob 5 276 x8:: .glob 6 279 x3:: .glob 2 197 j4:: [])∨(r=bv false∧False∧h'= .box bl 101 [zd8 (k9 h s)]:: .box bi 3 [iv ((k:Nat):Int)]:: .glob 0 117 w9:: [])) by
    refine x4.mono (x4.perm ((pt3 _ _ _ _ _).trans (.cons _ ((pt3 _ _ _ _ _).trans (.cons _ (pt5 _ _ _ _ _ _ _))))) (zyv k hk (k9 h s) (by omega) (fun d hd=>ztx ⟨Nat.le_trans (hB.2 d hd).1 (by decide),Nat.le_trans (hB.2 d hd).2 (by decide)⟩) (fun d hd=>zol ⟨Nat.le_trans (hB.2 d hd).1 (by decide),Nat.le_trans (hB.2 d hd).2 (by decide)⟩) (yv l) rfl bi bl (fun _ (_:SV)=>True) (fun _=>False) (fun pre (x:SV)=>lp .ready none:: .defs q:: .row x.v 2 34 (((pre).map prB).map zjo):: .box b11 29 [.v x.v]:: .box b3 28 (x5 h):: .glob 3 148 x7:: .glob 5 276 x8:: .glob 6 279 x3:: .glob 2 197 j4:: []) (fun _=> []) ⟨none,0,0⟩ trivial hy)) ?_
    rintro _ _ ⟨x,⟨-,rfl⟩|⟨hF,_⟩⟩
    ·exact ⟨none,.ready,_,((pt3 _ _ _ _ _).trans (.cons _ (pt3 _ _ _ _ _))),by simp,rfl,x,rfl⟩
    ·exact hF.elim
   intro pre d rest x hL _
   have hpl:pre.length≤9000000:=by
    have h1:=yb1 k (k9 h s) (k9 h s).length
    have h2:(k9 h s).length * (k9 h s).length≤3000 * 3000:=Nat.mul_le_mul hB.1 hB.1
    rw [hL,List.length_append] at h1
    omega
   refine y3.perm (pt3 _ _ _ _ _) (y3.ventE ?_)
   refine zet hlp rfl rfl ?_
   refine rn ?_;refine z8 rfl (y7 rfl fun b12=> ?_)
   refine rn ?_;refine ⟨[(12,pZ b12),(11,pZ b11)],.box b12 36 (zch d):: .box bl 101 [zd8 (k9 h s)]:: .box bi 3 [iv ((k:Nat):Int)]:: .glob 0 117 w9:: .defs q:: .row x.v 2 34 ((pre.map prB).map zjo):: .box b11 29 [.v x.v]:: .box b3 28 (x5 h):: .glob 3 148 x7:: .glob 5 276 x8:: .glob 6 279 x3:: .glob 2 197 j4:: [],v6 (za0 (pt1 _ _ _)) es,?_⟩
   refine zan ?_;refine y5 ?_;refine q1 ?_;refine q1 ?_;refine q1 ?_;refine q1 ?_;refine q1 ?_;refine qq rfl rfl (zc9 (out:= [iv d.e,iv d.l]) rfl (by rfl)) ?_
   refine qv rfl rfl (q8 rfl rfl) ?_
   refine z8 rfl (j5 rfl rfl (by simp only [List.length_map,List.length_cons,List.length_nil];omega) rfl (fun s35=> ?_) (fun r hr=>by rw [List.mem_singleton.1 hr];rfl))
   refine zaf s35 fun sv hsv=> ?_
   subst hsv
   refine rn ?_;exact zh6 (.refl _) ⟨_,_,.trans (.perm ((pt1 _ _ _).trans (.cons _ ((pt1 _ _ _).trans (.cons _ ((pt1 _ _ _).trans (.cons _ (pt1 _ _ _))))))) _) (.drop [_] _ _),sv,.inl ⟨rfl,trivial,by rw [List.map_append,List.map_append];rfl⟩⟩
  ·obtain ⟨_,x,rfl⟩:=hK
   refine rn ?_;exact ziw (.refl _) (.cons _ _ _ _ (.tmp _ _ rfl) (.cons _ _ _ _ (.tmp _ _ rfl) .nil)) (.trans (.perm (.cons _ (.cons _ ((pt2 _ _ _ _).trans (.cons _ ((pt2 _ _ _ _).trans (.cons _ (pt1 _ _ _))))))) _) (.drop [_,_,_,_] _ _)) ⟨x,by rw [zwn he eG],by rw [he];rfl⟩
  ·obtain ⟨hc',_⟩:=hK
   exact absurd hc' (by simp)
theorem zu3 (h:Hist) (la:Lim 4611686018427387904 h) (s g:Int):x4 Tryz.prog 16 [.agg (x5 h),iv s,iv g] (.glob 0 117 w9:: .glob 3 148 x7:: .glob 5 276 x8:: .glob 6 279 x3:: .glob 2 197 j4:: []) (fun r h'=>h'= .glob 0 117 w9:: .glob 3 148 x7:: .glob 5 276 x8:: .glob 6 279 x3:: .glob 2 197 j4:: []∧r= .tup [zox ((seB h s g).map prB),iv (zgh h s g)]):=(zys h la s g).ventR (by rintro _ _ ⟨v,rfl,rfl⟩;exact ⟨_,_,zbn [] [_],rfl,rfl⟩)
set_option maxHeartbeats 8000000 in
theorem ymr (h:Hist) (la:Lim 4611686018427387904 h) (s:Int):x4 Tryz.prog 24 [.agg (x5 h),iv s] (.glob 0 117 w9:: .glob 3 148 x7:: .glob 5 276 x8:: .glob 6 279 x3:: .glob 2 197 j4:: []) (fun r h'=>h'= .glob 0 117 w9:: .glob 3 148 x7:: .glob 5 276 x8:: .glob 6 279 x3:: .glob 2 197 j4:: []∧r= .tup [iv (haO h s),iv (zdh h s)]):=by
 refine z6 Tryz.func24 rfl rfl rfl ?_
 refine rn ?_;refine z8 rfl (x9 rfl rfl rfl fun b2=> ?_)
 refine rn ?_;refine qv rfl rfl (y4 rfl rfl (y3.qt (y3.of_fun (zyt h la s)) ((pt2 _ _ _ _).trans (.cons _ ((pt2 _ _ _ _).trans (.cons _ ((pt2 _ _ _ _).trans (.cons _ (pt2 _ _ _ _))))))))) ?_
 refine rn ?_;refine z7 rfl (fun hc19=> ?_) (fun hc19=> ?_)
 ·have he:zdh h s≠0:=nzT hc19
  refine rn ?_;exact zb4 rfl rfl (.drop [_] _ _) ⟨rfl,by rw [haO,if_neg he];rfl⟩
 ·have hl0:zdh h s=0:=nzF hc19
  have hB:=zo8 (zdt.2 (yca hl0).1) s
  rw [zto hl0]
  refine rn ?_;refine zig 4 (fun _ (_:List Nat)=>True) (fun k dfs=>⟨[(22,iv (k:Nat)),(8,iv (haK h s k)),(6,zd8 (k9 h s)),(21,.agg w9)],.box b2 28 (x5 h):: .glob 0 117 w9:: .glob 3 148 x7:: .glob 5 276 x8:: .glob 6 279 x3:: .glob 2 197 j4::(dfs.map Res.defs),dfs⟩) [] trivial es ?_
  intro k dfs lk _
  refine rn ?_;refine z7 rfl (fun hc23=> ?_) (fun hc23=> ?_)
  ·have hk:k < 4:=by have q:=of_decide_eq_true hc23;omega
   refine zab ?_;refine j9 ?_;refine x6 ?_;refine zan ?_;refine x6 (y5 ?_)
   refine q1 ?_;refine qq rfl rfl (zgk (i:=k) (out:=zvt k) rfl rfl hk (by show k * 3+3≤12;omega) (ykz hk)) ?_
   refine z8 rfl (y7 rfl fun b10=> ?_)
   refine rn ?_;refine z8 rfl (y7 rfl fun b11=> ?_)
   refine rn ?_;refine z8 rfl (w8 rfl rfl (y3.of_fun (zyw k (k9 h s) _)) rfl ?_)
   rintro _ _ ⟨bi,bl,rfl,rfl⟩
   refine rn ?_;refine zpr (fun pend h''=>(pend=none∧(brW k (k9 h s) (k9 h s).length)= []∧h''= .box bl 101 [zd8 (k9 h s)]:: .box bi 3 [iv ((k:Nat):Int)]:: .glob 0 117 w9:: .box b11 4 [bv false]:: .box b10 116 (zvt k):: .box b2 28 (x5 h):: .glob 3 148 x7:: .glob 5 276 x8:: .glob 6 279 x3:: .glob 2 197 j4::(dfs.map Res.defs))∨(pend=some (.exit 2)∧(brW k (k9 h s) (k9 h s).length)≠ []∧h''= .box bl 101 [zd8 (k9 h s)]:: .box bi 3 [iv ((k:Nat):Int)]:: .glob 0 117 w9:: .box b11 4 [bv true]:: .box b10 116 (zvt k):: .box b2 28 (x5 h):: .glob 3 148 x7:: .glob 5 276 x8:: .glob 6 279 x3:: .glob 2 197 j4::(dfs.map Res.defs))) rfl (fun fn l q lp hlp=> ?_) (fun q h'' hK=> ?_) (fun q h'' cc hK=> ?_)
   ·suffices hy:∀pre d rest (x:Unit),(brW k (k9 h s) (k9 h s).length)=pre++d::rest→pre= []→y3 Tryz.prog (yv l) [.agg (zch d)] (.box bl 101 [zd8 (k9 h s)]:: .box bi 3 [iv ((k:Nat):Int)]:: .glob 0 117 w9::lp .ready none:: .defs q:: .box b11 4 [bv false]:: .box b10 116 (zvt k):: .box b2 28 (x5 h):: .glob 3 148 x7:: .glob 5 276 x8:: .glob 6 279 x3:: .glob 2 197 j4::(dfs.map Res.defs)) (fun r h'=>∃x':Unit,(r=bv true∧pre++ [d]= []∧h'= .box bl 101 [zd8 (k9 h s)]:: .box bi 3 [iv ((k:Nat):Int)]:: .glob 0 117 w9::lp .ready none:: .defs q:: .box b11 4 [bv false]:: .box b10 116 (zvt k):: .box b2 28 (x5 h):: .glob 3 148 x7:: .glob 5 276 x8:: .glob 6 279 x3:: .glob 2 197 j4::(dfs.map Res.defs))∨(r=bv false∧(brW k (k9 h s) (k9 h s).length)≠ []∧h'= .box bl 101 [zd8 (k9 h s)]:: .box bi 3 [iv ((k:Nat):Int)]:: .glob 0 117 w9::lp .done (some (.exit 2)):: .defs q:: .box b11 4 [bv true]:: .box b10 116 (zvt k):: .box b2 28 (x5 h):: .glob 3 148 x7:: .glob 5 276 x8:: .glob 6 279 x3:: .glob 2 197 j4::(dfs.map Res.defs))) by
     refine x4.mono (x4.perm ((pt2 _ _ _ _).trans (.cons _ ((pt2 _ _ _ _).trans (.cons _ (pt5 _ _ _ _ _ _ _))))) (zyv k hk (k9 h s) (by omega) (fun d hd=>ztx ⟨Nat.le_trans (hB.2 d hd).1 (by decide),Nat.le_trans (hB.2 d hd).2 (by decide)⟩) (fun d hd=>zol ⟨Nat.le_trans (hB.2 d hd).1 (by decide),Nat.le_trans (hB.2 d hd).2 (by decide)⟩) (yv l) rfl bi bl (fun pre _=>pre= []) (fun _=>(brW k (k9 h s) (k9 h s).length)≠ []) (fun _ _=>lp .ready none:: .defs q:: .box b11 4 [bv false]:: .box b10 116 (zvt k):: .box b2 28 (x5 h):: .glob 3 148 x7:: .glob 5 276 x8:: .glob 6 279 x3:: .glob 2 197 j4::(dfs.map Res.defs)) (fun _=>lp .done (some (.exit 2)):: .defs q:: .box b11 4 [bv true]:: .box b10 116 (zvt k):: .box b2 28 (x5 h):: .glob 3 148 x7:: .glob 5 276 x8:: .glob 6 279 x3:: .glob 2 197 j4::(dfs.map Res.defs)) () rfl hy)) ?_
     rintro _ _ ⟨x,⟨hn,rfl⟩|⟨hn,rfl⟩⟩
     ·exact ⟨none,.ready,_,((pt3 _ _ _ _ _).trans (.cons _ (pt3 _ _ _ _ _))),by simp,.inl ⟨rfl,hn,rfl⟩⟩
     ·exact ⟨some (.exit 2),.done,_,((pt3 _ _ _ _ _).trans (.cons _ (pt3 _ _ _ _ _))),by simp,.inr ⟨rfl,hn,rfl⟩⟩
    intro pre d rest x hL hpre
    refine y3.perm (pt3 _ _ _ _ _) (y3.ventE ?_)
    refine zet hlp rfl rfl ?_
    refine rn ?_;refine ⟨[(11,pZ b11)],.box bl 101 [zd8 (k9 h s)]:: .box bi 3 [iv ((k:Nat):Int)]:: .glob 0 117 w9:: .defs q:: .box b11 4 [bv false]:: .box b10 116 (zvt k):: .box b2 28 (x5 h):: .glob 3 148 x7:: .glob 5 276 x8:: .glob 6 279 x3:: .glob 2 197 j4::(dfs.map Res.defs),es,?_⟩
    refine rn ?_;exact zor (.refl _) ⟨_,_,.perm ((pt1 _ _ _).trans (.cons _ ((pt1 _ _ _).trans (.cons _ (pt1 _ _ _))))) _,(),.inr ⟨rfl,by rw [zvj hL hpre];exact List.cons_ne_nil _ _,rfl⟩⟩
   ·obtain ⟨_,hn,rfl⟩|⟨hc',_⟩:=hK
    rotate_left
    ·cases hc'
    refine rn ?_;refine z7 rfl (fun hc31=> ?_) (fun hc31=> ?_)
    ·refine rn ?_;exact ⟨hk,q::dfs,trivial,by rw [haK,if_pos hn];exact v6 (za0 ((List.Perm.cons _ (.cons _ (.cons _ ((pt1 _ _ _).trans (.cons _ ((pt1 _ _ _).trans (.cons _ (pt1 _ _ _)))))))).trans (zi0 _ [_,_,_,_,_,_,_,_,_,_] [] _))) (v6 (zco (h1:= [_,_,_,_])) es)⟩
    ·refine rn ?_;exact absurd hc31 (by decide)
   ·obtain ⟨hc',_⟩|⟨hc',hn,rfl⟩:=hK
    ·cases hc'
    obtain rfl:cc= .exit 2:=by simpa using hc'
    refine rn ?_;refine z7 rfl (fun hc31=> ?_) (fun hc31=> ?_)
    ·refine rn ?_;exact absurd hc31 (by decide)
    ·refine rn ?_;exact ⟨hk,q::dfs,trivial,by rw [haK,if_neg hn];exact v6 (za0 ((List.Perm.cons _ (.cons _ (.cons _ ((pt1 _ _ _).trans (.cons _ ((pt1 _ _ _).trans (.cons _ (pt1 _ _ _)))))))).trans (zi0 _ [_,_,_,_,_,_,_,_,_,_] [] _))) (v6 (zco (h1:= [_,_,_,_])) es)⟩
  ·have qk:k=4:=by have q:=of_decide_eq_false hc23;omega
   subst qk
   refine rn ?_;exact ziw (List.perm_append_comm (l₁:= [_,_,_,_,_,_]) (l₂:=(dfs.map Res.defs))) (.cons _ _ _ _ (.tmp _ _ rfl) (.cons _ _ _ _ (.tmp _ _ rfl) .nil)) (.drop [_] _ _) ⟨rfl,by rw [haO,if_pos hl0,hl0];rfl⟩
instance:EqInts Tryz.prog 36 6:=⟨by kernel_rfl,fun w xs ys h1 h2=>match xs,ys,h1,h2 with
 | [a0,a1,a2,a3,a4,a5],[c0,c1,c2,c3,c4,c5],_,_=>by
   rw [run_equalIn_struct w 9999 36 _ _ (by kernel_rfl) (by kernel_rfl)]
   simp only [Program.fieldsOf,Tryz.underlying36]
   simp [Op.eqFields,part,run_equalIn_int _ 9998 3 .i64 .i64 _ _ Tryz.underlying3]
   by_cases h0:a0=c0
   case neg=>simp [h0]
   subst h0
   by_cases h1:a1=c1
   case neg=>simp [h1]
   subst h1
   by_cases h2:a2=c2
   case neg=>simp [h2]
   subst h2
   by_cases h3:a3=c3
   case neg=>simp [h3]
   subst h3
   by_cases h4:a4=c4
   case neg=>simp [h4]
   subst h4
   by_cases h5:a5=c5
   case neg=>simp [h5]
   subst h5
   simp⟩
theorem yi9 {f g:Bool} (l m:List Seen) (hl:l.length≤4611686018427387904) (hm:m.length≤4611686018427387904):x4 Tryz.prog 116 [.list f 3 (l.map zav),.list g 3 (m.map zav)] [] (fun r h'=>h'= []∧r=bv (eqF zfj l m)):=by
 refine z6 Tryz.func116 rfl rfl rfl ?_
 refine rn ?_;refine z7 rfl (fun hc10=> ?_) (fun hc10=> ?_)
 ·refine rn ?_;have hne:(l.length==m.length)=false:=beq_eq_false_iff_ne.2 fun q=>by simp [q] at hc10
  exact u7 rfl (.refl _ _) ⟨rfl,by rw [eqF,hne,Bool.false_and];rfl⟩
 ·have hlm:l.length=m.length:=by simp at hc10;omega
  refine rn ?_;refine u9 (fun k:Nat=>k≤l.length∧zmz zfj l m=zmz zfj (l.drop k) (m.drop k)) (fun k=>⟨[(13,iv k),(12,iv (l.map zav).length),(0,.list f 3 (l.map zav)),(1,.list g 3 (m.map zav))],[],[]⟩) (fun k=>l.length - k) 0 ⟨Nat.zero_le _,by simp⟩
   (w7 (.cons _ _ _ rfl (.cons _ _ _ rfl (.cons _ _ _ rfl (.cons _ _ _ rfl (.nil)))))) ?_
  rintro k ⟨hk,hz⟩
  refine rn ?_;refine z7 rfl (fun hc14=> ?_) (fun hc14=> ?_)
  ·have hk2:k < l.length:=by simpa using hc14
   have hk3:k < m.length:=by omega
   have hrow1:(l.map zav)[k]? =some (zav l[k]):=by simp [hk2]
   have hrow2:(m.map zav)[k]? =some (zav m[k]):=by simp [hk3]
   have hd1:=List.drop_eq_getElem_cons hk2
   have hd2:=List.drop_eq_getElem_cons hk3
   refine rn ?_;refine j3 8 rfl ?_
   refine rn ?_;refine z7 rfl (fun hc24=> ?_) (fun hc24=> ?_)
   ·refine rn ?_;exact u7 rfl (.refl _ _) ⟨rfl,by rw [eqF,hz,hd1,hd2,zmz,show zfj l[k] m[k]=false from zo0 hc24,Bool.false_and,Bool.and_false];rfl⟩
   ·refine rn ?_;exact ⟨k+1,⟨by omega,by rw [hz,hd1,hd2,zmz,show zfj l[k] m[k]=true from zq1 hc24,Bool.true_and]⟩,(w7 (.cons _ _ _ rfl (.cons _ _ _ rfl (.cons _ _ _ rfl (.cons _ _ _ rfl (.nil)))))),by omega⟩
  ·have hk3:k=l.length:=by
    have:l.length≤k:=by simpa using hc14
    omega
   refine rn ?_;exact u7 rfl (.refl _ _) ⟨rfl,by rw [eqF,hz,hk3,List.drop_length,zkt,hlm,beq_self_eq_true];rfl⟩
theorem ydz {f g:Bool} (l m:List ByteArray) (hl:l.length≤4611686018427387904) (hm:m.length≤4611686018427387904):x4 Tryz.prog 62 [.list f 1 (l.map ze0),.list g 1 (m.map ze0)] [] (fun r h'=>h'= []∧r=bv (eqF zqa l m)):=by
 refine z6 Tryz.func62 rfl rfl rfl ?_
 refine rn ?_;refine z7 rfl (fun hc10=> ?_) (fun hc10=> ?_)
 ·refine rn ?_;have hne:(l.length==m.length)=false:=beq_eq_false_iff_ne.2 fun q=>by simp [q] at hc10
  exact u7 rfl (.refl _ _) ⟨rfl,by rw [eqF,hne,Bool.false_and];rfl⟩
 ·have hlm:l.length=m.length:=by simp at hc10;omega
  refine rn ?_;refine u9 (fun k:Nat=>k≤l.length∧zmz zqa l m=zmz zqa (l.drop k) (m.drop k)) (fun k=>⟨[(13,iv k),(12,iv (l.map ze0).length),(0,.list f 1 (l.map ze0)),(1,.list g 1 (m.map ze0))],[],[]⟩) (fun k=>l.length - k) 0 ⟨Nat.zero_le _,by simp⟩
   (w7 (.cons _ _ _ rfl (.cons _ _ _ rfl (.cons _ _ _ rfl (.cons _ _ _ rfl (.nil)))))) ?_
  rintro k ⟨hk,hz⟩
  refine rn ?_;refine z7 rfl (fun hc14=> ?_) (fun hc14=> ?_)
  ·have hk2:k < l.length:=by simpa using hc14
   have hk3:k < m.length:=by omega
   have hrow1:(l.map ze0)[k]? =some (ze0 l[k]):=by simp [hk2]
   have hrow2:(m.map ze0)[k]? =some (ze0 m[k]):=by simp [hk3]
   have hd1:=List.drop_eq_getElem_cons hk2
   have hd2:=List.drop_eq_getElem_cons hk3
   refine rn ?_;refine j3 8 rfl ?_
   refine rn ?_;refine z7 rfl (fun hc24=> ?_) (fun hc24=> ?_)
   ·refine rn ?_;exact u7 rfl (.refl _ _) ⟨rfl,by rw [eqF,hz,hd1,hd2,zmz,show zqa l[k] m[k]=false from zo0 hc24,Bool.false_and,Bool.and_false];rfl⟩
   ·refine rn ?_;exact ⟨k+1,⟨by omega,by rw [hz,hd1,hd2,zmz,show zqa l[k] m[k]=true from zq1 hc24,Bool.true_and]⟩,(w7 (.cons _ _ _ rfl (.cons _ _ _ rfl (.cons _ _ _ rfl (.cons _ _ _ rfl (.nil)))))),by omega⟩
  ·have hk3:k=l.length:=by
    have:l.length≤k:=by simpa using hc14
    omega
   refine rn ?_;exact u7 rfl (.refl _ _) ⟨rfl,by rw [eqF,hz,hk3,List.drop_length,zkt,hlm,beq_self_eq_true];rfl⟩
theorem zwv {f g:Bool} (l m:List Int) (hl:l.length≤4611686018427387904) (hm:m.length≤4611686018427387904):x4 Tryz.prog 64 [.list f 1 (l.map zal),.list g 1 (m.map zal)] [] (fun r h'=>h'= []∧r=bv (eqF zrb l m)):=by
 refine z6 Tryz.func64 rfl rfl rfl ?_
 refine rn ?_;refine z7 rfl (fun hc10=> ?_) (fun hc10=> ?_)
 ·refine rn ?_;have hne:(l.length==m.length)=false:=beq_eq_false_iff_ne.2 fun q=>by simp [q] at hc10
  exact u7 rfl (.refl _ _) ⟨rfl,by rw [eqF,hne,Bool.false_and];rfl⟩
 ·have hlm:l.length=m.length:=by simp at hc10;omega
  refine rn ?_;refine u9 (fun k:Nat=>k≤l.length∧zmz zrb l m=zmz zrb (l.drop k) (m.drop k)) (fun k=>⟨[(13,iv k),(12,iv (l.map zal).length),(0,.list f 1 (l.map zal)),(1,.list g 1 (m.map zal))],[],[]⟩) (fun k=>l.length - k) 0 ⟨Nat.zero_le _,by simp⟩
   (w7 (.cons _ _ _ rfl (.cons _ _ _ rfl (.cons _ _ _ rfl (.cons _ _ _ rfl (.nil)))))) ?_
  rintro k ⟨hk,hz⟩
  refine rn ?_;refine z7 rfl (fun hc14=> ?_) (fun hc14=> ?_)
  ·have hk2:k < l.length:=by simpa using hc14
   have hk3:k < m.length:=by omega
   have hrow1:(l.map zal)[k]? =some (zal l[k]):=by simp [hk2]
   have hrow2:(m.map zal)[k]? =some (zal m[k]):=by simp [hk3]
   have hd1:=List.drop_eq_getElem_cons hk2
   have hd2:=List.drop_eq_getElem_cons hk3
   refine rn ?_;refine j3 8 rfl ?_
   refine rn ?_;refine z7 rfl (fun hc24=> ?_) (fun hc24=> ?_)
   ·refine rn ?_;exact u7 rfl (.refl _ _) ⟨rfl,by rw [eqF,hz,hd1,hd2,zmz,show zrb l[k] m[k]=false from zo0 hc24,Bool.false_and,Bool.and_false];rfl⟩
   ·refine rn ?_;exact ⟨k+1,⟨by omega,by rw [hz,hd1,hd2,zmz,show zrb l[k] m[k]=true from zq1 hc24,Bool.true_and]⟩,(w7 (.cons _ _ _ rfl (.cons _ _ _ rfl (.cons _ _ _ rfl (.cons _ _ _ rfl (.nil)))))),by omega⟩
  ·have hk3:k=l.length:=by
    have:l.length≤k:=by simpa using hc14
    omega
   refine rn ?_;exact u7 rfl (.refl _ _) ⟨rfl,by rw [eqF,hz,hk3,List.drop_length,zkt,hlm,beq_self_eq_true];rfl⟩
theorem zhq (n m:Int):x4 Tryz.prog 43 [iv n,iv m] [] (fun r h'=>h'= []∧r=bv (isB n m)):=by
 refine z6 Tryz.func43 rfl rfl rfl ?_
 refine rn ?_;refine y8 (fun hg1_2=> ?_) (fun hg1_2=> ?_)
 ·refine rn ?_;exact u7 rfl (.refl _ _) ⟨rfl,congrArg bv (by first|(simp only [isB, *,Bool.true_and,Bool.false_and,Bool.and_false,Bool.and_true,Bool.true_or,Bool.or_false,Bool.false_or,Bool.or_true,if_true,if_false,Bool.false_eq_true,Bool.not_true,Bool.not_false];done)|(simp_all [isB];done)|(simp_all [isB] <;> omega))⟩
 ·refine rn ?_;exact u7 rfl (.refl _ _) ⟨rfl,congrArg bv (by first|(simp only [isB, *,Bool.true_and,Bool.false_and,Bool.and_false,Bool.and_true,Bool.true_or,Bool.or_false,Bool.false_or,Bool.or_true,if_true,if_false,Bool.false_eq_true,Bool.not_true,Bool.not_false];done)|(simp_all [isB];done)|(simp_all [isB] <;> omega))⟩
theorem bvz0_8567 {a b:Bool} (h:a=b:=by first|(simp only [ze1, *,Bool.true_and,Bool.false_and,Bool.and_false,Bool.and_true,Bool.true_or,Bool.or_false,Bool.false_or,Bool.or_true,if_true,if_false,Bool.false_eq_true,Bool.not_true,Bool.not_false];done)|(simp_all [ze1];done)|(simp_all [ze1] <;> omega)):bv a=bv b:=congrArg bv h
theorem zfo (v:Ver) (m:Int):x4 Tryz.prog 192 [.agg (yc5 v),iv m] [] (fun r h'=>h'= []∧r=bv (ze1 v m)):=by
 refine z6 Tryz.func192 rfl rfl rfl ?_
 refine rn ?_;refine z8 rfl (x9 rfl rfl rfl fun b2=> ?_)
 refine rn ?_;refine y8 (fun hg1_3=> ?_) (fun hg1_3=> ?_)
 ·refine rn ?_;exact u7 rfl (.drop [_] _ _) ⟨rfl,bvz0_8567⟩
 ·refine rn ?_;refine qv rfl rfl (y4 rfl rfl (v7 (zhq _ _) (Sbs.refl _))) ?_
  refine rn ?_;refine y8 (fun hg1_8=> ?_) (fun hg1_8=> ?_)
  ·refine rn ?_;refine y8 (fun hg1_13=> ?_) (fun hg1_13=> ?_)
   ·refine rn ?_;exact u7 rfl (.drop [_] _ _) ⟨rfl,bvz0_8567⟩
   ·refine rn ?_;exact u7 rfl (.drop [_] _ _) ⟨rfl,bvz0_8567⟩
  ·refine rn ?_;exact u7 rfl (.drop [_] _ _) ⟨rfl,bvz0_8567⟩
theorem bvz1_8999 {a b:Bool} (h:a=b:=by first|(simp only [zi8, *,Bool.true_and,Bool.false_and,Bool.and_false,Bool.and_true,Bool.true_or,Bool.or_false,Bool.false_or,Bool.or_true,if_true,if_false,Bool.false_eq_true,Bool.not_true,Bool.not_false];done)|(simp_all [zi8];done)|(simp_all [zi8] <;> omega)):bv a=bv b:=congrArg bv h
theorem ze3 (a b:Ev) (ha:a.scan.length≤4611686018427387904) (hb:b.scan.length≤4611686018427387904):x4 Tryz.prog 63 [.agg (evR a),.agg (evR b)] [] (fun r h'=>h'= []∧r=bv (zi8 a b)):=by
 refine z6 Tryz.func63 rfl rfl rfl ?_
 refine rn ?_;refine z8 rfl (x9 rfl rfl rfl fun b2=> ?_)
 refine z8 rfl (x9 rfl rfl rfl fun b3=> ?_)
 refine rn ?_;refine y8 (fun hg1_5=> ?_) (fun hg1_5=> ?_)
 ·refine rn ?_;refine y8 (fun hg1_12=> ?_) (fun hg1_12=> ?_)
  ·refine rn ?_;refine y8 (fun hg1_19=> ?_) (fun hg1_19=> ?_)
   ·refine rn ?_;refine y8 (fun hg1_26=> ?_) (fun hg1_26=> ?_)
    ·refine rn ?_;refine y8 (fun hg1_33=> ?_) (fun hg1_33=> ?_)
     ·refine rn ?_;refine y8 (fun hg1_40=> ?_) (fun hg1_40=> ?_)
      ·refine rn ?_;refine y8 (fun hg1_47=> ?_) (fun hg1_47=> ?_)
       ·refine rn ?_;refine qv rfl rfl (y4 rfl rfl (v7 (yi9 _ _ ha hb) (Sbs.refl _))) ?_
        refine rn ?_;exact u7 rfl (.drop [_,_] _ _) ⟨rfl,bvz1_8999⟩
       ·refine rn ?_;exact u7 rfl (.drop [_,_] _ _) ⟨rfl,bvz1_8999⟩
      ·refine rn ?_;exact u7 rfl (.drop [_,_] _ _) ⟨rfl,bvz1_8999⟩
     ·refine rn ?_;exact u7 rfl (.drop [_,_] _ _) ⟨rfl,bvz1_8999⟩
    ·refine rn ?_;exact u7 rfl (.drop [_,_] _ _) ⟨rfl,bvz1_8999⟩
   ·refine rn ?_;exact u7 rfl (.drop [_,_] _ _) ⟨rfl,bvz1_8999⟩
  ·refine rn ?_;exact u7 rfl (.drop [_,_] _ _) ⟨rfl,bvz1_8999⟩
 ·refine rn ?_;exact u7 rfl (.drop [_,_] _ _) ⟨rfl,bvz1_8999⟩
theorem yjb {f:Bool} (l:List Int) (n:Int) (hl:l.length≤4611686018427387904):x4 Tryz.prog 193 [.list f 1 (l.map zal),iv n] [] (fun r h'=>h'= []∧r=iv (atI n 0 l)):=by
 refine z6 Tryz.func193 rfl rfl rfl ?_
 refine rn ?_;refine u9 (fun k:Nat=>k≤l.length∧atI n 0 l=atI n k (l.drop k)) (fun k=>⟨[(9,iv k),(8,iv (l.map zal).length),(7,.list f 1 (l.map zal)),(1,iv n)],[],[]⟩) (fun k=>l.length - k) 0 ⟨Nat.zero_le _,by simp⟩
  (w7 (.cons _ _ _ rfl (.cons _ _ _ rfl (.cons _ _ _ rfl (.cons _ _ _ rfl (.nil)))))) ?_
 rintro k ⟨hk,hz⟩
 refine rn ?_;refine z7 rfl (fun hc10=> ?_) (fun hc10=> ?_)
 ·have hk2:k < l.length:=by simpa using hc10
  have hrow:(l.map zal)[k]? =some (zal l[k]):=by simp [hk2]
  have hd:=List.drop_eq_getElem_cons hk2
  refine rn ?_;refine z7 rfl (fun hc16=> ?_) (fun hc16=> ?_)
  ·have hx:l[k]=n:=by simpa using hc16
   refine rn ?_;exact u7 rfl (.refl _ _) ⟨rfl,congrArg iv (by rw [hz,hd,atI,if_pos hx])⟩
  ·have hx:¬l[k]=n:=by simpa using hc16
   refine rn ?_;exact ⟨k+1,⟨by omega,by rw [hz,hd,atI,if_neg hx]⟩,(w7 (.cons _ _ _ rfl (.cons _ _ _ rfl (.cons _ _ _ rfl (.cons _ _ _ rfl (.nil)))))),by omega⟩
 ·have hk3:k=l.length:=by
   have:l.length≤k:=by simpa using hc10
   omega
  refine rn ?_;exact u7 rfl (.refl _ _) ⟨rfl,congrArg iv (by rw [hz,hk3,List.drop_length];rfl)⟩
theorem ym0 (h:Hist) (t c:Int) (la:Lim 4611686018427387904 h):x4 Tryz.prog 154 [.agg (x5 h),iv t,iv c] [] (fun r h'=>h'= []∧r=bv (zrh h.evs t c)):=by
 refine z6 Tryz.func154 rfl rfl rfl ?_
 refine rn ?_;refine z8 rfl (x9 rfl rfl rfl fun b3=> ?_)
 refine rn ?_;refine zci (h.evs.length) (fun k:Nat=>h.evs.all (fun e:Ev=> !(e.t==t && e.kind==c))=(h.evs.drop k).all (fun e:Ev=> !(e.t==t && e.kind==c))) (fun k=> [(12,iv k)]) [(1,_),(2,_),(10,_),(11,_)] rfl ?_
 intro k lk zk
 refine rn ?_;refine z7 rfl (fun hc13=> ?_) (fun hc13=> ?_)
 ·have hk:=zao hc13
  have rk:=zad (f:=evR) hk
  have bk:=la.evs
  refine rn ?_;refine z8 rfl (y7 rfl fun b8=> ?_)
  refine rn ?_;refine y8 (fun hg4_4=> ?_) (fun hg4_4=> ?_)
  ·refine rn ?_;refine z7 rfl (fun hc25=> ?_) (fun hc25=> ?_)
   ·refine rn ?_;refine rq 2 ?_
    exact ⟨rfl,congrArg bv (by rw [zrh,zsc hk (by simp_all)];rfl)⟩
   ·refine rn ?_;exact ⟨hk,zud hk zk (by simp_all),eA⟩
  ·refine rn ?_;refine zew rfl ?_;refine rn ?_;exact ⟨hk,zud hk zk (by simp_all),eA⟩
 ·have qk:=zap hc13 lk
  have ak:=zx3 qk zk
  refine rn ?_;refine rq 1 ?_
  exact ⟨rfl,congrArg bv (by rw [zrh,ak];rfl)⟩
theorem zzd (h:Hist) (t:Int) (la:Lim 4611686018427387904 h):x4 Tryz.prog 113 [.agg (x5 h),iv t] [] (fun r h'=>h'= []∧r=bv (zrh h.evs t 5)):=by
 refine z6 Tryz.func113 rfl rfl rfl ?_
 refine rn ?_;refine z8 rfl (x9 rfl rfl rfl fun b2=> ?_)
 refine rn ?_;refine qv rfl rfl (y4 rfl rfl (v7 (ym0 h t 5 la) (Sbs.refl _))) ?_
 refine rn ?_;refine rq 1 ?_
 exact ⟨rfl,rfl⟩
theorem zsx (ts f:List Int) (hl:ts.length≤4611686018427387904) (hm:f.length≤4611686018427387904):x4 Tryz.prog 223 [zca ts,zca f] [] (fun r h'=>h'= []∧r=bv (zfz ts f)):=by
 refine z6 Tryz.func223 rfl rfl rfl ?_
 refine rn ?_;refine zci (ts.length) (fun k:Nat=>ygb ts f k) (fun k=> [(9,iv k)]) [(0,_),(1,_),(7,_),(8,_)] (fun j _ h=>absurd h (Nat.not_lt_zero _)) ?_
 intro k lk zk
 refine rn ?_;refine z7 rfl (fun hc10=> ?_) (fun hc10=> ?_)
 ·have hk:=zao hc10
  have rk:=zad (f:=zal) hk
  refine rn ?_;refine qv rfl rfl (y4 rfl rfl (v7 (yjb f ts[k] hm) (Sbs.refl _))) ?_
  refine rn ?_;refine y8 (fun hg4_4=> ?_) (fun hg4_4=> ?_)
  ·refine rn ?_;refine zdb rfl ?_;refine rn ?_;refine rq 0 ?_
   exact ⟨rfl,congrArg bv (by rw [ygj hk (by first|exact .inl hg4_4|exact .inr (by simpa using hc24))])⟩
  ·refine rn ?_;refine qv rfl rfl (y4 rfl rfl (v7 (yjb ts ts[k] hl) (Sbs.refl _))) ?_
   refine rn ?_;refine z7 rfl (fun hc24=> ?_) (fun hc24=> ?_)
   ·refine rn ?_;refine rq 0 ?_
    exact ⟨rfl,congrArg bv (by rw [ygj hk (by first|exact .inl hg4_4|exact .inr (by simpa using hc24))])⟩
   ·refine rn ?_;exact ⟨hk,yil hk zk (by simp_all) (by simp_all),eA⟩
 ·have qk:=zap hc10 lk
  refine rn ?_;refine rq 0 ?_
  exact ⟨rfl,congrArg bv (by rw [ymk (qk ▸ zk)])⟩
theorem zhj (h:Hist) (x:Int) (la:Lim 1000000 h):x4 Tryz.prog 214 [.agg (x5 h),iv x] [] (fun r h'=>h'= []∧r=zca (zay h x)):=by
 refine z6 Tryz.func214 rfl rfl rfl ?_
 have be:=la.evs
 have bt:=la.ts
 refine rn ?_;refine z8 rfl (x9 rfl rfl rfl fun b2=> ?_)
 refine rn0 ?_;refine x6 (y5 ?_)
 refine rn0 ?_;refine x6 ?_;refine x6 ?_;refine zgl (zaj 1 3) ?_
 refine rn ?_;refine zee h.ts.length (fun k s=>⟨[(13,iv k),(5,.v s.v),(1,iv x),(2,pZ b2),(12,iv (h.ts.map ze0).length)],.row s.v 1 3 ((zc5 h x k).map zal):: .box b2 28 (x5 h):: [],[]⟩) ⟨none,0,0⟩ es ?_
 intro k s lk
 refine rn ?_;refine z7 rfl (fun hc14=> ?_) (fun hc14=> ?_)
 ·have hk:=zao hc14
  have rk:=zad (f:=ze0) hk
  refine rn ?_;refine zt8 h.evs.length (fun j wb=>wb=(h.evs.take j).any (zbe k x)) (fun j wb=> [(19,iv j),(7,bv wb)]) [(1,_),(2,_),(5,_),(6,_),(12,_),(13,_),(17,_),(18,_)] false rfl ?_
  intro j wb lj zj
  refine rn ?_;refine z7 rfl (fun hc20=> ?_) (fun hc20=> ?_)
  ·have hj:=zao hc20
   have rj:=zad (f:=evR) hj
   refine rn ?_;refine z8 rfl (y7 rfl fun b9=> ?_)
   refine rn ?_;refine y8 (fun hg9_1=> ?_) (fun hg9_1=> ?_)
   ·refine rn ?_;refine ⟨hj,_,?_,eA⟩
    rw [zar hj,←zj]
    simp_all [zbe]
   ·refine rn ?_;refine y8 (fun hg9_5=> ?_) (fun hg9_5=> ?_)
    ·refine rn ?_;refine y8 (fun hg9_11=> ?_) (fun hg9_11=> ?_)
     ·refine rn ?_;refine ⟨hj,_,?_,eA⟩
      rw [zar hj,←zj]
      simp_all [zbe]
     ·refine rn ?_;refine ⟨hj,_,?_,eA⟩
      rw [zar hj,←zj]
      simp_all [zbe]
    ·refine rn ?_;refine ⟨hj,_,?_,eA⟩
     rw [zar hj,←zj]
     simp_all [zbe]
  ·have qj:=zap hc20 lj
   have wq:wb=h.evs.any (zbe k x):=by rw [zj,qj,List.take_length]
   refine rn ?_;refine y8 (fun hg11_1=> ?_) (fun hg11_1=> ?_)
   ·refine rn ?_;refine qv rfl rfl (y4 rfl rfl (v7 (zzd h k (la.mono (by decide))) (Sbs.refl _))) ?_
    refine rn ?_;refine z7 rfl (fun hc47=> ?_) (fun hc47=> ?_)
    ·refine rn ?_;refine qv rfl rfl (q8 rfl rfl) ?_
     refine z8 rfl (j5 rfl rfl (by simp only [List.length_map];have:=zj2 h x k;simp;omega) rfl (fun s51=> ?_) (zjq [(k:Int)]))
     refine zaf s51 fun sv hsv=> ?_
     subst hsv
     refine rn ?_;first|exact ⟨hk,sv,by rw [zjf (by simp_all) (by simp_all),List.map_append];exact eA⟩|exact ⟨hk,s,by rw [zjg (by simp_all)];exact eA⟩
    ·refine rn ?_;first|exact ⟨hk,sv,by rw [zjf (by simp_all) (by simp_all),List.map_append];exact eA⟩|exact ⟨hk,s,by rw [zjg (by simp_all)];exact eA⟩
   ·refine rn ?_;refine zew rfl ?_;refine rn ?_;first|exact ⟨hk,sv,by rw [zjf (by simp_all) (by simp_all),List.map_append];exact eA⟩|exact ⟨hk,s,by rw [zjg (by simp_all)];exact eA⟩
 ·have qk:=zap hc14 lk
  refine rn ?_;exact u7 rfl (.trans zc7 (.drop1 _ _ _)) ⟨rfl,by rw [qk,zp7];rfl⟩
theorem ydy (h:Hist) (i:Nat) (hi:i < h.ords.length) (la:Lim 1000000 h):x4 Tryz.prog 209 [.agg (x5 h),iv i] [] (fun r h'=>h'= []∧r=bv (zi1 h i h.ords[i])):=by
 refine z6 Tryz.func209 rfl rfl rfl ?_
 have ri:=zad (f:=zdg) hi
 have bo:=la.ords
 have si:=la.ordts h.ords[i] (List.getElem_mem hi)
 refine rn ?_;refine z8 rfl (x9 rfl rfl rfl fun b2=> ?_)
 refine rn ?_;refine z8 rfl (y7 rfl fun b5=> ?_)
 first|refine z8 rfl (zai rfl rfl rfl ?_)|refine z8 rfl (zba rfl rfl rfl rfl (Nat.le_of_ble_eq_true rfl) ?_)
 refine u4 (j9 ?_)
 refine x6 ?_;refine x6 (y5 ?_)
 refine q1 ?_;refine q1 ?_;refine q1 ?_;refine qq rfl rfl (za4 (k:=i) rfl rfl (by simp;omega)) ?_
 rw [←List.map_take]
 refine rn ?_;refine zci ((h.ords.take i).length) (fun j:Nat=>(h.ords.take i).all (fun p:Ord=> !(p.o==h.ords[i].o))=((h.ords.take i).drop j).all (fun p:Ord=> !(p.o==h.ords[i].o))) (fun j=> [(19,iv j)]) [(2,_),(5,_),(17,_),(18,_)] rfl ?_
 intro j lj zj
 refine rn ?_;refine z7 rfl (fun hc20=> ?_) (fun hc20=> ?_)
 ·have hj:=zao hc20
  have rj:=zad (f:=zdg) hj
  have bj:(h.ords.take i).length≤4611686018427387904:=by simp;omega
  refine rn ?_;refine z8 rfl (y7 rfl fun b7=> ?_)
  refine rn ?_;refine z7 rfl (fun hc27=> ?_) (fun hc27=> ?_)
  ·refine rn ?_;refine rq 3 ?_
   exact ⟨rfl,congrArg bv (by rw [yei (zsc hj (by simpa using hc27))])⟩
  ·refine rn ?_;exact ⟨hj,zud hj zj (by simpa using hc27),eA⟩
 ·have qj:=zap hc20 lj
  have aj:=zx3 qj zj
  refine rn ?_;refine qv rfl rfl (y4 rfl rfl (v7 (zhj h h.ords[i].o la) (Sbs.refl _))) ?_
  refine rn ?_;refine qv rfl rfl (y4 rfl rfl (v7 (zsx h.ords[i].ts (zay h h.ords[i].o) (Nat.le_trans si (by decide)) (Nat.le_trans (zfx _ _) (Nat.le_trans la.ts (by decide)))) (Sbs.refl _))) ?_
  refine rn ?_;refine y8 (fun hg9_5=> ?_) (fun hg9_5=> ?_)
  ·refine rn ?_;refine rq 2 ?_
   exact ⟨rfl,congrArg bv (by rw [zvh aj];simp_all)⟩
  ·refine rn ?_;refine qv rfl rfl (y4 rfl rfl (v7 (zsx (zay h h.ords[i].o) h.ords[i].ts (Nat.le_trans (zfx _ _) (Nat.le_trans la.ts (by decide))) (Nat.le_trans si (by decide))) (Sbs.refl _))) ?_
   refine rn ?_;refine rq 2 ?_
   exact ⟨rfl,congrArg bv (by rw [zvh aj];simp_all)⟩
theorem zww (h:Hist) (x:Int) (la:Lim 1000000 h):x4 Tryz.prog 210 [.agg (x5 h),iv x] [] (fun r h'=>h'= []∧r=bv (zm9 h x)):=by
 refine z6 Tryz.func210 rfl rfl rfl ?_
 refine rn ?_;refine z8 rfl (x9 rfl rfl rfl fun b2=> ?_)
 refine rn ?_;refine zci (h.ords.length) (fun j:Nat=>h.ords.all (fun p:Ord=> !(p.o==x))=(h.ords.drop j).all (fun p:Ord=> !(p.o==x))) (fun j=> [(10,iv j)]) [(1,_),(2,_),(8,_),(9,_)] rfl ?_
 intro j lj zj
 refine rn ?_;refine z7 rfl (fun hc11=> ?_) (fun hc11=> ?_)
 ·have hj:=zao hc11
  have rj:=zad (f:=zdg) hj
  have bo:=la.ords
  refine rn ?_;refine z8 rfl (y7 rfl fun b6=> ?_)
  refine rn ?_;refine z7 rfl (fun hc17=> ?_) (fun hc17=> ?_)
  ·refine rn ?_;refine rq 2 ?_
   exact ⟨rfl,congrArg bv (by rw [yj6 (zsc hj (by simpa using hc17))])⟩
  ·refine rn ?_;exact ⟨hj,zud hj zj (by simpa using hc17),eA⟩
 ·have qj:=zap hc11 lj
  have aj:=zx3 qj zj
  refine rn ?_;refine qv rfl rfl (y4 rfl rfl (v7 (zhj h x la) (Sbs.refl _))) ?_
  refine rn ?_;refine rq 1 ?_
  exact ⟨rfl,congrArg bv (by rw [yj7 aj];simp;omega)⟩
theorem yd0 (h:Hist) (i:Nat) (hi:i < h.mats.length) (la:Lim 1000000 h):x4 Tryz.prog 211 [.agg (x5 h),iv i] [] (fun r h'=>h'= []∧r=bv (zi3 h i h.mats[i])):=by
 refine z6 Tryz.func211 rfl rfl rfl ?_
 have ri:=zad (f:=zey) hi
 have bo:=la.mats
 have si:=la.matts h.mats[i] (List.getElem_mem hi)
 refine rn ?_;refine z8 rfl (x9 rfl rfl rfl fun b2=> ?_)
 refine rn ?_;refine z8 rfl (y7 rfl fun b5=> ?_)
 first|refine z8 rfl (zai rfl rfl rfl ?_)|refine z8 rfl (zba rfl rfl rfl rfl (Nat.le_of_ble_eq_true rfl) ?_)
 refine u4 (j9 ?_)
 refine x6 ?_;refine x6 (y5 ?_)
 refine q1 ?_;refine q1 ?_;refine q1 ?_;refine qq rfl rfl (za4 (k:=i) rfl rfl (by simp;omega)) ?_
 rw [←List.map_take]
 refine rn ?_;refine zci ((h.mats.take i).length) (fun j:Nat=>(h.mats.take i).all (fun p:Mat=> !(p.p==h.mats[i].p && p.o==h.mats[i].o))=((h.mats.take i).drop j).all (fun p:Mat=> !(p.p==h.mats[i].p && p.o==h.mats[i].o))) (fun j=> [(18,iv j)]) [(2,_),(5,_),(16,_),(17,_)] rfl ?_
 intro j lj zj
 refine rn ?_;refine z7 rfl (fun hc19=> ?_) (fun hc19=> ?_)
 ·have hj:=zao hc19
  have rj:=zad (f:=zey) hj
  have bj:(h.mats.take i).length≤4611686018427387904:=by simp;omega
  refine rn ?_;refine z8 rfl (y7 rfl fun b7=> ?_)
  refine rn ?_;refine y8 (fun hg5_5=> ?_) (fun hg5_5=> ?_)
  ·refine rn ?_;refine z7 rfl (fun hc33=> ?_) (fun hc33=> ?_)
   ·refine rn ?_;refine rq 3 ?_
    exact ⟨rfl,congrArg bv (by rw [yeu (zsc hj (by simp_all))])⟩
   ·refine rn ?_;exact ⟨hj,zud hj zj (by simp_all),eA⟩
  ·refine rn ?_;refine zew rfl ?_;refine rn ?_;exact ⟨hj,zud hj zj (by simp_all),eA⟩
 ·have qj:=zap hc19 lj
  have aj:=zx3 qj zj
  refine rn ?_;refine j3 6 rfl ?_
  refine rn ?_;refine dv rfl rfl (by exact y4 rfl rfl (v7 (zhj h h.mats[i].o la) (Sbs.refl _))) ?_
  refine rn ?_;refine qv rfl rfl (y4 rfl rfl (v7 (zsx h.mats[i].ts (zay h h.mats[i].o) (Nat.le_trans si (by decide)) (Nat.le_trans (zfx _ _) (Nat.le_trans la.ts (by decide)))) (Sbs.refl _))) ?_
  refine rn ?_;refine rq 2 ?_
  exact ⟨rfl,congrArg bv (by rw [yev aj])⟩
theorem yi8 (h:Hist) (i:Nat) (hi:i < h.wants.length) (la:Lim 1000000 h):x4 Tryz.prog 212 [.agg (x5 h),iv i] [] (fun r h'=>h'= []∧r=bv (zjh h i h.wants[i])):=by
 refine z6 Tryz.func212 rfl rfl rfl ?_
 have ri:=zad (f:=ze8) hi
 have bo:=la.wants
 refine rn ?_;refine z8 rfl (x9 rfl rfl rfl fun b2=> ?_)
 refine q1 ?_;refine u4 (j9 ?_)
 refine x6 ?_;refine x6 (y5 ?_)
 refine q1 ?_;refine q1 ?_;refine q1 ?_;refine qq rfl rfl (za4 (k:=i) rfl rfl (by simp;omega)) ?_
 rw [←List.map_take]
 refine rn ?_;refine zci ((h.wants.take i).length) (fun j:Nat=>(h.wants.take i).all (fun p:Wan=> !(p.s==h.wants[i].s))=((h.wants.take i).drop j).all (fun p:Wan=> !(p.s==h.wants[i].s))) (fun j=> [(14,iv j)]) [(1,_),(2,_),(12,_),(13,_)] rfl ?_
 intro j lj zj
 refine rn ?_;refine z7 rfl (fun hc15=> ?_) (fun hc15=> ?_)
 ·have hj:=zao hc15
  have rj:=zad (f:=ze8) hj
  have bj:(h.wants.take i).length≤4611686018427387904:=by simp;omega
  refine rn ?_;refine z8 rfl (y7 rfl fun b6=> ?_)
  refine rn ?_;refine j3 8 rfl ?_
  refine rn ?_;refine z7 rfl (fun hc26=> ?_) (fun hc26=> ?_)
  ·refine rn ?_;refine rq 2 ?_
   exact ⟨rfl,congrArg bv (by rw [yh2 (zsc hj (by simpa using hc26))])⟩
  ·refine rn ?_;exact ⟨hj,zud hj zj (by simpa using hc26),eA⟩
 ·have qj:=zap hc15 lj
  have aj:=zx3 qj zj
  refine rn ?_;refine zci (h.evs.length) (fun k:Nat=>h.evs.all (fun e:Ev=> !(e.kind==1 && e.s==h.wants[i].s))=(h.evs.drop k).all (fun e:Ev=> !(e.kind==1 && e.s==h.wants[i].s))) (fun k=> [(31,iv k)]) [(1,_),(2,_),(29,_),(30,_)] rfl ?_
  intro k lk zk
  refine rn ?_;refine z7 rfl (fun hc32=> ?_) (fun hc32=> ?_)
  ·have hk:=zao hc32
   have rk:=zad (f:=evR) hk
   have bk:=la.evs
   refine rn ?_;refine z8 rfl (y7 rfl fun b8=> ?_)
   refine rn ?_;refine j3 12 rfl ?_
   refine rn ?_;refine zd7 (fun hg10_3=> ?_) (fun hg10_3=> ?_)
   ·refine rn ?_;refine z7 rfl (fun hc48=> ?_) (fun hc48=> ?_)
    ·refine rn ?_;refine rq 2 ?_
     exact ⟨rfl,congrArg bv (by rw [zx9 aj (zsc hk (by simp_all))])⟩
    ·refine rn ?_;exact ⟨hk,zud hk zk (by simp_all),eA⟩
   ·refine rn ?_;refine zew rfl ?_;refine rn ?_;exact ⟨hk,zud hk zk (by simp_all),eA⟩
  ·have qk:=zap hc32 lk
   have ak:=zx3 qk zk
   refine rn ?_;refine rq 1 ?_
   exact ⟨rfl,congrArg bv (by rw [zx9 aj ak])⟩
theorem zy9 (e:Ev):x4 Tryz.prog 225 [.agg (evR e)] [] (fun r h'=>h'= []∧r=zj5 (u0 e)):=by
 refine z6 Tryz.func225 rfl rfl rfl ?_
 refine rn ?_;refine z8 rfl (x9 rfl rfl rfl fun b1=> ?_)
 refine rn ?_;refine z7 rfl (fun hc5=> ?_) (fun hc5=> ?_)
 ·refine rn ?_;refine qv rfl rfl (q8 rfl rfl) ?_
  refine rn ?_;exact u7 rfl (.trans (.drop [_] _ _) (.le Sb.unfull.le)) ⟨rfl,by rw [u0,if_pos (by simpa using hc5)];rfl⟩
 ·refine rn ?_;refine rq 1 ?_
  exact ⟨rfl,by rw [u0,if_neg (by simpa using hc5)];rfl⟩
theorem zvc (l:List Ev) (t x:Int) (la:l.length≤1000000):x4 Tryz.prog 224 [zmw l,iv t,iv x] [] (fun r h'=>h'= []∧r=zmw (zb2 l t x)):=by
 refine z6 Tryz.func224 rfl rfl rfl ?_
 refine x6 (y5 ?_)
 refine rn0 ?_;refine x6 (y5 ?_)
 refine rn0 ?_;refine x6 ?_;refine x6 ?_;refine zgl (zaj 9 66) ?_
 refine rn ?_;refine zee l.length (fun k s=>⟨[(12,iv k),(7,.v s.v),(1,iv t),(2,iv x),(10,zmw l),(11,iv (l.map evR).length)],.row s.v 9 66 ((zb2 (l.take k) t x).map evR):: [],[]⟩) ⟨none,0,0⟩ es ?_
 intro k s lk
 refine rn ?_;refine z7 rfl (fun hc13=> ?_) (fun hc13=> ?_)
 ·have hk:=zao hc13
  have rk:=zad (f:=evR) hk
  refine rn ?_;refine z8 rfl (y7 rfl fun b9=> ?_)
  refine rn ?_;refine y8 (fun hg5_3=> ?_) (fun hg5_3=> ?_)
  ·refine rn ?_;refine y8 (fun hg5_9=> ?_) (fun hg5_9=> ?_)
   ·refine rn ?_;refine z7 rfl (fun hc30=> ?_) (fun hc30=> ?_)
    ·refine rn ?_;refine qv rfl rfl (q8 rfl rfl) ?_
     refine z8 rfl (j5 rfl rfl (by simp only [List.length_map];have:=ycz l t x k;simp;omega) rfl (fun s34=> ?_) (ygt [l[k]]))
     refine zaf s34 fun sv hsv=> ?_
     subst hsv
     refine rn ?_;first|exact ⟨hk,sv,by rw [zod hk (by simp_all),List.map_append];exact eA⟩|exact ⟨hk,s,by rw [zoe hk (by simp_all)];exact eA⟩
    ·refine rn ?_;first|exact ⟨hk,sv,by rw [zod hk (by simp_all),List.map_append];exact eA⟩|exact ⟨hk,s,by rw [zoe hk (by simp_all)];exact eA⟩
   ·refine rn ?_;refine zew rfl ?_;refine rn ?_;first|exact ⟨hk,sv,by rw [zod hk (by simp_all),List.map_append];exact eA⟩|exact ⟨hk,s,by rw [zoe hk (by simp_all)];exact eA⟩
  ·refine rn ?_;refine zew rfl ?_;refine rn ?_;first|exact ⟨hk,sv,by rw [zod hk (by simp_all),List.map_append];exact eA⟩|exact ⟨hk,s,by rw [zoe hk (by simp_all)];exact eA⟩
 ·have qk:=zap hc13 lk
  refine rn ?_;exact u7 rfl zc7 ⟨rfl,by rw [qk,List.take_length];rfl⟩
theorem bvz2_3207 {a b:Bool} (h:a=b:=by subst e1;show _=(zea l e.t && e.kind==1|| !zea l e.t && e.kind !=1);rw [←zB];clear zb zo zB zO;simp_all):bv a=bv b:=congrArg bv h
set_option maxHeartbeats 4000000 in
theorem zw0 (rl:Nat) (e:Ev) (l:List Ev) (h1:1≤rl) (h6:rl≤6) (la:l.length≤1000000) (hl:e.scan.length≤1000000):x4 Tryz.prog 213 [iv rl,.agg (evR e),zmw l] [] (fun r h'=>h'= []∧r=bv (zcy rl e l)):=by
 refine z6 Tryz.func213 rfl rfl rfl ?_
 refine rn ?_;refine z8 rfl (x9 rfl rfl rfl fun b4=> ?_)
 refine rn ?_;refine zt8 l.length (fun j x=>x.1=(l.take j).any (fun y:Ev=>y.t==e.t && y.kind==1)∧x.2=(l.take j).any (fun y:Ev=>y.t==e.t && (y.kind==5||y.kind==6))) (fun j x=> [(21,iv j),(7,bv x.1),(8,bv x.2)]) [(0,_),(2,_),(4,_),(19,_),(20,_)] (false,false) ⟨rfl,rfl⟩ ?_
 rintro j ⟨bg,ov⟩ lj ⟨zb,zo⟩
 refine rn ?_;refine z7 rfl (fun hc22=> ?_) (fun hc22=> ?_)
 ·have hj:=zao hc22
  have rj:=zad (f:=evR) hj
  refine rn ?_;refine z8 rfl (y7 rfl fun b10=> ?_)
  refine rn ?_;refine z7 rfl (fun hc29=> ?_) (fun hc29=> ?_)
  ·refine rn ?_;refine y8 (fun hg6_1=> ?_) (fun hg6_1=> ?_)
   ·refine rn ?_;refine y8 (fun hg7_1=> ?_) (fun hg7_1=> ?_)
    ·refine rn ?_;refine ⟨hj,(_,_),?_,eA⟩
     rw [zar hj,zar hj]
     generalize (l.take j).any (fun y:Ev=>y.t==e.t && y.kind==1)=A at *
     generalize (l.take j).any (fun y:Ev=>y.t==e.t && (y.kind==5||y.kind==6))=B at *
     simp_all
    ·refine rn ?_;refine y8 (fun hg7_6=> ?_) (fun hg7_6=> ?_)
     ·refine rn ?_;refine ⟨hj,(_,_),?_,eA⟩
      rw [zar hj,zar hj]
      generalize (l.take j).any (fun y:Ev=>y.t==e.t && y.kind==1)=A at *
      generalize (l.take j).any (fun y:Ev=>y.t==e.t && (y.kind==5||y.kind==6))=B at *
      simp_all
     ·refine rn ?_;refine ⟨hj,(_,_),?_,eA⟩
      rw [zar hj,zar hj]
      generalize (l.take j).any (fun y:Ev=>y.t==e.t && y.kind==1)=A at *
      generalize (l.take j).any (fun y:Ev=>y.t==e.t && (y.kind==5||y.kind==6))=B at *
      simp_all
   ·refine rn ?_;refine y8 (fun hg7_1=> ?_) (fun hg7_1=> ?_)
    ·refine rn ?_;refine ⟨hj,(_,_),?_,eA⟩
     rw [zar hj,zar hj]
     generalize (l.take j).any (fun y:Ev=>y.t==e.t && y.kind==1)=A at *
     generalize (l.take j).any (fun y:Ev=>y.t==e.t && (y.kind==5||y.kind==6))=B at *
     simp_all
    ·refine rn ?_;refine y8 (fun hg7_6=> ?_) (fun hg7_6=> ?_)
     ·refine rn ?_;refine ⟨hj,(_,_),?_,eA⟩
      rw [zar hj,zar hj]
      generalize (l.take j).any (fun y:Ev=>y.t==e.t && y.kind==1)=A at *
      generalize (l.take j).any (fun y:Ev=>y.t==e.t && (y.kind==5||y.kind==6))=B at *
      simp_all
     ·refine rn ?_;refine ⟨hj,(_,_),?_,eA⟩
      rw [zar hj,zar hj]
      generalize (l.take j).any (fun y:Ev=>y.t==e.t && y.kind==1)=A at *
      generalize (l.take j).any (fun y:Ev=>y.t==e.t && (y.kind==5||y.kind==6))=B at *
      simp_all
  ·refine rn ?_;refine ⟨hj,(_,_),?_,eA⟩
   rw [zar hj,zar hj]
   generalize (l.take j).any (fun y:Ev=>y.t==e.t && y.kind==1)=A at *
   generalize (l.take j).any (fun y:Ev=>y.t==e.t && (y.kind==5||y.kind==6))=B at *
   simp_all
 ·have qj:=zap hc22 lj
  have zB:bg=zea l e.t:=by rw [yb4,zv7];simpa [qj] using zb
  have zO:ov=zq0 l e.t:=by rw [zq0];simpa [qj] using zo
  refine rn ?_;refine z7 rfl (fun hc49=> ?_) (fun hc49=> ?_)
  ·have e1:rl=1:=by have h:=hc49;simp at h;omega
   refine rn ?_;refine y8 (fun hg11_1=> ?_) (fun hg11_1=> ?_)
   ·refine rn ?_;refine y8 (fun hg11_6=> ?_) (fun hg11_6=> ?_)
    ·refine rn ?_;refine rq 1 ?_
     exact ⟨rfl,bvz2_3207⟩
    ·refine rn ?_;refine y8 (fun hg11_9=> ?_) (fun hg11_9=> ?_)
     ·refine rn ?_;refine rq 1 ?_
      exact ⟨rfl,bvz2_3207⟩
     ·refine rn ?_;refine rq 1 ?_
      exact ⟨rfl,bvz2_3207⟩
   ·refine rn ?_;refine y8 (fun hg11_9=> ?_) (fun hg11_9=> ?_)
    ·refine rn ?_;refine rq 1 ?_
     exact ⟨rfl,bvz2_3207⟩
    ·refine rn ?_;refine rq 1 ?_
     exact ⟨rfl,bvz2_3207⟩
  ·have n1:rl≠1:=by intro h;subst h;exact absurd hc49 (by decide)
   refine rn ?_;refine z7 rfl (fun hc66=> ?_) (fun hc66=> ?_)
   ·have e2:rl=2:=by have h:=hc66;simp at h;omega
    refine rn ?_;refine rq 1 ?_
    exact ⟨rfl,congrArg bv (by subst e2;show _=zq0 l e.t;rw [←zO])⟩
   ·have n2:rl≠2:=by intro h;subst h;exact absurd hc66 (by decide)
    refine rn ?_;refine z7 rfl (fun hc69=> ?_) (fun hc69=> ?_)
    ·have e3:rl=3:=by have h:=hc69;simp at h;omega
     refine rn ?_;refine j3 15 rfl ?_
     refine rn ?_;refine zd7 (fun hg15_3=> ?_) (fun hg15_3=> ?_)
     ·refine rn ?_;refine dv rfl rfl (by exact y4 rfl rfl (v7 (zvc l e.t e.o la) (Sbs.refl _))) ?_
      refine dq rfl rfl qrA ?_;first|refine ds rfl rfl ?_|refine dq rfl rfl (k7 rfl rfl rfl (by rw [List.length_map];have:=zgo l e.t e.o;omega)) ?_
      refine rn ?_;refine rq 1 ?_
      exact ⟨rfl,congrArg bv (by subst e3;simp_all [zcy])⟩
     ·refine rn ?_;refine rq 1 ?_
      exact ⟨rfl,congrArg bv (by subst e3;simp_all [zcy])⟩
    ·have n3:rl≠3:=by intro h;subst h;exact absurd hc69 (by decide)
     refine rn ?_;refine qv rfl rfl (y4 rfl rfl (v7 (zy9 e) (Sbs.refl _))) ?_
     refine rn ?_;refine zci ((u0 e).length) (fun k:Nat=>OkS rl e l k) (fun k=> [(91,iv k)]) [(0,_),(2,_),(4,_),(89,_),(90,_)] (fun i _ h=>absurd h (Nat.not_lt_zero _)) ?_
     intro k lk zk
     refine rn ?_;refine z7 rfl (fun hc92=> ?_) (fun hc92=> ?_)
     ·have hk:=zao hc92
      have rk:=zad (f:=zav) hk
      have sl:=zjk (e:=e) (Nat.le_trans hl (by decide))
      refine rn ?_;refine z8 rfl (y7 rfl fun b12=> ?_)
      refine rn ?_;refine qv rfl rfl (y4 rfl rfl (v7 (zvc l e.t (u0 e)[k].o la) (Sbs.refl _))) ?_
      refine rn ?_;refine zt8 l.length (fun m x=>x=((u0 e)[k].v.k==0||(l.take m).any (fun y:Ev=>y.kind==2 && y.o==(u0 e)[k].o && y.v==(u0 e)[k].v))) (fun m x=> [(108,iv m),(14,bv x)]) [(0,_),(2,_),(4,_),(11,_),(12,_),(13,_),(89,_),(90,_),(91,_),(106,_),(107,_)] ((u0 e)[k].v.k==0) (by simp) ?_
      intro m th lm zm
      refine rn ?_;refine z7 rfl (fun hc109=> ?_) (fun hc109=> ?_)
      ·have hm:=zao hc109
       have rm:=zad (f:=evR) hm
       refine rn ?_;refine z8 rfl (y7 rfl fun b16=> ?_)
       refine rn ?_;refine y8 (fun hg24_1=> ?_) (fun hg24_1=> ?_)
       ·refine rn ?_;refine ⟨hm,_,?_,eA⟩
        try rw [zcb]
        rw [zar hm]
        generalize (l.take m).any (fun y:Ev=>y.kind==2 && y.o==(u0 e)[k].o && y.v==(u0 e)[k].v)=A at *
        generalize ((u0 e)[k].v.k==0)=B at *
        generalize (l[m].v==(u0 e)[k].v)=D at *
        cases A <;> cases B <;> simp_all
       ·refine rn ?_;refine y8 (fun hg24_5=> ?_) (fun hg24_5=> ?_)
        ·refine rn ?_;refine y8 (fun hg24_12=> ?_) (fun hg24_12=> ?_)
         ·refine rn ?_;refine ⟨hm,_,?_,eA⟩
          try rw [zcb]
          rw [zar hm]
          generalize (l.take m).any (fun y:Ev=>y.kind==2 && y.o==(u0 e)[k].o && y.v==(u0 e)[k].v)=A at *
          generalize ((u0 e)[k].v.k==0)=B at *
          generalize (l[m].v==(u0 e)[k].v)=D at *
          cases A <;> cases B <;> simp_all
         ·refine rn ?_;refine ⟨hm,_,?_,eA⟩
          try rw [zcb]
          rw [zar hm]
          generalize (l.take m).any (fun y:Ev=>y.kind==2 && y.o==(u0 e)[k].o && y.v==(u0 e)[k].v)=A at *
          generalize ((u0 e)[k].v.k==0)=B at *
          generalize (l[m].v==(u0 e)[k].v)=D at *
          cases A <;> cases B <;> simp_all
        ·refine rn ?_;refine ⟨hm,_,?_,eA⟩
         try rw [zcb]
         rw [zar hm]
         generalize (l.take m).any (fun y:Ev=>y.kind==2 && y.o==(u0 e)[k].o && y.v==(u0 e)[k].v)=A at *
         generalize ((u0 e)[k].v.k==0)=B at *
         generalize (l[m].v==(u0 e)[k].v)=D at *
         cases A <;> cases B <;> simp_all
      ·have qm:=zap hc109 lm
       have zT:th=((u0 e)[k].v.k==0||zen l (u0 e)[k].o (u0 e)[k].v):=by rw [zm,qm,List.take_length];rfl
       refine rn ?_;refine z7 rfl (fun hc134=> ?_) (fun hc134=> ?_)
       ·have e4:rl=4:=by have h:=hc134;simp at h;omega
        refine rn ?_;refine z7 rfl (fun hc137=> ?_) (fun hc137=> ?_)
        ·refine rn ?_;refine rq 2 ?_
         exact ⟨rfl,congrArg bv (by subst e4;rw [zof (by omega) hk (by show (!((u0 e)[k].v.k==0||zen l (u0 e)[k].o (u0 e)[k].v))=true;rw [←zT];exact hc137)])⟩
        ·refine rn ?_;exact ⟨hk,zzy hk zk (by first|(subst e4;show (!((u0 e)[k].v.k==0||zen l (u0 e)[k].o (u0 e)[k].v))=false;rw [←zT];exact hc137)|(subst e5;rw [zjl hw1,bne,←zcb];exact hc154)|(subst e5;exact zlx hg31_3)|(subst e6;show ((u0 e).take k).any _=false;rw [zeg,au];rfl)|(exfalso;omega)),eA⟩
       ·have n4:rl≠4:=by intro h;subst h;exact absurd hc134 (by decide)
        refine rn ?_;refine z7 rfl (fun hc138=> ?_) (fun hc138=> ?_)
        ·have e5:rl=5:=by have h:=hc138;simp at h;omega
         refine rn ?_;refine j3 13 rfl ?_
         refine rn ?_;refine zd7 (fun hg31_3=> ?_) (fun hg31_3=> ?_)
         ·try obtain ⟨w,hw1,hw2,hw3⟩:=zvo hg31_3
          refine dq rfl rfl qrA ?_;refine dq rfl rfl qrA ?_;refine dq rfl rfl qrA ?_;first|refine ds rfl rfl ?_|refine dq rfl rfl (k7 rfl rfl rfl (by rw [List.length_map];have:=zgo l e.t (u0 e)[k].o;omega)) ?_
          first|refine ds rfl rfl ?_|refine dq rfl rfl (zj7 rfl rfl hw3 hw2) ?_
          refine rn ?_;refine z7 rfl (fun hc154=> ?_) (fun hc154=> ?_)
          ·refine rn ?_;refine rq 2 ?_
           exact ⟨rfl,congrArg bv (by subst e5;rw [zof (by omega) hk (by rw [zjl hw1,bne,←zcb];exact hc154)])⟩
          ·refine rn ?_;exact ⟨hk,zzy hk zk (by first|(subst e4;show (!((u0 e)[k].v.k==0||zen l (u0 e)[k].o (u0 e)[k].v))=false;rw [←zT];exact hc137)|(subst e5;rw [zjl hw1,bne,←zcb];exact hc154)|(subst e5;exact zlx hg31_3)|(subst e6;show ((u0 e).take k).any _=false;rw [zeg,au];rfl)|(exfalso;omega)),eA⟩
         ·try obtain ⟨w,hw1,hw2,hw3⟩:=zvo hg31_3
          refine rn ?_;refine zew rfl ?_;refine rn ?_;exact ⟨hk,zzy hk zk (by first|(subst e4;show (!((u0 e)[k].v.k==0||zen l (u0 e)[k].o (u0 e)[k].v))=false;rw [←zT];exact hc137)|(subst e5;rw [zjl hw1,bne,←zcb];exact hc154)|(subst e5;exact zlx hg31_3)|(subst e6;show ((u0 e).take k).any _=false;rw [zeg,au];rfl)|(exfalso;omega)),eA⟩
        ·have n5:rl≠5:=by intro h;subst h;exact absurd hc138 (by decide)
         refine rn ?_;refine z7 rfl (fun hc155=> ?_) (fun hc155=> ?_)
         ·have e6:rl=6:=by have h:=hc155;simp at h;omega
          refine rn ?_;refine qv rfl rfl (y4 rfl rfl (v7 (zy9 e) (Sbs.refl _))) ?_
          refine q1 ?_;refine qq rfl rfl (za4 (k:=k) rfl rfl (by simp;omega)) ?_
          rw [←List.map_take]
          refine rn ?_;refine zci (((u0 e).take k).length) (fun u:Nat=>((u0 e).take k).all (fun p:Seen=> !(p.o==(u0 e)[k].o))=(((u0 e).take k).drop u).all (fun p:Seen=> !(p.o==(u0 e)[k].o))) (fun u=> [(162,iv u)]) [(0,_),(2,_),(4,_),(12,_),(89,_),(90,_),(91,_),(160,_),(161,_)] rfl ?_
          intro u lu zu
          refine rn ?_;refine z7 rfl (fun hc163=> ?_) (fun hc163=> ?_)
          ·have hu:=zao hc163
           have ru:=zad (f:=zav) hu
           have bu:((u0 e).take k).length≤4611686018427387904:=by simp;omega
           refine rn ?_;refine z8 rfl (y7 rfl fun b18=> ?_)
           refine rn ?_;refine z7 rfl (fun hc170=> ?_) (fun hc170=> ?_)
           ·refine rn ?_;refine rq 3 ?_
            exact ⟨rfl,congrArg bv (by subst e6;rw [zof (by omega) hk (by show ((u0 e).take k).any _=true;rw [zeg,zsc hu (by simpa using hc170)];rfl)])⟩
           ·refine rn ?_;exact ⟨hu,zud hu zu (by simpa using hc170),eA⟩
          ·have qu:=zap hc163 lu
           have au:=zx3 qu zu
           refine rn ?_;exact ⟨hk,zzy hk zk (by first|(subst e4;show (!((u0 e)[k].v.k==0||zen l (u0 e)[k].o (u0 e)[k].v))=false;rw [←zT];exact hc137)|(subst e5;rw [zjl hw1,bne,←zcb];exact hc154)|(subst e5;exact zlx hg31_3)|(subst e6;show ((u0 e).take k).any _=false;rw [zeg,au];rfl)|(exfalso;omega)),eA⟩
         ·have n6:rl≠6:=by intro h;subst h;exact absurd hc155 (by decide)
          refine rn ?_;exact ⟨hk,zzy hk zk (by first|(subst e4;show (!((u0 e)[k].v.k==0||zen l (u0 e)[k].o (u0 e)[k].v))=false;rw [←zT];exact hc137)|(subst e5;rw [zjl hw1,bne,←zcb];exact hc154)|(subst e5;exact zlx hg31_3)|(subst e6;show ((u0 e).take k).any _=false;rw [zeg,au];rfl)|(exfalso;omega)),eA⟩
     ·have qk:=zap hc92 lk
      refine rn ?_;refine rq 1 ?_
      exact ⟨rfl,congrArg bv (by rw [yc1 (by omega) (qk ▸ zk)])⟩
theorem zze (h:Hist) (rl i:Nat) (h1:1≤rl) (h10:rl≤10) (hi:i < zf6 h rl) (la:Lim 1000000 h):x4 Tryz.prog 194 [.agg (x5 h),iv rl,iv i] [] (fun r h'=>h'= []∧r=bv (zgg h rl i)):=by
 refine z6 Tryz.func194 rfl rfl rfl ?_
 refine rn ?_;refine z8 rfl (x9 rfl rfl rfl fun b3=> ?_)
 refine rn ?_;refine z7 rfl (fun hc8=> ?_) (fun hc8=> ?_)
 ·obtain rfl:rl=7:=by have q:=hc8;simp at q;omega
  have hi2:i < h.ords.length:=hi
  refine rn ?_;refine qv rfl rfl (y4 rfl rfl (v7 (ydy h i hi2 la) (Sbs.refl _))) ?_
  refine rn ?_;refine rq 1 ?_
  exact ⟨rfl,congrArg bv (by exact (zkn hi2).symm)⟩
 ·have n7:rl≠7:=by intro q;subst q;exact absurd hc8 (by decide)
  refine rn ?_;refine z7 rfl (fun hc13=> ?_) (fun hc13=> ?_)
  ·obtain rfl:rl=8:=by have q:=hc13;simp at q;omega
   have hi2:i < h.os.length:=hi
   refine rn ?_;refine qv rfl rfl (y4 rfl rfl (v7 (zww h i la) (Sbs.refl _))) ?_
   refine rn ?_;refine rq 1 ?_
   exact ⟨rfl,congrArg bv (by exact (zkn (w:=fun x _=>zm9 h (x:Int)) hi2).symm)⟩
  ·have n8:rl≠8:=by intro q;subst q;exact absurd hc13 (by decide)
   refine rn ?_;refine z7 rfl (fun hc18=> ?_) (fun hc18=> ?_)
   ·obtain rfl:rl=9:=by have q:=hc18;simp at q;omega
    have hi2:i < h.mats.length:=hi
    refine rn ?_;refine qv rfl rfl (y4 rfl rfl (v7 (yd0 h i hi2 la) (Sbs.refl _))) ?_
    refine rn ?_;refine rq 1 ?_
    exact ⟨rfl,congrArg bv (by exact (zkn hi2).symm)⟩
   ·have n9:rl≠9:=by intro q;subst q;exact absurd hc18 (by decide)
    refine rn ?_;refine z7 rfl (fun hc23=> ?_) (fun hc23=> ?_)
    ·obtain rfl:rl=10:=by have q:=hc23;simp at q;omega
     have hi2:i < h.wants.length:=hi
     refine rn ?_;refine qv rfl rfl (y4 rfl rfl (v7 (yi8 h i hi2 la) (Sbs.refl _))) ?_
     refine rn ?_;refine rq 1 ?_
     exact ⟨rfl,congrArg bv (by exact (zkn hi2).symm)⟩
    ·have n10:rl≠10:=by intro q;subst q;exact absurd hc23 (by decide)
     have hi2:i < h.evs.length:=by rw [←zz8 n7 n8 n9 n10];exact hi
     have ri:=zad (f:=evR) hi2
     have be:=la.evs
     have sc:=la.scans h.evs[i] (List.getElem_mem hi2)
     refine rn ?_;refine j3 10 rfl ?_
     refine dq rfl rfl qrA ?_;refine dq rfl rfl qrA ?_;refine dq rfl rfl qrA ?_;refine dq rfl rfl qrA ?_;refine dq rfl rfl qrA ?_;refine dq rfl rfl qrA ?_;refine dq rfl rfl qrA ?_;refine dq rfl rfl qrA ?_;refine dq rfl rfl qrA ?_;refine dq rfl rfl (za4 (k:=i) rfl rfl (by simp;omega)) ?_
     rw [←List.map_take]
     refine rn ?_;refine qv rfl rfl (y4 rfl rfl (v7 (zw0 rl h.evs[i] (h.evs.take i) h1 (by omega) (by simp;omega) sc) (Sbs.refl _))) ?_
     refine rn ?_;refine rq 1 ?_
     exact ⟨rfl,congrArg bv (by rw [ybw n7 n8 n9 n10,zkn hi2])⟩
theorem ydx (h:Hist) (rl:Nat) (h1:1≤rl) (h10:rl≤10) (la:Lim 1000000 h):x4 Tryz.prog 152 [.agg (x5 h),iv rl] [] (fun r h'=>h'= []∧r=iv (zve (zef h rl))):=by
 refine z6 Tryz.func152 rfl rfl rfl ?_
 refine rn ?_;refine z8 rfl (x9 rfl rfl rfl fun b2=> ?_)
 refine rn0 ?_;refine x6 (y5 ?_)
 refine rn0 ?_;refine zgm (⟨[(5,iv (zf6 h rl)),(1,iv rl),(2,pZ b2)],.box b2 28 (x5 h):: [],[]⟩) ?_ ?_
 ·refine rn ?_;refine z7 rfl (fun hc11=> ?_) (fun hc11=> ?_)
  ·obtain rfl:rl=7:=by have q:=hc11;simp at q;omega
   refine rn ?_;first|(rw [yac];exact es)|(rw [yab];exact es)|(rw [yaa];exact es)|(rw [zq3];exact es)|(rw [zz9 n7 n8 n9 n10];exact es)
  ·have n7:rl≠7:=by intro q;subst q;exact absurd hc11 (by decide)
   refine rn ?_;refine z7 rfl (fun hc16=> ?_) (fun hc16=> ?_)
   ·obtain rfl:rl=8:=by have q:=hc16;simp at q;omega
    refine rn ?_;first|(rw [yac];exact es)|(rw [yab];exact es)|(rw [yaa];exact es)|(rw [zq3];exact es)|(rw [zz9 n7 n8 n9 n10];exact es)
   ·have n8:rl≠8:=by intro q;subst q;exact absurd hc16 (by decide)
    refine rn ?_;refine z7 rfl (fun hc21=> ?_) (fun hc21=> ?_)
    ·obtain rfl:rl=9:=by have q:=hc21;simp at q;omega
     refine rn ?_;first|(rw [yac];exact es)|(rw [yab];exact es)|(rw [yaa];exact es)|(rw [zq3];exact es)|(rw [zz9 n7 n8 n9 n10];exact es)
    ·have n9:rl≠9:=by intro q;subst q;exact absurd hc21 (by decide)
     refine rn ?_;refine z7 rfl (fun hc26=> ?_) (fun hc26=> ?_)
     ·obtain rfl:rl=10:=by have q:=hc26;simp at q;omega
      refine rn ?_;first|(rw [yac];exact es)|(rw [yab];exact es)|(rw [yaa];exact es)|(rw [zq3];exact es)|(rw [zz9 n7 n8 n9 n10];exact es)
     ·have n10:rl≠10:=by intro q;subst q;exact absurd hc26 (by decide)
      refine rn ?_;first|(rw [yac];exact es)|(rw [yab];exact es)|(rw [yaa];exact es)|(rw [zq3];exact es)|(rw [zz9 n7 n8 n9 n10];exact es)
 ·refine rn ?_;refine zci (zf6 h rl) (fun k:Nat=>∀j,j < k→zgg h rl j=false) (fun k=> [(32,iv k)]) [(1,_),(2,_),(31,_)] (fun j q=>absurd q (Nat.not_lt_zero _)) ?_
  intro k lk zk
  refine rn ?_;refine z7 rfl (fun hc33=> ?_) (fun hc33=> ?_)
  ·have hk:k < zf6 h rl:=by have q:=hc33;simp at q;omega
   have mb:zf6 h rl≤1000000:=yey la
   refine rn ?_;refine qv rfl rfl (y4 rfl rfl (v7 (zze h rl k h1 h10 hk la) (Sbs.refl _))) ?_
   refine rn ?_;refine z7 rfl (fun hc38=> ?_) (fun hc38=> ?_)
   ·refine rn ?_;refine rq 1 ?_
    exact ⟨rfl,by rw [zzs hk hc38 zk];rfl⟩
   ·refine rn ?_;exact ⟨hk,yh8 zk hc38,eA⟩
  ·have qk:k=zf6 h rl:=by have q:=hc33;simp at q;omega
   refine rn ?_;refine rq 1 ?_
   exact ⟨rfl,by rw [zxc (qk ▸ zk)];rfl⟩
theorem zzu {o:Option Nat} (h:decide (zve o ≥ 0)=true):∃n,o=some n:=by
 cases o with
 |none=>exact absurd h (by decide)
 |some n=>exact ⟨n,rfl⟩
theorem zzt {o:Option Nat} (h:decide (zve o ≥ 0)=false):o=none:=by
 cases o with
 |none=>rfl
 |some n=>have:=of_decide_eq_false h;simp [zve] at this
theorem zwy (h:Hist) (la:Lim 1000000 h):x4 Tryz.prog 108 [.agg (x5 h)] [] (fun r h'=>h'= []∧r= .tup [.agg (yrt (zaq (zef h) rules10)),bv (zaq (zef h) rules10).isSome]):=by
 refine z6 Tryz.func108 rfl rfl rfl ?_
 refine rn ?_;refine z8 rfl (x9 rfl rfl rfl fun b1=> ?_)
 refine z8 rfl (y7 rfl fun b2=> ?_)
 refine rn ?_;refine zcp (fun k:Nat=>(1≤k∧k≤11)∧zaq (zef h) rules10=zaq (zef h) (rules10.drop (k - 1))) (fun k=>⟨[(4,iv k),(1,pZ b1),(2,pZ b2)],(.box b2 152 [iv 0,iv 0]:: .box b1 28 (x5 h):: []),[]⟩) (fun k=>11 - k) 1 ⟨by omega,rfl⟩ es ?_
 rintro k ⟨⟨k1,k3⟩,zk⟩
 refine rn ?_;refine z7 rfl (fun hc7=> ?_) (fun hc7=> ?_)
 ·have k2:k≤10:=by have:=of_decide_eq_true hc7;omega
  refine rn ?_;refine qv rfl rfl (y4 rfl rfl (v7 (ydx h k k1 k2 la) (Sbs.refl _))) ?_
  refine rn ?_;refine z7 rfl (fun hc14=> ?_) (fun hc14=> ?_)
  ·refine rn ?_;exact zgj (.cons _ _ _ _ (.agg _ _ _ _ _ _ _ rfl inferInstance inferInstance inferInstance rfl) (.cons _ _ _ _ (.tmp _ _ rfl) .nil)) (.drop [_,_] _ _) ⟨rfl,by
    obtain ⟨n,hp⟩:=zzu hc14
    rw [zrl k1 k2 zk hp,hp];rfl⟩
  ·refine rn ?_;exact ⟨k+1,⟨by omega,znw k1 k2 zk (zzt hc14)⟩,eA,by omega⟩
 ·have k2:11≤k:=by have:=of_decide_eq_false hc7;omega
  refine rn ?_;exact zgj (.cons _ _ _ _ (.agg _ _ _ _ _ _ _ rfl inferInstance inferInstance inferInstance rfl) (.cons _ _ _ _ (.tmp _ _ rfl) .nil)) (.drop [_,_] _ _) ⟨rfl,by rw [znx k2 k3 zk];rfl⟩
theorem ysn (l:Int):x4 Tryz.prog 191 [iv l] [] (fun r h'=>h'= []∧r=bv (zhx l)):=by
 refine z6 Tryz.func191 rfl rfl rfl ?_
 refine rn ?_;refine y8 (fun hg1_2=> ?_) (fun hg1_2=> ?_)
 ·refine rn ?_;exact u7 rfl (.refl _ _) ⟨rfl,congrArg bv (by first|(simp only [zhx, *,Bool.true_and,Bool.false_and,Bool.and_false,Bool.and_true,Bool.true_or,Bool.or_false,Bool.false_or,Bool.or_true,if_true,if_false,Bool.false_eq_true,Bool.not_true,Bool.not_false];done)|(simp_all [zhx];done)|(simp_all [zhx] <;> omega))⟩
 ·refine rn ?_;exact u7 rfl (.refl _ _) ⟨rfl,congrArg bv (by first|(simp only [zhx, *,Bool.true_and,Bool.false_and,Bool.and_false,Bool.and_true,Bool.true_or,Bool.or_false,Bool.false_or,Bool.or_true,if_true,if_false,Bool.false_eq_true,Bool.not_true,Bool.not_false];done)|(simp_all [zhx];done)|(simp_all [zhx] <;> omega))⟩
theorem bvz3_3093 {a b:Bool} (h:a=b:=by first|(simp only [zq8, *,Bool.true_and,Bool.false_and,Bool.and_false,Bool.and_true,Bool.true_or,Bool.or_false,Bool.false_or,Bool.or_true,if_true,if_false,Bool.false_eq_true,Bool.not_true,Bool.not_false];done)|(simp_all [zq8];done)|(simp_all [zq8] <;> omega)):bv a=bv b:=congrArg bv h
theorem zw3 (c:Int):x4 Tryz.prog 207 [.v (.int .i32 c)] [] (fun r h'=>h'= []∧r=bv (zq8 c)):=by
 refine z6 Tryz.func207 rfl rfl rfl ?_
 refine rn ?_;refine y8 (fun hg1_2=> ?_) (fun hg1_2=> ?_)
 ·refine rn ?_;refine y8 (fun hg1_6=> ?_) (fun hg1_6=> ?_)
  ·refine rn ?_;exact u7 rfl (.refl _ _) ⟨rfl,bvz3_3093⟩
  ·refine rn ?_;refine y8 (fun hg1_9=> ?_) (fun hg1_9=> ?_)
   ·refine rn ?_;refine y8 (fun hg1_14=> ?_) (fun hg1_14=> ?_)
    ·refine rn ?_;exact u7 rfl (.refl _ _) ⟨rfl,bvz3_3093⟩
    ·refine rn ?_;refine y8 (fun hg1_18=> ?_) (fun hg1_18=> ?_)
     ·refine rn ?_;exact u7 rfl (.refl _ _) ⟨rfl,bvz3_3093⟩
     ·refine rn ?_;exact u7 rfl (.refl _ _) ⟨rfl,bvz3_3093⟩
   ·refine rn ?_;refine y8 (fun hg1_18=> ?_) (fun hg1_18=> ?_)
    ·refine rn ?_;exact u7 rfl (.refl _ _) ⟨rfl,bvz3_3093⟩
    ·refine rn ?_;exact u7 rfl (.refl _ _) ⟨rfl,bvz3_3093⟩
 ·refine rn ?_;refine y8 (fun hg1_9=> ?_) (fun hg1_9=> ?_)
  ·refine rn ?_;refine y8 (fun hg1_14=> ?_) (fun hg1_14=> ?_)
   ·refine rn ?_;exact u7 rfl (.refl _ _) ⟨rfl,bvz3_3093⟩
   ·refine rn ?_;refine y8 (fun hg1_18=> ?_) (fun hg1_18=> ?_)
    ·refine rn ?_;exact u7 rfl (.refl _ _) ⟨rfl,bvz3_3093⟩
    ·refine rn ?_;exact u7 rfl (.refl _ _) ⟨rfl,bvz3_3093⟩
  ·refine rn ?_;refine y8 (fun hg1_18=> ?_) (fun hg1_18=> ?_)
   ·refine rn ?_;exact u7 rfl (.refl _ _) ⟨rfl,bvz3_3093⟩
   ·refine rn ?_;exact u7 rfl (.refl _ _) ⟨rfl,bvz3_3093⟩
theorem zqs (c:Int):x4 Tryz.prog 208 [.v (.int .i32 c)] [] (fun r h'=>h'= []∧r=bv (zjd c)):=by
 refine z6 Tryz.func208 rfl rfl rfl ?_
 refine rn ?_;refine y8 (fun hg1_2=> ?_) (fun hg1_2=> ?_)
 ·refine rn ?_;exact u7 rfl (.refl _ _) ⟨rfl,congrArg bv (by first|(simp only [zjd, *,Bool.true_and,Bool.false_and,Bool.and_false,Bool.and_true,Bool.true_or,Bool.or_false,Bool.false_or,Bool.or_true,if_true,if_false,Bool.false_eq_true,Bool.not_true,Bool.not_false];done)|(simp_all [zjd];done)|(simp_all [zjd] <;> omega))⟩
 ·refine rn ?_;exact u7 rfl (.refl _ _) ⟨rfl,congrArg bv (by first|(simp only [zjd, *,Bool.true_and,Bool.false_and,Bool.and_false,Bool.and_true,Bool.true_or,Bool.or_false,Bool.false_or,Bool.or_true,if_true,if_false,Bool.false_eq_true,Bool.not_true,Bool.not_false];done)|(simp_all [zjd];done)|(simp_all [zjd] <;> omega))⟩
theorem ymz {f:Bool} (h:Hist) (l:List Int) (hl:l.length≤4611686018427387904):x4 Tryz.prog 149 [.agg (x5 h),.list f 1 (l.map zal)] [] (fun r h'=>h'= []∧r=bv (zf2 h l)):=by
 refine z6 Tryz.func149 rfl rfl rfl ?_
 refine rn ?_;refine z8 rfl (x9 rfl rfl rfl fun b2=> ?_)
 refine rn ?_;refine u9 (fun k:Nat=>k≤l.length∧l.all (fun t=>isB t h.ts.length)=(l.drop k).all (fun t=>isB t h.ts.length)) (fun k=>⟨[(9,iv k),(8,iv (l.map zal).length),(7,.list f 1 (l.map zal)),(1,.list f 1 (l.map zal)),(2,pZ b2)],[.box b2 28 (x5 h)],[]⟩) (fun k=>l.length - k) 0 ⟨Nat.zero_le _,by simp⟩
  (w7 (.cons _ _ _ rfl (.cons _ _ _ rfl (.cons _ _ _ rfl (.cons _ _ _ rfl (.cons _ _ _ rfl (.nil))))))) ?_
 rintro k ⟨hk,hz⟩
 refine rn ?_;refine z7 rfl (fun hc10=> ?_) (fun hc10=> ?_)
 ·have hk2:k < l.length:=by simpa using hc10
  have hrow:(l.map zal)[k]? =some (zal l[k]):=by simp [hk2]
  have hd:=List.drop_eq_getElem_cons hk2
  refine rn ?_;refine qv rfl rfl (y4 rfl rfl (v7 (zhq _ _) (Sbs.refl _))) ?_
  refine rn ?_;refine z7 rfl (fun hc18=> ?_) (fun hc18=> ?_)
  ·have hx:isB l[k] h.ts.length=false:=by simpa using hc18
   refine rn ?_;exact u7 rfl (.drop [_] _ _) ⟨rfl,congrArg bv (by rw [zf2,hz,hd,List.all_cons,hx,Bool.false_and];rfl)⟩
  ·have hx:isB l[k] h.ts.length=true:=by simpa using hc18
   refine rn ?_;exact ⟨k+1,⟨by omega,by rw [hz,hd,List.all_cons,hx,Bool.true_and]⟩,(w7 (.cons _ _ _ rfl (.cons _ _ _ rfl (.cons _ _ _ rfl (.cons _ _ _ rfl (.cons _ _ _ rfl (.nil))))))),by omega⟩
 ·have hk3:k=l.length:=by
   have:l.length≤k:=by simpa using hc10
   omega
  refine rn ?_;exact u7 rfl (.drop [_] _ _) ⟨rfl,congrArg bv (by rw [zf2,hz,hk3,List.drop_length];simp)⟩
theorem bvz4_5153 {a b:Bool} (h:a=b:=by first|(simp only [zjm,zt7, *,Bool.true_and,Bool.false_and,Bool.and_false,Bool.and_true,Bool.true_or,Bool.or_false,Bool.false_or,Bool.or_true,if_true,if_false,Bool.false_eq_true,Bool.not_true,Bool.not_false];done)|(simp_all [zjm,zt7];done)|(simp_all [zjm,zt7] <;> omega)):bv a=bv b:=congrArg bv h
theorem zws (h:Hist) (e:Ev) (hl:e.scan.length≤4611686018427387904):x4 Tryz.prog 148 [.agg (x5 h),.agg (evR e)] [] (fun r h'=>h'= []∧r=bv (zjm h e)):=by
 refine z6 Tryz.func148 rfl rfl rfl ?_
 refine rn ?_;refine z8 rfl (x9 rfl rfl rfl fun b2=> ?_)
 refine z8 rfl (x9 rfl rfl rfl fun b3=> ?_)
 refine rn ?_;refine qv rfl rfl (y4 rfl rfl (v7 (zhq _ _) (Sbs.refl _))) ?_
 refine rn ?_;refine z7 rfl (fun hc16=> ?_) (fun hc16=> ?_)
 ·refine rn ?_;exact u7 rfl (.drop [_,_] _ _) ⟨rfl,bvz4_5153⟩
 ·refine rn ?_;refine z8 rfl (y7 rfl fun b6=> ?_)
  refine rn ?_;refine z7 rfl (fun hc24=> ?_) (fun hc24=> ?_)
  ·refine rn ?_;refine zd3 6 [(b6,66,_)] rfl (List.perm_append_comm (l₁:= [_])) ?_
   refine rn ?_;refine dw 0 rfl rfl rfl rfl rfl (Nat.le_of_ble_eq_true rfl) ?_
   refine rn2 ?_;show zcw _ _ _ _ _ _ ⟨_,.box b6 66 [iv e.kind,iv e.t,iv e.s,iv 0,iv 0,iv 0,iv 0,iv 0,.v (.slice none 0 0)]:: .box b3 66 (evR e):: .box b2 28 (x5 h):: [],_⟩
   refine rn0 ?_;refine x6 ?_;show aw _ _ _ _ _ ⟨_,.box b6 66 [iv e.kind,iv e.t,iv e.s,iv e.l,iv 0,iv 0,iv 0,iv 0,.v (.slice none 0 0)]:: .box b3 66 (evR e):: .box b2 28 (x5 h):: [],_⟩
   refine rn ?_;refine qv rfl rfl (y4 rfl rfl (v7 (ze3 ⟨e.kind,e.t,e.s,e.l,0,⟨0,0⟩,0,[]⟩ e (by simp [hl]) hl) (by exact ⟨(by exact Sb.aggs (by exact ⟨.refl _,.refl _,.refl _,.refl _,.refl _,.refl _,.refl _,.refl _,.nil _ _,trivial⟩)),.refl _,trivial⟩))) ?_
   refine rn ?_;refine y8 (fun hg8_3=> ?_) (fun hg8_3=> ?_)
   ·refine rn ?_;refine qv rfl rfl (y4 rfl rfl (v7 (zhq _ _) (Sbs.refl _))) ?_
    refine rn ?_;refine y8 (fun hg8_11=> ?_) (fun hg8_11=> ?_)
    ·refine rn ?_;refine qv rfl rfl (y4 rfl rfl (v7 (ysn _) (Sbs.refl _))) ?_
     refine rn ?_;exact u7 rfl (.drop [_,_,_] _ _) ⟨rfl,bvz4_5153⟩
    ·refine rn ?_;exact u7 rfl (.drop [_,_,_] _ _) ⟨rfl,bvz4_5153⟩
   ·refine rn ?_;exact u7 rfl (.drop [_,_,_] _ _) ⟨rfl,bvz4_5153⟩
  ·refine rn ?_;refine z7 rfl (fun hc48=> ?_) (fun hc48=> ?_)
   ·refine rn ?_;refine z7 rfl (fun hc48=> ?_) (fun hc48=> ?_)
    ·refine rn ?_;refine zd3 6 [(b6,66,_)] rfl (List.perm_append_comm (l₁:= [_])) ?_
     refine rn ?_;refine dw 0 rfl rfl rfl rfl rfl (Nat.le_of_ble_eq_true rfl) ?_
     refine rn2 ?_;show zcw _ _ _ _ _ _ ⟨_,.box b6 66 [iv e.kind,iv e.t,iv 0,iv 0,iv e.o,iv 0,iv 0,iv 0,.v (.slice none 0 0)]:: .box b3 66 (evR e):: .box b2 28 (x5 h):: [],_⟩
     refine rn0 ?_;refine x6 ?_;refine x6 ?_;show aw _ _ _ _ _ ⟨_,.box b6 66 [iv e.kind,iv e.t,iv 0,iv 0,iv e.o,iv e.v.t,iv e.v.k,iv 0,.v (.slice none 0 0)]:: .box b3 66 (evR e):: .box b2 28 (x5 h):: [],_⟩
     refine rn ?_;refine y8 (fun hg12_3=> ?_) (fun hg12_3=> ?_)
     ·refine rn ?_;refine y8 (fun hg12_8=> ?_) (fun hg12_8=> ?_)
      ·refine rn ?_;refine zdb rfl ?_;refine rn ?_;exact u7 rfl (.drop [_,_,_] _ _) ⟨rfl,bvz4_5153⟩
      ·refine rn ?_;refine z7 rfl (fun hc73=> ?_) (fun hc73=> ?_)
       ·refine rn ?_;exact u7 rfl (.drop [_,_,_] _ _) ⟨rfl,bvz4_5153⟩
       ·refine rn ?_;refine qv rfl rfl (y4 rfl rfl (v7 (ze3 ⟨e.kind,e.t,0,0,e.o,e.v,0,[]⟩ e (by simp [hl]) hl) (by exact ⟨(by exact Sb.aggs (by exact ⟨.refl _,.refl _,.refl _,.refl _,.refl _,.refl _,.refl _,.refl _,.nil _ _,trivial⟩)),.refl _,trivial⟩))) ?_
        refine rn ?_;refine y8 (fun hg14_3=> ?_) (fun hg14_3=> ?_)
        ·refine rn ?_;refine qv rfl rfl (y4 rfl rfl (v7 (zhq _ _) (Sbs.refl _))) ?_
         refine rn ?_;refine y8 (fun hg14_11=> ?_) (fun hg14_11=> ?_)
         ·refine rn ?_;refine qv rfl rfl (y4 rfl rfl (v7 (zfo e.v _) (Sbs.refl _))) ?_
          refine rn ?_;exact u7 rfl (.drop [_,_,_] _ _) ⟨rfl,bvz4_5153⟩
         ·refine rn ?_;exact u7 rfl (.drop [_,_,_] _ _) ⟨rfl,bvz4_5153⟩
        ·refine rn ?_;exact u7 rfl (.drop [_,_,_] _ _) ⟨rfl,bvz4_5153⟩
     ·refine rn ?_;refine zew rfl ?_;refine rn ?_;refine qv rfl rfl (y4 rfl rfl (v7 (ze3 ⟨e.kind,e.t,0,0,e.o,e.v,0,[]⟩ e (by simp [hl]) hl) (by exact ⟨(by exact Sb.aggs (by exact ⟨.refl _,.refl _,.refl _,.refl _,.refl _,.refl _,.refl _,.refl _,.nil _ _,trivial⟩)),.refl _,trivial⟩))) ?_
      refine rn ?_;refine y8 (fun hg14_3=> ?_) (fun hg14_3=> ?_)
      ·refine rn ?_;refine qv rfl rfl (y4 rfl rfl (v7 (zhq _ _) (Sbs.refl _))) ?_
       refine rn ?_;refine y8 (fun hg14_11=> ?_) (fun hg14_11=> ?_)
       ·refine rn ?_;refine qv rfl rfl (y4 rfl rfl (v7 (zfo e.v _) (Sbs.refl _))) ?_
        refine rn ?_;exact u7 rfl (.drop [_,_,_] _ _) ⟨rfl,bvz4_5153⟩
       ·refine rn ?_;exact u7 rfl (.drop [_,_,_] _ _) ⟨rfl,bvz4_5153⟩
      ·refine rn ?_;exact u7 rfl (.drop [_,_,_] _ _) ⟨rfl,bvz4_5153⟩
    ·first|cases hc48|exact absurd hc48 (by decide)|(exfalso;simp_all;done)
   ·refine rn ?_;refine z7 rfl (fun hc48=> ?_) (fun hc48=> ?_)
    ·refine rn ?_;refine zd3 6 [(b6,66,_)] rfl (List.perm_append_comm (l₁:= [_])) ?_
     refine rn ?_;refine dw 0 rfl rfl rfl rfl rfl (Nat.le_of_ble_eq_true rfl) ?_
     refine rn2 ?_;show zcw _ _ _ _ _ _ ⟨_,.box b6 66 [iv e.kind,iv e.t,iv 0,iv 0,iv e.o,iv 0,iv 0,iv 0,.v (.slice none 0 0)]:: .box b3 66 (evR e):: .box b2 28 (x5 h):: [],_⟩
     refine rn0 ?_;refine x6 ?_;refine x6 ?_;show aw _ _ _ _ _ ⟨_,.box b6 66 [iv e.kind,iv e.t,iv 0,iv 0,iv e.o,iv e.v.t,iv e.v.k,iv 0,.v (.slice none 0 0)]:: .box b3 66 (evR e):: .box b2 28 (x5 h):: [],_⟩
     refine rn ?_;refine y8 (fun hg12_3=> ?_) (fun hg12_3=> ?_)
     ·refine rn ?_;refine y8 (fun hg12_8=> ?_) (fun hg12_8=> ?_)
      ·refine rn ?_;refine zdb rfl ?_;refine rn ?_;exact u7 rfl (.drop [_,_,_] _ _) ⟨rfl,bvz4_5153⟩
      ·refine rn ?_;refine z7 rfl (fun hc73=> ?_) (fun hc73=> ?_)
       ·refine rn ?_;exact u7 rfl (.drop [_,_,_] _ _) ⟨rfl,bvz4_5153⟩
       ·refine rn ?_;refine qv rfl rfl (y4 rfl rfl (v7 (ze3 ⟨e.kind,e.t,0,0,e.o,e.v,0,[]⟩ e (by simp [hl]) hl) (by exact ⟨(by exact Sb.aggs (by exact ⟨.refl _,.refl _,.refl _,.refl _,.refl _,.refl _,.refl _,.refl _,.nil _ _,trivial⟩)),.refl _,trivial⟩))) ?_
        refine rn ?_;refine y8 (fun hg14_3=> ?_) (fun hg14_3=> ?_)
        ·refine rn ?_;refine qv rfl rfl (y4 rfl rfl (v7 (zhq _ _) (Sbs.refl _))) ?_
         refine rn ?_;refine y8 (fun hg14_11=> ?_) (fun hg14_11=> ?_)
         ·refine rn ?_;refine qv rfl rfl (y4 rfl rfl (v7 (zfo e.v _) (Sbs.refl _))) ?_
          refine rn ?_;exact u7 rfl (.drop [_,_,_] _ _) ⟨rfl,bvz4_5153⟩
         ·refine rn ?_;exact u7 rfl (.drop [_,_,_] _ _) ⟨rfl,bvz4_5153⟩
        ·refine rn ?_;exact u7 rfl (.drop [_,_,_] _ _) ⟨rfl,bvz4_5153⟩
     ·refine rn ?_;refine zew rfl ?_;refine rn ?_;refine qv rfl rfl (y4 rfl rfl (v7 (ze3 ⟨e.kind,e.t,0,0,e.o,e.v,0,[]⟩ e (by simp [hl]) hl) (by exact ⟨(by exact Sb.aggs (by exact ⟨.refl _,.refl _,.refl _,.refl _,.refl _,.refl _,.refl _,.refl _,.nil _ _,trivial⟩)),.refl _,trivial⟩))) ?_
      refine rn ?_;refine y8 (fun hg14_3=> ?_) (fun hg14_3=> ?_)
      ·refine rn ?_;refine qv rfl rfl (y4 rfl rfl (v7 (zhq _ _) (Sbs.refl _))) ?_
       refine rn ?_;refine y8 (fun hg14_11=> ?_) (fun hg14_11=> ?_)
       ·refine rn ?_;refine qv rfl rfl (y4 rfl rfl (v7 (zfo e.v _) (Sbs.refl _))) ?_
        refine rn ?_;exact u7 rfl (.drop [_,_,_] _ _) ⟨rfl,bvz4_5153⟩
       ·refine rn ?_;exact u7 rfl (.drop [_,_,_] _ _) ⟨rfl,bvz4_5153⟩
      ·refine rn ?_;exact u7 rfl (.drop [_,_,_] _ _) ⟨rfl,bvz4_5153⟩
    ·refine rn ?_;refine z7 rfl (fun hc91=> ?_) (fun hc91=> ?_)
     ·refine rn ?_;refine zd3 6 [(b6,66,_)] rfl (List.perm_append_comm (l₁:= [_])) ?_
      refine rn ?_;refine dw 0 rfl rfl rfl rfl rfl (Nat.le_of_ble_eq_true rfl) ?_
      refine rn2 ?_;show zcw _ _ _ _ _ _ ⟨_,.box b6 66 [iv e.kind,iv e.t,iv 0,iv 0,iv 0,iv 0,iv 0,iv e.p,.v (.slice none 0 0)]:: .box b3 66 (evR e):: .box b2 28 (x5 h):: [],_⟩
      refine rn0 ?_;refine x6 ?_;refine x6 ?_;show aw _ _ _ _ _ ⟨_,.box b6 66 [iv e.kind,iv e.t,iv 0,iv 0,iv 0,iv 0,iv 0,iv e.p,zj5 e.scan]:: .box b3 66 (evR e):: .box b2 28 (x5 h):: [],_⟩
      refine rn ?_;refine u9 (fun k:Nat=>k≤e.scan.length∧e.scan.all (zbh h)=(e.scan.drop k).all (zbh h)) (fun k=>⟨[(102,iv k),(101,iv (e.scan.map zav).length),(100,zj5 e.scan),(2,pZ b2),(3,pZ b3),(6,pZ b6),(5,iv (h.ts.map ze0).length)],[.box b6 66 (evR ⟨e.kind,e.t,0,0,0,⟨0,0⟩,e.p,e.scan⟩),.box b3 66 (evR e),.box b2 28 (x5 h)],[]⟩) (fun k=>e.scan.length - k) 0 ⟨Nat.zero_le _,by simp⟩
       (w7 (.cons _ _ _ rfl (.cons _ _ _ rfl (.cons _ _ _ rfl (.cons _ _ _ rfl (.cons _ _ _ rfl (.cons _ _ _ rfl (.cons _ _ _ rfl (.nil))))))))) ?_
      rintro k ⟨hk,hz⟩
      refine rn ?_;refine z7 rfl (fun hc103=> ?_) (fun hc103=> ?_)
      ·have hk2:k < e.scan.length:=by simpa using hc103
       obtain ⟨s,hs⟩:∃s,s=e.scan[k]:=⟨_,rfl⟩
       have hrow:(e.scan.map zav)[k]? =some (zav s):=by rw [hs];simp [hk2]
       have hd:=List.drop_eq_getElem_cons hk2
       rw [←hs] at hd
       refine rn ?_;refine z8 rfl (y7 rfl fun b8=> ?_)
       refine rn ?_;refine qv rfl rfl (y4 rfl rfl (v7 (zhq _ _) (Sbs.refl _))) ?_
       refine rn ?_;refine y8 (fun hg20_7=> ?_) (fun hg20_7=> ?_)
       ·refine rn ?_;refine zdb rfl ?_;have hx:zbh h s=false:=by clear hz hd hrow hs hc103 hk2 hk;simp_all [zbh]
        have hall:e.scan.all (zbh h)=false:=by rw [hz,hd,List.all_cons,hx,Bool.false_and]
        clear hz hd hx hrow
        refine rn ?_;exact u7 rfl (.drop [_,_,_,_] _ _) ⟨rfl,bvz4_5153⟩
       ·refine rn ?_;refine qv rfl rfl (y4 rfl rfl (v7 (zfo s.v _) (Sbs.refl _))) ?_
        refine rn ?_;refine z7 rfl (fun hc119=> ?_) (fun hc119=> ?_)
        ·have hx:zbh h s=false:=by clear hz hd hrow hs hc103 hk2 hk;simp_all [zbh]
         have hall:e.scan.all (zbh h)=false:=by rw [hz,hd,List.all_cons,hx,Bool.false_and]
         clear hz hd hx hrow
         refine rn ?_;exact u7 rfl (.drop [_,_,_,_] _ _) ⟨rfl,bvz4_5153⟩
        ·have hx:zbh h s=true:=by clear hz hd hrow hs hc103 hk2 hk;simp_all [zbh]
         refine rn ?_;exact ⟨k+1,⟨by omega,by rw [hz,hd,List.all_cons,hx,Bool.true_and]⟩,(v6 (zco (h1:= [_])) (w7 (.cons _ _ _ rfl (.cons _ _ _ rfl (.cons _ _ _ rfl (.cons _ _ _ rfl (.cons _ _ _ rfl (.cons _ _ _ rfl (.cons _ _ _ rfl (.nil)))))))))),by omega⟩
      ·have hk3:k=e.scan.length:=by
        have:e.scan.length≤k:=by simpa using hc103
        omega
       rw [hk3,List.drop_length,List.all_nil] at hz
       refine rn ?_;refine qv rfl rfl (y4 rfl rfl (v7 (ze3 ⟨e.kind,e.t,0,0,0,⟨0,0⟩,e.p,e.scan⟩ e (by simp [hl]) hl) (by exact ⟨(by exact Sb.aggs (by exact ⟨.refl _,.refl _,.refl _,.refl _,.refl _,.refl _,.refl _,.refl _,.refl _,trivial⟩)),.refl _,trivial⟩))) ?_
       refine rn ?_;refine y8 (fun hg23_3=> ?_) (fun hg23_3=> ?_)
       ·refine rn ?_;refine qv rfl rfl (y4 rfl rfl (v7 (zhq _ _) (Sbs.refl _))) ?_
        refine rn ?_;refine y8 (fun hg23_11=> ?_) (fun hg23_11=> ?_)
        ·refine rn ?_;exact u7 rfl (.drop [_,_,_] _ _) ⟨rfl,bvz4_5153⟩
        ·refine rn ?_;exact u7 rfl (.drop [_,_,_] _ _) ⟨rfl,bvz4_5153⟩
       ·refine rn ?_;exact u7 rfl (.drop [_,_,_] _ _) ⟨rfl,bvz4_5153⟩
     ·refine rn ?_;refine qv rfl rfl (y4 rfl rfl (v7 (ze3 ⟨e.kind,e.t,0,0,0,⟨0,0⟩,0,[]⟩ e (by simp [hl]) hl) (by exact ⟨(by exact Sb.aggs (by exact ⟨.refl _,.refl _,.refl _,.refl _,.refl _,.refl _,.refl _,.refl _,.nil _ _,trivial⟩)),.refl _,trivial⟩))) ?_
      refine rn ?_;refine y8 (fun hg24_3=> ?_) (fun hg24_3=> ?_)
      ·refine rn ?_;refine y8 (fun hg24_7=> ?_) (fun hg24_7=> ?_)
       ·refine rn ?_;exact u7 rfl (.drop [_,_,_] _ _) ⟨rfl,bvz4_5153⟩
       ·refine rn ?_;exact u7 rfl (.drop [_,_,_] _ _) ⟨rfl,bvz4_5153⟩
      ·refine rn ?_;exact u7 rfl (.drop [_,_,_] _ _) ⟨rfl,bvz4_5153⟩
theorem zzi (s:ByteArray):x4 Tryz.prog 206 [sv s] [] (fun r h'=>h'= []∧r= .tup [.v (.int .i32 (zbs s).1),iv (zbs s).2]):=by
 refine z6 Tryz.func206 rfl rfl rfl ?_
 refine rn ?_;refine z8 rfl (zj9 rfl rfl fun b8=> ?_)
 refine rn ?_;refine u9 (fun x:Unit=>True) (fun x=>⟨[(8,pZ b8),(0,sv s),(2,.v (.int .i32 0)),(3,iv 0)],[.obj b8 (.stringIter s 0)],[]⟩) (fun x=>0) () trivial
  (w7 (.cons _ _ _ rfl (.cons _ _ _ rfl (.cons _ _ _ rfl (.cons _ _ _ rfl (.nil)))))) ?_
 rintro _ _
 refine x6 (y5 ?_)
 refine z8 rfl (zl5 rfl rfl (fun hp=> ?_) (fun hp=> ?_))
 ·refine rn ?_;refine z7 rfl (fun hc10=> ?_) (fun hc10=> ?_)
  ·first|cases hc10|exact absurd hc10 (by decide)|(exfalso;simp_all;done)
  ·refine rn ?_;exact zb4 rfl rfl (.drop1 _ _ _) ⟨rfl,by first|(rw [zbs,if_pos hp];rfl)|(rw [zbs,if_neg (by omega)];split <;> first|rfl|(exfalso;simp_all;done)|(exfalso;simp_all;omega))⟩
 ·refine rn ?_;refine z7 rfl (fun hc10=> ?_) (fun hc10=> ?_)
  ·refine rn ?_;refine z7 rfl (fun hc14=> ?_) (fun hc14=> ?_)
   ·exact absurd hc14 (by decide)
   ·refine zab ?_;refine j9 ?_;refine x6 (y5 ?_)
    refine q1 ?_;refine qq rfl rfl (zm8 rfl) ?_
    refine rn ?_;refine y8 (fun hg6_2=> ?_) (fun hg6_2=> ?_)
    ·refine rn ?_;refine y8 (fun hg6_6=> ?_) (fun hg6_6=> ?_)
     ·refine rn ?_;refine z7 rfl (fun hc29=> ?_) (fun hc29=> ?_)
      ·refine rn ?_;exact zb4 rfl rfl (.drop1 _ _ _) ⟨rfl,by first|(rw [zbs,if_pos hp];rfl)|(rw [zbs,if_neg (by omega)];split <;> first|rfl|(exfalso;simp_all;done)|(exfalso;simp_all;omega))⟩
      ·first|cases hc29|exact absurd hc29 (by decide)|(exfalso;simp_all;done)
     ·refine q1 ?_;refine qq rfl rfl (zfp (k:=3) rfl rfl (by have:=hg6_6;simp at this;omega)) ?_
      refine rn ?_;refine z7 rfl (fun hc29=> ?_) (fun hc29=> ?_)
      ·refine rn ?_;exact zb4 rfl rfl (.drop1 _ _ _) ⟨rfl,by first|(rw [zbs,if_pos hp];rfl)|(rw [zbs,if_neg (by omega)];split <;> first|rfl|(exfalso;simp_all;done)|(exfalso;simp_all;omega))⟩
      ·refine rn ?_;exact zb4 rfl rfl (.drop1 _ _ _) ⟨rfl,by first|(rw [zbs,if_pos hp];rfl)|(rw [zbs,if_neg (by omega)];split <;> first|rfl|(exfalso;simp_all;done)|(exfalso;simp_all;omega))⟩
    ·refine rn ?_;refine z7 rfl (fun hc29=> ?_) (fun hc29=> ?_)
     ·first|cases hc29|exact absurd hc29 (by decide)|(exfalso;simp_all;done)
     ·refine rn ?_;exact zb4 rfl rfl (.drop1 _ _ _) ⟨rfl,by first|(rw [zbs,if_pos hp];rfl)|(rw [zbs,if_neg (by omega)];split <;> first|rfl|(exfalso;simp_all;done)|(exfalso;simp_all;omega))⟩
  ·first|cases hc10|exact absurd hc10 (by decide)|(exfalso;simp_all;done)
theorem zw4 (s:ByteArray) (c n:Int) (h:zbs s=(c,n)):x4 Tryz.prog 206 [sv s] [] (fun r h'=>h'= []∧r= .tup [.v (.int .i32 c),iv n]):=
 (zzi s).mono fun _ _ q=>⟨q.1,by rw [q.2,h]⟩
theorem yd2 (s:ByteArray):x4 Tryz.prog 190 [sv s] [] (fun r h'=>h'= []∧r=bv (zgn s)):=by
 refine z6 Tryz.func190 rfl rfl rfl ?_
 refine rn ?_;refine y8 (fun hg1_2=> ?_) (fun hg1_2=> ?_)
 ·refine rn ?_;refine zdb rfl ?_;refine rn ?_;refine rq 0 ?_
  exact ⟨rfl,congrArg bv (by first|(rw [zfy,←ybg,hg1_2];rfl)|(rw [zfy,decide_eq_false (show ¬(s.size:Int)≤24 by simp at hc12;omega),Bool.and_false];rfl))⟩
 ·refine rn ?_;refine z7 rfl (fun hc12=> ?_) (fun hc12=> ?_)
  ·refine rn ?_;refine rq 0 ?_
   exact ⟨rfl,congrArg bv (by first|(rw [zfy,←ybg,hg1_2];rfl)|(rw [zfy,decide_eq_false (show ¬(s.size:Int)≤24 by simp at hc12;omega),Bool.and_false];rfl))⟩
  ·have hlen:s.size≤24:=by simp at hc12;omega
   refine rn ?_;refine zcp (fun i:Nat=>zho s 0=zho s i∧i≤48) (fun i=>⟨[(3,iv i),(0,sv s)],[],[]⟩) (fun i=>s.size - i) 0 ⟨rfl,by omega⟩ es ?_
   rintro i ⟨hz,hi⟩
   refine rn ?_;refine z7 rfl (fun hc16=> ?_) (fun hc16=> ?_)
   ·have h1:i < s.size:=by simpa using hc16
    refine zab ?_;refine j9 ?_;refine zan ?_;refine x6 (y5 ?_)
    refine q1 ?_;refine q1 ?_;refine qq rfl rfl (zdz (k:=i) rfl rfl (by omega)) ?_
    obtain ⟨c,n,hw,hn1,hn4⟩:=yfp h1
    refine qv rfl rfl (y4 rfl rfl (v7 (zw4 _ c n hw) (Sbs.refl _))) ?_
    refine rn ?_;refine qv rfl rfl (y4 rfl rfl (v7 (zw3 _) (Sbs.refl _))) ?_
    refine rn ?_;refine y8 (fun hg6_3=> ?_) (fun hg6_3=> ?_)
    ·refine rn ?_;refine y8 (fun hg6_6=> ?_) (fun hg6_6=> ?_)
     ·refine rn ?_;refine zdb rfl ?_;refine rn ?_;refine rq 0 ?_
      exact ⟨rfl,congrArg bv (by rw [zfy,hz,znc h1 hw (by simpa using hg6_3) (by first|exact .inl (by simpa using hg6_6)|exact .inr (by simpa using hc35)),Bool.and_false])⟩
     ·refine rn ?_;refine qv rfl rfl (y4 rfl rfl (v7 (zqs _) (Sbs.refl _))) ?_
      refine rn ?_;refine z7 rfl (fun hc35=> ?_) (fun hc35=> ?_)
      ·refine rn ?_;refine rq 0 ?_
       exact ⟨rfl,congrArg bv (by rw [zfy,hz,znc h1 hw (by simpa using hg6_3) (by first|exact .inl (by simpa using hg6_6)|exact .inr (by simpa using hc35)),Bool.and_false])⟩
      ·refine rn ?_;exact ⟨i+n,⟨hz.trans (zug h1 hw hn1 (.inr ⟨by simpa using hg6_6,by simpa using hc35⟩)),by omega⟩,eA,by omega⟩
    ·refine rn ?_;first|(refine qv rfl rfl (y4 rfl rfl (v7 (zqs _) (Sbs.refl _))) ?_)|refine qs rfl rfl ?_|skip
     refine rn ?_;refine zew rfl ?_;refine rn ?_;exact ⟨i+n,⟨hz.trans (zug h1 hw hn1 (.inl (by simpa using hg6_3))),by omega⟩,eA,by omega⟩
   ·have h1:¬i < s.size:=by simpa using hc16
    refine rn ?_;refine rq 0 ?_
    exact ⟨rfl,congrArg bv (by rw [zfy,←ybg,hg1_2,hz,zx8 h1,decide_eq_true (show (s.size:Int)≤24 by omega)];rfl)⟩
theorem zei (l:List ByteArray) (most:Nat) (hl:l.length≤4611686018427387904):x4 Tryz.prog 147 [zcz l,iv most] [] (fun r h'=>h'= []∧r=bv (zcd most l)):=by
 refine z6 Tryz.func147 rfl rfl rfl ?_
 refine rn ?_;refine zci (l.length) (fun k:Nat=>za2 [] l=za2 (l.take k) (l.drop k)) (fun k=> [(11,iv k)]) [(0,_),(1,_),(9,_),(10,_)] rfl ?_
 intro k lk zk
 refine rn ?_;refine z7 rfl (fun hc12=> ?_) (fun hc12=> ?_)
 ·have hk:=zao hc12
  have rk:=zad (f:=ze0) hk
  refine rn ?_;refine qv rfl rfl (y4 rfl rfl (v7 (yd2 _) (Sbs.refl _))) ?_
  refine rn ?_;refine z7 rfl (fun hc18=> ?_) (fun hc18=> ?_)
  ·refine rn ?_;refine rq 0 ?_
   exact ⟨rfl,congrArg bv (by rw [zcd,yk3 hk zk (by simpa using hc18),Bool.and_false])⟩
  ·refine zab ?_;refine j9 ?_;refine x6 (y5 ?_)
   refine q1 ?_;refine q1 ?_;refine qq rfl rfl (za4 (k:=k) rfl rfl (by simp;omega)) ?_
   rw [←List.map_take]
   refine rn ?_;refine zci ((l.take k).length) (fun j:Nat=>(l.take k).all (fun t=> !(l[k].toList==t.toList))=((l.take k).drop j).all (fun t=> !(l[k].toList==t.toList))) (fun j=> [(23,iv j)]) [(0,_),(1,_),(6,_),(9,_),(10,_),(11,_),(21,_),(22,_)] rfl ?_
   intro j lj zj
   refine rn ?_;refine z7 rfl (fun hc24=> ?_) (fun hc24=> ?_)
   ·have hj:=zao hc24
    have rj:=zad (f:=ze0) hj
    have bj:(l.take k).length≤4611686018427387904:=by simp;omega
    refine rn ?_;refine z7 rfl (fun hc29=> ?_) (fun hc29=> ?_)
    ·refine rn ?_;refine rq 0 ?_
     exact ⟨rfl,congrArg bv (by rw [zcd,yk4 hk zk (zsc hj (by simpa using hc29)),Bool.and_false])⟩
    ·refine rn ?_;exact ⟨hj,zud hj zj (by simpa using hc29),eA⟩
   ·have qj:=zap hc24 lj
    have aj:=zx3 qj zj
    refine rn ?_;exact ⟨hk,zxo hk zk (by simpa using hc18) aj,eA⟩
 ·have qk:=zap hc12 lk
  refine rn ?_;refine rq 0 ?_
  exact ⟨rfl,congrArg bv (by rw [zcd,yk5 qk zk];simp)⟩
theorem zsy (h:Hist) (e:Ev) (hl:e.scan.length≤4611686018427387904):x4 Tryz.prog 148 [.agg (x5 h),.agg (evR e)] [] (fun r h'=>h'= []∧r=bv (zbt h e)):=
 (zws h e hl).mono fun _ _ q=>⟨q.1,by rw [q.2,zwq]⟩
theorem bvz5_4487 {a b:Bool} (h:a=b:=by rw [zyo (by simp_all) (by simp_all) (by simp_all) (by simp_all) ai aj ak am];first|(simp_all;done)|(simp_all;intros;omega)):bv a=bv b:=congrArg bv h
theorem zy8 (h:Hist) (la:Lim 4611686018427387904 h):x4 Tryz.prog 106 [.agg (x5 h)] [] (fun r h'=>h'= []∧r=bv (j6 h)):=by
 refine z6 Tryz.func106 rfl rfl rfl ?_
 refine rn ?_;refine z8 rfl (x9 rfl rfl rfl fun b1=> ?_)
 refine rn ?_;refine qv rfl rfl (y4 rfl rfl (v7 (zei h.ts 300 la.ts) (Sbs.refl _))) ?_
 refine rn ?_;refine y8 (fun hg1_4=> ?_) (fun hg1_4=> ?_)
 ·refine rn ?_;refine zdb rfl ?_;refine rn ?_;refine rq 1 ?_
  exact ⟨rfl,congrArg bv (by rw [zir (by simp_all)])⟩
 ·refine rn ?_;refine qv rfl rfl (y4 rfl rfl (v7 (zei h.ss 60 la.ss) (Sbs.refl _))) ?_
  refine rn ?_;refine y8 (fun hg1_10=> ?_) (fun hg1_10=> ?_)
  ·refine rn ?_;refine zdb rfl ?_;refine rn ?_;refine rq 1 ?_
   exact ⟨rfl,congrArg bv (by rw [zir (by simp_all)])⟩
  ·refine rn ?_;refine qv rfl rfl (y4 rfl rfl (v7 (zei h.os 300 la.os) (Sbs.refl _))) ?_
   refine rn ?_;refine y8 (fun hg1_16=> ?_) (fun hg1_16=> ?_)
   ·refine rn ?_;refine zdb rfl ?_;refine rn ?_;refine rq 1 ?_
    exact ⟨rfl,congrArg bv (by rw [zir (by simp_all)])⟩
   ·refine rn ?_;refine qv rfl rfl (y4 rfl rfl (v7 (zei h.ps 60 la.ps) (Sbs.refl _))) ?_
    refine rn ?_;refine z7 rfl (fun hc32=> ?_) (fun hc32=> ?_)
    ·refine rn ?_;refine rq 1 ?_
     exact ⟨rfl,congrArg bv (by rw [zir (by simp_all)])⟩
    ·refine rn ?_;refine zci (h.evs.length) (fun i:Nat=>h.evs.all (zbt h)=(h.evs.drop i).all (zbt h)) (fun i=> [(36,iv i)]) [(1,_),(34,_),(35,_)] rfl ?_
     intro i li zi
     refine rn ?_;refine z7 rfl (fun hc37=> ?_) (fun hc37=> ?_)
     ·have hi:=zao hc37
      have ri:=zad (f:=evR) hi
      have bi:=la.evs
      have si:=la.scans h.evs[i] (List.getElem_mem hi)
      refine rn ?_;refine z8 rfl (y7 rfl fun b4=> ?_)
      refine rn ?_;refine qv rfl rfl (y4 rfl rfl (v7 (zsy h h.evs[i] si) (Sbs.refl _))) ?_
      refine rn ?_;refine z7 rfl (fun hc43=> ?_) (fun hc43=> ?_)
      ·refine rn ?_;refine rq 2 ?_
       exact ⟨rfl,congrArg bv (by rw [zyp (zsc hi (by simpa using hc43))])⟩
      ·refine rn ?_;exact ⟨hi,zud hi zi (by simpa using hc43),eA⟩
     ·have qi:=zap hc37 li
      have ai:=zx3 qi zi
      refine rn ?_;refine zci (h.ords.length) (fun j:Nat=>h.ords.all (zp2 h)=(h.ords.drop j).all (zp2 h)) (fun j=> [(48,iv j)]) [(1,_),(46,_),(47,_)] rfl ?_
      intro j lj zj
      refine rn ?_;refine z7 rfl (fun hc49=> ?_) (fun hc49=> ?_)
      ·have hj:=zao hc49
       have rj:=zad (f:=zdg) hj
       have bj:=la.ords
       have sj:=la.ordts h.ords[j] (List.getElem_mem hj)
       refine rn ?_;refine z8 rfl (y7 rfl fun b6=> ?_)
       refine rn ?_;refine qv rfl rfl (y4 rfl rfl (v7 (zhq _ _) (Sbs.refl _))) ?_
       refine rn ?_;refine y8 (fun hg12_7=> ?_) (fun hg12_7=> ?_)
       ·refine rn ?_;refine zdb rfl ?_;refine rn ?_;refine rq 2 ?_
        exact ⟨rfl,congrArg bv (by rw [zqi (zsc hj (by rw [zta];simp_all))])⟩
       ·refine rn ?_;refine qv rfl rfl (y4 rfl rfl (v7 (ymz h h.ords[j].ts sj) (Sbs.refl _))) ?_
        refine rn ?_;refine z7 rfl (fun hc65=> ?_) (fun hc65=> ?_)
        ·refine rn ?_;refine rq 2 ?_
         exact ⟨rfl,congrArg bv (by rw [zqi (zsc hj (by rw [zta];simp_all))])⟩
        ·refine rn ?_;exact ⟨hj,zud hj zj (by rw [zta];simp_all),eA⟩
      ·have qj:=zap hc49 lj
       have aj:=zx3 qj zj
       refine rn ?_;refine zci (h.mats.length) (fun k:Nat=>h.mats.all (zti h)=(h.mats.drop k).all (zti h)) (fun k=> [(70,iv k)]) [(1,_),(68,_),(69,_)] rfl ?_
       intro k lk zk
       refine rn ?_;refine z7 rfl (fun hc71=> ?_) (fun hc71=> ?_)
       ·have hk:=zao hc71
        have rk:=zad (f:=zey) hk
        have bk:=la.mats
        have sk:=la.matts h.mats[k] (List.getElem_mem hk)
        refine rn ?_;refine z8 rfl (y7 rfl fun b8=> ?_)
        refine rn ?_;refine qv rfl rfl (y4 rfl rfl (v7 (zhq _ _) (Sbs.refl _))) ?_
        refine rn ?_;refine y8 (fun hg18_7=> ?_) (fun hg18_7=> ?_)
        ·refine rn ?_;refine zdb rfl ?_;refine rn ?_;refine rq 2 ?_
         exact ⟨rfl,congrArg bv (by rw [zlt (zsc hk (by rw [zo5];simp_all))])⟩
        ·refine rn ?_;refine qv rfl rfl (y4 rfl rfl (v7 (zhq _ _) (Sbs.refl _))) ?_
         refine rn ?_;refine y8 (fun hg18_16=> ?_) (fun hg18_16=> ?_)
         ·refine rn ?_;refine zdb rfl ?_;refine rn ?_;refine rq 2 ?_
          exact ⟨rfl,congrArg bv (by rw [zlt (zsc hk (by rw [zo5];simp_all))])⟩
         ·refine rn ?_;refine qv rfl rfl (y4 rfl rfl (v7 (ymz h h.mats[k].ts sk) (Sbs.refl _))) ?_
          refine rn ?_;refine z7 rfl (fun hc96=> ?_) (fun hc96=> ?_)
          ·refine rn ?_;refine rq 2 ?_
           exact ⟨rfl,congrArg bv (by rw [zlt (zsc hk (by rw [zo5];simp_all))])⟩
          ·refine rn ?_;exact ⟨hk,zud hk zk (by rw [zo5];simp_all),eA⟩
       ·have qk:=zap hc71 lk
        have ak:=zx3 qk zk
        refine rn ?_;refine zci (h.wants.length) (fun m:Nat=>h.wants.all (zuh h)=(h.wants.drop m).all (zuh h)) (fun m=> [(101,iv m)]) [(1,_),(99,_),(100,_)] rfl ?_
        intro m lm zm
        refine rn ?_;refine z7 rfl (fun hc102=> ?_) (fun hc102=> ?_)
        ·have hm:=zao hc102
         have rm:=zad (f:=ze8) hm
         have bm:=la.wants
         refine rn ?_;refine z8 rfl (y7 rfl fun b10=> ?_)
         refine rn ?_;refine qv rfl rfl (y4 rfl rfl (v7 (zhq _ _) (Sbs.refl _))) ?_
         refine rn ?_;refine y8 (fun hg24_7=> ?_) (fun hg24_7=> ?_)
         ·refine rn ?_;refine zdb rfl ?_;refine rn ?_;refine rq 2 ?_
          exact ⟨rfl,congrArg bv (by rw [zqh (zsc hm (by rw [zsi];simp_all))])⟩
         ·refine rn ?_;refine qv rfl rfl (y4 rfl rfl (v7 (zhq _ _) (Sbs.refl _))) ?_
          refine rn ?_;refine z7 rfl (fun hc117=> ?_) (fun hc117=> ?_)
          ·refine rn ?_;refine rq 2 ?_
           exact ⟨rfl,congrArg bv (by rw [zqh (zsc hm (by rw [zsi];simp_all))])⟩
          ·refine rn ?_;exact ⟨hm,zud hm zm (by rw [zsi];simp_all),eA⟩
        ·have qm:=zap hc102 lm
         have am:=zx3 qm zm
         refine rn ?_;refine y8 (fun hg27_4=> ?_) (fun hg27_4=> ?_)
         ·refine rn ?_;refine y8 (fun hg27_10=> ?_) (fun hg27_10=> ?_)
          ·refine rn ?_;refine y8 (fun hg27_16=> ?_) (fun hg27_16=> ?_)
           ·refine rn ?_;refine rq 1 ?_
            exact ⟨rfl,bvz5_4487⟩
           ·refine rn ?_;refine rq 1 ?_
            exact ⟨rfl,bvz5_4487⟩
          ·refine rn ?_;refine rq 1 ?_
           exact ⟨rfl,bvz5_4487⟩
         ·refine rn ?_;refine rq 1 ?_
          exact ⟨rfl,bvz5_4487⟩
theorem za3 (s:SV) (l:List Int) (n:Int) (hl:l.length≤1000000000):x4 Tryz.prog 150 [.v s.v,iv n] [.row s.v 1 3 (l.map zal)] (fun r h'=>∃s':SV,h'= [.row s'.v 1 3 ((ycw l n).map zal)]∧r= .v s'.v):=by
 refine z6 Tryz.func150 rfl rfl rfl ?_
 refine rn ?_;refine qv rfl rfl (y4 rfl rfl (y3.lend (R:=fun x=>x=iv (atI n 0 l)) (y3.of_fun (yjb (f:=false) l n (by omega))) (fun r hr=>by rw [hr];rfl) (.refl _ _) ⟨ylk,.refl _ _,trivial⟩)) ?_
 refine rn ?_;refine z7 rfl (fun hc8=> ?_) (fun hc8=> ?_)
 ·refine rn ?_;refine rq 0 ?_
  exact ⟨s,by rw [ycw,if_pos (by simpa using hc8)];rfl,rfl⟩
 ·refine rn ?_;refine qv rfl rfl (q8 rfl rfl) ?_
  refine z8 rfl (j5 rfl rfl (by simp;omega) rfl (fun s13=> ?_) (fun r hr=>by simp at hr;subst hr;rfl))
  refine zaf s13 fun sv hsv=> ?_
  subst hsv
  refine rn ?_;refine rq 0 ?_
  exact ⟨sv,by rw [ycw,if_neg (by simpa using hc8),List.map_append];rfl,rfl⟩
theorem zl0 (s:SV) (l:List Int) (v:Ver) (hl:l.length≤1000000000):x4 Tryz.prog 151 [.v s.v,.agg (yc5 v)] [.row s.v 1 3 (l.map zal)] (fun r h'=>∃s':SV,h'= [.row s'.v 1 3 ((ylw l v).map zal)]∧r= .v s'.v):=by
 refine z6 Tryz.func151 rfl rfl rfl ?_
 refine rn ?_;refine z8 rfl (x9 rfl rfl rfl fun b3=> ?_)
 refine rn ?_;refine z7 rfl (fun hc7=> ?_) (fun hc7=> ?_)
 ·refine rn ?_;refine rq 1 ?_
  exact ⟨s,by rw [ylw,if_pos (by simpa using hc7)];rfl,rfl⟩
 ·refine rn ?_;refine z8 rfl (w8 rfl rfl (zam (y3.of_fun (za3 s l v.t hl))) rfl ?_)
  rintro _ _ ⟨s',rfl,rfl⟩
  refine rn ?_;refine rq 1 ?_
  exact ⟨s',by rw [ylw,if_neg (by simpa using hc7)];rfl,rfl⟩
set_option maxHeartbeats 4000000 in
theorem zy7 (h:Hist) (la:Lim 3000 h):x4 Tryz.prog 107 [.agg (x5 h)] [] (fun r h'=>h'= []∧r= .agg [zca (zbv h 0),zca (zbv h 1),zca (zbv h 2),zca (zbv h 3)]):=by
 refine z6 Tryz.func107 rfl rfl rfl ?_
 refine rn ?_;refine z8 rfl (x9 rfl rfl rfl fun b1=> ?_)
 refine z8 rfl (y7 rfl fun b2=> ?_)
 refine rn ?_;refine z8 rfl (y7 rfl fun b3=> ?_)
 refine rn ?_;refine zih h.evs.length (fun k s0 s1 s2 s3=>⟨[(21,iv k),(1,pZ b1),(2,pZ b2),(3,pZ b3),(19,zmw h.evs),(20,iv (h.evs.map evR).length)],[.row s0.v 1 3 (((spE h k) 0).map zal),.row s1.v 1 3 (((spE h k) 1).map zal),.row s2.v 1 3 (((spE h k) 2).map zal),.row s3.v 1 3 (((spE h k) 3).map zal),.box b3 171 [.v s0.v,.v s1.v,.v s2.v,.v s3.v],.box b2 171 [.v (.slice none 0 0),.v (.slice none 0 0),.v (.slice none 0 0),.v (.slice none 0 0)],.box b1 28 (x5 h)],[]⟩) (⟨none,0,0⟩) (⟨none,0,0⟩) (⟨none,0,0⟩) (⟨none,0,0⟩) (v6 (zaj 1 3) (v6 (zaj 1 3) (v6 (zaj 1 3) (v6 (zaj 1 3) es)))) ?_
 intro k s0 s1 s2 s3 lk
 refine rn ?_;refine z7 rfl (fun hc22=> ?_) (fun hc22=> ?_)
 ·have hk:=zao hc22
  have rk:=zad (f:=evR) hk
  have bd:=bdE la k lk
  have ls:=la.scans h.evs[k] (List.getElem_mem hk)
  have le:=la.evs
  refine rn ?_;refine z8 rfl (y7 rfl fun b5=> ?_)
  refine rn ?_;refine qq rfl rfl (y6 rfl rfl (by decide) (by decide)) ?_
  refine rn ?_;refine z8 rfl (w8 rfl rfl (zam (y3.of_fun (za3 _ _ _ (by have:=bd 0;omega)))) rfl ?_)
  rintro _ _ ⟨s',rfl,rfl⟩
  refine qq rfl rfl (y6 rfl rfl (by decide) (by decide)) ?_
  refine rn0 ?_;refine ylp (fun s0 s1 s2 s3=>⟨[(5,pZ b5),(21,iv k),(20,iv (h.evs.map evR).length),(19,zmw h.evs),(1,pZ b1),(2,pZ b2),(3,pZ b3)],[.box b5 66 (evR h.evs[k]),.row s0.v 1 3 (((ze9 (zah (spE h k) (0,h.evs[k].t)) h.evs[k]) 0).map zal),.row s1.v 1 3 (((ze9 (zah (spE h k) (0,h.evs[k].t)) h.evs[k]) 1).map zal),.row s2.v 1 3 (((ze9 (zah (spE h k) (0,h.evs[k].t)) h.evs[k]) 2).map zal),.row s3.v 1 3 (((ze9 (zah (spE h k) (0,h.evs[k].t)) h.evs[k]) 3).map zal),.box b3 171 [.v s0.v,.v s1.v,.v s2.v,.v s3.v],.box b2 171 [.v (.slice none 0 0),.v (.slice none 0 0),.v (.slice none 0 0),.v (.slice none 0 0)],.box b1 28 (x5 h)],[]⟩) ?_ ?_
  ·refine rn ?_;refine z7 rfl (fun hc33=> ?_) (fun hc33=> ?_)
   ·refine rn ?_;refine qq rfl rfl (y6 rfl rfl (by decide) (by decide)) ?_
    refine rn ?_;refine z8 rfl (w8 rfl rfl (zam (y3.of_fun (za3 _ _ _ (by have:=bd 1;omega)))) rfl ?_)
    rintro _ _ ⟨s',rfl,rfl⟩
    refine qq rfl rfl (y6 rfl rfl (by decide) (by decide)) ?_
    refine rn ?_;exact ⟨_,_,_,_,by unfold ze9;first|(rw [if_pos (by simpa using hc33)];exact eA)|(rw [if_neg (by simpa using hc33),if_pos (by simp at hc33;simp_all)];exact eA)|(rw [if_neg (by simpa using hc33),if_neg (by simp at hc33;simp_all),if_pos (by simpa using hc56)];exact eA)|(rw [if_neg (by simpa using hc33),if_neg (by simp at hc33;simp_all),if_neg (by simpa using hc56)];exact eA)⟩
   ·refine rn ?_;refine z7 rfl (fun hc41=> ?_) (fun hc41=> ?_)
    ·refine rn ?_;refine z7 rfl (fun hc41=> ?_) (fun hc41=> ?_)
     ·refine rn ?_;refine qq rfl rfl (y6 rfl rfl (by decide) (by decide)) ?_
      refine rn ?_;refine z8 rfl (w8 rfl rfl (zam (y3.of_fun (za3 _ _ _ (by have:=bd 2;omega)))) rfl ?_)
      rintro _ _ ⟨s',rfl,rfl⟩
      refine qq rfl rfl (y6 rfl rfl (by decide) (by decide)) ?_
      refine rn ?_;refine qq rfl rfl (y6 rfl rfl (by decide) (by decide)) ?_
      refine rn ?_;refine z8 rfl (w8 rfl rfl (zam (y3.of_fun (zl0 _ _ _ (by have:=(bd.f (0,h.evs[k].t)) 0;exact Nat.le_trans this (by omega))))) rfl ?_)
      rintro _ _ ⟨s',rfl,rfl⟩
      refine qq rfl rfl (y6 rfl rfl (by decide) (by decide)) ?_
      refine rn ?_;exact ⟨_,_,_,_,by unfold ze9;first|(rw [if_pos (by simpa using hc33)];exact eA)|(rw [if_neg (by simpa using hc33),if_pos (by simp at hc33;simp_all)];exact eA)|(rw [if_neg (by simpa using hc33),if_neg (by simp at hc33;simp_all),if_pos (by simpa using hc56)];exact eA)|(rw [if_neg (by simpa using hc33),if_neg (by simp at hc33;simp_all),if_neg (by simpa using hc56)];exact eA)⟩
     ·first|cases hc41|exact absurd hc41 (by decide)|(exfalso;simp_all;done)
    ·refine rn ?_;refine z7 rfl (fun hc41=> ?_) (fun hc41=> ?_)
     ·refine rn ?_;refine qq rfl rfl (y6 rfl rfl (by decide) (by decide)) ?_
      refine rn ?_;refine z8 rfl (w8 rfl rfl (zam (y3.of_fun (za3 _ _ _ (by have:=bd 2;omega)))) rfl ?_)
      rintro _ _ ⟨s',rfl,rfl⟩
      refine qq rfl rfl (y6 rfl rfl (by decide) (by decide)) ?_
      refine rn ?_;refine qq rfl rfl (y6 rfl rfl (by decide) (by decide)) ?_
      refine rn ?_;refine z8 rfl (w8 rfl rfl (zam (y3.of_fun (zl0 _ _ _ (by have:=(bd.f (0,h.evs[k].t)) 0;exact Nat.le_trans this (by omega))))) rfl ?_)
      rintro _ _ ⟨s',rfl,rfl⟩
      refine qq rfl rfl (y6 rfl rfl (by decide) (by decide)) ?_
      refine rn ?_;exact ⟨_,_,_,_,by unfold ze9;first|(rw [if_pos (by simpa using hc33)];exact eA)|(rw [if_neg (by simpa using hc33),if_pos (by simp at hc33;simp_all)];exact eA)|(rw [if_neg (by simpa using hc33),if_neg (by simp at hc33;simp_all),if_pos (by simpa using hc56)];exact eA)|(rw [if_neg (by simpa using hc33),if_neg (by simp at hc33;simp_all),if_neg (by simpa using hc56)];exact eA)⟩
     ·refine rn ?_;refine z7 rfl (fun hc56=> ?_) (fun hc56=> ?_)
      ·refine rn ?_;refine qq rfl rfl (y6 rfl rfl (by decide) (by decide)) ?_
       refine rn ?_;refine z8 rfl (w8 rfl rfl (zam (y3.of_fun (za3 _ _ _ (by have:=bd 3;omega)))) rfl ?_)
       rintro _ _ ⟨s',rfl,rfl⟩
       refine qq rfl rfl (y6 rfl rfl (by decide) (by decide)) ?_
       refine rn ?_;exact ⟨_,_,_,_,by unfold ze9;first|(rw [if_pos (by simpa using hc33)];exact eA)|(rw [if_neg (by simpa using hc33),if_pos (by simp at hc33;simp_all)];exact eA)|(rw [if_neg (by simpa using hc33),if_neg (by simp at hc33;simp_all),if_pos (by simpa using hc56)];exact eA)|(rw [if_neg (by simpa using hc33),if_neg (by simp at hc33;simp_all),if_neg (by simpa using hc56)];exact eA)⟩
      ·refine rn ?_;exact ⟨_,_,_,_,by unfold ze9;first|(rw [if_pos (by simpa using hc33)];exact eA)|(rw [if_neg (by simpa using hc33),if_pos (by simp at hc33;simp_all)];exact eA)|(rw [if_neg (by simpa using hc33),if_neg (by simp at hc33;simp_all),if_pos (by simpa using hc56)];exact eA)|(rw [if_neg (by simpa using hc33),if_neg (by simp at hc33;simp_all),if_neg (by simpa using hc56)];exact eA)⟩
  ·intro s0 s1 s2 s3
   refine rn ?_;refine zih h.evs[k].scan.length (fun j s0 s1 s2 s3=>⟨[(67,iv j),(1,pZ b1),(2,pZ b2),(3,pZ b3),(19,zmw h.evs),(20,iv (h.evs.map evR).length),(21,iv k),(65,zj5 h.evs[k].scan),(66,iv (h.evs[k].scan.map zav).length)],[.box b5 66 (evR h.evs[k]),.row s0.v 1 3 ((((h.evs[k].scan.take j).foldl stepS (ze9 (zah (spE h k) (0,h.evs[k].t)) h.evs[k])) 0).map zal),.row s1.v 1 3 ((((h.evs[k].scan.take j).foldl stepS (ze9 (zah (spE h k) (0,h.evs[k].t)) h.evs[k])) 1).map zal),.row s2.v 1 3 ((((h.evs[k].scan.take j).foldl stepS (ze9 (zah (spE h k) (0,h.evs[k].t)) h.evs[k])) 2).map zal),.row s3.v 1 3 ((((h.evs[k].scan.take j).foldl stepS (ze9 (zah (spE h k) (0,h.evs[k].t)) h.evs[k])) 3).map zal),.box b3 171 [.v s0.v,.v s1.v,.v s2.v,.v s3.v],.box b2 171 [.v (.slice none 0 0),.v (.slice none 0 0),.v (.slice none 0 0),.v (.slice none 0 0)],.box b1 28 (x5 h)],[]⟩) _ _ _ _ (es) ?_
   intro j s0 s1 s2 s3 lj
   refine rn ?_;refine z7 rfl (fun hc68=> ?_) (fun hc68=> ?_)
   ·have hj:=zao hc68
    have rj:=zad (f:=zav) hj
    have bj:=Bd.fold (c:=2) (l:=h.evs[k].scan.take j) (fun s _ L n h=>h.s s) ((bd.f (0,h.evs[k].t)).k h.evs[k])
    have bl:(h.evs[k].scan.take j).length≤3000:=by rw [List.length_take];omega
    refine rn ?_;refine z8 rfl (y7 rfl fun b7=> ?_)
    refine rn ?_;refine qq rfl rfl (y6 rfl rfl (by decide) (by decide)) ?_
    refine rn ?_;refine z8 rfl (w8 rfl rfl (zam (y3.of_fun (za3 _ _ _ (by have:=bj 2;omega)))) rfl ?_)
    rintro _ _ ⟨s',rfl,rfl⟩
    refine qq rfl rfl (y6 rfl rfl (by decide) (by decide)) ?_
    refine rn ?_;refine qq rfl rfl (y6 rfl rfl (by decide) (by decide)) ?_
    refine rn ?_;refine z8 rfl (w8 rfl rfl (zam (y3.of_fun (zl0 _ _ _ (by have:=bj 0;omega)))) rfl ?_)
    rintro _ _ ⟨s',rfl,rfl⟩
    refine qq rfl rfl (y6 rfl rfl (by decide) (by decide)) ?_
    refine rn ?_;have e:(h.evs[k].scan.take (j+1)).foldl stepS (ze9 (zah (spE h k) (0,h.evs[k].t)) h.evs[k])=stepS ((h.evs[k].scan.take j).foldl stepS (ze9 (zah (spE h k) (0,h.evs[k].t)) h.evs[k])) h.evs[k].scan[j]:=zga _ _ hj
    exact ⟨hj,_,_,_,_,by simp only [e];exact eA⟩
   ·have qj:=zap hc68 lj
    refine rn ?_;have e:spE h (k+1)=(h.evs[k].scan.take j).foldl stepS (ze9 (zah (spE h k) (0,h.evs[k].t)) h.evs[k]):=by rw [spE,zga _ _ hk,H.stepE,zie _ _ qj];rfl
    exact ⟨hk,_,_,_,_,by simp only [e];exact eA⟩
 ·have qk:=zap hc22 lk
  refine rn ?_;refine zih h.ords.length (fun k s0 s1 s2 s3=>⟨[(88,iv k),(1,pZ b1),(2,pZ b2),(3,pZ b3),(86,zxg h.ords),(87,iv (h.ords.map zdg).length)],[.row s0.v 1 3 (((spO h k) 0).map zal),.row s1.v 1 3 (((spO h k) 1).map zal),.row s2.v 1 3 (((spO h k) 2).map zal),.row s3.v 1 3 (((spO h k) 3).map zal),.box b3 171 [.v s0.v,.v s1.v,.v s2.v,.v s3.v],.box b2 171 [.v (.slice none 0 0),.v (.slice none 0 0),.v (.slice none 0 0),.v (.slice none 0 0)],.box b1 28 (x5 h)],[]⟩) _ _ _ _ (by rw [show spO h 0=spE h k from (zie stepE noR qk).symm];exact es) ?_
  intro k s0 s1 s2 s3 lk
  refine rn ?_;refine z7 rfl (fun hc89=> ?_) (fun hc89=> ?_)
  ·have hk:=zao hc89
   have rk:=zad (f:=zdg) hk
   have bd:=bdO la k lk
   have ls:=la.ordts h.ords[k] (List.getElem_mem hk)
   have le:=la.ords
   refine rn ?_;refine z8 rfl (y7 rfl fun b9=> ?_)
   refine rn ?_;refine qq rfl rfl (y6 rfl rfl (by decide) (by decide)) ?_
   refine rn ?_;refine z8 rfl (w8 rfl rfl (zam (y3.of_fun (za3 _ _ _ (by have:=bd 2;omega)))) rfl ?_)
   rintro _ _ ⟨s',rfl,rfl⟩
   refine qq rfl rfl (y6 rfl rfl (by decide) (by decide)) ?_
   refine rn ?_;refine zih h.ords[k].ts.length (fun j s0 s1 s2 s3=>⟨[(101,iv j),(1,pZ b1),(2,pZ b2),(3,pZ b3),(86,zxg h.ords),(87,iv (h.ords.map zdg).length),(88,iv k),(99,zca h.ords[k].ts),(100,iv (h.ords[k].ts.map zal).length)],[.box b9 99 (zdg h.ords[k]),.row s0.v 1 3 ((((h.ords[k].ts.take j).foldl zn8 (zah (spO h k) (2,h.ords[k].o))) 0).map zal),.row s1.v 1 3 ((((h.ords[k].ts.take j).foldl zn8 (zah (spO h k) (2,h.ords[k].o))) 1).map zal),.row s2.v 1 3 ((((h.ords[k].ts.take j).foldl zn8 (zah (spO h k) (2,h.ords[k].o))) 2).map zal),.row s3.v 1 3 ((((h.ords[k].ts.take j).foldl zn8 (zah (spO h k) (2,h.ords[k].o))) 3).map zal),.box b3 171 [.v s0.v,.v s1.v,.v s2.v,.v s3.v],.box b2 171 [.v (.slice none 0 0),.v (.slice none 0 0),.v (.slice none 0 0),.v (.slice none 0 0)],.box b1 28 (x5 h)],[]⟩) _ _ _ _ (es) ?_
   intro j s0 s1 s2 s3 lj
   refine rn ?_;refine z7 rfl (fun hc102=> ?_) (fun hc102=> ?_)
   ·have hj:=zao hc102
    have rj:=zad (f:=zal) hj
    have bj:=Bd.fold (c:=1) (l:=h.ords[k].ts.take j) (fun s _ L n h=>h.t s) (bd.f (2,h.ords[k].o))
    have bl:(h.ords[k].ts.take j).length≤3000:=by rw [List.length_take];omega
    refine rn ?_;refine qq rfl rfl (y6 rfl rfl (by decide) (by decide)) ?_
    refine rn ?_;refine z8 rfl (w8 rfl rfl (zam (y3.of_fun (za3 _ _ _ (by have:=bj 0;omega)))) rfl ?_)
    rintro _ _ ⟨s',rfl,rfl⟩
    refine qq rfl rfl (y6 rfl rfl (by decide) (by decide)) ?_
    refine rn ?_;have e:(h.ords[k].ts.take (j+1)).foldl zn8 (zah (spO h k) (2,h.ords[k].o))=zn8 ((h.ords[k].ts.take j).foldl zn8 (zah (spO h k) (2,h.ords[k].o))) h.ords[k].ts[j]:=zga _ _ hj
    exact ⟨hj,_,_,_,_,by simp only [e];exact eA⟩
   ·have qj:=zap hc102 lj
    refine rn ?_;have e:spO h (k+1)=(h.ords[k].ts.take j).foldl zn8 (zah (spO h k) (2,h.ords[k].o)):=by rw [spO,zga _ _ hk,zqb,zie _ _ qj];rfl
    exact ⟨hk,_,_,_,_,by simp only [e];exact eA⟩
  ·have qk:=zap hc89 lk
   refine rn ?_;refine zih h.mats.length (fun k s0 s1 s2 s3=>⟨[(115,iv k),(1,pZ b1),(2,pZ b2),(3,pZ b3),(113,zo4 h.mats),(114,iv (h.mats.map zey).length)],[.row s0.v 1 3 (((spM h k) 0).map zal),.row s1.v 1 3 (((spM h k) 1).map zal),.row s2.v 1 3 (((spM h k) 2).map zal),.row s3.v 1 3 (((spM h k) 3).map zal),.box b3 171 [.v s0.v,.v s1.v,.v s2.v,.v s3.v],.box b2 171 [.v (.slice none 0 0),.v (.slice none 0 0),.v (.slice none 0 0),.v (.slice none 0 0)],.box b1 28 (x5 h)],[]⟩) _ _ _ _ (by rw [show spM h 0=spO h k from (zie zqb _ qk).symm];exact es) ?_
   intro k s0 s1 s2 s3 lk
   refine rn ?_;refine z7 rfl (fun hc116=> ?_) (fun hc116=> ?_)
   ·have hk:=zao hc116
    have rk:=zad (f:=zey) hk
    have bd:=bdM la k lk
    have ls:=la.matts h.mats[k] (List.getElem_mem hk)
    have le:=la.mats
    refine rn ?_;refine z8 rfl (y7 rfl fun b13=> ?_)
    refine rn ?_;refine qq rfl rfl (y6 rfl rfl (by decide) (by decide)) ?_
    refine rn ?_;refine z8 rfl (w8 rfl rfl (zam (y3.of_fun (za3 _ _ _ (by have:=bd 3;omega)))) rfl ?_)
    rintro _ _ ⟨s',rfl,rfl⟩
    refine qq rfl rfl (y6 rfl rfl (by decide) (by decide)) ?_
    refine rn ?_;refine qq rfl rfl (y6 rfl rfl (by decide) (by decide)) ?_
    refine rn ?_;refine z8 rfl (w8 rfl rfl (zam (y3.of_fun (za3 _ _ _ (by have:=bd 2;omega)))) rfl ?_)
    rintro _ _ ⟨s',rfl,rfl⟩
    refine qq rfl rfl (y6 rfl rfl (by decide) (by decide)) ?_
    refine rn ?_;refine zih h.mats[k].ts.length (fun j s0 s1 s2 s3=>⟨[(134,iv j),(1,pZ b1),(2,pZ b2),(3,pZ b3),(113,zo4 h.mats),(114,iv (h.mats.map zey).length),(115,iv k),(132,zca h.mats[k].ts),(133,iv (h.mats[k].ts.map zal).length)],[.box b13 112 (zey h.mats[k]),.row s0.v 1 3 ((((h.mats[k].ts.take j).foldl zn8 (zah (zah (spM h k) (3,h.mats[k].p)) (2,h.mats[k].o))) 0).map zal),.row s1.v 1 3 ((((h.mats[k].ts.take j).foldl zn8 (zah (zah (spM h k) (3,h.mats[k].p)) (2,h.mats[k].o))) 1).map zal),.row s2.v 1 3 ((((h.mats[k].ts.take j).foldl zn8 (zah (zah (spM h k) (3,h.mats[k].p)) (2,h.mats[k].o))) 2).map zal),.row s3.v 1 3 ((((h.mats[k].ts.take j).foldl zn8 (zah (zah (spM h k) (3,h.mats[k].p)) (2,h.mats[k].o))) 3).map zal),.box b3 171 [.v s0.v,.v s1.v,.v s2.v,.v s3.v],.box b2 171 [.v (.slice none 0 0),.v (.slice none 0 0),.v (.slice none 0 0),.v (.slice none 0 0)],.box b1 28 (x5 h)],[]⟩) _ _ _ _ (es) ?_
    intro j s0 s1 s2 s3 lj
    refine rn ?_;refine z7 rfl (fun hc135=> ?_) (fun hc135=> ?_)
    ·have hj:=zao hc135
     have rj:=zad (f:=zal) hj
     have bj:=Bd.fold (c:=1) (l:=h.mats[k].ts.take j) (fun s _ L n h=>h.t s) ((bd.f (3,h.mats[k].p)).f (2,h.mats[k].o))
     have bl:(h.mats[k].ts.take j).length≤3000:=by rw [List.length_take];omega
     refine rn ?_;refine qq rfl rfl (y6 rfl rfl (by decide) (by decide)) ?_
     refine rn ?_;refine z8 rfl (w8 rfl rfl (zam (y3.of_fun (za3 _ _ _ (by have:=bj 0;omega)))) rfl ?_)
     rintro _ _ ⟨s',rfl,rfl⟩
     refine qq rfl rfl (y6 rfl rfl (by decide) (by decide)) ?_
     refine rn ?_;have e:(h.mats[k].ts.take (j+1)).foldl zn8 (zah (zah (spM h k) (3,h.mats[k].p)) (2,h.mats[k].o))=zn8 ((h.mats[k].ts.take j).foldl zn8 (zah (zah (spM h k) (3,h.mats[k].p)) (2,h.mats[k].o))) h.mats[k].ts[j]:=zga _ _ hj
     exact ⟨hj,_,_,_,_,by simp only [e];exact eA⟩
    ·have qj:=zap hc135 lj
     refine rn ?_;have e:spM h (k+1)=(h.mats[k].ts.take j).foldl zn8 (zah (zah (spM h k) (3,h.mats[k].p)) (2,h.mats[k].o)):=by rw [spM,zga _ _ hk,stepM,zie _ _ qj];rfl
     exact ⟨hk,_,_,_,_,by simp only [e];exact eA⟩
   ·have qk:=zap hc116 lk
    refine rn ?_;refine zih h.wants.length (fun k s0 s1 s2 s3=>⟨[(148,iv k),(2,pZ b2),(3,pZ b3),(146,zsh h.wants),(147,iv (h.wants.map ze8).length)],[.row s0.v 1 3 (((spW h k) 0).map zal),.row s1.v 1 3 (((spW h k) 1).map zal),.row s2.v 1 3 (((spW h k) 2).map zal),.row s3.v 1 3 (((spW h k) 3).map zal),.box b3 171 [.v s0.v,.v s1.v,.v s2.v,.v s3.v],.box b2 171 [.v (.slice none 0 0),.v (.slice none 0 0),.v (.slice none 0 0),.v (.slice none 0 0)],.box b1 28 (x5 h)],[]⟩) _ _ _ _ (by rw [show spW h 0=spM h k from (zie stepM _ qk).symm];exact es) ?_
    intro k s0 s1 s2 s3 lk
    refine rn ?_;refine z7 rfl (fun hc149=> ?_) (fun hc149=> ?_)
    ·have hk:=zao hc149
     have rk:=zad (f:=ze8) hk
     have bd:=bdW la k lk
     have le:=la.wants
     refine rn ?_;refine z8 rfl (y7 rfl fun b17=> ?_)
     refine rn ?_;refine qq rfl rfl (y6 rfl rfl (by decide) (by decide)) ?_
     refine rn ?_;refine z8 rfl (w8 rfl rfl (zam (y3.of_fun (za3 _ _ _ (by have:=bd 1;omega)))) rfl ?_)
     rintro _ _ ⟨s',rfl,rfl⟩
     refine qq rfl rfl (y6 rfl rfl (by decide) (by decide)) ?_
     refine rn ?_;have e:spW h (k+1)=ydb (spW h k) h.wants[k]:=zga _ _ hk
     exact ⟨hk,_,_,_,_,by simp only [e];exact eA⟩
    ·have qk:=zap hc149 lk
     refine rn ?_;exact zgj (.cons _ _ _ _ (.agg _ _ _ _ _ _ _ rfl inferInstance inferInstance inferInstance rfl) .nil) (.trans (zb3 [] _) (.trans (zb3 [_] _) (.trans (zb3 [_,_] _) (.trans (zb3 [_,_,_] _) (.drop [_,_,_] _ _))))) ⟨rfl,by rw [←show spW h k=zbv h from zie _ _ qk];rfl⟩
theorem ydw (h:Hist) (la:Lim 4611686018427387904 h):x4 Tryz.prog 56 [.agg (x5 h)] [] (fun r h'=>h'= []∧r=bv (ziv h)):=by
 refine z6 Tryz.func56 rfl rfl rfl ?_
 refine rn ?_;refine z8 rfl (x9 rfl rfl rfl fun b1=> ?_)
 refine rn ?_;refine qv rfl rfl (y4 rfl rfl (v7 (zy8 h la) (Sbs.refl _))) ?_
 refine rn ?_;refine z7 rfl (fun hc10=> ?_) (fun hc10=> ?_)
 ·refine rn ?_;refine rq 1 ?_
  exact ⟨rfl,congrArg bv (by rw [yi6 (by simpa using hc10)])⟩
 ·have hs:j6 h=true:=by simpa using hc10
  have la3:=znh hs
  refine rn ?_;refine qv rfl rfl (y4 rfl rfl (v7 (zy7 h la3) (Sbs.refl _))) ?_
  refine rn ?_;refine zci (4) (fun k:Nat=>∀j,j < k→okS h j=true) (fun k=> [(13,iv k)]) [(1,_),(12,_)] (fun j hj=>by omega) ?_
  intro k lk zk
  refine rn ?_;refine z7 rfl (fun hc14=> ?_) (fun hc14=> ?_)
  ·have hk:k < 4:=by simp at hc14;omega
   have r0:=yqi h hk
   have r1:=yke h hk
   have bl:=zwl la3 k
   refine rn ?_;refine z7 rfl (fun hc35=> ?_) (fun hc35=> ?_)
   ·refine rn ?_;refine rq 1 ?_
    exact ⟨rfl,congrArg bv (by rw [zy5 hk];rw [okS,beq_eq_false_iff_ne.2 (by simp at hc35;omega),Bool.false_and])⟩
   ·have hlen:(zbv h k).length=(nmK h k).length:=by simp at hc35;omega
    refine rn ?_;refine zci ((zbv h k).length) (fun i:Nat=>zex 0 (zbv h k)=zex i ((zbv h k).drop i)) (fun i=> [(38,iv i)]) [(1,_),(12,_),(13,_),(36,_),(37,_)] rfl ?_
    intro i li zi
    refine rn ?_;refine z7 rfl (fun hc39=> ?_) (fun hc39=> ?_)
    ·have hi:=zao hc39
     have ri:=zad (f:=zal) hi
     refine rn ?_;refine z7 rfl (fun hc45=> ?_) (fun hc45=> ?_)
     ·refine rn ?_;refine rq 1 ?_
      exact ⟨rfl,congrArg bv (by rw [zy5 hk];rw [okS,yma hi zi (by simp at hc45;omega),Bool.and_false])⟩
     ·refine rn ?_;exact ⟨hi,zyd hi zi (by simp at hc45;omega),eA⟩
    ·have qi:=zap hc39 li
     refine rn ?_;exact ⟨hk,fun j hj=>(Nat.lt_or_ge j k).elim (zk j) (fun q=>by
      obtain rfl:j=k:=by omega
      rw [okS,hlen,ymb qi zi];simp),eA⟩
  ·have qk:k=4:=by simp at hc14;omega
   subst qk
   refine rn ?_;refine rq 1 ?_
   exact ⟨rfl,congrArg bv (by rw [yi5 hs zk])⟩
theorem zqp (h:Hist) (la:Lim 4611686018427387904 h):x4 Tryz.prog 56 [.agg (x5 h)] [] (fun r h'=>h'= []∧r=bv (ze4 h)):=
 (ydw h la).mono fun _ _ q=>⟨q.1,by rw [q.2,zy6]⟩
theorem yn2 {l:List Ev} {t x:Int} {j:Nat} (h:j < l.length) (hw:zbe t x l[j]=true):zg0 l t x (j+1)=some (l[j].v,j):=by
 rw [zg0,List.getElem?_eq_getElem h];simp only [hw,if_true]
theorem ztm {l:List Ev} {t x:Int} {j:Nat} (h:j < l.length) (hw:zbe t x l[j]=false):zg0 l t x (j+1)=zg0 l t x j:=by
 rw [zg0,List.getElem?_eq_getElem h];simp [hw]
theorem ydt {l:List Ev} {j:Nat} (h:j < l.length):(l.map evR)[(((j+1:Nat):Int) - 1).toNat]? =some (evR l[j]):=by
 rw [show (((j+1:Nat):Int) - 1).toNat=j by omega,List.getElem?_map,List.getElem?_eq_getElem h];rfl
theorem zwc {α:Type} {l:List α} {q:α→Bool} {k:Nat} (hk:k < l.length):(l.take (k+1)).all q=((l.take k).all q && q l[k]):=by
 rw [List.take_succ_eq_append_getElem hk,List.all_append,List.all_cons,List.all_nil,Bool.and_true]
theorem ydv (h:Hist) (la:Lim 4611686018427387904 h):x4 Tryz.prog 57 [.agg (x5 h)] [] (fun r h'=>h'= []∧r=bv (za1 h)):=by
 refine z6 Tryz.func57 rfl rfl rfl ?_
 refine rn ?_;refine z8 rfl (x9 rfl rfl rfl fun b1=> ?_)
 refine rn ?_;refine qv rfl rfl (y4 rfl rfl (v7 (zqp h la) (Sbs.refl _))) ?_
 refine rn ?_;refine z7 rfl (fun hc7=> ?_) (fun hc7=> ?_)
 ·have hm:ze4 h=false:=by simpa using hc7
  refine rn ?_;refine rq 1 ?_
  exact ⟨rfl,congrArg bv (by rw [za1,hm];rfl)⟩
 ·have hm:ze4 h=true:=by simpa using hc7
  refine rn ?_;refine qv rfl rfl (y4 rfl rfl (v7 (zwy h ((zo3 hm).mono (by decide))) (Sbs.refl _))) ?_
  obtain ⟨bi,bj,be⟩:=ybx (zaq (zef h) rules10)
  rw [be]
  refine rn ?_;refine z8 rfl (y7 rfl fun b3=> ?_)
  refine rn ?_;refine rq 2 ?_
  exact ⟨rfl,congrArg bv (by rw [za1,hm,show zi6 h=zaq (zef h) rules10 from zvw hm];cases zaq (zef h) rules10 <;> rfl)⟩
theorem zw2 (h:Hist) (la:Lim 4611686018427387904 h):x4 Tryz.prog 14 [.agg (x5 h)] [] (fun r h'=>h'= []∧r=iv (j8 h)):=by
 refine z6 Tryz.func14 rfl rfl rfl ?_
 refine rn ?_;refine z8 rfl (x9 rfl rfl rfl fun b1=> ?_)
 refine rn ?_;refine qv rfl rfl (y4 rfl rfl (v7 (zqp h la) (Sbs.refl _))) ?_
 refine rn ?_;refine z7 rfl (fun hc5=> ?_) (fun hc5=> ?_)
 ·have hm:ze4 h=false:=by simpa using hc5
  refine rn ?_;refine rq 1 ?_
  exact ⟨rfl,by rw [j8,hm];rfl⟩
 ·have hm:ze4 h=true:=by simpa using hc5
  refine rn ?_;refine qv rfl rfl (y4 rfl rfl (v7 (ydv h la) (Sbs.refl _))) ?_
  refine rn ?_;refine z7 rfl (fun hc8=> ?_) (fun hc8=> ?_)
  ·refine rn ?_;refine rq 1 ?_
   exact ⟨rfl,by rw [j8,hm,if_pos rfl,if_neg (by simpa using hc8)];rfl⟩
  ·refine rn ?_;refine rq 1 ?_
   exact ⟨rfl,by rw [j8,hm,if_pos rfl,if_pos (by simpa using hc8)];rfl⟩
theorem zwz (h:Hist) (la:h.evs.length≤1000000) (t x:Int):x4 Tryz.prog 196 [.agg (x5 h),iv t,iv x] [] (fun r h'=>h'= []∧r= .tup [.agg (yc5 (yh5 (zvy h.evs t x))),iv (atO (zvy h.evs t x)),bv (zvy h.evs t x).isSome]):=by
 refine z6 Tryz.func196 rfl rfl rfl ?_
 refine rn ?_;refine z8 rfl (x9 rfl rfl rfl fun b3=> ?_)
 refine z8 rfl (y7 rfl fun b6=> ?_)
 refine q1 ?_;refine q1 ?_;refine u4 (j9 ?_)
 refine x6 ?_;refine x6 (y5 ?_)
 refine q1 ?_;refine q1 ?_;refine q1 ?_;refine qq rfl rfl (k7 rfl rfl rfl (by rw [List.length_map];omega)) ?_
 refine rn ?_;refine zcp (fun k:Nat=>k≤h.evs.length∧zg0 h.evs t x h.evs.length=zg0 h.evs t x k) (fun k=>⟨[(9,iv ((k:Int) - 1)),(1,iv t),(2,iv x),(3,pZ b3),(6,pZ b6),(7,iv 0),(8,bv false)],.box b6 63 [iv 0,iv 0]:: .box b3 28 (x5 h):: [],[]⟩) (fun k=>k) h.evs.length ⟨Nat.le_refl _,rfl⟩ (by rw [List.length_map];exact es) ?_
 rintro k ⟨lk,zk⟩
 refine rn ?_;refine z7 rfl (fun hc16=> ?_) (fun hc16=> ?_)
 ·obtain ⟨j,rfl⟩:∃j,k=j+1:=⟨k - 1,by have:=of_decide_eq_true hc16;omega⟩
  have hj:j < h.evs.length:=by omega
  refine zab ?_;refine j9 ?_;refine x6 ?_;refine zan ?_;refine x6 (y5 ?_)
  refine q1 ?_;refine q1 ?_;refine q1 ?_;refine qq rfl rfl (zj7 rfl rfl (by omega) (ydt hj)) ?_
  refine rn ?_;refine z8 rfl (y7 rfl fun b10=> ?_)
  refine rn ?_;refine y8 (fun hg5_3=> ?_) (fun hg5_3=> ?_)
  ·refine rn ?_;refine y8 (fun hg5_9=> ?_) (fun hg5_9=> ?_)
   ·refine rn ?_;refine z7 rfl (fun hc38=> ?_) (fun hc38=> ?_)
    ·have hw:zbe t x h.evs[j]=true:=by rw [zbe];first|(rw [hg5_3,hg5_9,hc38];rfl)|(rw [hg5_3,hg5_9];rfl)|(rw [hg5_3];rfl)
     refine rn ?_;exact zgj (.cons _ _ _ _ (.agg _ _ _ _ _ _ _ rfl inferInstance inferInstance inferInstance rfl) (.cons _ _ _ _ (.tmp _ _ rfl) (.cons _ _ _ _ (.tmp _ _ rfl) .nil))) (.drop [_,_,_] _ _) ⟨rfl,by rw [zvy,zk,yn2 hj hw];simp only [yh5,atO];rw [show (((j+1:Nat):Int) - 1)=(j:Int) by omega];rfl⟩
    ·have hw:zbe t x h.evs[j]=false:=by rw [zbe];first|(rw [hg5_3,hg5_9,hc38];rfl)|(rw [hg5_3,hg5_9];rfl)|(rw [hg5_3];rfl)
     refine zab ?_;refine zg1 ?_;refine j9 ?_;refine y5 ?_;refine q1 ?_;refine qq rfl rfl (k7 rfl rfl rfl (by omega)) ?_
     refine rn ?_;exact ⟨j,⟨by omega,by rw [zk,ztm hj hw]⟩,by rw [show (((j+1:Nat):Int) - 1 - 1)=(j:Int) - 1 by omega];exact eA,by omega⟩
   ·refine rn ?_;refine zew rfl ?_;have hw:zbe t x h.evs[j]=false:=by rw [zbe];first|(rw [hg5_3,hg5_9,hc38];rfl)|(rw [hg5_3,hg5_9];rfl)|(rw [hg5_3];rfl)
    refine zab ?_;refine zg1 ?_;refine j9 ?_;refine y5 ?_;refine q1 ?_;refine qq rfl rfl (k7 rfl rfl rfl (by omega)) ?_
    refine rn ?_;exact ⟨j,⟨by omega,by rw [zk,ztm hj hw]⟩,by rw [show (((j+1:Nat):Int) - 1 - 1)=(j:Int) - 1 by omega];exact eA,by omega⟩
  ·refine rn ?_;refine zew rfl ?_;have hw:zbe t x h.evs[j]=false:=by rw [zbe];first|(rw [hg5_3,hg5_9,hc38];rfl)|(rw [hg5_3,hg5_9];rfl)|(rw [hg5_3];rfl)
   refine zab ?_;refine zg1 ?_;refine j9 ?_;refine y5 ?_;refine q1 ?_;refine qq rfl rfl (k7 rfl rfl rfl (by omega)) ?_
   refine rn ?_;exact ⟨j,⟨by omega,by rw [zk,ztm hj hw]⟩,by rw [show (((j+1:Nat):Int) - 1 - 1)=(j:Int) - 1 by omega];exact eA,by omega⟩
 ·have qk:k=0:=by have:=of_decide_eq_false hc16;omega
  subst qk
  refine zhb ?_;refine zgs ?_;refine zgs ?_;refine zdr ?_;refine j9 ?_;refine x6 (y5 ?_)
  refine qq rfl rfl (zae (out:= [iv 0,iv 0]) rfl (by rfl)) ?_
  refine rn ?_;exact zgj (.cons _ _ _ _ (.agg _ _ _ _ _ _ _ rfl inferInstance inferInstance inferInstance rfl) (.cons _ _ _ _ (.tmp _ _ rfl) (.cons _ _ _ _ (.tmp _ _ rfl) .nil))) (.drop [_,_] _ _) ⟨rfl,by rw [zvy,zk];rfl⟩
theorem yp6 {α β:Type} {l:List α} {q:α→Bool} {f:α→β} {k:Nat} (hk:k < l.length) (h:q l[k]=true):((l.take (k+1)).filter q).map f=((l.take k).filter q).map f++ [f l[k]]:=by
 rw [List.take_succ_eq_append_getElem hk,List.filter_append,List.filter_cons_of_pos h,List.map_append];rfl
theorem yp7 {α β:Type} {l:List α} {q:α→Bool} {f:α→β} {k:Nat} (hk:k < l.length) (h:q l[k]=false):((l.take (k+1)).filter q).map f=((l.take k).filter q).map f:=by
 rw [List.take_succ_eq_append_getElem hk,List.filter_append,List.filter_cons_of_neg (by rw [h];decide)];simp
theorem yk7 {α β:Type} (l:List α) (q:α→Bool) (f:α→β) (k:Nat):(((l.take k).filter q).map f).length≤l.length:=by
 rw [List.length_map];exact Nat.le_trans (List.length_filter_le _ _) (by rw [List.length_take];omega)
theorem yfc {h:Hist} {x:Int} {k:Nat} (hk:k < h.ords.length) (hx:(h.ords[k].o==x)=true) (hz:((h.ords.take k).all fun o:Ord=> !(o.o==x))=true):zkq h x=h.ords[k].ts:=by
 have:h.ords.find? (fun o=>o.o==x)=some h.ords[k]:=by
  rw [List.find?_eq_some_iff_getElem]
  exact ⟨hx,k,hk,rfl,fun j hj=>by have:=List.all_eq_true.1 hz h.ords[j] (zib (by omega) hj);exact this⟩
 rw [zkq,this]
theorem yku {h:Hist} {x:Int} (hz:(h.ords.all fun o:Ord=> !(o.o==x))=true):zkq h x=zay h x:=by
 have:h.ords.find? (fun o=>o.o==x)=none:=by
  rw [List.find?_eq_none];intro s hs q
  have:=List.all_eq_true.1 hz s hs
  rw [q] at this;cases this
 rw [zkq,this]
theorem ykv {h:Hist} {N:Nat} (la:Lim N h) (x:Int):(zkq h x).length≤N:=by
 unfold zkq
 split
 ·rename_i o ho;exact la.ordts o (List.mem_of_find?_eq_some ho)
 ·exact Nat.le_trans (zfx _ _) la.ts
def rkQ (h:Hist) (x:Int) (v:Ver) (t:Int):Bool:=yh5 (zvy h.evs t x)==v
def zos (h:Hist) (x:Int) (v:Ver):Int×Bool:=if v=⟨0,0⟩ then (0,true) else if zb1 (rkQ h x v) 0 (zkq h x) ≥ 0 then (zb1 (rkQ h x v) 0 (zkq h x)+1,true) else (0,false)
theorem ymv {h:Hist} {x:Int} {v:Ver} {k:Nat} (hv:v≠⟨0,0⟩) (hk:k < (zkq h x).length) (hq:rkQ h x v (zkq h x)[k]=true) (hz:(((zkq h x).take k).all fun t=> !rkQ h x v t)=true):zos h x v=((k:Int)+1,true):=by
 have:zb1 (rkQ h x v) 0 (zkq h x)=(k:Int):=by
  have:=ybb (p:=rkQ h x v) (l:=zkq h x) (i:=0) hk hq (fun j hj=>by
   have:=List.all_eq_true.1 hz (zkq h x)[j] (zib (by omega) hj)
   simpa using this)
  rw [this];congr 1;omega
 rw [zos,if_neg hv,this,if_pos (by omega)]
theorem yqn {h:Hist} {x:Int} {v:Ver} (hv:v≠⟨0,0⟩) (hz:((zkq h x).all fun t=> !rkQ h x v t)=true):zos h x v=(0,false):=by
 have:decide (zb1 (rkQ h x v) 0 (zkq h x) ≥ 0)=false:=by
  rw [zec,List.any_eq_false];intro t ht
  have:=List.all_eq_true.1 hz t ht
  simpa using this
 rw [zos,if_neg hv,if_neg (of_decide_eq_false this)]
theorem zza (h:Hist) (la:Lim 1000000 h) (n:Int):x4 Tryz.prog 60 [.agg (x5 h),iv n] [] (fun r h'=>h'= []∧r=zca (zaw h.evs n)):=by
 refine z6 Tryz.func60 rfl rfl rfl ?_
 have be:=la.evs
 refine rn ?_;refine z8 rfl (x9 rfl rfl rfl fun b2=> ?_)
 refine rn ?_;refine zee h.evs.length (fun k s=>⟨[(11,iv k),(5,.v s.v),(1,iv n),(2,pZ b2),(9,zmw h.evs),(10,iv (h.evs.map evR).length)],.row s.v 1 3 ((((h.evs.take k).filter (fun e:Ev=>e.kind==1 && (e.s==n && zrh h.evs e.t 5))).map Ev.t).map zal):: .box b2 28 (x5 h):: [],[]⟩) ⟨none,0,0⟩ (v6 (zaj 1 3) es) ?_
 intro k s lk
 refine rn ?_;refine z7 rfl (fun hc12=> ?_) (fun hc12=> ?_)
 ·have hk:=zao hc12
  have rk:=zad (f:=evR) hk
  refine rn ?_;refine z8 rfl (y7 rfl fun b7=> ?_)
  refine rn ?_;refine y8 (fun hg5_3=> ?_) (fun hg5_3=> ?_)
  ·refine rn ?_;refine y8 (fun hg5_9=> ?_) (fun hg5_9=> ?_)
   ·refine rn ?_;refine qv rfl rfl (y4 rfl rfl (v7 (zzd h h.evs[k].t (la.mono (by decide))) (Sbs.refl _))) ?_
    refine rn ?_;refine z7 rfl (fun hc29=> ?_) (fun hc29=> ?_)
    ·refine rn ?_;refine qv rfl rfl (q8 rfl rfl) ?_
     refine z8 rfl (j5 rfl rfl (by rw [List.length_map];simp only [List.length_cons,List.length_nil];have:=yk7 h.evs (fun e:Ev=>e.kind==1 && (e.s==n && zrh h.evs e.t 5)) Ev.t k;omega) rfl (fun s34=> ?_) (zjq [h.evs[k].t]))
     refine zaf s34 fun sv hsv=> ?_
     subst hsv
     refine rn ?_;first|exact ⟨hk,sv,by rw [yp6 hk (by first|(rw [hg5_3,hg5_9,hc29];rfl)|(rw [hg5_3,hg5_9];rfl)|(rw [hg5_3];rfl)),List.map_append];exact eA⟩|exact ⟨hk,s,by rw [yp7 hk (by first|(rw [hg5_3,hg5_9,hc29];rfl)|(rw [hg5_3,hg5_9];rfl)|(rw [hg5_3];rfl))];exact eA⟩
    ·refine rn ?_;first|exact ⟨hk,sv,by rw [yp6 hk (by first|(rw [hg5_3,hg5_9,hc29];rfl)|(rw [hg5_3,hg5_9];rfl)|(rw [hg5_3];rfl)),List.map_append];exact eA⟩|exact ⟨hk,s,by rw [yp7 hk (by first|(rw [hg5_3,hg5_9,hc29];rfl)|(rw [hg5_3,hg5_9];rfl)|(rw [hg5_3];rfl))];exact eA⟩
   ·refine rn ?_;refine zew rfl ?_;refine rn ?_;first|exact ⟨hk,sv,by rw [yp6 hk (by first|(rw [hg5_3,hg5_9,hc29];rfl)|(rw [hg5_3,hg5_9];rfl)|(rw [hg5_3];rfl)),List.map_append];exact eA⟩|exact ⟨hk,s,by rw [yp7 hk (by first|(rw [hg5_3,hg5_9,hc29];rfl)|(rw [hg5_3,hg5_9];rfl)|(rw [hg5_3];rfl))];exact eA⟩
  ·refine rn ?_;refine zew rfl ?_;refine rn ?_;first|exact ⟨hk,sv,by rw [yp6 hk (by first|(rw [hg5_3,hg5_9,hc29];rfl)|(rw [hg5_3,hg5_9];rfl)|(rw [hg5_3];rfl)),List.map_append];exact eA⟩|exact ⟨hk,s,by rw [yp7 hk (by first|(rw [hg5_3,hg5_9,hc29];rfl)|(rw [hg5_3,hg5_9];rfl)|(rw [hg5_3];rfl))];exact eA⟩
 ·have qk:=zap hc12 lk
  refine rn ?_;exact u7 rfl (.trans zc7 (.drop [_] _ _)) ⟨rfl,by rw [qk,List.take_length];rfl⟩
theorem zzb (h:Hist) (la:Lim 1000000 h) (x:Int):x4 Tryz.prog 195 [.agg (x5 h),iv x] [] (fun r h'=>h'= []∧r=zca (zkq h x)):=by
 refine z6 Tryz.func195 rfl rfl rfl ?_
 have bo:=la.ords
 refine rn ?_;refine z8 rfl (x9 rfl rfl rfl fun b2=> ?_)
 refine rn ?_;refine zci (h.ords.length) (fun k:Nat=>((h.ords.take k).all fun o:Ord=> !(o.o==x))=true) (fun k=> [(10,iv k)]) [(1,_),(2,_),(8,_),(9,_)] rfl ?_
 intro k lk zk
 refine rn ?_;refine z7 rfl (fun hc11=> ?_) (fun hc11=> ?_)
 ·have hk:=zao hc11
  have rk:=zad (f:=zdg) hk
  refine rn ?_;refine z8 rfl (y7 rfl fun b6=> ?_)
  refine rn ?_;refine z7 rfl (fun hc17=> ?_) (fun hc17=> ?_)
  ·refine rn ?_;refine rq 2 ?_
   exact ⟨rfl,by rw [yfc hk hc17 zk];rfl⟩
  ·refine rn ?_;exact ⟨hk,by rw [zwc hk,zk,hc17];rfl,eA⟩
 ·have qk:=zap hc11 lk
  rw [qk,List.take_length] at zk
  refine rn ?_;refine qv rfl rfl (y4 rfl rfl (v7 (zhj h x la) (Sbs.refl _))) ?_
  refine rn ?_;refine rq 1 ?_
  exact ⟨rfl,by rw [yku zk];rfl⟩
theorem zqq (h:Hist) (la:Lim 1000000 h) (x:Int) (v:Ver):x4 Tryz.prog 155 [.agg (x5 h),iv x,.agg (yc5 v)] [] (fun r h'=>h'= []∧r= .tup [iv (zos h x v).1,bv (zos h x v).2]):=by
 refine z6 Tryz.func155 rfl rfl rfl ?_
 have be:=la.evs
 have bi:=ykv la x
 refine rn ?_;refine z8 rfl (x9 rfl rfl rfl fun b3=> ?_)
 refine z8 rfl (x9 rfl rfl rfl fun b5=> ?_)
 refine q1 ?_;refine q1 ?_;refine u4 (j9 ?_)
 refine x6 ?_;refine x6 (y5 ?_)
 refine q1 ?_;refine qq rfl rfl (zae (out:= [iv 0,iv 0]) rfl (by rfl)) ?_
 refine rn ?_;refine z7 rfl (fun hc15=> ?_) (fun hc15=> ?_)
 ·have hv:v=⟨0,0⟩:=eq_of_beq (by rw [←zcb];exact hc15)
  refine rn ?_;refine rq 2 ?_
  exact ⟨rfl,by rw [zos,if_pos hv];rfl⟩
 ·have hv:v≠⟨0,0⟩:=beq_eq_false_iff_ne.1 (by rw [←zcb];exact hc15)
  refine rn ?_;refine qv rfl rfl (y4 rfl rfl (v7 (zzb h la x) (Sbs.refl _))) ?_
  refine rn ?_;refine zci ((zkq h x).length) (fun k:Nat=>(((zkq h x).take k).all fun t=> !rkQ h x v t)=true) (fun k=> [(20,iv k)]) [(1,_),(3,_),(5,_),(18,_),(19,_)] rfl ?_
  intro k lk zk
  refine rn ?_;refine z7 rfl (fun hc21=> ?_) (fun hc21=> ?_)
  ·have hk:=zao hc21
   have rk:=zad (f:=zal) hk
   refine rn ?_;refine qv rfl rfl (y4 rfl rfl (v7 (zwz h la.evs (zkq h x)[k] x) (Sbs.refl _))) ?_
   refine rn ?_;refine z8 rfl (y7 rfl fun b10=> ?_)
   refine rn ?_;refine z7 rfl (fun hc35=> ?_) (fun hc35=> ?_)
   ·have hq:(yh5 (zvy h.evs (zkq h x)[k] x)==v)=true:=by rw [←zcb];exact hc35
    refine x6 (y5 ?_)
    refine q1 ?_;refine qq rfl rfl (k7 rfl rfl rfl (by omega)) ?_
    refine rn ?_;refine rq 3 ?_
    exact ⟨rfl,by rw [ymv hv hk hq zk];rfl⟩
   ·have hq:(yh5 (zvy h.evs (zkq h x)[k] x)==v)=false:=by rw [←zcb];exact hc35
    refine rn ?_;exact ⟨hk,by rw [zwc hk,zk,rkQ,hq];rfl,eA⟩
  ·have qk:=zap hc21 lk
   rw [qk,List.take_length] at zk
   refine rn ?_;refine rq 2 ?_
   exact ⟨rfl,by rw [yqn hv zk];rfl⟩
end Go.Proofs
