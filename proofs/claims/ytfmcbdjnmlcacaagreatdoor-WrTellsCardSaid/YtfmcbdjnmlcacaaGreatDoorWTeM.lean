/- The walk of WrTells. Conditions: none. -/
import Derived.Test.YtfmcbdjnmlcacaaGreatDoorWTeL
set_option maxHeartbeats 4000000
set_option linter.unusedSectionVars false
set_option linter.unusedSimpArgs false
set_option linter.unusedVariables false
set_option maxRecDepth 10000
namespace Go.Proofs
open Go Go.Ab
attribute [local irreducible] QR QV OE zch aw zc6 zdc zbg zb8 thn zfa zd9 jch zfo
open Go.H
theorem ya3 {h:Hist} (hc:v7 h=0):ya4 h=zia (ze0 h):=by rw [zwx hc,zpb (za4.1 hc)]
theorem yaz {h:Hist} (hc:v7 h=0):ya0 h=zia (zfe h):=by rw [zwr hc,zpa (za4.1 hc)]
theorem you {h:Hist} (hc:v7 h=0):(ze0 h).length≤36000000000:=by
 have h1:=zvw hc h.os.length (Nat.le_refl _)
 have:=(zb9 hc).os
 rw [yd7] at h1;omega
theorem yb4 {h:Hist} (hc:v7 h=0):(zfe h).length≤36000000000:=by
 have h1:=zhu (fun j hj=>zr2 hc h.evs[j] j) _ (Nat.le_refl _)
 have:=(zb9 hc).evs
 rw [zfe];omega
theorem znb (l:List Conf):(zcz l).length≤l.length:=by
 rw [zcz,(zk6 zi2 _).length_eq,oM];exact zt5 l
theorem ygp (h:Hist):(ya4 h).length≤36000000000:=by
 by_cases hc:v7 h=0
 ·rw [zwx hc];exact Nat.le_trans (znb _) (zta hc)
 ·rw [zwy hc];exact Nat.zero_le _
theorem ygm (h:Hist):(ya0 h).length≤36000000000:=by
 by_cases hc:v7 h=0
 ·rw [zwr hc];exact Nat.le_trans (znb _) (zsk hc)
 ·rw [zws hc];exact Nat.zero_le _
theorem yqo (h:Hist) (la:Lim 4611686018427387904 h):y7 Tryz.prog 26 [.agg (y9 h),.agg (y9 h)] [] (fun r h'=>h'= []∧r=bv true):=(ync h h la la).mono fun _ _ q=>⟨q.1,by rw [q.2,zze]⟩
theorem yl2 (x:Hist)  (lb:Lim 4611686018427387904 x)  :y7 Tryz.prog 10 [.agg (y9 x)] (.glob 2 156 y3:: .glob 4 305 y4:: .glob 5 308 y2:: .glob 3 246 q7:: []) (fun r h'=>h'= .glob 2 156 y3:: .glob 4 305 y4:: .glob 5 308 y2:: .glob 3 246 q7:: []∧r=bv true):=by
 refine z6 Tryz.func10 rfl rfl rfl ?_
 refine rn ?_;refine z8 rfl (w8 rfl rfl rfl fun b1=> ?_)
 refine rn ?_;refine qv rfl rfl (y0 rfl rfl (y1.qt (y1.of_fun yme) ((pt1 _ _ _).trans (.cons _ ((pt1 _ _ _).trans (.cons _ ((pt1 _ _ _).trans (.cons _ (pt1 _ _ _))))))))) ?_
 refine rn ?_;refine z7 rfl (fun hc12=> ?_) (fun hc12=> ?_)
 ·exact absurd hc12 (by decide)
 ·refine rn ?_;refine qv rfl rfl (y0 rfl rfl (v8 (yjj x lb) (Sbs.refl _))) ?_
  refine z8 rfl (y5 rfl fun b3=> ?_)
  refine rn ?_;refine qv rfl rfl (y0 rfl rfl (y1.qt (y1.of_fun (ya2 (zkq x) ((zm0 x).mono (by decide)))) ((pt2 _ _ _ _).trans (.cons _ ((pt2 _ _ _ _).trans (.cons _ ((pt2 _ _ _ _).trans (.cons _ (pt2 _ _ _ _))))))))) ?_
  refine rn ?_;refine qv rfl rfl (y0 rfl rfl (y1.qt (y1.of_fun (zwp (zkq x) ((zm0 x).mono (by decide)))) ((pt2 _ _ _ _).trans (.cons _ ((pt2 _ _ _ _).trans (.cons _ ((pt2 _ _ _ _).trans (.cons _ (pt2 _ _ _ _))))))))) ?_
  refine rn ?_;refine qv rfl rfl (y0 rfl rfl (v8 (zzo (zkq x) ((zm0 x).mono (by decide))) (Sbs.refl _))) ?_
  refine q1 ?_;refine u3 (zag ?_)
  refine w9 (y6 ?_)
  refine qq rfl rfl (zg2 (fun w O v hr=>Sb.rel (Sb.nil false 7) hr) (znx rfl)) ?_
  refine qq rfl rfl (zg2 (fun w O v hr=>Sb.rel (Sb.nil false 7) hr) (znx rfl)) ?_
  refine rn0 ?_;refine zqh (⟨[(9,zih (ya4 (zkq x))),(10,zih (ya0 (zkq x))),(1,pZ b1),(3,pZ b3),(4,zih (ya4 (zkq x))),(5,iv (v7 (zkq x))),(6,zih (ya0 (zkq x))),(7,iv (v7 (zkq x))),(8,iv (v7 (zkq x)))],.box b3 28 (y9 (zkq x)):: .box b1 28 (y9 x):: .glob 2 156 y3:: .glob 4 305 y4:: .glob 5 308 y2:: .glob 3 246 q7:: [],[]⟩) ?_ ?_
  ·refine rn ?_;refine z7 rfl (fun hc28=> ?_) (fun hc28=> ?_)
   ·have hc:v7 (zkq x)=0:=eq_of_beq hc28
    refine u4 5 rfl ?_
    refine rn ?_;refine dv rfl rfl (by exact y0 rfl rfl (v8 (yjj x lb) (Sbs.refl _))) ?_
    refine dv rfl rfl (by exact y0 rfl rfl (v8 (ycm (zkq x) ((zb9 hc).mono (by decide):Lim 1000000 (zkq x)) hc) (Sbs.refl _))) ?_
    refine dv rfl rfl (by exact y0 rfl rfl (v8 (zpp (ze0 (zkq x)) (Nat.le_trans (you hc) (by decide))) (Sbs.refl _))) ?_
    refine rn ?_;refine qv rfl rfl (y0 rfl rfl (v8 (yjj x lb) (Sbs.refl _))) ?_
    refine qv rfl rfl (y0 rfl rfl (v8 (zzh (zkq x) ((zb9 hc).mono (by decide):Lim 1000000 (zkq x)) hc) (Sbs.refl _))) ?_
    refine qv rfl rfl (y0 rfl rfl (v8 (zpp (zfe (zkq x)) (Nat.le_trans (yb4 hc) (by decide))) (Sbs.refl _))) ?_
    refine rn ?_;first|(rw [zwy hc,zws hc];exact eA)|(rw [ya3 hc,yaz hc];exact eA)
   ·have hc:v7 (zkq x)≠0:=by simpa using hc28
    refine rn ?_;first|(rw [zwy hc,zws hc];exact eA)|(rw [ya3 hc,yaz hc];exact eA)
  ·refine rn ?_;refine u4 22 rfl ?_
   refine dq rfl rfl qrA ?_;refine dq rfl rfl qrA ?_;refine dq rfl rfl (zd5 (c:=true) rfl rfl (congrArg some (beq_self_eq_true _))) ?_
   refine dq rfl rfl qrA ?_;refine dq rfl rfl qrA ?_;refine dq rfl rfl qrA ?_;refine dq rfl rfl (zd5 (c:=true) rfl rfl (congrArg some (beq_self_eq_true _))) ?_
   refine rn ?_;refine dv rfl rfl (by exact y0 rfl rfl (v8 (yet (ya4 (zkq x)) (Nat.le_trans (ygp _) (by decide))) (Sbs.refl _))) ?_
   refine rn ?_;refine dv rfl rfl (by exact y0 rfl rfl (v8 (yet (ya0 (zkq x)) (Nat.le_trans (ygm _) (by decide))) (Sbs.refl _))) ?_
   refine rn ?_;refine dv rfl rfl (by exact y0 rfl rfl (v8 (yjj x lb) (Sbs.refl _))) ?_
   refine rn ?_;refine qv rfl rfl (y0 rfl rfl (v8 (yqo (zkq x) ((zm0 x).mono (by decide))) (Sbs.refl _))) ?_
   refine rn ?_;first|(refine rq 2 ?_;exact ⟨rfl,rfl⟩)|(refine rq 3 ?_;exact ⟨rfl,rfl⟩)
end Go.Proofs
