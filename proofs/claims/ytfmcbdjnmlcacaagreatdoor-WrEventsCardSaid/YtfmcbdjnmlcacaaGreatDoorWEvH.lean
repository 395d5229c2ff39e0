/- The walk of slices.CompactFunc. Conditions: none. -/
import Derived.Test.YtfmcbdjnmlcacaaGreatDoorWEvG
set_option maxHeartbeats 4000000
set_option linter.unusedSectionVars false
set_option linter.unusedSimpArgs false
set_option linter.unusedVariables false
set_option maxRecDepth 10000
namespace Go.Proofs
open Go Go.Ab
attribute [local irreducible] QR QV OE zb5 aw zce zcn za2 zbr thn zd9 zcl jch zd7
open Go.H
theorem zrr (h:Hist) (la:Lim 4611686018427387904 h):y8 Tryz.prog 38 [.agg (y9 h)] [.glob 2 156 y2,.glob 4 305 y3,.glob 5 308 z8,.glob 3 246 w6] (fun r h'=>h'= [.glob 2 156 y2,.glob 4 305 y3,.glob 5 308 z8,.glob 3 246 w6]∧r=iv (q6 h)):=by
 refine z6 Tryz.func38 rfl rfl rfl ?_
 refine rn ?_;refine z7 rfl (w7 rfl rfl rfl fun b1=> ?_)
 refine rn ?_;refine qv rfl rfl (y4 rfl rfl (y1.qt (y1.of_fun (yk5 h la)) ((pt1 _ _ _).trans (.cons _ ((pt1 _ _ _).trans (.cons _ (pt1 _ _ _))))))) ?_
 refine rn ?_;refine y0 rfl (fun hc7=> ?_) (fun hc7=> ?_)
 ·have hm:¬zfl h=true:=by intro q;rw [zc7,if_pos q] at hc7;cases hc7
  have he:zc7 h=210:=by rw [zc7,if_neg hm]
  refine rn ?_;refine rq 1 ?_
  exact ⟨rfl,by rw [q6,if_neg hm,he];rfl⟩
 ·have hm:zfl h=true:=zy5.1 (by simpa using hc7)
  refine rn ?_;refine qv rfl rfl (y4 rfl rfl (y1.qt (y1.of_fun (yix h la)) ((pt1 _ _ _).trans (.cons _ ((pt1 _ _ _).trans (.cons _ ((pt1 _ _ _).trans (.cons _ (pt1 _ _ _))))))))) ?_
  refine rn ?_;refine y0 rfl (fun hc11=> ?_) (fun hc11=> ?_)
  ·refine rn ?_;refine rq 1 ?_
   exact ⟨rfl,by rw [q6,if_pos hm];simp_all;rfl⟩
  ·refine rn ?_;refine rq 1 ?_
   exact ⟨rfl,by rw [q6,if_pos hm];simp_all;rfl⟩
theorem zn0 (h:Hist) (kd:Int) (W:List Res):y8 Tryz.prog 218 [.agg (y9 h),iv kd] W (fun r h'=>∃b1 b2,h'= .box b1 28 (y9 h):: .box b2 3 [iv kd]::W∧r= .fn (.func 264) [] [pZ b1,pZ b2]):=by
 refine z6 Tryz.func218 rfl rfl rfl ?_
 refine rn ?_;refine z7 rfl (w7 rfl rfl rfl fun b2=> ?_)
 refine z7 rfl (w7 rfl rfl rfl fun b3=> ?_)
 refine rn ?_;exact zal rfl (.perm (pt1 _ _ _) _) ⟨_,_,rfl,rfl⟩
theorem zle {σ:Type} (h:Hist) (la:h.evs.length≤1000000) (kd:Int) (y:AV) (b1 b2:Nat) (p q:Nat→σ→Prop) (I F:Nat→σ→List Res) (x0:σ) (hp0:p 0 x0) (hy:∀k x,(hk:k < h.evs.length)→p k x→(h.evs[k].kind==kd)=true→y1 Tryz.prog y [iv k,.agg (evR h.evs[k])] (.box b1 28 (y9 h):: .box b2 3 [iv kd]::I k x) (fun r h'=>∃x',(r=bv true∧p (k+1) x'∧h'= .box b1 28 (y9 h):: .box b2 3 [iv kd]::I (k+1) x')∨(r=bv false∧q k x'∧h'= .box b1 28 (y9 h):: .box b2 3 [iv kd]::F k x'))) (hs:∀k x,(hk:k < h.evs.length)→p k x→(h.evs[k].kind==kd)=false→∃x',p (k+1) x'∧I (k+1) x'=I k x):y8 Tryz.prog 264 [y,pZ b1,pZ b2] (.box b1 28 (y9 h):: .box b2 3 [iv kd]::I 0 x0) (fun r h'=>(∃x,p h.evs.length x∧h'=I h.evs.length x)∨∃k x,q k x∧h'=F k x):=by
 refine z6 Tryz.func264 rfl rfl rfl ?_
 refine rn ?_;refine zfc h.evs.length p (fun k x=>⟨[(9,iv k),(0,y),(2,pZ b2),(7,zyn h.evs),(8,iv (h.evs.map evR).length)],.box b1 28 (y9 h):: .box b2 3 [iv kd]::I k x,[]⟩) x0 hp0 es ?_
 intro k x lk zk
 refine rn ?_;refine y0 rfl (fun hc10=> ?_) (fun hc10=> ?_)
 ·have hk:=zde hc10
  have rk:=zbn (f:=evR) hk
  refine rn ?_;refine z7 rfl (y7 rfl fun b5=> ?_)
  refine rn ?_;refine u0 (fun hg3_4=> ?_) (fun hg3_4=> ?_)
  ·refine q1 ?_;refine q1 ?_;refine q1 ?_;refine z7 rfl (q7 rfl rfl (y1.fr1 (hy k x hk zk (by simpa using hg3_4))) rfl ?_)
   rintro _ _ ⟨_,rfl,x',⟨rfl,hp,rfl⟩|⟨rfl,hq,rfl⟩⟩
   ·refine rn ?_;refine y0 rfl (fun hc24=> ?_) (fun hc24=> ?_)
    ·first|cases hc24|exact absurd hc24 (by decide)|(exfalso;simp_all;done)
    ·refine rn ?_;exact ⟨hk,x',hp,eA⟩
   ·refine rn ?_;refine y0 rfl (fun hc24=> ?_) (fun hc24=> ?_)
    ·refine rn ?_;exact zdt .nil (.drop [_,_,_] _ _) (.inr ⟨k,x',hq,rfl⟩)
    ·first|cases hc24|exact absurd hc24 (by decide)|(exfalso;simp_all;done)
  ·refine rn ?_;refine zof rfl ?_;refine rn ?_;obtain ⟨x',hp,e⟩:=hs k x hk zk (by simpa using hg3_4)
   exact ⟨hk,x',hp,by rw [e];exact eA⟩
 ·have qk:=zdg hc10 lk
  subst qk
  refine rn ?_;exact zc3 .nil (.drop [_,_] _ _) (.inl ⟨x,zk,rfl⟩)
def zi0 {α:Type} (kd:Int) (x:Nat→Ev→α) (p:Nat→Ev→Bool) (k:Nat) (e:Ev):Option α:=if (e.kind==kd && p k e)=true then some (x k e) else none
theorem ydz {α:Type} {kd:Int} {x:Nat→Ev→α} {p:Nat→Ev→Bool} {k:Nat} {e:Ev} (h:(e.kind==kd)=false):zi0 kd x p k e=none:=by rw [zi0,h];simp
theorem ydy {α:Type} {kd:Int} {x:Nat→Ev→α} {p:Nat→Ev→Bool} {k:Nat} {e:Ev} (h:p k e=false):zi0 kd x p k e=none:=by rw [zi0,h];simp
theorem ydx {α:Type} {kd:Int} {x:Nat→Ev→α} {p:Nat→Ev→Bool} {k:Nat} {e:Ev} (h1:(e.kind==kd)=true) (h:p k e=true):zi0 kd x p k e=some (x k e):=by rw [zi0,h1,h];simp
theorem ztk {α:Type} {f:Nat→Ev→Option α} {l:List Ev} {k:Nat} (h:k < l.length) (hf:f k l[k]=none):zed f l (k+1)=zed f l k:=by rw [zpq h,hf];simp
theorem ydw {α:Type} {f:Nat→Ev→Option α} {l:List Ev} {k:Nat} {a:α} (h:k < l.length) (hf:f k l[k]=some a):zed f l (k+1)=zed f l k++ [a]:=by rw [zpq h,hf];rfl
def zi2 (f:Ver×Nat):List AV:= [iv f.1.t,iv f.1.k,iv f.2]
theorem yf5 (l:List (Ver×Nat)):∀r∈l.map zi2,r.all AV.one=true:=by
 intro r hr;obtain ⟨a,_,rfl⟩:=List.mem_map.1 hr;rfl
theorem ydr (h:Hist) (la:h.evs.length≤1000000) (kd:Int) (fv:AV) (hone:fv.cellsOf=some [fv]) (W:List Res) (x:Nat→Ev→Int) (p:Nat→Ev→Bool) (hp:∀k,(hk:k < h.evs.length)→(h.evs[k].kind==kd)=true→y1 Tryz.prog fv [iv k,.agg (evR h.evs[k])] W (fun r h'=>h'=W∧r= .tup [iv (x k h.evs[k]),bv (p k h.evs[k])])):y8 Tryz.prog 173 [.agg (y9 h),iv kd,fv] W (fun r h'=>∃s:SV,h'= .row s.v 1 3 ((zed (zi0 kd x p) h.evs h.evs.length).map za9)::W∧r= .v s.v):=by
 refine z6 Tryz.func173 rfl rfl rfl ?_
 refine rn ?_;refine z7 rfl (w7 rfl rfl rfl fun b3=> ?_)
 refine z7 rfl (w7 rfl hone rfl fun b5=> ?_)
 refine rn ?_;refine z7 rfl (y7 rfl fun b7=> ?_)
 refine rn ?_;refine z7 rfl (q7 rfl rfl (y1.of_fun (zn0 h kd _)) rfl ?_)
 rintro _ _ ⟨b1,b2,rfl,rfl⟩
 refine rn ?_;refine zfi (s':=⟨[(14,.fn (.func 264) [] [pZ b1,pZ b2]),(5,pZ b5),(7,pZ b7)],.box b1 28 (y9 h):: .box b2 3 [iv kd]:: .box b7 29 [.v (⟨none,0,0⟩:SV).v]:: .row (⟨none,0,0⟩:SV).v 1 3 ((zed (zi0 kd x p) h.evs 0).map za9):: .box b5 216 [fv]:: .box b3 28 (y9 h)::W,[]⟩) (v6 (v6 (za1 1 3) (zas ((pt1 _ _ _).trans (.cons _ ((pt1 _ _ _).trans (.cons _ (pt1 _ _ _))))))) es) ?_
 refine zjz (fun pend h''=>pend=none∧∃s:SV,h''= .box b7 29 [.v s.v]:: .row s.v 1 3 ((zed (zi0 kd x p) h.evs h.evs.length).map za9):: .box b5 216 [fv]:: .box b3 28 (y9 h)::W) rfl (fun fn l q lp hlp=> ?_) (fun q h'' hK=> ?_) (fun q h'' c hK=> ?_)
 ·suffices hy:∀k (s:SV),(hk:k < h.evs.length)→True→(h.evs[k].kind==kd)=true→y1 Tryz.prog (yv l) [iv k,.agg (evR h.evs[k])] (.box b1 28 (y9 h):: .box b2 3 [iv kd]::lp .ready none:: .defs q:: .box b7 29 [.v s.v]:: .row s.v 1 3 ((zed (zi0 kd x p) h.evs k).map za9):: .box b5 216 [fv]:: .box b3 28 (y9 h)::W) (fun r h'=>∃s':SV,(r=bv true∧True∧h'= .box b1 28 (y9 h):: .box b2 3 [iv kd]::lp .ready none:: .defs q:: .box b7 29 [.v s'.v]:: .row s'.v 1 3 ((zed (zi0 kd x p) h.evs (k+1)).map za9):: .box b5 216 [fv]:: .box b3 28 (y9 h)::W)∨(r=bv false∧False∧h'= .box b1 28 (y9 h):: .box b2 3 [iv kd]:: [])) by
   refine y8.mono (y8.perm ((pt2 _ _ _ _).trans (.cons _ (pt2 _ _ _ _))) (zle h la kd (yv l) b1 b2 (fun _ _=>True) (fun _ _=>False) (fun k (s:SV)=>lp .ready none:: .defs q:: .box b7 29 [.v s.v]:: .row s.v 1 3 ((zed (zi0 kd x p) h.evs k).map za9):: .box b5 216 [fv]:: .box b3 28 (y9 h)::W) (fun _ _=> []) ⟨none,0,0⟩ trivial hy (fun k s hk _ hn=>⟨s,trivial,by rw [ztk hk (ydz hn)]⟩))) ?_
   rintro _ _ (⟨s,_,rfl⟩|⟨_,_,hF,_⟩)
   ·exact ⟨none,.ready,_,.refl _,by simp,rfl,s,rfl⟩
   ·exact hF.elim
  intro k s hk _ hkd
  refine y1.perm (pt2 _ _ _ _) (y1.ventE ?_)
  refine zcm hlp rfl rfl ?_
  refine rn ?_;refine z7 rfl (y7 rfl fun b9=> ?_)
  refine rn ?_;refine ⟨[(8,iv k),(9,pZ b9),(5,pZ b5),(7,pZ b7)],.box b9 60 (evR h.evs[k]):: .box b1 28 (y9 h):: .box b2 3 [iv kd]:: .defs q:: .box b7 29 [.v s.v]:: .row s.v 1 3 ((zed (zi0 kd x p) h.evs k).map za9):: .box b5 216 [fv]:: .box b3 28 (y9 h)::W,v6 (zas (pt1 _ _ _)) es,?_⟩
  refine rn ?_;refine qv rfl rfl (y4 rfl rfl (y1.qt (h2:= [_,_,_,_,_,_,_,_,_]) (hp k hk hkd) (zdo [_,_,_,_,_,_,_,_,_] _))) ?_
  refine rn ?_;refine y0 rfl (fun hc24=> ?_) (fun hc24=> ?_)
  ·refine y6 ?_;refine q1 ?_;refine q1 ?_;refine q1 ?_;refine q1 ?_;refine q1 ?_;refine qq rfl rfl (zms rfl (by rfl) (by rfl)) ?_
   refine rn ?_;refine qv rfl rfl (w9 rfl rfl) ?_
   refine zt7 s.v ?_
   refine z7 rfl (j6 rfl rfl (by simp only [oM,List.length_cons,List.length_nil];have:=zgn (zi0 kd x p) h.evs k;omega) rfl (fun s33=> ?_) (zit [x k h.evs[k]]))
   refine zam s33 fun sv hsv=> ?_
   subst hsv
   refine rn ?_;exact zcf (.refl _) ⟨_,_,.trans (.perm ((pt1 _ _ _).trans (.cons _ ((pt1 _ _ _).trans (.cons _ (pt1 _ _ _))))) _) (.drop [_] _ _),sv,.inl ⟨rfl,trivial,by rw [ydw hk (ydx hkd hc24),List.map_append];rfl⟩⟩
  ·refine rn ?_;exact zcf (.refl _) ⟨_,_,.trans (.perm ((pt1 _ _ _).trans (.cons _ ((pt1 _ _ _).trans (.cons _ (pt1 _ _ _))))) _) (.drop [_] _ _),s,.inl ⟨rfl,trivial,by rw [ztk hk (ydy hc24)]⟩⟩
 ·obtain ⟨_,s,rfl⟩:=hK
  refine rn ?_;exact zfy (.refl _) (.cons _ _ _ _ (.tmp _ _ rfl) .nil) (.trans (.drop1 _ _ _) (.trans (.perm (pt1 _ _ _) _) (.trans (.drop [_] _ _) (.trans (.perm (pt1 _ _ _) _) (.drop [_] _ _))))) ⟨s,rfl,rfl⟩
 ·obtain ⟨hc,_⟩:=hK
  exact absurd hc (by simp)
theorem yj6 (h:Hist) (la:h.evs.length≤1000000) (kd:Int) (fv:AV) (hone:fv.cellsOf=some [fv]) (W:List Res) (x:Nat→Ev→Ver×Nat) (p:Nat→Ev→Bool) (hp:∀k,(hk:k < h.evs.length)→(h.evs[k].kind==kd)=true→y1 Tryz.prog fv [iv k,.agg (evR h.evs[k])] W (fun r h'=>h'=W∧r= .tup [.agg (zi2 (x k h.evs[k])),bv (p k h.evs[k])])):y8 Tryz.prog 210 [.agg (y9 h),iv kd,fv] W (fun r h'=>∃s:SV,h'= .row s.v 3 139 ((zed (zi0 kd x p) h.evs h.evs.length).map zi2)::W∧r= .v s.v):=by
 refine z6 Tryz.func210 rfl rfl rfl ?_
 refine rn ?_;refine z7 rfl (w7 rfl rfl rfl fun b3=> ?_)
 refine z7 rfl (w7 rfl hone rfl fun b5=> ?_)
 refine rn ?_;refine z7 rfl (y7 rfl fun b7=> ?_)
 refine rn ?_;refine z7 rfl (q7 rfl rfl (y1.of_fun (zn0 h kd _)) rfl ?_)
 rintro _ _ ⟨b1,b2,rfl,rfl⟩
 refine rn ?_;refine zfi (s':=⟨[(14,.fn (.func 264) [] [pZ b1,pZ b2]),(5,pZ b5),(7,pZ b7)],.box b1 28 (y9 h):: .box b2 3 [iv kd]:: .box b7 197 [.v (⟨none,0,0⟩:SV).v]:: .row (⟨none,0,0⟩:SV).v 3 139 ((zed (zi0 kd x p) h.evs 0).map zi2):: .box b5 257 [fv]:: .box b3 28 (y9 h)::W,[]⟩) (v6 (v6 (za1 3 139) (zas ((pt1 _ _ _).trans (.cons _ ((pt1 _ _ _).trans (.cons _ (pt1 _ _ _))))))) es) ?_
 refine zjz (fun pend h''=>pend=none∧∃s:SV,h''= .box b7 197 [.v s.v]:: .row s.v 3 139 ((zed (zi0 kd x p) h.evs h.evs.length).map zi2):: .box b5 257 [fv]:: .box b3 28 (y9 h)::W) rfl (fun fn l q lp hlp=> ?_) (fun q h'' hK=> ?_) (fun q h'' c hK=> ?_)
 ·suffices hy:∀k (s:SV),(hk:k < h.evs.length)→True→(h.evs[k].kind==kd)=true→y1 Tryz.prog (yv l) [iv k,.agg (evR h.evs[k])] (.box b1 28 (y9 h):: .box b2 3 [iv kd]::lp .ready none:: .defs q:: .box b7 197 [.v s.v]:: .row s.v 3 139 ((zed (zi0 kd x p) h.evs k).map zi2):: .box b5 257 [fv]:: .box b3 28 (y9 h)::W) (fun r h'=>∃s':SV,(r=bv true∧True∧h'= .box b1 28 (y9 h):: .box b2 3 [iv kd]::lp .ready none:: .defs q:: .box b7 197 [.v s'.v]:: .row s'.v 3 139 ((zed (zi0 kd x p) h.evs (k+1)).map zi2):: .box b5 257 [fv]:: .box b3 28 (y9 h)::W)∨(r=bv false∧False∧h'= .box b1 28 (y9 h):: .box b2 3 [iv kd]:: [])) by
   refine y8.mono (y8.perm ((pt2 _ _ _ _).trans (.cons _ (pt2 _ _ _ _))) (zle h la kd (yv l) b1 b2 (fun _ _=>True) (fun _ _=>False) (fun k (s:SV)=>lp .ready none:: .defs q:: .box b7 197 [.v s.v]:: .row s.v 3 139 ((zed (zi0 kd x p) h.evs k).map zi2):: .box b5 257 [fv]:: .box b3 28 (y9 h)::W) (fun _ _=> []) ⟨none,0,0⟩ trivial hy (fun k s hk _ hn=>⟨s,trivial,by rw [ztk hk (ydz hn)]⟩))) ?_
   rintro _ _ (⟨s,_,rfl⟩|⟨_,_,hF,_⟩)
   ·exact ⟨none,.ready,_,.refl _,by simp,rfl,s,rfl⟩
   ·exact hF.elim
  intro k s hk _ hkd
  refine y1.perm (pt2 _ _ _ _) (y1.ventE ?_)
  refine zcm hlp rfl rfl ?_
  refine rn ?_;refine z7 rfl (y7 rfl fun b9=> ?_)
  refine rn ?_;refine ⟨[(8,iv k),(9,pZ b9),(5,pZ b5),(7,pZ b7)],.box b9 60 (evR h.evs[k]):: .box b1 28 (y9 h):: .box b2 3 [iv kd]:: .defs q:: .box b7 197 [.v s.v]:: .row s.v 3 139 ((zed (zi0 kd x p) h.evs k).map zi2):: .box b5 257 [fv]:: .box b3 28 (y9 h)::W,v6 (zas (pt1 _ _ _)) es,?_⟩
  refine rn ?_;refine qv rfl rfl (y4 rfl rfl (y1.qt (h2:= [_,_,_,_,_,_,_,_,_]) (hp k hk hkd) (zdo [_,_,_,_,_,_,_,_,_] _))) ?_
  refine rn ?_;refine z7 rfl (y7 rfl fun b10=> ?_)
  refine rn ?_;refine y0 rfl (fun hc24=> ?_) (fun hc24=> ?_)
  ·refine j4 8 rfl ?_
   refine dq rfl rfl qrA ?_;refine dq rfl rfl qrA ?_;refine dq rfl rfl qrA ?_;refine dq rfl rfl qrA ?_;refine dq rfl rfl qrA ?_;refine dq rfl rfl (zms rfl (by rfl) (by rfl)) ?_
   refine rn ?_;refine dv rfl rfl (w9 rfl rfl) ?_
   refine rn ?_;refine zt7 s.v ?_
   refine z7 rfl (j6 rfl rfl (by simp only [oM,List.length_cons,List.length_nil];have:=zgn (zi0 kd x p) h.evs k;omega) rfl (fun s33=> ?_) (yf5 [x k h.evs[k]]))
   refine zam s33 fun sv hsv=> ?_
   subst hsv
   refine rn ?_;exact zcf (pt1 _ _ _) ⟨_,_,.trans (.perm ((pt1 _ _ _).trans (.cons _ ((pt1 _ _ _).trans (.cons _ ((pt1 _ _ _).trans (.cons _ (pt1 _ _ _))))))) _) (.drop [_,_] _ _),sv,.inl ⟨rfl,trivial,by rw [ydw hk (ydx hkd hc24),List.map_append];rfl⟩⟩
  ·refine rn ?_;exact zcf (pt1 _ _ _) ⟨_,_,.trans (.perm ((pt1 _ _ _).trans (.cons _ ((pt1 _ _ _).trans (.cons _ ((pt1 _ _ _).trans (.cons _ (pt1 _ _ _))))))) _) (.drop [_,_] _ _),s,.inl ⟨rfl,trivial,by rw [ztk hk (ydy hc24)]⟩⟩
 ·obtain ⟨_,s,rfl⟩:=hK
  refine rn ?_;exact zfy (.refl _) (.cons _ _ _ _ (.tmp _ _ rfl) .nil) (.trans (.drop1 _ _ _) (.trans (.perm (pt1 _ _ _) _) (.trans (.drop [_] _ _) (.trans (.perm (pt1 _ _ _) _) (.drop [_] _ _))))) ⟨s,rfl,rfl⟩
 ·obtain ⟨hc,_⟩:=hK
  exact absurd hc (by simp)
theorem ygp (k:Int) (e:Ev):y8 Tryz.prog 174 [iv k,.agg (evR e)] [] (fun r h'=>h'= []∧r= .tup [iv e.t,bv true]):=by
 refine z6 Tryz.func174 rfl rfl rfl ?_
 refine rn ?_;refine z7 rfl (w7 rfl rfl rfl fun b3=> ?_)
 refine rn ?_;refine rq 1 ?_
 exact ⟨rfl,rfl⟩
theorem ygo (k s:Int) (e:Ev) (b2 b3 rm:Nat) (M:List (Int×Bool)):y8 Tryz.prog 209 [iv k,.agg (evR e),pZ b2,pZ b3] [.box b2 3 [iv s],.box b3 115 [mpv rm],.map rm (j9 intK (zau bv M))] (fun r h'=>h'= [.box b2 3 [iv s],.box b3 115 [mpv rm],.map rm (j9 intK (zau bv M))]∧r= .tup [iv e.t,bv (e.o==s && (zap e.t M).getD false)]):=by
 refine z6 Tryz.func209 rfl rfl rfl ?_
 refine rn ?_;refine z7 rfl (w7 rfl rfl rfl fun b5=> ?_)
 refine rn ?_;refine j4 13 rfl ?_
 refine rn ?_;refine zcu (fun hg1_6=> ?_) (fun hg1_6=> ?_)
 ·refine dq rfl rfl qrA ?_;refine dq rfl rfl qrA ?_;refine dq rfl rfl qrA ?_;refine dq rfl rfl (za0 (enc:=intK) (k:=e.t) false rfl rfl) ?_
  refine rn ?_;refine rq 1 ?_
  exact ⟨rfl,by rw [hg1_6];rfl⟩
 ·refine rn ?_;refine rq 1 ?_
  exact ⟨rfl,by rw [hg1_6];rfl⟩
theorem ygn (k a:Nat) (t x:Int) (e:Ev) (b2 b3 b4:Nat):y8 Tryz.prog 211 [iv k,.agg (evR e),pZ b2,pZ b3,pZ b4] [.box b2 3 [iv t],.box b3 3 [iv x],.box b4 3 [iv a]] (fun r h'=>h'= [.box b2 3 [iv t],.box b3 3 [iv x],.box b4 3 [iv a]]∧r= .tup [.agg (zi2 (e.v,k)),bv (e.t==t && e.o==x && decide (k < a))]):=by
 refine z6 Tryz.func211 rfl rfl rfl ?_
 refine rn ?_;refine z7 rfl (w7 rfl rfl rfl fun b6=> ?_)
 refine z7 rfl (y7 rfl fun b7=> ?_)
 refine rn ?_;refine zdj 20 [(b7,139,_)] rfl (List.perm_append_comm (l₁:= [_])) ?_
 refine dq rfl rfl qrA ?_;refine dq rfl rfl qrA ?_;refine dq rfl rfl qrA ?_;refine dq rfl rfl (u9 (out:= [iv e.v.t,iv e.v.k,iv k]) rfl (by rfl)) ?_
 refine rn ?_;refine zcu (fun hg1_8=> ?_) (fun hg1_8=> ?_)
 ·refine rn ?_;refine zcu (fun hg1_14=> ?_) (fun hg1_14=> ?_)
  ·refine rn ?_;refine dw 0 rfl rfl rfl rfl rfl (Nat.le_of_ble_eq_true rfl) ?_
   refine rn2 ?_;show zb5 _ _ _ _ _ _ ⟨_,.box b7 139 (zi2 (e.v,k)):: .box b6 60 (evR e):: [.box b2 3 [iv t],.box b3 3 [iv x],.box b4 3 [iv a]],_⟩
   refine rn ?_;exact zdt (.cons _ _ _ _ (.agg _ _ _ _ _ _ _ rfl inferInstance inferInstance inferInstance rfl) (.cons _ _ _ _ (.tmp _ _ rfl) .nil)) (.drop [_,_] _ _) ⟨rfl,by first|(rw [hg1_8,hg1_14];exact congrArg (fun b=>AV.tup [AV.agg (zi2 (e.v,k)),bv b]) (by simp))|(rw [hg1_8];rfl)⟩
  ·refine rn ?_;refine dw 0 rfl rfl rfl rfl rfl (Nat.le_of_ble_eq_true rfl) ?_
   refine rn2 ?_;show zb5 _ _ _ _ _ _ ⟨_,.box b7 139 (zi2 (e.v,k)):: .box b6 60 (evR e):: [.box b2 3 [iv t],.box b3 3 [iv x],.box b4 3 [iv a]],_⟩
   refine rn ?_;exact zdt (.cons _ _ _ _ (.agg _ _ _ _ _ _ _ rfl inferInstance inferInstance inferInstance rfl) (.cons _ _ _ _ (.tmp _ _ rfl) .nil)) (.drop [_,_] _ _) ⟨rfl,by first|(rw [hg1_8,hg1_14];exact congrArg (fun b=>AV.tup [AV.agg (zi2 (e.v,k)),bv b]) (by simp))|(rw [hg1_8];rfl)⟩
 ·refine rn ?_;refine dw 0 rfl rfl rfl rfl rfl (Nat.le_of_ble_eq_true rfl) ?_
  refine rn2 ?_;show zb5 _ _ _ _ _ _ ⟨_,.box b7 139 (zi2 (e.v,k)):: .box b6 60 (evR e):: [.box b2 3 [iv t],.box b3 3 [iv x],.box b4 3 [iv a]],_⟩
  refine rn ?_;exact zdt (.cons _ _ _ _ (.agg _ _ _ _ _ _ _ rfl inferInstance inferInstance inferInstance rfl) (.cons _ _ _ _ (.tmp _ _ rfl) .nil)) (.drop [_,_] _ _) ⟨rfl,by first|(rw [hg1_8,hg1_14];exact congrArg (fun b=>AV.tup [AV.agg (zi2 (e.v,k)),bv b]) (by simp))|(rw [hg1_8];rfl)⟩
theorem ym3 (x:Int) (s:Ord) (b1:Nat):y8 Tryz.prog 207 [.agg (zeo s),pZ b1] [.box b1 3 [iv x]] (fun r h'=>h'= [.box b1 3 [iv x]]∧r=bv (s.o==x)):=by
 refine z6 Tryz.func207 rfl rfl rfl ?_
 refine rn ?_;refine z7 rfl (w7 rfl rfl rfl fun b2=> ?_)
 refine rn ?_;refine rq 1 ?_
 exact ⟨rfl,rfl⟩
theorem ygs (h:Hist) (la:h.evs.length≤1000000) (W:List Res):y8 Tryz.prog 208 [.agg (y9 h)] W (fun r h'=>∃rm,h'= .map rm (j9 intK (zau bv (zm3 h.evs)))::W∧r=mpv rm):=by
 refine z6 Tryz.func208 rfl rfl rfl ?_
 refine rn ?_;refine z7 rfl (w7 rfl rfl rfl fun b1=> ?_)
 refine rn ?_;refine z7 rfl (zac (enc:=intK) rfl fun b6=> ?_)
 refine z7 rfl (y7 rfl fun b3=> ?_)
 refine rn ?_;refine z7 rfl (q7 rfl rfl (y1.of_fun (zn0 h 5 _)) rfl ?_)
 rintro _ _ ⟨e1,e2,rfl,rfl⟩
 refine rn ?_;refine zfi (s':=⟨[(8,.fn (.func 264) [] [pZ e1,pZ e2]),(3,pZ b3)],.box e1 28 (y9 h):: .box e2 3 [iv 5]:: .box b3 115 [mpv b6]:: .map b6 (j9 intK (zau bv (zm3 (h.evs.take 0)))):: .box b1 28 (y9 h)::W,[]⟩) es ?_
 refine zjz (fun pend h''=>pend=none∧h''= .box b3 115 [mpv b6]:: .map b6 (j9 intK (zau bv (zm3 (h.evs.take h.evs.length)))):: .box b1 28 (y9 h)::W) rfl (fun fn l q lp hlp=> ?_) (fun q h'' hK=> ?_) (fun q h'' c hK=> ?_)
 ·suffices hy:∀k (x:Unit),(hk:k < h.evs.length)→True→(h.evs[k].kind==5)=true→y1 Tryz.prog (yv l) [iv k,.agg (evR h.evs[k])] (.box e1 28 (y9 h):: .box e2 3 [iv 5]::lp .ready none:: .defs q:: .box b3 115 [mpv b6]:: .map b6 (j9 intK (zau bv (zm3 (h.evs.take k)))):: .box b1 28 (y9 h)::W) (fun r h'=>∃x':Unit,(r=bv true∧True∧h'= .box e1 28 (y9 h):: .box e2 3 [iv 5]::lp .ready none:: .defs q:: .box b3 115 [mpv b6]:: .map b6 (j9 intK (zau bv (zm3 (h.evs.take (k+1))))):: .box b1 28 (y9 h)::W)∨(r=bv false∧False∧h'= .box e1 28 (y9 h):: .box e2 3 [iv 5]:: [])) by
   refine y8.mono (y8.perm ((pt2 _ _ _ _).trans (.cons _ (pt2 _ _ _ _))) (zle h la 5 (yv l) e1 e2 (fun _ _=>True) (fun _ _=>False) (fun k (_:Unit)=>lp .ready none:: .defs q:: .box b3 115 [mpv b6]:: .map b6 (j9 intK (zau bv (zm3 (h.evs.take k)))):: .box b1 28 (y9 h)::W) (fun _ _=> []) () trivial hy (fun k s hk _ hn=>⟨s,trivial,by rw [yk1 hk hn]⟩))) ?_
   rintro _ _ (⟨s,_,rfl⟩|⟨_,_,hF,_⟩)
   ·exact ⟨none,.ready,_,.refl _,by simp,rfl,rfl⟩
   ·exact hF.elim
  intro k s hk _ hkd
  refine y1.perm (pt2 _ _ _ _) (y1.ventE ?_)
  refine zcm hlp rfl rfl ?_
  refine rn ?_;refine z7 rfl (y7 rfl fun b5=> ?_)
  refine rn ?_;refine ⟨[(5,pZ b5),(3,pZ b3)],.box b5 60 (evR h.evs[k]):: .box e1 28 (y9 h):: .box e2 3 [iv 5]:: .defs q:: .box b3 115 [mpv b6]:: .map b6 (j9 intK (zau bv (zm3 (h.evs.take k)))):: .box b1 28 (y9 h)::W,v6 (zas (pt1 _ _ _)) es,?_⟩
  refine rn ?_;refine z7 rfl (j8 (g:=bv) (enc:=intK) (k:=h.evs[k].t) (v:=true) rfl rfl rfl ?_)
  refine rn ?_;exact zcf (.refl _) ⟨_,_,.trans (.perm ((pt1 _ _ _).trans (.cons _ ((pt1 _ _ _).trans (.cons _ (pt1 _ _ _))))) _) (.drop [_] _ _),(),.inl ⟨rfl,trivial,by rw [yk0 hk hkd]⟩⟩
 ·obtain ⟨_,rfl⟩:=hK
  refine rn ?_;exact zfy (.refl _) (.cons _ _ _ _ (.tmp _ _ rfl) .nil) (.trans (.drop1 _ _ _) (.trans (.perm (pt1 _ _ _) _) (.drop [_] _ _))) ⟨b6,by rw [List.take_length],rfl⟩
 ·obtain ⟨hc,_⟩:=hK
  exact absurd hc (by simp)
theorem zze {h:Hist} {n many:Int} (he:zfj h n many≠0) (X:List Int):(onE (zfj h n many) X).map za9= []:=by rw [onE,if_neg he];rfl
theorem zye {α:Type} (kd:Int) (g:Ev→α) (q:Ev→Bool) (l:List Ev):zed (zi0 kd (fun _ e=>g e) (fun _ e=>q e)) l l.length=(l.filter fun e=>e.kind==kd && q e).map g:=yb6 (fun _ _=>rfl) l
theorem yds (h:Hist) (la:Lim 4611686018427387904 h) (n many:Int) (fv:AV) (hone:fv.cellsOf=some [fv]) (X:List Int) (W:List Res) (hp:zfj h n many=0→y1 Tryz.prog fv [] (.glob 2 156 y2:: .glob 4 305 y3:: .glob 5 308 z8:: .glob 3 246 w6::W) (fun r h'=>∃s:SV,h'= .row s.v 1 3 (X.map za9):: .glob 2 156 y2:: .glob 4 305 y3:: .glob 5 308 z8:: .glob 3 246 w6::W∧r= .v s.v)):y8 Tryz.prog 150 [.agg (y9 h),iv n,iv many,fv] (.glob 2 156 y2:: .glob 4 305 y3:: .glob 5 308 z8:: .glob 3 246 w6::W) (fun r h'=>∃s:SV,h'= .row s.v 1 3 ((onE (zfj h n many) X).map za9):: .glob 2 156 y2:: .glob 4 305 y3:: .glob 5 308 z8:: .glob 3 246 w6::W∧r= .tup [.v s.v,iv (zfj h n many)]):=by
 refine z6 Tryz.func150 rfl rfl rfl ?_
 refine rn ?_;refine z7 rfl (w7 rfl rfl rfl fun b4=> ?_)
 refine rn ?_;refine qv rfl rfl (y4 rfl rfl (y1.qt (y1.of_fun (zrr h la)) ((pt1 _ _ _).trans (.cons _ ((pt1 _ _ _).trans (.cons _ ((pt1 _ _ _).trans (.cons _ (pt1 _ _ _))))))))) ?_
 refine rn ?_;refine y0 rfl (fun hc15=> ?_) (fun hc15=> ?_)
 ·have hc:q6 h≠0:=by simpa using hc15
  refine rn ?_;exact zbj rfl rfl (.trans (.drop [_] _ _) (zag 1 3 _)) ⟨⟨none,0,0⟩,by rw [zze (by rw [ask_c hc];exact hc)];rfl,by rw [ask_c hc];rfl⟩
 ·have hc:q6 h=0:=by simpa using hc15
  refine rn ?_;refine u0 (fun hg5_2=> ?_) (fun hg5_2=> ?_)
  ·refine rn ?_;refine zsb rfl ?_;have hn:¬(0≤n∧n < many):=by first|(have q:=oT hg5_2;omega)|(have q:=oT hc24;omega)
   refine rn ?_;exact zbj rfl rfl (.trans (.drop [_] _ _) (zag 1 3 _)) ⟨⟨none,0,0⟩,by rw [zze (by rw [zvi hc hn];decide)];rfl,by rw [zvi hc hn];rfl⟩
  ·refine rn ?_;refine y0 rfl (fun hc24=> ?_) (fun hc24=> ?_)
   ·have hn:¬(0≤n∧n < many):=by first|(have q:=oT hg5_2;omega)|(have q:=oT hc24;omega)
    refine rn ?_;exact zbj rfl rfl (.trans (.drop [_] _ _) (zag 1 3 _)) ⟨⟨none,0,0⟩,by rw [zze (by rw [zvi hc hn];decide)];rfl,by rw [zvi hc hn];rfl⟩
   ·have hn:0≤n∧n < many:=by have q:=oF hg5_2;have q':=oF hc24;omega
    refine rn ?_;refine z7 rfl (q7 rfl rfl (y1.fr1 (hp (zsd hc hn))) rfl ?_)
    rintro _ _ ⟨_,rfl,s,rfl,rfl⟩
    refine rn ?_;exact zbj rfl rfl (.drop [_] _ _) ⟨s,by rw [zsd hc hn];rfl,by rw [zsd hc hn];rfl⟩
theorem znu {P:Program} {h:List Res} {f:Operand→Option AV} {dst:Option Tmp} {ty:TypeId} {pos:String} {after:Array Edge} {guard:Option (Nat×Bool)} {x y:Operand} {T E:TypeId} {s:Value} {sz i:Nat} {k:Int} {E':TypeId} {rows:List (List AV)} (hx:f x=some (.v s)) (hy:f y=some (.v (.int .i64 k))) [hr:HasRow h s i sz E' rows] [Und P T (.slice E)] [Siz P E sz] (h0:0≤k) (hk:k.toNat < rows.length):
 QR P h f ⟨dst,.indexAddr T x y,ty,pos,after,guard⟩ (.rp s sz k.toNat 0):=zjg hx (by rw [Int.toNat_of_nonneg h0];exact hy) hk
theorem zzf {h:Hist} {n many:Int} (he:zfj h n many=0):Lim 3000 h:=zri (zeq (yhn he).1).1
theorem yhm {h:Hist} {n many:Int} (he:zfj h n many=0):h.evs.length≤1000000:=Nat.le_trans (zzf he).evs (by decide)
theorem zdh {h:Hist} (he:q6 h=0):Lim 3000 h:=zri (zeq (zat.1 he)).1
theorem yhd {h:Hist} (he:q6 h=0):h.evs.length≤1000000:=Nat.le_trans (zdh he).evs (by decide)
theorem yci (l:List Ev):srt (zed (zi0 5 (fun _ e=>e.t) (fun _ _=>true)) l l.length)=zco l:=by
 rw [zco,zye 5 Ev.t (fun _=>true)];simp only [Bool.and_true]
theorem ygv (l:List Ev) (x:Int):zed (zi0 2 (fun _ e=>e.t) (fun _ e=>e.o==x && (zap e.t (zm3 l)).getD false)) l l.length=yhy l x:=by
 rw [zye 2 Ev.t (fun e=>e.o==x && (zap e.t (zm3 l)).getD false),yhy];simp only [yce]
theorem yjh {h:Hist} {x:Int} (hc:decide (zbh (fun o:Ord=>o.o==x) 0 h.ords ≥ 0)=true):∃k,∃hk:k < h.ords.length,zbh (fun o:Ord=>o.o==x) 0 h.ords=(k:Int)∧zaj h x=h.ords[k].ts:=by
 have:=zea (fun o:Ord=>o.o==x) h.ords 0
 cases hf:h.ords.find? (fun o=>o.o==x) with
 |none=>rw [hf] at this;simp only at this;rw [this] at hc;exact absurd hc (by decide)
 |some o=>
  rw [hf] at this
  obtain ⟨k,hk,e,eo,_⟩:=this
  exact ⟨k,hk,by rw [e,Nat.zero_add],by rw [zaj,hf,eo]⟩
theorem yjg {h:Hist} {x:Int} (hc:decide (zbh (fun o:Ord=>o.o==x) 0 h.ords ≥ 0)=false):zaj h x=zbi (yhy h.evs x):=by
 have:=zea (fun o:Ord=>o.o==x) h.ords 0
 cases hf:h.ords.find? (fun o=>o.o==x) with
 |none=>rw [zaj,hf]
 |some o=>
  rw [hf] at this
  obtain ⟨k,hk,e,eo,_⟩:=this
  rw [e] at hc
  have:=oF hc
  omega
theorem ygt (h:Hist) (la:h.evs.length≤1000000) (b1:Nat):y8 Tryz.prog 172 [pZ b1] (.glob 2 156 y2:: .glob 4 305 y3:: .glob 5 308 z8:: .glob 3 246 w6:: .box b1 28 (y9 h):: []) (fun r h'=>∃s:SV,h'= .row s.v 1 3 ((zco h.evs).map za9):: .glob 2 156 y2:: .glob 4 305 y3:: .glob 5 308 z8:: .glob 3 246 w6:: .box b1 28 (y9 h):: []∧r= .v s.v):=by
 refine z6 Tryz.func172 rfl rfl rfl ?_
 refine rn ?_;refine z7 rfl (q7 rfl rfl (y1.of_fun (ydr h la 5 _ rfl _ (fun _ e=>e.t) (fun _ _=>true) (fun k hk _=>y1.pure (R:=fun r=>r=_) (y1.of_fun (ygp k h.evs[k]))))) rfl ?_)
 rintro _ _ ⟨s,rfl,rfl⟩
 refine rn ?_;refine z7 rfl (q7 rfl rfl (zey (y1.of_fun (zwf s _ (by have:=(zgn (zi0 5 (fun _ e=>e.t) (fun _ e=>true)) h.evs h.evs.length);omega)))) rfl ?_)
 rintro _ _ ⟨rfl,rfl⟩
 refine rn ?_;exact zal rfl (.refl _ _) ⟨s,by rw [yci],rfl⟩
theorem ygu (h:Hist) (la:Lim 4611686018427387904 h):y8 Tryz.prog 133 [.agg (y9 h)] (.glob 2 156 y2:: .glob 4 305 y3:: .glob 5 308 z8:: .glob 3 246 w6:: []) (fun r h'=>∃s:SV,h'= .row s.v 1 3 ((onE (q6 h) (zco h.evs)).map za9):: .glob 2 156 y2:: .glob 4 305 y3:: .glob 5 308 z8:: .glob 3 246 w6:: []∧r= .tup [.v s.v,iv (q6 h)]):=by
 refine z6 Tryz.func133 rfl rfl rfl ?_
 refine rn ?_;refine z7 rfl (w7 rfl rfl rfl fun b1=> ?_)
 refine rn ?_;refine z7 rfl (q7 rfl rfl (y1.perm ((pt1 _ _ _).trans (.cons _ ((pt1 _ _ _).trans (.cons _ ((pt1 _ _ _).trans (.cons _ (pt1 _ _ _))))))) (y1.of_fun (yds h la 0 1 (.fn (.func 172) [] [pZ b1]) rfl (zco h.evs) [.box b1 28 (y9 h)] (fun he=>y1.of_acall (fs:= []) (cs:= [pZ b1]) (ygt h (yhm he) b1))))) rfl ?_)
 rintro _ _ ⟨s,rfl,rfl⟩
 refine rn ?_;exact zbj rfl rfl (.trans (.perm (pt5 _ _ _ _ _ _ _) _) (.drop [_] _ _)) ⟨s,by rw [yd7],by rw [yd7];rfl⟩
theorem zx7 (h:Hist) (la:Lim 4611686018427387904 h):y8 Tryz.prog 133 [.agg (y9 h)] (.glob 2 156 y2:: .glob 4 305 y3:: .glob 5 308 z8:: .glob 3 246 w6:: []) (fun r h'=>h'= .glob 2 156 y2:: .glob 4 305 y3:: .glob 5 308 z8:: .glob 3 246 w6:: []∧r= .tup [za6 (onE (q6 h) (zco h.evs)),iv (q6 h)]):=
 (ygu h la).ventR (by rintro _ _ ⟨s,rfl,rfl⟩;exact ⟨_,_,zay [] [_],rfl,rfl⟩)
theorem yj5 (h:Hist) (la:Lim 3000 h) (x:Int) (W:List Res):y8 Tryz.prog 152 [.agg (y9 h),iv x] W (fun r h'=>∃s:SV,h'= .row s.v 1 3 ((zaj h x).map za9)::W∧r= .v s.v):=by
 refine z6 Tryz.func152 rfl rfl rfl ?_
 have le:h.evs.length≤1000000:=Nat.le_trans la.evs (by decide)
 have lo:=la.ords
 refine rn ?_;refine z7 rfl (w7 rfl rfl rfl fun b2=> ?_)
 refine z7 rfl (w7 rfl rfl rfl fun b3=> ?_)
 refine rn ?_;refine qv rfl rfl (y4 rfl rfl (y1.of_fun (zjo h.ords _ (fun o:Ord=>o.o==x) _ (fun a _=>y1.qt (y1.of_acall (fs:= []) (cs:= [pZ b3]) (ym3 x a b3)) (.refl _)) (Nat.le_trans la.ords (by decide))))) ?_
 refine rn ?_;refine y0 rfl (fun hc13=> ?_) (fun hc13=> ?_)
 ·obtain ⟨k,hk,ek,hx⟩:=yjh hc13
  have rk:=zbn (f:=zeo) hk
  rw [ek]
  refine rn ?_;refine z7 rfl (q7 rfl rfl (y1.fr (y1.rowS (y1.of_fun (zls (h.ords[k].ts.map za9) (by rw [oM];exact Nat.le_trans (la.ordts h.ords[k] (List.getElem_mem hk)) (by decide)) (zit _)))) (.refl _)) rfl ?_)
  rintro _ _ ⟨_,rfl,s,rfl,rfl⟩
  refine rn ?_;exact zal rfl (.trans (.perm ((pt1 _ _ _).trans (.cons _ (pt1 _ _ _))) _) (.drop [_,_] _ _)) ⟨s,by rw [hx],rfl⟩
 ·have hx:=yjg hc13
  refine rn ?_;refine z7 rfl (q7 rfl rfl (y1.of_fun (ygs h le _)) rfl ?_)
  rintro _ _ ⟨rm,rfl,rfl⟩
  refine z7 rfl (y7 rfl fun b6=> ?_)
  refine rn ?_;refine z7 rfl (q7 rfl rfl (y1.of_fun (ydr h le 2 _ rfl _ (fun _ e=>e.t) (fun _ e=>e.o==x && (zap e.t (zm3 h.evs)).getD false) (fun k hk _=>y1.qt (y1.of_acall (fs:= []) (cs:= [pZ b3,pZ b6]) (ygo k x h.evs[k] b3 b6 rm (zm3 h.evs))) (pt2 _ _ _ _)))) rfl ?_)
  rintro _ _ ⟨s,rfl,rfl⟩
  refine rn ?_;refine z7 rfl (q7 rfl rfl (zf9 (y1.of_fun (zyy s _ (by have:=(zgn (zi0 2 (fun _ e=>e.t) (fun _ e=>e.o==x && (zap e.t (zm3 h.evs)).getD false)) h.evs h.evs.length);omega)))) rfl ?_)
  rintro _ _ ⟨s',rfl,rfl⟩
  refine rn ?_;exact zal rfl (.trans (.perm ((pt1 _ _ _).trans (.cons _ ((pt1 _ _ _).trans (.cons _ ((pt1 _ _ _).trans (.cons _ (pt1 _ _ _))))))) _) (.drop [_,_,_,_] _ _)) ⟨s',by rw [hx,ygv],rfl⟩
theorem yj4 (h:Hist) (la:Lim 3000 h) (x:Int) (b2 b3:Nat):y8 Tryz.prog 151 [pZ b2,pZ b3] (.glob 2 156 y2:: .glob 4 305 y3:: .glob 5 308 z8:: .glob 3 246 w6:: .box b2 28 (y9 h):: .box b3 3 [iv x]:: []) (fun r h'=>∃s:SV,h'= .row s.v 1 3 ((zaj h x).map za9):: .glob 2 156 y2:: .glob 4 305 y3:: .glob 5 308 z8:: .glob 3 246 w6:: .box b2 28 (y9 h):: .box b3 3 [iv x]:: []∧r= .v s.v):=by
 refine z6 Tryz.func151 rfl rfl rfl ?_
 refine rn ?_;refine z7 rfl (q7 rfl rfl (y1.of_fun (yj5 h la x _)) rfl ?_)
 rintro _ _ ⟨s,rfl,rfl⟩
 refine rn ?_;exact zal rfl (.refl _ _) ⟨s,rfl,rfl⟩
theorem ygq (h:Hist) (la:Lim 4611686018427387904 h) (x:Int):y8 Tryz.prog 101 [.agg (y9 h),iv x] (.glob 2 156 y2:: .glob 4 305 y3:: .glob 5 308 z8:: .glob 3 246 w6:: []) (fun r h'=>∃s:SV,h'= .row s.v 1 3 ((onE (zfj h x h.os.length) (zaj h x)).map za9):: .glob 2 156 y2:: .glob 4 305 y3:: .glob 5 308 z8:: .glob 3 246 w6:: []∧r= .tup [.v s.v,iv (zfj h x h.os.length)]):=by
 refine z6 Tryz.func101 rfl rfl rfl ?_
 refine rn ?_;refine z7 rfl (w7 rfl rfl rfl fun b2=> ?_)
 refine z7 rfl (w7 rfl rfl rfl fun b3=> ?_)
 refine rn ?_;refine z7 rfl (q7 rfl rfl (y1.perm ((pt2 _ _ _ _).trans (.cons _ ((pt2 _ _ _ _).trans (.cons _ ((pt2 _ _ _ _).trans (.cons _ ((pt2 _ _ _ _).trans (.cons _ (pt1 _ _ _))))))))) (y1.of_fun (yds h la x (h.os.map zfk).length (.fn (.func 151) [] [pZ b2,pZ b3]) rfl (zaj h x) [.box b2 28 (y9 h),.box b3 3 [iv x]] (fun he=>y1.of_acall (fs:= []) (cs:= [pZ b2,pZ b3]) (yj4 h (zzf he) x b2 b3))))) rfl ?_)
 rintro _ _ ⟨s,rfl,rfl⟩
 refine rn ?_;exact zbj rfl rfl (.trans (.perm ((pt5 _ _ _ _ _ _ _).trans (.cons _ (pt5 _ _ _ _ _ _ _))) _) (.drop [_,_] _ _)) ⟨s,by simp only [oM],by simp only [oM];rfl⟩
theorem ydp (h:Hist) (la:Lim 4611686018427387904 h) (x:Int):y8 Tryz.prog 101 [.agg (y9 h),iv x] (.glob 2 156 y2:: .glob 4 305 y3:: .glob 5 308 z8:: .glob 3 246 w6:: []) (fun r h'=>h'= .glob 2 156 y2:: .glob 4 305 y3:: .glob 5 308 z8:: .glob 3 246 w6:: []∧r= .tup [za6 (onE (zfj h x h.os.length) (zaj h x)),iv (zfj h x h.os.length)]):=
 (ygq h la x).ventR (by rintro _ _ ⟨s,rfl,rfl⟩;exact ⟨_,_,zay [] [_],rfl,rfl⟩)
theorem yng {l:List Ev} {t x:Int} {a:Nat} (ha:l.length≤a) (h0:(((zed (zex t x a) l l.length).map zi2).length:Int)=0):zi5 l t x=none:=by
 have hl:=zi1 l t x a l.length (Nat.le_refl _)
 rw [Nat.min_eq_left ha] at hl
 rw [zi5,←hl]
 generalize zed (zex t x a) l l.length=L at *
 rw [oM] at h0
 cases L with
 |nil=>rfl
 |cons b r=>rw [List.length_cons] at h0;omega
theorem ynf {l:List Ev} {t x:Int} {a:Nat} (h0:(((zed (zex t x a) l l.length).map zi2).length:Int)≠0):∃p,zd2 l t x (min l.length a)=some p∧((zed (zex t x a) l l.length).map zi2)[((((zed (zex t x a) l l.length).map zi2).length:Int) - 1).toNat]? =some (zi2 p)∧0≤(((zed (zex t x a) l l.length).map zi2).length:Int) - 1∧((((zed (zex t x a) l l.length).map zi2).length:Int) - 1).toNat < ((zed (zex t x a) l l.length).map zi2).length:=by
 have hl:=zi1 l t x a l.length (Nat.le_refl _)
 generalize zed (zex t x a) l l.length=L at *
 rw [oM] at h0 ⊢
 have hn:0 < L.length:=by omega
 refine ⟨L[L.length - 1],?_,?_,by omega,by omega⟩
 ·rw [←hl,List.getLast?_eq_getElem?,List.getElem?_eq_getElem (by omega)]
 ·rw [show ((L.length:Int) - 1).toNat=L.length - 1 by omega,List.getElem?_map,List.getElem?_eq_getElem (by omega)];rfl
def ycb (h:Hist) (t x:Int):Ver×Nat:=(zi5 h.evs t x).getD (⟨0,0⟩,0)
theorem ykl (h:Hist) (t x:Int):(ycb h t x).1=zzu (zi5 h.evs t x):=by rw [ycb];cases zi5 h.evs t x <;> rfl
theorem ykm (h:Hist) (t x:Int):(((ycb h t x).2:Nat):Int)=atO (zi5 h.evs t x):=by rw [ycb];cases zi5 h.evs t x <;> rfl
def yh1 (h:Hist) (t x:Int):Option (Ver×Nat):=if q6 h=0 then zi5 h.evs t x else none
theorem yb1 (h:Hist) (la:h.evs.length≤1000000) (t x:Int) (a:Nat) (W:List Res):y8 Tryz.prog 153 [.agg (y9 h),iv t,iv x,iv a] W (fun r h'=>∃s:SV,h'= .row s.v 3 139 ((zed (zex t x a) h.evs h.evs.length).map zi2)::W∧r= .v s.v):=by
 refine z6 Tryz.func153 rfl rfl rfl ?_
 refine rn ?_;refine z7 rfl (w7 rfl rfl rfl fun b4=> ?_)
 refine z7 rfl (w7 rfl rfl rfl fun b5=> ?_)
 refine z7 rfl (w7 rfl rfl rfl fun b6=> ?_)
 refine z7 rfl (w7 rfl rfl rfl fun b7=> ?_)
 refine rn ?_;refine z7 rfl (q7 rfl rfl (y1.of_fun (yj6 h la 2 _ rfl _ (fun k e=>(e.v,k)) (fun k e=>e.t==t && e.o==x && decide (k < a)) (fun k hk _=>y1.qt (y1.of_acall (fs:= []) (cs:= [pZ b5,pZ b6,pZ b7]) (ygn k a t x h.evs[k] b5 b6 b7)) ((pt2 _ _ _ _).trans (.cons _ (pt1 _ _ _)))))) rfl ?_)
 rintro _ _ ⟨s,rfl,rfl⟩
 refine rn ?_;exact zal rfl (.trans (.perm ((pt1 _ _ _).trans (.cons _ ((pt1 _ _ _).trans (.cons _ ((pt1 _ _ _).trans (.cons _ (pt1 _ _ _))))))) _) (.drop [_,_,_,_] _ _)) ⟨s,rfl,rfl⟩
theorem ym4 (h:Hist) (la:h.evs.length≤1000000) (t x:Int) (W:List Res):y8 Tryz.prog 104 [.agg (y9 h),iv t,iv x] W (fun r h'=>h'=W∧r= .tup [.agg (zi2 (ycb h t x)),bv (zi5 h.evs t x).isSome]):=by
 refine z6 Tryz.func104 rfl rfl rfl ?_
 refine rn ?_;refine z7 rfl (w7 rfl rfl rfl fun b3=> ?_)
 refine z7 rfl (y7 rfl fun b6=> ?_)
 refine q1 ?_;refine v8 (zak ?_)
 refine w8 (y6 ?_)
 refine q1 ?_;refine q1 ?_;refine q1 ?_;refine q1 ?_;refine q1 ?_;refine q1 ?_;rw [oM]
 refine z7 rfl (q7 rfl rfl (y1.of_fun (yb1 h la t x h.evs.length _)) rfl ?_)
 rintro _ _ ⟨s,rfl,rfl⟩
 refine rn ?_;refine y0 rfl (fun hc18=> ?_) (fun hc18=> ?_)
 ·have hw:=yng (l:=h.evs) (t:=t) (x:=x) (a:=h.evs.length) (Nat.le_refl _) (by simpa using hc18)
  refine w8 (y6 ?_)
  refine qq rfl rfl (u9 (out:= [iv 0,iv 0,iv 0]) rfl (by rfl)) ?_
  refine rn ?_;exact zdt (.cons _ _ _ _ (.agg _ _ _ _ _ _ _ rfl inferInstance inferInstance inferInstance rfl) (.cons _ _ _ _ (.tmp _ _ rfl) .nil)) (.drop [_,_,_] _ _) ⟨rfl,by rw [ycb,hw];rfl⟩
 ·obtain ⟨p,hp,f1,f2,f3⟩:=ynf (l:=h.evs) (t:=t) (x:=x) (a:=h.evs.length) (by simpa using hc18)
  rw [Nat.min_self] at hp
  have hL:=zgn (zex t x h.evs.length) h.evs h.evs.length
  refine zbs ?_;refine zak ?_;refine w8 (y6 ?_)
  refine q1 ?_;refine q1 ?_;refine q1 ?_;refine qq rfl rfl (zfe rfl rfl rfl (by rw [oM];omega)) ?_
  refine qq rfl rfl (znu rfl rfl f2 f3) ?_
  refine qq rfl rfl (zg1 rfl f1 rfl) ?_
  refine rn ?_;exact zdt (.cons _ _ _ _ (.agg _ _ _ _ _ _ _ rfl inferInstance inferInstance inferInstance rfl) (.cons _ _ _ _ (.tmp _ _ rfl) .nil)) (.drop [_,_,_] _ _) ⟨rfl,by rw [ycb,zi5,hp];rfl⟩
theorem ygr (h:Hist) (la:Lim 4611686018427387904 h) (t x:Int):y8 Tryz.prog 121 [.agg (y9 h),iv t,iv x] (.glob 2 156 y2:: .glob 4 305 y3:: .glob 5 308 z8:: .glob 3 246 w6:: []) (fun r h'=>h'= .glob 2 156 y2:: .glob 4 305 y3:: .glob 5 308 z8:: .glob 3 246 w6:: []∧r= .tup [.agg (yac (zzu (yh1 h t x))),iv (atO (yh1 h t x)),bv (yh1 h t x).isSome]):=by
 refine z6 Tryz.func121 rfl rfl rfl ?_
 refine rn ?_;refine z7 rfl (w7 rfl rfl rfl fun b3=> ?_)
 refine z7 rfl (y7 rfl fun b6=> ?_)
 refine rn ?_;refine qv rfl rfl (y4 rfl rfl (y1.qt (y1.of_fun (zrr h la)) ((pt2 _ _ _ _).trans (.cons _ ((pt2 _ _ _ _).trans (.cons _ ((pt2 _ _ _ _).trans (.cons _ (pt2 _ _ _ _))))))))) ?_
 refine rn ?_;refine y0 rfl (fun hc13=> ?_) (fun hc13=> ?_)
 ·have hc:q6 h≠0:=by simpa using hc13
  refine w8 (y6 ?_)
  refine qq rfl rfl (u9 (out:= [iv 0,iv 0]) rfl (by rfl)) ?_
  refine rn ?_;exact zdt (.cons _ _ _ _ (.agg _ _ _ _ _ _ _ rfl inferInstance inferInstance inferInstance rfl) (.cons _ _ _ _ (.tmp _ _ rfl) (.cons _ _ _ _ (.tmp _ _ rfl) .nil))) (.drop [_,_] _ _) ⟨rfl,by rw [yh1,if_neg hc];rfl⟩
 ·have hc:q6 h=0:=by simpa using hc13
  refine rn ?_;refine qv rfl rfl (y4 rfl rfl (y1.of_fun (ym4 h (yhd hc) t x _))) ?_
  refine rn ?_;refine z7 rfl (y7 rfl fun b9=> ?_)
  refine rn ?_;refine zdj 7 [(b6,57,_)] rfl ((pt1 _ _ _).trans (List.perm_append_comm (l₁:= [_]))) ?_
  refine rn ?_;refine dw 0 rfl rfl rfl rfl rfl (Nat.le_of_ble_eq_true rfl) ?_
  refine rn2 ?_;show zb5 _ _ _ _ _ _ ⟨_,.box b6 57 (yac (ycb h t x).1):: .box b9 139 (zi2 (ycb h t x)):: .box b3 28 (y9 h):: .glob 2 156 y2:: .glob 4 305 y3:: .glob 5 308 z8:: .glob 3 246 w6:: [],_⟩
  refine rn ?_;exact zdt (.cons _ _ _ _ (.agg _ _ _ _ _ _ _ rfl inferInstance inferInstance inferInstance rfl) (.cons _ _ _ _ (.tmp _ _ rfl) (.cons _ _ _ _ (.tmp _ _ rfl) .nil))) (.drop [_,_,_] _ _) ⟨rfl,by rw [yh1,if_pos hc,←ykl,←ykm];rfl⟩
end Go.Proofs
namespace Go.Ab
open Go
section
variable {P:Program} {ro:Option Nat} {nt:Nat} {c:Code} {Q:Exit→St→Prop} {t:Fr} {h:List Res} {ds:List Nat}
end
end Go.Ab
set_option maxRecDepth 10000
namespace Go.Proofs
open Go Go.Ab
attribute [local irreducible] QR QV OE zb5 aw zce zcn za2 zbr thn zd9
open Go.H
attribute [local irreducible] zcl jch zd7
end Go.Proofs
namespace Go.Ab
open Go
section
variable {P:Program} {dst:Option Tmp} {ty:TypeId} {pos:String} {after:Array Edge} {guard:Option (Nat×Bool)} {x:Operand} {h:List Res} {f:Operand→Option AV}
end
end Go.Ab
set_option maxRecDepth 10000
namespace Go.Proofs
open Go Go.Ab
attribute [local irreducible] QR QV OE zb5 aw zce zcn za2 zbr thn zd9
open Go.H
attribute [local irreducible] zcl jch zd7
theorem yjv {l:List Ev} {t x:Int} {j:Nat} (h:j < l.length) (hw:zbo t x l[j]=true):zd2 l t x (j+1)=some (l[j].v,j):=by
 rw [zd2,List.getElem?_eq_getElem h];simp only [hw,if_true]
theorem zxu {l:List Ev} {t x:Int} {j:Nat} (h:j < l.length) (hw:zbo t x l[j]=false):zd2 l t x (j+1)=zd2 l t x j:=by
 rw [zd2,List.getElem?_eq_getElem h];simp [hw]
theorem ydt (a b:Int):(decide (a ≥ 0) && decide (a < b))=decide (0≤a∧a < b):=by
 rw [Bool.eq_iff_iff];simp only [Bool.and_eq_true,decide_eq_true_eq,ge_iff_le]
theorem zyc {h:Hist} {N:Nat} (la:Lim N h) (x:Int):(zok h x).length≤N:=by
 unfold zok
 split
 ·rename_i o ho;exact la.ordts o (List.mem_of_find?_eq_some ho)
 ·exact Nat.le_trans (zqo _ _) la.ts
def wlM (l:List Ev):Nat→List ((Int×Int)×Int)
 |0=> []
 |k+1=>match l[k]? with
  |some e=>if (e.kind==2)=true then zcq (e.t,e.o) (k:Int) (wlM l k) else wlM l k
  |none=>wlM l k
theorem yen {l:List Ev} {k:Nat} (hk:k < l.length) (hw:(l[k].kind==2)=true):wlM l (k+1)=zcq (l[k].t,l[k].o) (k:Int) (wlM l k):=by
 rw [wlM,List.getElem?_eq_getElem hk];simp only [hw,if_true]
theorem yeo {l:List Ev} {k:Nat} (hk:k < l.length) (hw:(l[k].kind==2)=false):wlM l (k+1)=wlM l k:=by
 rw [wlM,List.getElem?_eq_getElem hk];simp only [hw];rfl
theorem zv2 (l:List Ev) (t x:Int):∀k,k≤l.length→(zap (t,x) (wlM l k)).getD 0=atO (zd2 l t x k)
 |0,_=>rfl
 |k+1,hk=>by
  have ih:=zv2 l t x k (by omega)
  have hk':k < l.length:=hk
  cases hw:l[k].kind==2 with
  |false=>
   have:zbo t x l[k]=false:=by rw [zbo,hw];rfl
   rw [yeo hk' hw,zxu hk' this,ih]
  |true=>
   rw [yen hk' hw,zbl]
   cases hq:zbo t x l[k] with
   |true=>
    rw [yjv hk' hq,if_pos]
    ·rfl
    ·simp only [zbo,Bool.and_eq_true,beq_iff_eq] at hq
     rw [hq.1.2,hq.2]
   |false=>
    rw [zxu hk' hq,if_neg,ih]
    intro e
    rw [Prod.mk.injEq] at e
    simp [zbo,hw,e.1,e.2] at hq
theorem zsp (h:Hist) (t x:Int):(zap (t,x) (wlM h.evs h.evs.length)).getD 0=zb9 h t x:=zv2 _ _ _ _ (Nat.le_refl _)
abbrev ydu (h:Hist):AV:= .list false 1 (((upR h.os.length).map (zaj h)).map yas)
abbrev zbt (h:Hist) (rm:Nat):Res:= .map rm (j9 zan (zau iv (wlM h.evs h.evs.length)))
theorem zh5 (h:Hist) {x:Int} (h0:0≤x) (h1:x < h.os.length):(((upR h.os.length).map (zaj h)).map yas)[x.toNat]? =some (yas (zaj h x)):=by
 have hx:(upR h.os.length)[x.toNat]? =some x:=by
  rw [upR,List.getElem?_map,List.getElem?_range (by omega)];simp [Int.toNat_of_nonneg h0]
 rw [List.getElem?_map,List.getElem?_map,hx];rfl
theorem ydq (h:Hist) (la:Lim 4611686018427387904 h) (hc:q6 h=0) (x:Int) (h0:0≤x) (h1:x < h.os.length):y8 Tryz.prog 101 [.agg (y9 h),iv x] (.glob 2 156 y2:: .glob 4 305 y3:: .glob 5 308 z8:: .glob 3 246 w6:: []) (fun r h'=>h'= .glob 2 156 y2:: .glob 4 305 y3:: .glob 5 308 z8:: .glob 3 246 w6:: []∧r= .tup [za6 (zaj h x),iv 0]):=(ydp h la x).mono fun _ _ q=>⟨q.1,by rw [q.2,zsd hc ⟨h0,h1⟩];rfl⟩
theorem zlf {h:Hist} (hc:q6 h=0) {x:Int} (h0:0≤x) (h1:x < h.os.length):(zaj h x).length≤3000:=by
 rw [(zhg (zat.1 hc) h0 h1).2.1]
 exact Nat.le_trans (zih h.evs x) (zdh hc).evs
end Go.Proofs
namespace Go.H
open Go Go.Ab
def zx5 (k:Int):Int:=if k=3 then 3 else if k=4 then 4 else 0
def KO (o:Obj):Prop:=∃(ents:Array MapEntry) (clock:Nat) (m:List (Int×Int)),o= .map ents clock∧ents.toList.map (·.key)=(m.map (·.1)).map intK∧(∀i (h1:i < m.length) (h2:i < ents.size),ents[i].val= .int .i64 m[i].2)∧m.length=ents.size∧∀k,(zap k m).getD 0=zx5 k
section
variable {P:Program} {dst:Option Tmp} {ty:TypeId} {pos:String} {after:Array Edge} {guard:Option (Nat×Bool)} {x y:Operand} {h:List Res} {f:Operand→Option AV} {kt et T:TypeId} {r i:Nat} {k:Int}
theorem ya3 {kv:AV} {o:Obj} {z:Value} (ho:KO o) (hx:f x=some (.v (.map (some r)))) (hy:f y=some kv) [hkv:KeyV kv (intK k)] [hm:HasObj h r i o] [hu:Und P T (.map kt et)] [hkt:KeyT P kt intK] [hz:ZerV P et z] [hd:ZV z (iv 0)]:
 QR P h f ⟨dst,.lookup T x y false,ty,pos,after,guard⟩ (iv (zx5 k)):=by
 obtain ⟨ents,clock,m,rfl,hks,hv,hl,hk⟩:=ho
 rw [←hk]
 refine zhc (b:=iv ((zap k m).getD 0)) (a:=(zcv k (zau iv m)).getD (.v z)) (fun w O v hr=>zkc hr) fun X ρ w hev=> ?_
 have hob:=(hev.heap.holds _ (List.mem_of_getElem? hm.h)).1
 have hl':(zau iv m).length=ents.toList.length:=by simpa [zau] using hl
 have hks':ents.toList.map (·.key)=((zau iv m).map (·.1)).map intK:=by rw [hks];simp [zau]
 have hfind:=hkt.find w k ents.toList ((zau iv m).map (·.1)) hks'
 have hkey:=hkv.h w _ _ (hev.rel y _ hy)
 rcases zi6 k (zau iv m) ents.toList 0 hl' with ⟨a,b,c⟩|⟨j,g1,g2,a,b,c,d⟩
 ·refine ⟨z,run_v _ ?_,by rw [b];exact .v _⟩
  rw [(hev.rel x _ hx).v_eq,hkey]
  simp only [Instr.lookup,Sem.run_bind,Go.Ab.run_underlying (h:=hu),Result.andThen_ok,MapKept.run_getObj_map hob,Sem.run_pure,hkt.chk,hfind]
  rw [a]
  simp [run_zeroValue hz.h]
 ·have g3:j < m.length:=by simpa [zau] using g1
  refine ⟨(ents[j]'(by simpa using g2)).val,run_v _ ?_,?_⟩
  ·rw [(hev.rel x _ hx).v_eq,hkey]
   simp only [Instr.lookup,Sem.run_bind,Go.Ab.run_underlying (h:=hu),Result.andThen_ok,MapKept.run_getObj_map hob,Sem.run_pure,hkt.chk,hfind]
   rw [a]
   simp
  ·rw [b,hv j g3 (by omega)]
   simp only [zau,List.getElem_map,Option.getD_some]
   exact .v _
end
end Go.H
set_option maxRecDepth 10000
namespace Go.Proofs
open Go Go.Ab
attribute [local irreducible] QR QV OE zb5 aw zce zcn za2 zbr thn zd9 zcl jch zd7
open Go.H
abbrev rcR (h:Hist) (rc:Nat):Res:= .map rc (j9 intK (zau bv (dnM (zco h.evs))))
abbrev rkS (h:Hist) (rk:Nat):Res:= .map rk (j9 zb4 (zau iv (rkM h h.os.length)))
abbrev rgR (rg:Nat) (M:List ((Int×Int)×List Int)):Res:= .map rg (j9 zan (zau za6 M))
abbrev rwP (h:Hist) (rc rl rk rg:Nat):List AV:=y9 h++ [mpv rc,ydu h,mpv rl,mpv rk,mpv rg]
instance:ZV (.slice none 0 0) (za6 []):=⟨fun w O u h=>by rw [h.v_eq];exact .lnil _ _ _ _ (fun q=>by cases q)⟩
theorem yis (h:Hist) (n:Nat):rkM h (n+1)=zfx h n 0 (zaj h n) (zcq (zou n ⟨0,0⟩) 0 (rkM h n)):=rfl
def zei (h:Hist) (M:List ((Int×Int)×List Int)):Prop:=∀p l,zap p M=some l→l=chL h p.1 p.2
theorem zkl (h:Hist):zei h []:=fun p l e=>by cases e
theorem zkk {h:Hist} {M:List ((Int×Int)×List Int)} (hM:zei h M) (p x:Int):zei h (zcq (p,x) (chL h p x) M):=fun q l e=>by
 rw [zbl] at e
 split at e
 ·rename_i z;injection e with e;rw [←e,←z]
 ·exact hM q l e
theorem zkm {h:Hist} {M:List ((Int×Int)×List Int)} (hM:zei h M) {p x:Int} (hs:(!(zap (p,x) M).isSome)=false):(zap (p,x) M).getD []=chL h p x:=by
 cases hq:zap (p,x) M with
 |none=>rw [hq] at hs;simp at hs
 |some v=>exact hM (p,x) v hq
theorem ztz {h:Hist} {M:List ((Int×Int)×List Int)} (p x:Int):(zap (p,x) (zcq (p,x) (chL h p x) M)).getD []=chL h p x:=by rw [zbl,if_pos rfl];rfl
instance:Chk3 Tryz.prog 170:=⟨fun e w a b c=>by kernel_rfl⟩
theorem yor (h:Hist) (la:Lim 4611686018427387904 h):y8 Tryz.prog 87 [.agg (y9 h)] (.glob 2 156 y2:: .glob 4 305 y3:: .glob 5 308 z8:: .glob 3 246 w6:: []) (fun r h'=>(q6 h=0∧∃rc rl rk rg,h'=rgR rg []::rkS h rk::zbt h rl::rcR h rc:: .glob 2 156 y2:: .glob 4 305 y3:: .glob 5 308 z8:: .glob 3 246 w6:: []∧r= .tup [.agg (rwP h rc rl rk rg),iv 0])∨(q6 h≠0∧h'= .glob 2 156 y2:: .glob 4 305 y3:: .glob 5 308 z8:: .glob 3 246 w6:: []∧r= .tup [.agg (zmc++ [nmp,.v (.slice none 0 0),nmp,nmp,nmp]),iv (q6 h)])):=by
 refine z6 Tryz.func87 rfl rfl rfl ?_
 refine rn ?_;refine z7 rfl (w7 rfl rfl rfl fun b1=> ?_)
 refine z7 rfl (y7 rfl fun b2=> ?_)
 refine rn ?_;refine qv rfl rfl (y4 rfl rfl (y1.qt (y1.of_fun (zx7 h la)) ((pt2 _ _ _ _).trans (.cons _ ((pt2 _ _ _ _).trans (.cons _ ((pt2 _ _ _ _).trans (.cons _ (pt2 _ _ _ _))))))))) ?_
 refine rn ?_;refine y0 rfl (fun hc22=> ?_) (fun hc22=> ?_)
 ·have hc:=nzT hc22
  refine rn ?_;exact zdt (.cons _ _ _ _ (.agg _ _ _ _ _ _ _ rfl inferInstance inferInstance inferInstance rfl) (.cons _ _ _ _ (.tmp _ _ rfl) .nil)) (.drop [_,_] _ _) (.inr ⟨hc,rfl,rfl⟩)
 ·have hc:=nzF hc22
  have hts:onE (q6 h) (zco h.evs)=(zco h.evs):=by rw [hc,onE,if_pos rfl]
  rw [hts]
  have hs:=zat.1 hc
  have lA:=zdh hc
  have lO:=lA.os
  have lE:=lA.evs
  have bC:=Nat.le_trans (zyz h.evs) lA.evs
  refine rn ?_;refine z7 rfl (zac (enc:=intK) rfl fun b26=> ?_)
  refine z7 rfl (zac (enc:=zan) rfl fun b27=> ?_)
  refine z7 rfl (zac (enc:=zb4) rfl fun b28=> ?_)
  refine z7 rfl (zac (enc:=zan) rfl fun b29=> ?_)
  refine qq rfl rfl (u9 (out:=y9 h++ [mpv b26,.v (.slice none 0 0),mpv b27,mpv b28,mpv b29]) rfl (by rfl)) ?_
  refine z7 rfl (y7 rfl fun b6=> ?_)
  refine rn ?_;refine zby (zco h.evs).length (fun _=>True) (fun k=>⟨[(33,iv k),(1,pZ b1),(2,pZ b2),(6,pZ b6),(31,za6 (zco h.evs)),(32,iv ((zco h.evs).map za9).length)],.box b6 119 (y9 h++ [mpv b26,.v (.slice none 0 0),mpv b27,mpv b28,mpv b29]):: .map b29 (j9 zan (zau za6 [])):: .map b28 (j9 zb4 (zau iv [])):: .map b27 (j9 zan (zau iv (wlM h.evs 0))):: .map b26 (j9 intK (zau bv (dnM ((zco h.evs).take k)))):: .box b2 119 (zmc++ [nmp,.v (.slice none 0 0),nmp,nmp,nmp]):: .box b1 28 (y9 h):: .glob 2 156 y2:: .glob 4 305 y3:: .glob 5 308 z8:: .glob 3 246 w6:: [],[]⟩) trivial es ?_
  intro k lk _
  refine rn ?_;refine y0 rfl (fun hc34=> ?_) (fun hc34=> ?_)
  ·have hk:=zde hc34
   have rk:=zbn (f:=za9) hk
   refine rn ?_;refine z7 rfl (j8 (g:=bv) (enc:=intK) (k:=(zco h.evs)[k]) (v:=true) rfl rfl rfl ?_)
   refine rn ?_;exact ⟨hk,trivial,by rw [yk2 hk];exact eA⟩
  ·have qk:=zdg hc34 lk
   rw [qk,List.take_length]
   refine rn ?_;refine zby h.evs.length (fun _=>True) (fun j=>⟨[(44,iv j),(1,pZ b1),(2,pZ b2),(6,pZ b6),(42,zyn h.evs),(43,iv (h.evs.map evR).length)],.box b6 119 (y9 h++ [mpv b26,.v (.slice none 0 0),mpv b27,mpv b28,mpv b29]):: .map b29 (j9 zan (zau za6 [])):: .map b28 (j9 zb4 (zau iv [])):: .map b27 (j9 zan (zau iv (wlM h.evs j))):: .map b26 (j9 intK (zau bv (dnM (zco h.evs)))):: .box b2 119 (zmc++ [nmp,.v (.slice none 0 0),nmp,nmp,nmp]):: .box b1 28 (y9 h):: .glob 2 156 y2:: .glob 4 305 y3:: .glob 5 308 z8:: .glob 3 246 w6:: [],[]⟩) trivial es ?_
   intro j lj _
   refine rn ?_;refine y0 rfl (fun hc45=> ?_) (fun hc45=> ?_)
   ·have hj:=zde hc45
    have rj:=zbn (f:=evR) hj
    refine rn ?_;refine z7 rfl (y7 rfl fun b10=> ?_)
    refine rn ?_;refine y0 rfl (fun hc51=> ?_) (fun hc51=> ?_)
    ·have hw:(h.evs[j].kind==2)=true:=by simpa using hc51
     refine y6 ?_;refine q1 ?_;refine q1 ?_;refine q1 ?_;refine q1 ?_;refine q1 ?_;refine q1 ?_;refine qq rfl rfl (zbk (out:= [iv h.evs[j].t,iv h.evs[j].o]) rfl (by rfl)) ?_
     refine rn ?_;refine z7 rfl (j8 (g:=iv) (enc:=zan) (k:=(h.evs[j].t,h.evs[j].o)) (v:=(j:Int)) rfl rfl rfl ?_)
     refine rn ?_;first|exact ⟨hj,trivial,by rw [yen hj hw];exact eA⟩|exact ⟨hj,trivial,by rw [yeo hj hw];exact eA⟩
    ·have hw:(h.evs[j].kind==2)=false:=by simpa using hc51
     refine rn ?_;first|exact ⟨hj,trivial,by rw [yen hj hw];exact eA⟩|exact ⟨hj,trivial,by rw [yeo hj hw];exact eA⟩
   ·have qj:=zdg hc45 lj
    subst qj
    refine rn ?_;refine zl1 h.os.length (fun k s=>⟨[(64,iv k),(1,pZ b1),(2,pZ b2),(6,pZ b6),(63,iv (h.os.map zfk).length)],.row s.v 1 29 (((upR k).map (zaj h)).map yas):: .box b6 119 (y9 h++ [mpv b26,.v s.v,mpv b27,mpv b28,mpv b29]):: .map b29 (j9 zan (zau za6 [])):: .map b28 (j9 zb4 (zau iv (rkM h k))):: .map b27 (j9 zan (zau iv (wlM h.evs h.evs.length))):: .map b26 (j9 intK (zau bv (dnM (zco h.evs)))):: .box b2 119 (zmc++ [nmp,.v (.slice none 0 0),nmp,nmp,nmp]):: .box b1 28 (y9 h):: .glob 2 156 y2:: .glob 4 305 y3:: .glob 5 308 z8:: .glob 3 246 w6:: [],[]⟩) ⟨none,0,0⟩ (v6 (za1 1 29) es) ?_
    intro k s lk
    refine rn ?_;refine y0 rfl (fun hc65=> ?_) (fun hc65=> ?_)
    ·have hk:k < h.os.length:=by have q:=oT hc65;rw [oM] at q;omega
     have k0:(0:Int)≤(k:Int):=by omega
     have k1:(k:Int) < h.os.length:=by omega
     have hb:=zlf hc k0 k1
     refine rn ?_;refine qv rfl rfl (y4 rfl rfl (y1.qt (y1.of_fun (ydq h la hc k k0 k1)) ((pt8 _ _ _ _ _ _ _ _ _ _).trans (.cons _ ((pt8 _ _ _ _ _ _ _ _ _ _).trans (.cons _ ((pt8 _ _ _ _ _ _ _ _ _ _).trans (.cons _ (pt8 _ _ _ _ _ _ _ _ _ _))))))))) ?_
     refine rn ?_;refine qv rfl rfl (w9 rfl rfl) ?_
     refine z7 rfl (j6 rfl rfl (by simp only [oM,upR,List.length_range,List.length_cons,List.length_nil];omega) rfl (fun s77=> ?_) (fun r hr=>by rw [List.mem_singleton.1 hr];rfl))
     refine zam s77 fun sv hsv=> ?_
     subst hsv
     refine q1 ?_;first|refine z7 rfl (u5 rfl rfl rfl ?_)|refine z7 rfl (zaf rfl rfl rfl rfl (Nat.le_of_ble_eq_true rfl) ?_)
     refine v8 (zak ?_)
     refine w8 (y6 ?_)
     refine q1 ?_;refine q1 ?_;refine q1 ?_;refine qq rfl rfl (u9 (out:= [iv k,iv 0,iv 0]) rfl (by rfl)) ?_
     refine z7 rfl (j8 (g:=iv) (enc:=zb4) (k:=((k:Int),(0:Int),(0:Int))) (v:=(0:Int)) rfl rfl rfl ?_)
     refine rn ?_;refine zby (zaj h k).length (fun _=>True) (fun j=>⟨[(85,iv j),(1,pZ b1),(2,pZ b2),(6,pZ b6),(11,iv k),(63,iv (h.os.map zfk).length),(64,iv k),(83,za6 (zaj h k)),(84,iv ((zaj h k).map za9).length)],.row sv.v 1 29 (((upR k).map (zaj h)).map yas++ [yas (zaj h k)]):: .box b6 119 (y9 h++ [mpv b26,.v sv.v,mpv b27,mpv b28,mpv b29]):: .map b29 (j9 zan (zau za6 [])):: .map b28 (j9 zb4 (zau iv (zfx h k 0 ((zaj h k).take j) (zcq (zou k ⟨0,0⟩) 0 (rkM h k))))):: .map b27 (j9 zan (zau iv (wlM h.evs h.evs.length))):: .map b26 (j9 intK (zau bv (dnM (zco h.evs)))):: .box b2 119 (zmc++ [nmp,.v (.slice none 0 0),nmp,nmp,nmp]):: .box b1 28 (y9 h):: .glob 2 156 y2:: .glob 4 305 y3:: .glob 5 308 z8:: .glob 3 246 w6:: [],[]⟩) trivial es ?_
     intro j lj _
     refine rn ?_;refine y0 rfl (fun hc86=> ?_) (fun hc86=> ?_)
     ·have hj:=zde hc86
      have rj:=zbn (f:=za9) hj
      obtain ⟨i,hi,a1,a2, -⟩:=zn3 hs k0 k1 hj
      have ri:=zbn (f:=evR) hi
      have hfv:zf8 h k (zaj h k)[j]=h.evs[i].v:=by rw [zf8,a1];rfl
      refine rn ?_;refine j4 17 rfl ?_
      refine dq rfl rfl qrA ?_;refine dq rfl rfl qrA ?_;refine dq rfl rfl qrA ?_;refine dq rfl rfl qrA ?_;refine dq rfl rfl qrA ?_;refine dq rfl rfl qrA ?_;refine dq rfl rfl qrA ?_;refine dq rfl rfl qrA ?_;refine dq rfl rfl qrA ?_;refine dq rfl rfl (zbk (out:= [iv (zaj h k)[j],iv k]) rfl (by rfl)) ?_
      refine dq rfl rfl (zpc (za0 (enc:=zan) (k:=((zaj h k)[j],(k:Int))) 0 rfl rfl) (show iv _=iv (i:Nat) from congrArg iv (by rw [zsp,a2]))) ?_
      refine dq rfl rfl (zaw rfl rfl ri) ?_
      refine dq rfl rfl qrA ?_;refine dq rfl rfl qrA ?_;refine dq rfl rfl (u9 (out:= [iv k,iv h.evs[i].v.t,iv h.evs[i].v.k]) rfl (by rfl)) ?_
      refine dq rfl rfl qrA ?_;refine dq rfl rfl (zfe rfl rfl rfl (by omega)) ?_
      refine rn ?_;refine z7 rfl (j8 (g:=iv) (enc:=zb4) (k:=((k:Int),h.evs[i].v.t,h.evs[i].v.k)) (v:=(j:Int)+1) rfl rfl rfl ?_)
      refine rn ?_;exact ⟨hj,trivial,by rw [zw0 hj,hfv];exact eA⟩
     ·have qj:=zdg hc86 lj
      rw [qj,List.take_length]
      refine rn ?_;exact ⟨hk,sv,by rw [yad,List.map_append,List.map_append,yis];exact eA⟩
    ·have qk:k=h.os.length:=by have q:=oF hc65;rw [oM] at q;omega
     refine zjb ?_;refine zim ?_;refine zim ?_;refine zd8 ?_;refine zak ?_;refine w8 (y6 ?_)
     refine zgt (zg3 (y9 h++ [mpv b26]) [mpv b27,mpv b28,mpv b29]) ?_
     refine rn ?_;exact zdt (.cons _ _ _ _ (.agg _ _ _ _ _ _ _ rfl inferInstance inferInstance inferInstance rfl) (.cons _ _ _ _ (.tmp _ _ rfl) .nil)) (.trans (.perm (.cons _ ((pt4 _ _ _ _ _ _).trans (.cons _ (pt4 _ _ _ _ _ _)))) _) (.drop [_,_,_] _ _)) (.inl ⟨hc,b26,b27,b28,b29,by rw [qk],by rw [qk];rfl⟩)
theorem ylu {a:Int} (h:(a !=0)=true):a≠0:=by simpa using h
theorem ymw {a:Int} (h:(a !=0)=false):a=0:=by simpa using h
theorem yn5 {p:Prop} [Decidable p] (h:(!decide p)=true):¬p:=by simpa using h
theorem yn6 {p:Prop} [Decidable p] (h:(!decide p)=false):p:=by simpa using h
theorem ykh {l:List Mat} {q:Mat→Bool} (hc:decide (zbh q 0 l < 0)=false):∃k,∃hk:k < l.length,zbh q 0 l=(k:Int)∧l.find? q=some l[k]:=by
 have:=zea q l 0
 cases hf:l.find? q with
 |none=>rw [hf] at this;simp only at this;rw [this] at hc;exact absurd hc (by decide)
 |some o=>
  rw [hf] at this
  obtain ⟨k,hk,e,eo,_⟩:=this
  exact ⟨k,hk,by rw [e,Nat.zero_add],by rw [eo]⟩
theorem ync {l:List Mat} {q:Mat→Bool} (hc:decide (zbh q 0 l < 0)=true):l.find? q=none:=by
 have:=zea q l 0
 cases hf:l.find? q with
 |none=>rfl
 |some o=>
  rw [hf] at this
  obtain ⟨k,hk,e,eo,_⟩:=this
  rw [e] at hc
  have:=oT hc
  omega
theorem ybq {h:Hist} {N:Nat} (la:Lim N h) (p x:Int):(zzy h p x).ts.length≤N:=by
 rw [zzy,ylv]
 cases hf:h.mats.find? (yhw p x) with
 |none=>exact Nat.zero_le _
 |some m=>exact la.matts m (List.mem_of_find?_eq_some hf)
def ye2 (h:Hist) (p o:Int):List Bool:=if zhm h p o=0 then zsw h p o else []
theorem yju (a b:Int):y8 Tryz.prog 145 [iv a,iv b] [] (fun r h'=>h'= []∧r=bv (decide (0≤a∧a < b))):=by
 refine z6 Tryz.func145 rfl rfl rfl ?_
 refine rn ?_;refine u0 (fun hg1_2=> ?_) (fun hg1_2=> ?_)
 ·refine rn ?_;refine rq 0 ?_
  exact ⟨rfl,by rw [←ydt,hg1_2];rfl⟩
 ·refine rn ?_;refine rq 0 ?_
  exact ⟨rfl,by rw [←ydt,hg1_2];rfl⟩
theorem ym1 (m:Mat) (p x:Int) (b2 b3:Nat) (G:List Res):y8 Tryz.prog 147 [.agg (zee m),pZ b2,pZ b3] (.box b2 3 [iv p]:: .box b3 3 [iv x]::G) (fun r h'=>h'=(.box b2 3 [iv p]:: .box b3 3 [iv x]::G)∧r=bv (yhw p x m)):=by
 refine z6 Tryz.func147 rfl rfl rfl ?_
 refine rn ?_;refine z7 rfl (w7 rfl rfl rfl fun b3=> ?_)
 refine rn ?_;refine u0 (fun hg1_4=> ?_) (fun hg1_4=> ?_)
 ·refine rn ?_;refine rq 1 ?_
  exact ⟨rfl,congrArg bv (by unfold yhw;first|rfl|(simp_all;done))⟩
 ·refine rn ?_;refine rq 1 ?_
  exact ⟨rfl,congrArg bv (by unfold yhw;first|rfl|(simp_all;done))⟩
theorem ygh (l:List Mat) (fv:AV) (q:Mat→Bool) (G:List Res) (hp:∀a∈l,y1 Tryz.prog fv [.agg (zee a)] G (fun r h'=>h'=G∧r=bv (q a))) (hl:l.length≤4611686018427387904):y8 Tryz.prog 146 [ybm l,fv] G (fun r h'=>h'=G∧r= .tup [.agg (zee ((l.find? q).getD yhx)),bv (l.find? q).isSome]):=by
 refine z6 Tryz.func146 rfl rfl rfl ?_
 refine rn ?_;refine z7 rfl (y7 rfl fun b4=> ?_)
 refine rn ?_;refine qv rfl rfl (y4 rfl rfl (y1.qt (h2:= [_]) (y1.of_fun (zjp l _ q G hp hl)) (zdo [_] _))) ?_
 refine rn ?_;refine y0 rfl (fun hc11=> ?_) (fun hc11=> ?_)
 ·have hn:=ync hc11
  refine w8 (y6 ?_)
  refine qq rfl rfl (zhc (fun w O v hr=>Sb.rel (Sb.aggs (bs:=zee yhx) (by exact ⟨.refl _,.refl _,.refl _,.nil _ _,trivial⟩)) hr) (zhd rfl rfl)) ?_
  refine rn ?_;exact zdt (.cons _ _ _ _ (.agg _ _ _ _ _ _ _ rfl inferInstance inferInstance inferInstance rfl) (.cons _ _ _ _ (.tmp _ _ rfl) .nil)) (.drop [_] _ _) ⟨rfl,by rw [hn];rfl⟩
 ·obtain ⟨k,hk,ek,hx⟩:=ykh hc11
  have rk:=zbn (f:=zee) hk
  rw [ek]
  refine rn ?_;exact zdt (.cons _ _ _ _ (.agg _ _ _ _ _ _ _ rfl inferInstance inferInstance inferInstance rfl) (.cons _ _ _ _ (.tmp _ _ rfl) .nil)) (.drop [_] _ _) ⟨rfl,by rw [hx];rfl⟩
theorem yoj {h:Hist} {p x:Int} (he:zz0 h x≠0):zhm h p x=zz0 h x∧zhm h p x≠0:=by
 have:zhm h p x=zz0 h x:=by rw [zhm,if_neg he]
 exact ⟨this,by rw [this];exact he⟩
theorem yoi {h:Hist} {p x:Int} (hi:zz0 h x=0) (hp:¬(0≤p∧p < ((h.ps.map zfk).length:Int))):zhm h p x=2∧zhm h p x≠0:=by
 rw [oM] at hp
 have:zhm h p x=2:=by rw [zhm,if_pos hi,if_neg hp]
 exact ⟨this,by rw [this];decide⟩
theorem yoh {h:Hist} {p x:Int} (hi:zz0 h x=0) (hp:0≤p∧p < ((h.ps.map zfk).length:Int)):zhm h p x=0:=by
 rw [oM] at hp
 rw [zhm,if_pos hi,if_pos hp]
theorem yag {b:Bool} {l:List Int} {q:Int→Bool} {k:Nat} (hk:k < l.length):(b::(l.take (k+1)).map q).map zlx=(b::(l.take k).map q).map zlx++ [[bv (q l[k])]]:=by
 rw [List.take_succ_eq_append_getElem hk,List.map_append,←List.cons_append,List.map_append];rfl
theorem ygf (h:Hist) (la:Lim 4611686018427387904 h) (p x:Int):y8 Tryz.prog 98 [.agg (y9 h),iv p,iv x] (.glob 2 156 y2:: .glob 4 305 y3:: .glob 5 308 z8:: .glob 3 246 w6:: []) (fun r h'=>∃s:SV,h'= .row s.v 1 4 ((ye2 h p x).map zlx):: .glob 2 156 y2:: .glob 4 305 y3:: .glob 5 308 z8:: .glob 3 246 w6:: []∧r= .tup [.v s.v,iv (zhm h p x)]):=by
 refine z6 Tryz.func98 rfl rfl rfl ?_
 refine rn ?_;refine z7 rfl (w7 rfl rfl rfl fun b3=> ?_)
 refine z7 rfl (w7 rfl rfl rfl fun b4=> ?_)
 refine z7 rfl (w7 rfl rfl rfl fun b5=> ?_)
 refine rn ?_;refine qv rfl rfl (y4 rfl rfl (y1.qt (y1.of_fun (ydp h la x)) ((pt3 _ _ _ _ _).trans (.cons _ ((pt3 _ _ _ _ _).trans (.cons _ ((pt3 _ _ _ _ _).trans (.cons _ (pt3 _ _ _ _ _))))))))) ?_
 refine rn ?_;refine y0 rfl (fun hc21=> ?_) (fun hc21=> ?_)
 ·have he:=yoj (p:=p) (ylu hc21)
  refine rn ?_;exact zbj rfl rfl (.trans (.drop [_,_,_] _ _) (zag 1 4 _)) ⟨⟨none,0,0⟩,by rw [ye2,if_neg (he.2)];rfl,by rw [he.1];rfl⟩
 ·have hi:zz0 h x=0:=ymw hc21
  refine rn ?_;refine qv rfl rfl (y4 rfl rfl (zax (yju p (h.ps.map zfk).length) (Sbs.refl _))) ?_
  refine rn ?_;refine y0 rfl (fun hc25=> ?_) (fun hc25=> ?_)
  ·have he:=yoi (p:=p) hi (yn5 hc25)
   refine rn ?_;exact zbj rfl rfl (.trans (.drop [_,_,_] _ _) (zag 1 4 _)) ⟨⟨none,0,0⟩,by rw [ye2,if_neg (he.2)];rfl,by rw [he.1];rfl⟩
  ·have he:zhm h p x=0:=yoh hi (yn6 hc25)
   have lA:=zdh (zuk.1 he).1
   have lM:=ybq la p x
   have lI:(zaj h x).length≤3000:=by rw [zqx he];exact zyc lA x
   refine rn ?_;refine qv rfl rfl (y4 rfl rfl (y1.of_fun (ygh h.mats _ (yhw p x) _ (fun a _=>y1.qt (y1.of_acall (fs:= []) (cs:= [pZ b4,pZ b5]) (ym1 a p x b4 b5 (.box b3 28 (y9 h):: .glob 2 156 y2:: .glob 4 305 y3:: .glob 5 308 z8:: .glob 3 246 w6:: []))) (pt1 _ _ _)) la.mats))) ?_
   refine rn ?_;refine z7 rfl (y7 rfl fun b10=> ?_)
   refine rn ?_;refine z7 rfl (zhe (rows:=(((zzy h p x).first::((zaj h x).take 0).map (fun t=>(zzy h p x).ts.contains t)).map zlx)) rfl rfl rfl fun s41=> ?_)
   refine zam s41 fun sv0 hsv0=> ?_
   subst hsv0
   refine rn ?_;have hii:onE (zfj h x h.os.length) (zaj h x)=zaj h x:=by rw [show zfj h x h.os.length=0 from hi];rfl
   rw [hii]
   refine rn ?_;refine zl1 (zaj h x).length (fun k s=>⟨[(44,iv k),(12,.v s.v),(10,pZ b10),(42,za6 (zaj h x)),(43,iv ((zaj h x).map za9).length)],.row s.v 1 4 (((zzy h p x).first::((zaj h x).take k).map (fun t=>(zzy h p x).ts.contains t)).map zlx):: .box b10 109 (zee (zzy h p x)):: .box b5 3 [iv x]:: .box b4 3 [iv p]:: .box b3 28 (y9 h):: .glob 2 156 y2:: .glob 4 305 y3:: .glob 5 308 z8:: .glob 3 246 w6:: [],[]⟩) sv0 es ?_
   intro k s lk
   refine rn ?_;refine y0 rfl (fun hc45=> ?_) (fun hc45=> ?_)
   ·have hk:=zde hc45
    have rk:=zbn (f:=za9) hk
    refine rn ?_;refine qv rfl rfl (y4 rfl rfl (zax (zp7 (zzy h p x).ts (zaj h x)[k] lM) (Sbs.refl _))) ?_
    refine qv rfl rfl (w9 rfl rfl) ?_
    refine z7 rfl (j6 rfl rfl (by simp only [oM,List.length_cons,List.length_nil];have:=List.length_take_le k (zaj h x);omega) rfl (fun s54=> ?_) (ybe [(zzy h p x).ts.contains (zaj h x)[k]]))
    refine zam s54 fun sv hsv=> ?_
    subst hsv
    refine rn ?_;exact ⟨hk,sv,by rw [yag hk];exact eA⟩
   ·have qk:=zdg hc45 lk
    refine rn ?_;exact zbj rfl rfl (.trans (.perm ((pt1 _ _ _).trans (.cons _ ((pt1 _ _ _).trans (.cons _ ((pt1 _ _ _).trans (.cons _ (pt1 _ _ _))))))) _) (.drop [_,_,_,_] _ _)) ⟨s,by rw [ye2,if_pos he,zsw,yc7,qk,List.take_length],by rw [he];rfl⟩
theorem yjt (h:Hist) (la:Lim 4611686018427387904 h) (p x:Int):y8 Tryz.prog 98 [.agg (y9 h),iv p,iv x] (.glob 2 156 y2:: .glob 4 305 y3:: .glob 5 308 z8:: .glob 3 246 w6:: []) (fun r h'=>h'= .glob 2 156 y2:: .glob 4 305 y3:: .glob 5 308 z8:: .glob 3 246 w6:: []∧r= .tup [zlw (ye2 h p x),iv (zhm h p x)]):=
 (ygf h la p x).ventR (by rintro _ _ ⟨s,rfl,rfl⟩;exact ⟨_,_,zay [] [_],rfl,rfl⟩)
def zmy {α:Type} (d:Nat→Option α):Nat→List α
 |0=> []
 |k+1=>zmy d k++(d k).toList
theorem ykd {α:Type} {d:Nat→Option α} {k:Nat} (h:d k=none):zmy d (k+1)=zmy d k:=by rw [zmy,h];simp
theorem ykc {α:Type} {d:Nat→Option α} {k:Nat} {a:α} (h:d k=some a):zmy d (k+1)=zmy d k++ [a]:=by rw [zmy,h];rfl
theorem ztl {α:Type} (d:Nat→Option α):∀n,(zmy d n).length≤n
 |0=>by simp [zmy]
 |n+1=>by
  have:=ztl d n
  rw [zmy,List.length_append]
  cases d n <;> simp <;> omega
def chD (l:List Bool) (k:Nat):Option Int:=if 0 < k∧l[k]? ≠l[k - 1]? then some (k:Int) else none
theorem zy6 (l:List Bool):∀n,zmy (chD l) n=zqc l n
 |0=>rfl
 |n+1=>by
  rw [zmy,zqc,zy6 l n,chD]
  split <;> rfl
theorem yhg {l:List Bool} {k:Nat} (h:decide ((k:Int) > 0)=false):chD l k=none:=by
 have:=oF h
 rw [chD,if_neg (by omega)]
theorem ynq {l:List Bool} {k:Nat} (h:decide ((k:Int) > 0)=true) (hk:k < l.length) (hb:(l[k] !=l[k - 1]'(by omega))=true):chD l k=some (k:Int):=by
 have:=oT h
 rw [chD,if_pos ⟨by omega,by rw [List.getElem?_eq_getElem hk,List.getElem?_eq_getElem (by omega)];intro e;injection e with e;rw [e] at hb;simp at hb⟩]
theorem yhf {l:List Bool} {k:Nat} (hk:k < l.length) (hb:(l[k] !=l[k - 1]'(by omega))=false):chD l k=none:=by
 rw [chD,if_neg (by rintro ⟨_,q⟩;apply q;rw [List.getElem?_eq_getElem hk,List.getElem?_eq_getElem (by omega)];congr 1;simpa using hb)]
theorem yd4 {k:Nat} (h:decide ((k:Int) > 0)=true):((k:Int) - 1).toNat=k - 1∧0≤(k:Int) - 1:=by
 have:=oT h
 omega
theorem yfg {l:List Bool} {k:Nat} (h:decide ((k:Int) > 0)=true) (hk:k < l.length):(l.map zlx)[((k:Int) - 1).toNat]? =some (zlx (l[k - 1]'(by omega))):=by
 rw [(yd4 h).1,List.getElem?_map,List.getElem?_eq_getElem (by omega)];rfl
theorem yjo (l:List Bool) (hl:l.length≤1000000) (b1:Nat) (y:AV) (I:Nat→SV→List Res) (x0:SV) (hy:∀k x a,k < l.length→chD l k=some a→y1 Tryz.prog y [iv a] (.box b1 130 [zlw l]::I k x) (fun r h'=>∃x',r=bv true∧h'= .box b1 130 [zlw l]::I (k+1) x')) (hs:∀k x,k < l.length→chD l k=none→I (k+1) x=I k x):y8 Tryz.prog 149 [y,pZ b1] (.box b1 130 [zlw l]::I 0 x0) (fun r h'=>∃x,h'=I l.length x):=by
 refine z6 Tryz.func149 rfl rfl rfl ?_
 refine rn ?_;refine zfc l.length (fun _ _=>True) (fun k (x:SV)=>⟨[(6,iv k),(0,y),(1,pZ b1),(5,iv (l.map zlx).length)],.box b1 130 [zlw l]::I k x,[]⟩) x0 trivial es ?_
 intro k x lk _
 refine rn ?_;refine y0 rfl (fun hc7=> ?_) (fun hc7=> ?_)
 ·have hk:=zde hc7
  have rk:=zbn (f:=zlx) hk
  refine rn ?_;refine j4 17 rfl ?_
  refine rn ?_;refine zcu (fun hg3_2=> ?_) (fun hg3_2=> ?_)
  ·refine dq rfl rfl qrA ?_;refine dq rfl rfl qrA ?_;refine dq rfl rfl qrA ?_;refine dq rfl rfl qrA ?_;refine dq rfl rfl qrA ?_;refine dq rfl rfl qrA ?_;refine dq rfl rfl (zfe rfl rfl rfl (by omega)) ?_
   refine dq rfl rfl (zaz rfl rfl (yd4 hg3_2).2 (yfg hg3_2 hk)) ?_
   refine dq rfl rfl qrA ?_;refine dq rfl rfl (yjb (c:=l[k] !=l[k - 1]'(by omega)) (zo6 rfl rfl) rfl) ?_
   refine rn ?_;refine zcu (fun hg3_14=> ?_) (fun hg3_14=> ?_)
   ·refine rn ?_;refine z7 rfl (q7 rfl rfl (hy k x _ hk (ynq hg3_2 hk (by exact hg3_14))) rfl ?_)
    rintro _ _ ⟨x',rfl,rfl⟩
    refine rn ?_;refine y0 rfl (fun hc28=> ?_) (fun hc28=> ?_)
    ·refine rn ?_;exact absurd hc28 (by simp)
    ·refine rn ?_;first|exact ⟨hk,x',trivial,eA⟩|exact ⟨hk,x,trivial,by rw [hs k x hk (yhf hk (by exact hg3_14))];exact eA⟩|exact ⟨hk,x,trivial,by rw [hs k x hk (yhg hg3_2)];exact eA⟩
   ·refine rn ?_;refine zof rfl ?_;refine rn ?_;first|exact ⟨hk,x',trivial,eA⟩|exact ⟨hk,x,trivial,by rw [hs k x hk (yhf hk (by exact hg3_14))];exact eA⟩|exact ⟨hk,x,trivial,by rw [hs k x hk (yhg hg3_2)];exact eA⟩
  ·refine rn ?_;refine zof rfl ?_;refine rn ?_;first|exact ⟨hk,x',trivial,eA⟩|exact ⟨hk,x,trivial,by rw [hs k x hk (yhf hk (by exact hg3_14))];exact eA⟩|exact ⟨hk,x,trivial,by rw [hs k x hk (yhg hg3_2)];exact eA⟩
 ·have qk:=zdg hc7 lk
  subst qk
  refine rn ?_;exact zc3 .nil (.drop [_] _ _) ⟨x,rfl⟩
theorem ymy (l:List Bool) (W:List Res):y8 Tryz.prog 100 [zlw l] W (fun r h'=>∃b1,h'= .box b1 130 [zlw l]::W∧r= .fn (.func 149) [] [pZ b1]):=by
 refine z6 Tryz.func100 rfl rfl rfl ?_
 refine rn ?_;refine z7 rfl (w7 rfl rfl rfl fun b1=> ?_)
 refine rn ?_;exact zal rfl (.refl _ _) ⟨_,rfl,rfl⟩
theorem yho (f:FuncId) [Go.Ab.Enters Tryz.prog f] (cs:List AV) (w1:Res) (n:Nat) (hn:n≤1000000) (d:Nat→Option (Int)) (W:List Res) (hseq:∀(y:AV) (I:Nat→SV→List Res) (x0:SV),(∀k x a,k < n→d k=some a→y1 Tryz.prog y [iv a] (w1::I k x) (fun r h'=>∃x',r=bv true∧h'=w1::I (k+1) x'))→(∀k x,k < n→d k=none→I (k+1) x=I k x)→y8 Tryz.prog f (y::cs) (w1::I 0 x0) (fun _ h'=>∃x,h'=I n x)):y8 Tryz.prog 148 [.v (.slice none 0 0),.fn (.func f) [] cs] (w1::W) (fun r h'=>∃s:SV,h'= .row s.v 1 3 ((zmy d n).map za9)::W∧r= .v s.v):=by
 refine z6 Tryz.func148 rfl rfl rfl ?_
 refine rn ?_;refine z7 rfl (w7 rfl rfl rfl fun b2=> ?_)
 refine rn ?_;refine zfi (s':=⟨[(6,.fn (.func f) [] cs),(2,pZ b2)],w1:: .box b2 29 [.v (⟨none,0,0⟩:SV).v]:: .row (⟨none,0,0⟩:SV).v 1 3 ((zmy d 0).map za9)::W,[]⟩) (v6 (v6 (za1 1 3) (zas ((pt2 _ _ _ _).trans (.cons _ (pt1 _ _ _))))) es) ?_
 refine zjz (fun pend h''=>pend=none∧∃s:SV,h''= .box b2 29 [.v s.v]:: .row s.v 1 3 ((zmy d n).map za9)::W) rfl (fun fn l q lp hlp=> ?_) (fun q h'' hK=> ?_) (fun q h'' c hK=> ?_)
 ·suffices hy:∀k (s:SV) a,k < n→d k=some a→y1 Tryz.prog (yv l) [iv a] (w1::lp .ready none:: .defs q:: .box b2 29 [.v s.v]:: .row s.v 1 3 ((zmy d k).map za9)::W) (fun r h'=>∃s':SV,r=bv true∧h'=w1::lp .ready none:: .defs q:: .box b2 29 [.v s'.v]:: .row s'.v 1 3 ((zmy d (k+1)).map za9)::W) by
   refine y8.mono (y8.perm (pt2 _ _ _ _) (hseq (yv l) (fun k (s:SV)=>lp .ready none:: .defs q:: .box b2 29 [.v s.v]:: .row s.v 1 3 ((zmy d k).map za9)::W) ⟨none,0,0⟩ hy (fun k s hk hn=>by rw [ykd hn]))) ?_
   rintro _ _ ⟨s,rfl⟩
   exact ⟨none,.ready,_,.refl _,by simp,rfl,s,rfl⟩
  intro k s a hk hd
  refine y1.perm (pt1 _ _ _) (y1.ventE ?_)
  refine zcm hlp rfl rfl ?_
  refine rn ?_;refine ⟨[(5,iv a),(2,pZ b2)],w1:: .defs q:: .box b2 29 [.v s.v]:: .row s.v 1 3 ((zmy d k).map za9)::W,es,?_⟩
  refine rn ?_;refine qv rfl rfl (w9 rfl rfl) ?_
  refine z7 rfl (j6 rfl rfl (by simp only [oM,List.length_cons,List.length_nil];have:=ztl d k;omega) rfl (fun s11=> ?_) (zit [a]))
  refine zam s11 fun sv hsv=> ?_
  subst hsv
  refine rn ?_;exact zcf (.refl _) ⟨_,_,.perm (pt1 _ _ _) _,sv,rfl,by rw [ykc hd,List.map_append];rfl⟩
 ·obtain ⟨_,s,rfl⟩:=hK
  refine rn ?_;exact zfy (.refl _) (.cons _ _ _ _ (.tmp _ _ rfl) .nil) (.drop1 _ _ _) ⟨s,rfl,rfl⟩
 ·obtain ⟨hc,_⟩:=hK
  exact absurd hc (by simp)
theorem ycj (f:FuncId) [Go.Ab.Enters Tryz.prog f] (cs:List AV) (w1:Res) (n:Nat) (hn:n≤1000000) (d:Nat→Option (Int)) (W:List Res) (hseq:∀(y:AV) (I:Nat→SV→List Res) (x0:SV),(∀k x a,k < n→d k=some a→y1 Tryz.prog y [iv a] (w1::I k x) (fun r h'=>∃x',r=bv true∧h'=w1::I (k+1) x'))→(∀k x,k < n→d k=none→I (k+1) x=I k x)→y8 Tryz.prog f (y::cs) (w1::I 0 x0) (fun _ h'=>∃x,h'=I n x)):y8 Tryz.prog 99 [.fn (.func f) [] cs] (w1::W) (fun r h'=>∃s:SV,h'= .row s.v 1 3 ((zmy d n).map za9)::W∧r= .v s.v):=by
 refine z6 Tryz.func99 rfl rfl rfl ?_
 refine rn ?_;refine z7 rfl (q7 rfl rfl (y1.of_fun (yho f cs w1 n hn d W hseq)) rfl ?_)
 rintro _ _ ⟨s,rfl,rfl⟩
 refine rn ?_;exact zal rfl (.refl _ _) ⟨s,rfl,rfl⟩
theorem ye1 {h:Hist} {N:Nat} (la:Lim N h) {p x:Int} (he:zhm h p x=0):(zsw h p x).length≤1000000:=by
 have lA:=zdh (zuk.1 he).1
 have:=zyc lA x
 rw [zin,zqx he];omega
theorem ygi (h:Hist) (la:Lim 4611686018427387904 h) (p x:Int):y8 Tryz.prog 42 [.agg (y9 h),iv p,iv x] (.glob 2 156 y2:: .glob 4 305 y3:: .glob 5 308 z8:: .glob 3 246 w6:: []) (fun r h'=>∃s:SV,h'= .row s.v 1 3 ((chL h p x).map za9):: .glob 2 156 y2:: .glob 4 305 y3:: .glob 5 308 z8:: .glob 3 246 w6:: []∧r= .tup [.v s.v,iv (zhm h p x)]):=by
 refine z6 Tryz.func42 rfl rfl rfl ?_
 refine rn ?_;refine z7 rfl (w7 rfl rfl rfl fun b3=> ?_)
 refine rn ?_;refine qv rfl rfl (y4 rfl rfl (y1.qt (y1.of_fun (yjt h la p x)) ((pt1 _ _ _).trans (.cons _ ((pt1 _ _ _).trans (.cons _ ((pt1 _ _ _).trans (.cons _ (pt1 _ _ _))))))))) ?_
 refine rn ?_;refine y0 rfl (fun hc18=> ?_) (fun hc18=> ?_)
 ·have he:=yo3 (h:=h) (p:=p) (x:=x) (r:=0) (ylu hc18)
  refine rn ?_;exact zbj rfl rfl (.trans (.drop [_] _ _) (zag 1 3 _)) ⟨⟨none,0,0⟩,by rw [he.2.2];rfl,rfl⟩
 ·have he:zhm h p x=0:=ymw hc18
  have hl:ye2 h p x=zsw h p x:=by rw [ye2,if_pos he]
  have lt:=ye1 la he
  rw [hl]
  refine rn ?_;refine z7 rfl (q7 rfl rfl (y1.of_fun (ymy (zsw h p x) _)) rfl ?_)
  rintro _ _ ⟨b1,rfl,rfl⟩
  refine z7 rfl (q7 rfl rfl (y1.of_fun (ycj 149 [pZ b1] _ (zsw h p x).length lt (chD (zsw h p x)) _ (fun y I x0 hy hs=>yjo (zsw h p x) lt b1 y I x0 hy hs))) rfl ?_)
  rintro _ _ ⟨s,rfl,rfl⟩
  refine rn ?_;exact zbj rfl rfl (.trans (.perm (pt1 _ _ _) _) (.drop [_] _ _)) ⟨s,by rw [chL,if_pos he,yhe,zy6],by rw [he];rfl⟩
theorem ydm (h:Hist) (la:Lim 4611686018427387904 h) (p x:Int):y8 Tryz.prog 42 [.agg (y9 h),iv p,iv x] (.glob 2 156 y2:: .glob 4 305 y3:: .glob 5 308 z8:: .glob 3 246 w6:: []) (fun r h'=>h'= .glob 2 156 y2:: .glob 4 305 y3:: .glob 5 308 z8:: .glob 3 246 w6:: []∧r= .tup [za6 (chL h p x),iv (zhm h p x)]):=
 (ygi h la p x).ventR (by rintro _ _ ⟨s,rfl,rfl⟩;exact ⟨_,_,zay [] [_],rfl,rfl⟩)
def ev0:Ev:=⟨0,0,0,0,0,⟨0,0⟩,0,[]⟩
def evA (h:Hist) (n:Int):Ev:=if zfj h n h.evs.length=0 then evD h.evs n else ev0
def yda (h:Hist) (n:Int):List Seen:=if zda h n=0 then k7 h (evD h.evs n) n.toNat else []
theorem yl9 {p:Prop} (c d:Prop) [Decidable c] [Decidable d] (x:c→d→p) (y:c→¬d→p) (z:¬c→p):p:=if h:c then (if k:d then x h k else y h k) else z h
theorem zvd {h:Hist} {n:Int} (he:zfj h n h.evs.length=0):∃a:Nat,∃ha:a < h.evs.length,n=a∧evA h n=h.evs[a]∧q6 h=0:=by
 obtain ⟨hs,n0,n1⟩:=yhn he
 obtain ⟨a,rfl⟩:=Int.eq_ofNat_of_zero_le n0
 exact ⟨a,by omega,rfl,by rw [evA,if_pos he,zpx (by omega)],zat.2 hs⟩
theorem ykt {h:Hist} {n:Int} (he:zfj h n h.evs.length≠0):evA h n=ev0:=by rw [evA,if_neg he]
theorem ylp {h:Hist} {a:Nat} (ha:a < h.evs.length) (hc:q6 h=0) (h4:h.evs[a].kind=4):zda h a=0∧yda h a=k7 h h.evs[a] a:=by
 have:=(yon hc ha h4).1
 exact ⟨this,by rw [yda,this,if_pos rfl,zpx ha,Int.toNat_natCast]⟩
theorem yhu {h:Hist} {n:Int} (hc:q6 h=0) (hn:¬(0≤n∧n < h.evs.length∧(evD h.evs n).kind=4)):zda h n=2∧yda h n= []:=by
 have:=(yoo hc hn).1
 exact ⟨this,by rw [yda,this];rfl⟩
theorem ylo {h:Hist} {n:Int} (he:zfj h n h.evs.length≠0):zda h n=zfj h n h.evs.length∧yda h n= []:=by
 by_cases hc:q6 h=0
 ·have hn:¬(0≤n∧n < (h.evs.length:Int)):=fun q=>he (zsd hc q)
  obtain ⟨a,b⟩:=yhu (h:=h) (n:=n) hc (fun q=>hn ⟨q.1,q.2.1⟩)
  exact ⟨by rw [a,zvi hc hn],b⟩
 ·have:=(yop (n:=n) hc).1
  exact ⟨by rw [this,ask_c hc],by rw [yda,this,if_neg hc]⟩
theorem ylx {h:Hist} {n:Int} (he:zfj h n h.evs.length=0):evA h n=evD h.evs n:=by rw [evA,if_pos he]
theorem ybp (h:Hist) (la:Lim 4611686018427387904 h) (n:Int):y8 Tryz.prog 97 [.agg (y9 h),iv n] (.glob 2 156 y2:: .glob 4 305 y3:: .glob 5 308 z8:: .glob 3 246 w6:: []) (fun r h'=>h'= .glob 2 156 y2:: .glob 4 305 y3:: .glob 5 308 z8:: .glob 3 246 w6:: []∧r= .tup [.agg (evR (evA h n)),iv (zfj h n h.evs.length)]):=by
 refine z6 Tryz.func97 rfl rfl rfl ?_
 refine rn ?_;refine z7 rfl (w7 rfl rfl rfl fun b2=> ?_)
 refine z7 rfl (y7 rfl fun b4=> ?_)
 refine rn ?_;refine qv rfl rfl (y4 rfl rfl (y1.qt (y1.of_fun (zx7 h la)) ((pt2 _ _ _ _).trans (.cons _ ((pt2 _ _ _ _).trans (.cons _ ((pt2 _ _ _ _).trans (.cons _ (pt2 _ _ _ _))))))))) ?_
 refine rn ?_;refine y0 rfl (fun hc14=> ?_) (fun hc14=> ?_)
 ·have he:zfj h n h.evs.length=q6 h:=ask_c (ylu hc14)
  have hn:zfj h n h.evs.length≠0:=by rw [he];exact ylu hc14
  refine w8 (y6 ?_)
  refine qq rfl rfl (zhc (fun w O v hr=>Sb.rel (Sb.aggs (bs:=evR ev0) (by exact ⟨.refl _,.refl _,.refl _,.refl _,.refl _,.refl _,.refl _,.refl _,.nil _ _,trivial⟩)) hr) (u9 (out:= [iv 0,iv 0,iv 0,iv 0,iv 0,iv 0,iv 0,iv 0,.v (.slice none 0 0)]) rfl (by rfl))) ?_
  refine rn ?_;exact zdt (.cons _ _ _ _ (.agg _ _ _ _ _ _ _ rfl inferInstance inferInstance inferInstance rfl) (.cons _ _ _ _ (.tmp _ _ rfl) .nil)) (.drop [_,_] _ _) ⟨rfl,by rw [ykt hn,he];rfl⟩
 ·have hc:=ymw hc14
  refine rn ?_;refine qv rfl rfl (y4 rfl rfl (zax (yju n (h.evs.map evR).length) (Sbs.refl _))) ?_
  refine rn ?_;refine y0 rfl (fun hc22=> ?_) (fun hc22=> ?_)
  ·have he:zfj h n h.evs.length=2:=zvi hc (by have q:=yn5 hc22;rw [oM] at q;exact q)
   have hn:zfj h n h.evs.length≠0:=by rw [he];decide
   refine w8 (y6 ?_)
   refine qq rfl rfl (zhc (fun w O v hr=>Sb.rel (Sb.aggs (bs:=evR ev0) (by exact ⟨.refl _,.refl _,.refl _,.refl _,.refl _,.refl _,.refl _,.refl _,.nil _ _,trivial⟩)) hr) (u9 (out:= [iv 0,iv 0,iv 0,iv 0,iv 0,iv 0,iv 0,iv 0,.v (.slice none 0 0)]) rfl (by rfl))) ?_
   refine rn ?_;exact zdt (.cons _ _ _ _ (.agg _ _ _ _ _ _ _ rfl inferInstance inferInstance inferInstance rfl) (.cons _ _ _ _ (.tmp _ _ rfl) .nil)) (.drop [_,_] _ _) ⟨rfl,by rw [ykt hn,he];rfl⟩
  ·have q:=yn6 hc22
   rw [oM] at q
   have he:=zsd hc q
   obtain ⟨a,ha,rfl,ea,_⟩:=zvd he
   have ra:=zbn (f:=evR) ha
   refine zbs ?_;refine zak ?_;refine w8 (y6 ?_)
   refine q1 ?_;refine q1 ?_;refine q1 ?_;refine qq rfl rfl (zaz rfl rfl q.1 ra) ?_
   refine rn ?_;exact zdt (.cons _ _ _ _ (.agg _ _ _ _ _ _ _ rfl inferInstance inferInstance inferInstance rfl) (.cons _ _ _ _ (.tmp _ _ rfl) .nil)) (.drop [_,_] _ _) ⟨rfl,by rw [ea,he];rfl⟩
theorem ygg (h:Hist) (la:Lim 4611686018427387904 h) (n:Int):y8 Tryz.prog 41 [.agg (y9 h),iv n] (.glob 2 156 y2:: .glob 4 305 y3:: .glob 5 308 z8:: .glob 3 246 w6:: []) (fun r h'=>∃s:SV,h'= .row s.v 3 70 ((yda h n).map zav):: .glob 2 156 y2:: .glob 4 305 y3:: .glob 5 308 z8:: .glob 3 246 w6:: []∧r= .tup [.v s.v,iv (zda h n)]):=by
 refine z6 Tryz.func41 rfl rfl rfl ?_
 refine rn ?_;refine z7 rfl (w7 rfl rfl rfl fun b2=> ?_)
 refine rn ?_;refine zif ?_;refine rn ?_;refine qv rfl rfl (y4 rfl rfl (y1.qt (y1.of_fun (ybp h la n)) ((pt1 _ _ _).trans (.cons _ ((pt1 _ _ _).trans (.cons _ ((pt1 _ _ _).trans (.cons _ (pt1 _ _ _))))))))) ?_
 refine rn ?_;refine z7 rfl (y7 rfl fun b6=> ?_)
 first|refine z7 rfl (u5 rfl rfl rfl ?_)|refine z7 rfl (zaf rfl rfl rfl rfl (Nat.le_of_ble_eq_true rfl) ?_)
 refine q1 ?_;refine v8 (zak ?_)
 refine w8 ?_;refine w8 (y6 ?_)
 refine q1 ?_;refine yl9 (zfj h n h.evs.length=0) ((evA h n).kind=4) (fun hc h4=>qq rfl rfl (j7 (c:=true) rfl rfl (congrArg some (by rw [hc];rfl))) ?_) (fun hc h4=>qq rfl rfl (j7 (c:=true) rfl rfl (congrArg some (by rw [hc];rfl))) ?_) (fun hc=>qq rfl rfl (j7 (c:=false) rfl rfl (congrArg some (by simpa using hc))) ?_)
 ·refine q1 ?_;refine q1 ?_;refine q1 ?_;refine qq rfl rfl (by first|exact j7 (c:=false) rfl rfl (congrArg some (by rw [h4];rfl))|exact j7 (c:=true) rfl rfl (congrArg some (by simpa using h4))) ?_
  refine rn ?_;refine y0 rfl (fun hc29=> ?_) (fun hc29=> ?_)
  ·first|cases hc29|exact absurd hc29 (by decide)|(exfalso;simp_all;done)
  ·refine zbs ?_;refine zak ?_;refine w8 ?_;refine w8 (y6 ?_)
   refine q1 ?_;refine qq rfl rfl (by first|exact j7 (c:=false) rfl rfl (congrArg some (by rw [hc];rfl))|exact j7 (c:=true) rfl rfl rfl|exact j7 (c:=true) rfl rfl (congrArg some (by simpa using hc))) ?_
   refine rn ?_;refine y0 rfl (fun hc31=> ?_) (fun hc31=> ?_)
   ·first|cases hc31|exact absurd hc31 (by decide)|(exfalso;simp_all;done)
   ·refine zbs ?_;refine rn0 ?_;refine w8 ?_;obtain ⟨a,ha,rfl,ea,hk0⟩:=zvd hc
    rw [ea] at h4
    rw [ea]
    obtain ⟨hse,hsl⟩:=ylp ha hk0 h4
    have lA:=zdh hk0
    have be:=lA.evs
    have bs:=lA.scans h.evs[a] (List.getElem_mem ha)
    refine rn ?_;refine z7 rfl (zac (enc:=intK) rfl fun rm=> ?_)
    refine rn ?_;refine zby h.evs.length (fun k=>k≤a) (fun k=>⟨[(37,iv k),(1,iv (a:Int)),(2,pZ b2),(6,pZ b6),(8,mpv rm),(35,zyn h.evs),(36,iv (h.evs.map evR).length)],.map rm (j9 intK (zau zv5 (zvm (h.evs.take k) h.evs[a].t))):: .box b6 60 (evR h.evs[a]):: .box b2 28 (y9 h):: .glob 2 156 y2:: .glob 4 305 y3:: .glob 5 308 z8:: .glob 3 246 w6:: [],[]⟩) (Nat.zero_le _) es ?_
    intro k lk ka
    refine rn ?_;refine y0 rfl (fun hc38=> ?_) (fun hc38=> ?_)
    ·have hk:=zde hc38
     have rk:=zbn (f:=evR) hk
     refine rn ?_;refine z7 rfl (y7 rfl fun b10=> ?_)
     refine rn ?_;refine y0 rfl (fun hc42=> ?_) (fun hc42=> ?_)
     ·obtain rfl:a=k:=by have:=eq_of_beq hc42;omega
      refine rn ?_;refine zby h.evs[a].scan.length (fun _=>True) (fun j=>⟨[(66,iv j),(2,pZ b2),(8,mpv rm),(64,zgz h.evs[a].scan),(65,iv (h.evs[a].scan.map zav).length)],.map rm (j9 intK (zau zv5 (yfb (zvm (h.evs.take a) h.evs[a].t) (h.evs[a].scan.take j)))):: .box b6 60 (evR h.evs[a]):: .box b2 28 (y9 h):: .glob 2 156 y2:: .glob 4 305 y3:: .glob 5 308 z8:: .glob 3 246 w6:: [],[]⟩) trivial eA ?_
      intro j lj _
      refine rn ?_;refine y0 rfl (fun hc67=> ?_) (fun hc67=> ?_)
      ·have hj:=zde hc67
       have rj:=zbn (f:=zav) hj
       refine rn ?_;refine z7 rfl (y7 rfl fun b12=> ?_)
       refine rn ?_;refine z7 rfl (j8 (g:=zv5) (enc:=intK) (k:=h.evs[a].scan[j].o) (v:=h.evs[a].scan[j].v) rfl rfl rfl ?_)
       refine rn ?_;exact ⟨hj,trivial,by rw [yih hj];exact eA⟩
      ·have qj:=zdg hc67 lj
       subst qj
       rw [List.take_length]
       refine rn ?_;refine zl1 h.os.length (fun k s=>⟨[(79,iv k),(13,.v s.v),(8,mpv rm),(78,iv (h.os.map zfk).length)],.row s.v 3 70 (((upR k).map fun x:Int=>(⟨x,yjd h.evs h.evs[a].t a h.evs[a].scan x⟩:Seen)).map zav):: .map rm (j9 intK (zau zv5 (yfb (zvm (h.evs.take a) h.evs[a].t) h.evs[a].scan))):: .box b6 60 (evR h.evs[a]):: .box b2 28 (y9 h):: .glob 2 156 y2:: .glob 4 305 y3:: .glob 5 308 z8:: .glob 3 246 w6:: [],[]⟩) ⟨none,0,0⟩ (v6 (za1 3 70) es) ?_
       intro k s lk
       refine rn ?_;refine y0 rfl (fun hc80=> ?_) (fun hc80=> ?_)
       ·have hk:k < h.os.length:=by have q:=oT hc80;rw [oM] at q;omega
        have bo:=lA.os
        have hv:=yfz (l:=h.evs) (t:=h.evs[a].t) (x:=(k:Int)) h.evs[a].scan (Nat.le_of_lt ha)
        refine zbs ?_;refine zak ?_;refine w8 ?_;refine zc8 ?_;refine w8 (y6 ?_)
        refine q1 ?_;refine q1 ?_;refine v8 (zak ?_)
        refine w8 (y6 ?_)
        refine q1 ?_;refine qq rfl rfl (u9 (out:= [iv (k:Int),iv 0,iv 0]) rfl (by rfl)) ?_
        refine z7 rfl (y7 rfl fun b15=> ?_)
        first|refine z7 rfl (u5 rfl rfl rfl ?_)|refine z7 rfl (zaf rfl rfl rfl rfl (Nat.le_of_ble_eq_true rfl) ?_)
        refine v8 (zak ?_)
        refine w8 ?_;refine w8 (y6 ?_)
        refine q1 ?_;refine q1 ?_;refine qq rfl rfl (za0 (g:=zv5) (enc:=intK) (k:=(k:Int)) (⟨0,0⟩:Ver) rfl rfl) ?_
        rw [hv]
        generalize hV:yjd h.evs h.evs[a].t a h.evs[a].scan (k:Int)=V
        refine z7 rfl (y7 rfl fun b16=> ?_)
        first|refine z7 rfl (u5 rfl rfl rfl ?_)|refine z7 rfl (zaf rfl rfl rfl rfl (Nat.le_of_ble_eq_true rfl) ?_)
        refine v8 (zak ?_)
        refine w8 (y6 ?_)
        refine q1 ?_;refine qq rfl rfl (u9 (out:= [iv 0,iv 0]) rfl (by rfl)) ?_
        refine rn ?_;refine y0 rfl (fun hc89=> ?_) (fun hc89=> ?_)
        ·refine rn ?_;refine qv rfl rfl (w9 rfl rfl) ?_
         refine z7 rfl (j6 rfl rfl (by simp only [oM,upR,List.length_range,List.length_cons,List.length_nil];omega) rfl (fun s95=> ?_) (by first|exact zj7 [(⟨(k:Int),V⟩:Seen)]|exact zj7 [(⟨(k:Int),⟨0,0⟩⟩:Seen)]))
         refine zam s95 fun sv hsv=> ?_
         subst hsv
         refine rn ?_;exact ⟨hk,sv,by rw [yad,List.map_append,List.map_append,List.map_singleton,List.map_singleton,hV];exact eA⟩
        ·have hv0:V=⟨0,0⟩:=eq_of_beq (by rw [←yab];simpa using hc89)
         subst hv0
         refine rn ?_;refine qv rfl rfl (w9 rfl rfl) ?_
         refine z7 rfl (j6 rfl rfl (by simp only [oM,upR,List.length_range,List.length_cons,List.length_nil];omega) rfl (fun s95=> ?_) (by first|exact zj7 [(⟨(k:Int),V⟩:Seen)]|exact zj7 [(⟨(k:Int),⟨0,0⟩⟩:Seen)]))
         refine zam s95 fun sv hsv=> ?_
         subst hsv
         refine rn ?_;exact ⟨hk,sv,by rw [yad,List.map_append,List.map_append,List.map_singleton,List.map_singleton,hV];exact eA⟩
       ·have qk:k=h.os.length:=by have q:=oF hc80;rw [oM] at q;omega
        subst qk
        refine rn ?_;refine ⟨fun l h=>(by cases h),?_⟩
        exact zbj rfl rfl (.trans (.perm ((pt1 _ _ _).trans (.cons _ ((pt1 _ _ _).trans (.cons _ (pt1 _ _ _))))) _) (.drop [_,_,_] _ _)) ⟨s,by rw [hsl];rfl,by rw [hse];rfl⟩
     ·have hka:k < a:=by have:=beq_eq_false_iff_ne.1 hc42;omega
      refine rn ?_;refine u0 (fun hg11_5=> ?_) (fun hg11_5=> ?_)
      ·refine rn ?_;refine y0 rfl (fun hc46=> ?_) (fun hc46=> ?_)
       ·have hw:(h.evs[k].t==h.evs[a].t && h.evs[k].kind==2)=true:=by first|(rw [hg11_5];exact hc46)|(rw [Bool.and_eq_true];exact ⟨hg11_5,hc46⟩)
        refine rn ?_;refine z7 rfl (j8 (g:=zv5) (enc:=intK) (k:=h.evs[k].o) (v:=h.evs[k].v) rfl rfl rfl ?_)
        refine rn ?_;first|exact ⟨hk,hka,by rw [zxe hk hw];exact eA⟩|exact ⟨hk,hka,by rw [zxf hk hw];exact eA⟩
       ·have hw:(h.evs[k].t==h.evs[a].t && h.evs[k].kind==2)=false:=by first|(rw [hg11_5,hc46];rfl)|(rw [hg11_5];rfl)
        refine rn ?_;first|exact ⟨hk,hka,by rw [zxe hk hw];exact eA⟩|exact ⟨hk,hka,by rw [zxf hk hw];exact eA⟩
      ·refine rn ?_;refine y0 rfl (fun hc46=> ?_) (fun hc46=> ?_)
       ·first|cases hc46|exact absurd hc46 (by decide)|(exfalso;simp_all;done)
       ·have hw:(h.evs[k].t==h.evs[a].t && h.evs[k].kind==2)=false:=by first|(rw [hg11_5,hc46];rfl)|(rw [hg11_5];rfl)
        refine rn ?_;first|exact ⟨hk,hka,by rw [zxe hk hw];exact eA⟩|exact ⟨hk,hka,by rw [zxf hk hw];exact eA⟩
    ·exfalso;have qk:=zdg hc38 lk;omega
 ·refine q1 ?_;refine q1 ?_;refine q1 ?_;refine qq rfl rfl (by first|exact j7 (c:=false) rfl rfl (congrArg some (by rw [h4];rfl))|exact j7 (c:=true) rfl rfl (congrArg some (by simpa using h4))) ?_
  refine rn ?_;refine y0 rfl (fun hc29=> ?_) (fun hc29=> ?_)
  ·refine y6 ?_;refine q1 ?_;refine v8 (zak ?_)
   refine w8 ?_;refine w8 (y6 ?_)
   refine q1 ?_;refine qq rfl rfl (by first|exact j7 (c:=false) rfl rfl (congrArg some (by rw [hc];rfl))|exact j7 (c:=true) rfl rfl rfl|exact j7 (c:=true) rfl rfl (congrArg some (by simpa using hc))) ?_
   refine rn ?_;refine y0 rfl (fun hc31=> ?_) (fun hc31=> ?_)
   ·refine rn ?_;refine ⟨fun l h=>(by cases h),?_⟩
    exact zbj rfl rfl (.trans (.drop [_,_] _ _) (zag 3 70 _)) ⟨⟨none,0,0⟩,by first|(rw [(ylo hc).2];rfl)|(obtain ⟨a,ha,rfl,ea,hk0⟩:=zvd hc;rw [(yhu hk0 (by rw [←ylx hc];exact fun q=>h4 q.2.2)).2];rfl),by first|(rw [(ylo hc).1];rfl)|(obtain ⟨a,ha,rfl,ea,hk0⟩:=zvd hc;rw [(yhu hk0 (by rw [←ylx hc];exact fun q=>h4 q.2.2)).1];rfl)⟩
   ·first|cases hc31|exact absurd hc31 (by decide)|(exfalso;simp_all;done)
  ·first|cases hc29|exact absurd hc29 (by decide)|(exfalso;simp_all;done)
 ·refine rn ?_;refine y0 rfl (fun hc29=> ?_) (fun hc29=> ?_)
  ·first|cases hc29|exact absurd hc29 (by decide)|(exfalso;simp_all;done)
  ·refine zbs ?_;refine zak ?_;refine w8 ?_;refine w8 (y6 ?_)
   refine q1 ?_;refine qq rfl rfl (by first|exact j7 (c:=false) rfl rfl (congrArg some (by rw [hc];rfl))|exact j7 (c:=true) rfl rfl rfl|exact j7 (c:=true) rfl rfl (congrArg some (by simpa using hc))) ?_
   refine rn ?_;refine y0 rfl (fun hc31=> ?_) (fun hc31=> ?_)
   ·refine rn ?_;refine ⟨fun l h=>(by cases h),?_⟩
    exact zbj rfl rfl (.trans (.drop [_,_] _ _) (zag 3 70 _)) ⟨⟨none,0,0⟩,by first|(rw [(ylo hc).2];rfl)|(obtain ⟨a,ha,rfl,ea,hk0⟩:=zvd hc;rw [(yhu hk0 (by rw [←ylx hc];exact fun q=>h4 q.2.2)).2];rfl),by first|(rw [(ylo hc).1];rfl)|(obtain ⟨a,ha,rfl,ea,hk0⟩:=zvd hc;rw [(yhu hk0 (by rw [←ylx hc];exact fun q=>h4 q.2.2)).1];rfl)⟩
   ·first|cases hc31|exact absurd hc31 (by decide)|(exfalso;simp_all;done)
theorem ydl (h:Hist) (la:Lim 4611686018427387904 h) (n:Int):y8 Tryz.prog 41 [.agg (y9 h),iv n] (.glob 2 156 y2:: .glob 4 305 y3:: .glob 5 308 z8:: .glob 3 246 w6:: []) (fun r h'=>h'= .glob 2 156 y2:: .glob 4 305 y3:: .glob 5 308 z8:: .glob 3 246 w6:: []∧r= .tup [zgz (yda h n),iv (zda h n)]):=
 (ygg h la n).ventR (by rintro _ _ ⟨s,rfl,rfl⟩;exact ⟨_,_,zay [] [_],rfl,rfl⟩)
def znp (p:Int×List Int):List AV:= [iv p.1,za6 p.2]
abbrev zha (l:List (Int×List Int)):AV:= .list false 2 (l.map znp)
theorem yjk (l:List (Int×List Int)):∀r∈l.map znp,r.all AV.one=true:=by
 intro r hr;obtain ⟨a,_,rfl⟩:=List.mem_map.1 hr;rfl
theorem zt0 {h:Hist} (hc:q6 h=0) (p x:Int):(chL h p x).length≤4000:=by
 rw [chL];split
 ·rename_i he
  have h1:=(zuk.1 he).2.1
  rw [yhe]
  refine Nat.le_trans (ztx _ _) ?_
  have:=zlf hc h1.1 h1.2
  rw [zin];omega
 ·exact Nat.zero_le _
theorem zn7 {α:Type} (p:α→Bool):∀(l:List α) (i:Nat), -1≤zbh p i l∧zbh p i l < (i+l.length:Nat)+1
 | [],i=>by simp only [zbh,List.length_nil];omega
 |a::r,i=>by
  have:=zn7 p r (i+1)
  simp only [zbh,List.length_cons]
  split <;> omega
theorem yiq {h:Hist} (hc:q6 h=0) {x:Int} (h0:0≤x) (h1:x < h.os.length) {v:Ver} {r:Int} (hr:zgk h x v=some r):0≤r∧r≤4000:=by
 have hb:=zlf hc h0 h1
 rw [zgk,zk2 (zat.1 hc) v h0 h1 _ (Nat.le_refl _) h1] at hr
 split at hr
 ·injection hr with hr;omega
 ·split at hr
  ·injection hr with hr
   have:zjw h x v < ((0+(zaj h x).length:Nat):Int)+1:=by rw [zjw];exact (zn7 _ _ _).2
   omega
  ·cases hr
theorem zuq {h:Hist} {e:Ev} (hn:(!(zgk h e.o e.v).isSome)=true):ze5 h e= []:=by
 rw [ze5];cases hq:zgk h e.o e.v with
 |none=>rfl
 |some r=>rw [hq] at hn;cases hn
theorem zup {h:Hist} {e:Ev} {r:Int} (hr:zgk h e.o e.v=some r):ze5 h e= [(e.o,[r+1])]:=by rw [ze5,hr]
theorem ztr {α:Type} (p:α→Bool):∀(l:List α) (i:Nat),zbh p i l= -1∨(i:Int)≤zbh p i l
 | [],i=>by simp [zbh]
 |a::r,i=>by
  have:=ztr p r (i+1)
  simp only [zbh]
  split
  ·right;omega
  ·omega
theorem ycf {l:List Int} {q:Int→Bool} {i n:Nat} (h:zbh q i l=((i+n:Nat):Int)):l.dropWhile (fun k=> !q k)=l.drop n:=by
 induction l generalizing i n with
 |nil=>simp [zbh] at h;omega
 |cons a r ih=>
  rw [zbh] at h
  by_cases hq:q a=true
  ·rw [if_pos hq] at h
   have:n=0:=by omega
   subst this
   simp [hq]
  ·rw [if_neg hq] at h
   have hf:q a=false:=by simpa using hq
   obtain ⟨m,rfl⟩:∃m,n=m+1:=⟨n - 1,by
    have:=ztr q r (i+1);omega⟩
   rw [List.dropWhile_cons,hf]
   simp only [Bool.not_false,if_true,List.drop_succ_cons]
   exact ih (i:=i+1) (n:=m) (by rw [h];congr 1;omega)
theorem yol {h:Hist} {e:Ev} {s:Seen} {r:Int} {n:Nat} (hr:zgk h s.o s.v=some r) (hn:zbh (fun k=>decide (k > r)) 0 (chL h e.p s.o)=(n:Int)):zd4 h e s=some (s.o,rwOver h e.p s.o r)∧rwOver h e.p s.o r=(chL h e.p s.o).drop n:=by
 have ha:(chL h e.p s.o).any (fun k=>decide (k > r))=true:=by rw [←zdw _ _ 0,hn];exact decide_eq_true (by omega)
 exact ⟨by rw [zd4,hr];simp only;rw [if_pos ha],by rw [rwOver];exact ycf (i:=0) (by rw [hn];congr 1;omega)⟩
theorem yn1 {h:Hist} {e:Ev} {s:Seen} (hn:(zgk h s.o s.v).isSome=false∨decide (zbh (fun k=>decide (k > (zgk h s.o s.v).getD 0)) 0 (chL h e.p s.o) ≥ 0)=false):zd4 h e s=none:=by
 rw [zd4]
 cases hr:zgk h s.o s.v with
 |none=>rfl
 |some r=>
  rw [hr] at hn
  rcases hn with q|q
  ·cases q
  ·rw [Option.getD_some,zdw] at q
   simp only
   rw [if_neg (by rw [q];decide)]
theorem ykj {α β:Type} (f:α→Option β) (l:List α) (k:Nat):((l.take k).filterMap f).length≤k:=Nat.le_trans (List.length_filterMap_le _ _) (List.length_take_le _ _)
theorem yhz {α β:Type} {f:α→Option β} {l:List α} {k:Nat} {b:β} (hk:k < l.length) (h:f l[k]=some b):(l.take (k+1)).filterMap f=(l.take k).filterMap f++ [b]:=by
 rw [List.take_succ_eq_append_getElem hk,List.filterMap_append];simp [h]
theorem yh0 {α β:Type} {f:α→Option β} {l:List α} {k:Nat} (hk:k < l.length) (h:f l[k]=none):(l.take (k+1)).filterMap f=(l.take k).filterMap f:=by
 rw [List.take_succ_eq_append_getElem hk,List.filterMap_append];simp [h]
theorem ymf (h:Hist) (la:Lim 4611686018427387904 h) (hc:q6 h=0) (p x:Int) (rc rl rk rg:Nat) (M:List ((Int×Int)×List Int)) (hM:zei h M) (W:List Res):y8 Tryz.prog 305 [.agg (rwP h rc rl rk rg),iv p,iv x] (rgR rg M::rkS h rk::zbt h rl::rcR h rc:: .glob 2 156 y2:: .glob 4 305 y3:: .glob 5 308 z8:: .glob 3 246 w6::W) (fun r h'=>∃M',zei h M'∧h'=rgR rg M'::rkS h rk::zbt h rl::rcR h rc:: .glob 2 156 y2:: .glob 4 305 y3:: .glob 5 308 z8:: .glob 3 246 w6::W∧r=za6 (chL h p x)):=by
 refine z6 Tryz.func305 rfl rfl rfl ?_
 refine rn ?_;refine z7 rfl (w7 rfl rfl rfl fun b3=> ?_)
 refine q1 ?_;refine v8 (zak ?_)
 refine w8 (y6 ?_)
 refine q1 ?_;refine q1 ?_;refine qq rfl rfl (zbk (out:= [iv p,iv x]) rfl (by rfl)) ?_
 refine z7 rfl (y7 rfl fun b7=> ?_)
 first|refine z7 rfl (u5 rfl rfl rfl ?_)|refine z7 rfl (zaf rfl rfl rfl rfl (Nat.le_of_ble_eq_true rfl) ?_)
 refine v8 (zak ?_)
 refine w8 ?_;refine w8 (y6 ?_)
 refine q1 ?_;refine q1 ?_;refine q1 ?_;refine qq rfl rfl (zd6 (g:=za6) (enc:=zan) (k:=(p,x)) ([]:List Int) rfl rfl rfl) ?_
 refine rn ?_;refine y0 rfl (fun hc21=> ?_) (fun hc21=> ?_)
 ·refine zgs 12 [11] [] (fun he=>∃M,he= .box b7 45 [iv p,iv x]:: .box b3 119 (rwP h rc rl rk rg)::rgR rg M::rkS h rk::zbt h rl::rcR h rc:: .glob 2 156 y2:: .glob 4 305 y3:: .glob 5 308 z8:: .glob 3 246 w6::W) rfl rfl ⟨_,rfl⟩ ?_
  refine jq rfl (fun he hC=>by obtain ⟨M,rfl⟩:=hC <;> exact qrA) ?_
  refine jq rfl (fun he hC=>by obtain ⟨M,rfl⟩:=hC <;> exact qrA) ?_
  refine jq rfl (fun he hC=>by obtain ⟨M,rfl⟩:=hC <;> exact qrA) ?_
  refine jq rfl (fun he hC=>by obtain ⟨M,rfl⟩:=hC <;> exact qrA) ?_
  refine jq rfl (fun he hC=>by obtain ⟨M,rfl⟩:=hC <;> exact qrA) ?_
  refine jq rfl (fun he hC=>by obtain ⟨M,rfl⟩:=hC <;> exact qrA) ?_
  refine jq rfl (fun he hC=>by obtain ⟨M,rfl⟩:=hC <;> exact qrA) ?_
  refine jv rfl (fun he hC=>by obtain ⟨M,rfl⟩:=hC <;> exact (by exact y4 rfl rfl (y1.qt (y1.of_fun (ydm h la p x)) ((pt6 _ _ _ _ _ _ _ _).trans (.cons _ ((pt6 _ _ _ _ _ _ _ _).trans (.cons _ ((pt6 _ _ _ _ _ _ _ _).trans (.cons _ (pt6 _ _ _ _ _ _ _ _)))))))))) ?_
  refine jq rfl (fun he hC=>by obtain ⟨M,rfl⟩:=hC <;> exact qrA) ?_
  refine jq rfl (fun he hC=>by obtain ⟨M,rfl⟩:=hC <;> exact qrA) ?_
  refine jq rfl (fun he hC=>by obtain ⟨M,rfl⟩:=hC <;> exact qrA) ?_
  refine je rfl ?_;refine yb0 ?_;refine jce rfl fun u=> ?_
  refine j8 (g:=za6) (enc:=zan) (k:=(p,x)) (v:=chL h p x) rfl rfl rfl ⟨.any,_,rfl,⟨_,rfl⟩,?_⟩
  refine jcn ?_;refine ln ?_;refine v8 (zak ?_)
  refine w8 (y6 ?_)
  refine q1 ?_;refine q1 ?_;refine q1 ?_;refine qq rfl rfl (za0 (g:=za6) (enc:=zan) (k:=(p,x)) ([]:List Int) rfl rfl) ?_
  refine rn ?_;first|exact zal rfl (.drop [_,_] _ _) ⟨_,zkk hM p x,rfl,congrArg za6 (ztz p x)⟩|exact zal rfl (.drop [_,_] _ _) ⟨_,hM,rfl,congrArg za6 (zkm hM hc21)⟩
 ·refine zbs ?_;refine zak ?_;refine w8 (y6 ?_)
  refine q1 ?_;refine q1 ?_;refine q1 ?_;refine qq rfl rfl (za0 (g:=za6) (enc:=zan) (k:=(p,x)) ([]:List Int) rfl rfl) ?_
  refine rn ?_;first|exact zal rfl (.drop [_,_] _ _) ⟨_,zkk hM p x,rfl,congrArg za6 (ztz p x)⟩|exact zal rfl (.drop [_,_] _ _) ⟨_,hM,rfl,congrArg za6 (zkm hM hc21)⟩
theorem zwt (h:Hist) (rc rl rk rg:Nat) (n:Int) (W:List Res):y8 Tryz.prog 302 [.agg (rwP h rc rl rk rg),iv n] W (fun r h'=>h'=W∧r=zha []):=by
 refine z6 Tryz.func302 rfl rfl rfl ?_
 refine rn ?_;refine z7 rfl (w7 rfl rfl rfl fun b2=> ?_)
 refine rn ?_;exact zal rfl (.trans (.drop [_] _ _) (.le (Sb.nil false 2).le)) ⟨rfl,rfl⟩
theorem yil (h:Hist) (la:Lim 4611686018427387904 h) (hc:q6 h=0) (a:Nat) (ha:a < h.evs.length) (h3:h.evs[a].kind=3) (rc rl rk rg:Nat) (M:List ((Int×Int)×List Int)) (W:List Res):y8 Tryz.prog 303 [.agg (rwP h rc rl rk rg),iv (a:Int)] (rgR rg M::rkS h rk::zbt h rl::rcR h rc:: .glob 2 156 y2:: .glob 4 305 y3:: .glob 5 308 z8:: .glob 3 246 w6::W) (fun r h'=>h'=rgR rg M::rkS h rk::zbt h rl::rcR h rc:: .glob 2 156 y2:: .glob 4 305 y3:: .glob 5 308 z8:: .glob 3 246 w6::W∧r=zha (ze5 h h.evs[a])):=by
 refine z6 Tryz.func303 rfl rfl rfl ?_
 have ra:=zbn (f:=evR) ha
 refine rn ?_;refine z7 rfl (w7 rfl rfl rfl fun b2=> ?_)
 refine q1 ?_;refine v8 (zak ?_)
 refine w8 (y6 ?_)
 refine q1 ?_;refine q1 ?_;refine q1 ?_;refine q1 ?_;refine qq rfl rfl (zaw rfl rfl ra) ?_
 refine rn ?_;refine z7 rfl (y7 rfl fun b5=> ?_)
 first|refine z7 rfl (u5 rfl rfl rfl ?_)|refine z7 rfl (zaf rfl rfl rfl rfl (Nat.le_of_ble_eq_true rfl) ?_)
 refine v8 (zak ?_)
 refine w8 (y6 ?_)
 refine q1 ?_;refine q1 ?_;refine q1 ?_;refine q1 ?_;refine q1 ?_;refine q1 ?_;refine qq rfl rfl (u9 (out:= [iv h.evs[a].o,iv h.evs[a].v.t,iv h.evs[a].v.k]) rfl (by rfl)) ?_
 refine qq rfl rfl (zd6 (g:=iv) (enc:=zb4) (k:=(h.evs[a].o,h.evs[a].v.t,h.evs[a].v.k)) (0:Int) rfl rfl rfl) ?_
 refine rn ?_;refine y0 rfl (fun hc26=> ?_) (fun hc26=> ?_)
 ·have hn:(!(zgk h h.evs[a].o h.evs[a].v).isSome)=true:=hc26
  refine rn ?_;exact zal rfl (.trans (.drop [_,_] _ _) (.le (Sb.nil false 2).le)) ⟨rfl,by rw [zuq hn];rfl⟩
 ·obtain ⟨r0,hr⟩:∃r,(zap (h.evs[a].o,h.evs[a].v.t,h.evs[a].v.k) (rkM h h.os.length))=some r:=Option.isSome_iff_exists.1 (by simpa using hc26)
  have hr':zgk h h.evs[a].o h.evs[a].v=some r0:=hr
  have hb:=yiq hc (zk4 (zcz (zat.1 hc) _ (List.getElem_mem ha)) h3).1.1 (zk4 (zcz (zat.1 hc) _ (List.getElem_mem ha)) h3).1.2 hr'
  rw [hr,Option.getD_some]
  refine rn ?_;refine qv rfl rfl (w9 rfl rfl) ?_
  refine qq rfl rfl (u9 (out:= [iv h.evs[a].o,.list true 1 [[iv (r0+1)]]]) rfl (by rfl)) ?_
  refine qv rfl rfl (w9 rfl rfl) ?_
  refine rn ?_;exact zal rfl (.trans (.drop [_,_] _ _) (.le (Sb.lists (rows:= [[iv h.evs[a].o,.list true 1 [[iv (r0+1)]]]]) (rows':= [[iv h.evs[a].o,.list false 1 [[iv (r0+1)]]]]) (by simp) ⟨⟨.refl _,.unfull,trivial⟩,trivial⟩).le)) ⟨rfl,by rw [zup hr'];rfl⟩
theorem yfd (k r0:Int) (b:Nat) (W:List Res):y8 Tryz.prog 306 [iv k,pZ b] (.box b 3 [iv r0]::W) (fun r h'=>h'= .box b 3 [iv r0]::W∧r=bv (decide (k > r0))):=by
 refine z6 Tryz.func306 rfl rfl rfl ?_
 refine rn ?_;refine rq 0 ?_
 exact ⟨rfl,rfl⟩
theorem yik (h:Hist) (la:Lim 4611686018427387904 h) (hc:q6 h=0) (a:Nat) (ha:a < h.evs.length) (h4:h.evs[a].kind=4) (rc rl rk rg:Nat) (M:List ((Int×Int)×List Int)) (hM:zei h M) (W:List Res):y8 Tryz.prog 304 [.agg (rwP h rc rl rk rg),iv (a:Int)] (rgR rg M::rkS h rk::zbt h rl::rcR h rc:: .glob 2 156 y2:: .glob 4 305 y3:: .glob 5 308 z8:: .glob 3 246 w6::W) (fun r h'=>∃M',zei h M'∧h'=rgR rg M'::rkS h rk::zbt h rl::rcR h rc:: .glob 2 156 y2:: .glob 4 305 y3:: .glob 5 308 z8:: .glob 3 246 w6::W∧r=zha (zno h h.evs[a] a)):=by
 refine z6 Tryz.func304 rfl rfl rfl ?_
 have ra:=zbn (f:=evR) ha
 have hse:=ylp ha hc h4
 have lA:=zdh hc
 have lO:=lA.os
 have lS:(k7 h h.evs[a] a).length=h.os.length:=zk0 h h.evs[a] a
 refine rn ?_;refine z7 rfl (w7 rfl rfl rfl fun b2=> ?_)
 refine rn ?_;refine qv rfl rfl (y4 rfl rfl (y1.qt (y1.of_fun (ydl h la (a:Int))) ((pt5 _ _ _ _ _ _ _).trans (.cons _ ((pt5 _ _ _ _ _ _ _).trans (.cons _ ((pt5 _ _ _ _ _ _ _).trans (.cons _ (pt5 _ _ _ _ _ _ _))))))))) ?_
 rw [hse.1,hse.2]
 refine rn ?_;refine zfc (k7 h h.evs[a] a).length (fun j (z:SV×List ((Int×Int)×List Int))=>zei h z.2) (fun j z=>⟨[(23,iv j),(5,.v z.1.v),(1,iv (a:Int)),(2,pZ b2),(21,zgz (k7 h h.evs[a] a)),(22,iv ((k7 h h.evs[a] a).map zav).length)],.row z.1.v 2 177 ((((k7 h h.evs[a] a).take j).filterMap (zd4 h h.evs[a])).map znp):: .box b2 119 (rwP h rc rl rk rg)::rgR rg z.2::rkS h rk::zbt h rl::rcR h rc:: .glob 2 156 y2:: .glob 4 305 y3:: .glob 5 308 z8:: .glob 3 246 w6::W,[]⟩) (⟨none,0,0⟩,M) hM (v6 (za1 2 177) es) ?_
 intro j z lj hz
 refine rn ?_;refine y0 rfl (fun hc24=> ?_) (fun hc24=> ?_)
 ·have hj:=zde hc24
  have rj:=zbn (f:=zav) hj
  have bl:=ykj (zd4 h h.evs[a]) (k7 h h.evs[a] a) j
  have bc:=zt0 hc h.evs[a].p (k7 h h.evs[a] a)[j].o
  refine rn ?_;refine z7 rfl (y7 rfl fun b9=> ?_)
  first|refine z7 rfl (u5 rfl rfl rfl ?_)|refine z7 rfl (zaf rfl rfl rfl rfl (Nat.le_of_ble_eq_true rfl) ?_)
  refine v8 (zak ?_)
  refine w8 (y6 ?_)
  refine q1 ?_;refine q1 ?_;refine q1 ?_;refine q1 ?_;refine q1 ?_;refine q1 ?_;refine qq rfl rfl (u9 (out:= [iv (k7 h h.evs[a] a)[j].o,iv (k7 h h.evs[a] a)[j].v.t,iv (k7 h h.evs[a] a)[j].v.k]) rfl (by rfl)) ?_
  refine qq rfl rfl (zd6 (g:=iv) (enc:=zb4) (k:=((k7 h h.evs[a] a)[j].o,(k7 h h.evs[a] a)[j].v.t,(k7 h h.evs[a] a)[j].v.k)) (0:Int) rfl rfl rfl) ?_
  refine rn ?_;refine z7 rfl (y7 rfl fun b10=> ?_)
  refine rn ?_;refine j4 10 rfl ?_
  refine dq rfl rfl qrA ?_;refine dq rfl rfl qrA ?_;refine dq rfl rfl qrA ?_;refine dq rfl rfl qrA ?_;refine dq rfl rfl qrA ?_;refine dq rfl rfl (zaw rfl rfl ra) ?_
  refine rn ?_;refine z7 rfl (q7 rfl rfl (y1.fr4 (y1.of_fun (ymf h la hc h.evs[a].p (k7 h h.evs[a] a)[j].o rc rl rk rg z.2 hz W))) rfl ?_)
  rintro _ _ ⟨_,rfl,M2,hM2,rfl,rfl⟩
  refine rn ?_;refine qv rfl rfl (y4 rfl rfl (y1.of_fun (zjq (chL h h.evs[a].p (k7 h h.evs[a] a)[j].o) _ (fun k=>decide (k > ((zap ((k7 h h.evs[a] a)[j].o,(k7 h h.evs[a] a)[j].v.t,(k7 h h.evs[a] a)[j].v.k) (rkM h h.os.length)).getD 0))) (.box b10 3 [iv ((zap ((k7 h h.evs[a] a)[j].o,(k7 h h.evs[a] a)[j].v.t,(k7 h h.evs[a] a)[j].v.k) (rkM h h.os.length)).getD 0)]:: .box b9 70 (zav (k7 h h.evs[a] a)[j]):: .row z.1.v 2 177 ((((k7 h h.evs[a] a).take j).filterMap (zd4 h h.evs[a])).map znp):: .box b2 119 (rwP h rc rl rk rg)::rgR rg M2::rkS h rk::zbt h rl::rcR h rc:: .glob 2 156 y2:: .glob 4 305 y3:: .glob 5 308 z8:: .glob 3 246 w6::W) (fun k _=>y1.of_acall (fs:= []) (cs:= [pZ b10]) (yfd k ((zap ((k7 h h.evs[a] a)[j].o,(k7 h h.evs[a] a)[j].v.t,(k7 h h.evs[a] a)[j].v.k) (rkM h h.os.length)).getD 0) b10 _)) (by omega)))) ?_
  refine rn ?_;refine u0 (fun hg9_1=> ?_) (fun hg9_1=> ?_)
  ·refine rn ?_;refine y0 rfl (fun hc56=> ?_) (fun hc56=> ?_)
   ·have q9:decide ((zbh (fun k=>decide (k > ((zap ((k7 h h.evs[a] a)[j].o,(k7 h h.evs[a] a)[j].v.t,(k7 h h.evs[a] a)[j].v.k) (rkM h h.os.length)).getD 0))) 0 (chL h h.evs[a].p (k7 h h.evs[a] a)[j].o)) ≥ 0)=true:=by first|exact hc56|(have q:=hc56;rw [hg9_1] at q;simpa using q)
    have q8:=oT q9
    obtain ⟨n,hn⟩:∃n:Nat,(zbh (fun k=>decide (k > ((zap ((k7 h h.evs[a] a)[j].o,(k7 h h.evs[a] a)[j].v.t,(k7 h h.evs[a] a)[j].v.k) (rkM h h.os.length)).getD 0))) 0 (chL h h.evs[a].p (k7 h h.evs[a] a)[j].o))=n:=⟨(zbh (fun k=>decide (k > ((zap ((k7 h h.evs[a] a)[j].o,(k7 h h.evs[a] a)[j].v.t,(k7 h h.evs[a] a)[j].v.k) (rkM h h.os.length)).getD 0))) 0 (chL h h.evs[a].p (k7 h h.evs[a] a)[j].o)).toNat,by omega⟩
    obtain ⟨r0,hr⟩:∃r,zgk h (k7 h h.evs[a] a)[j].o (k7 h h.evs[a] a)[j].v=some r:=Option.isSome_iff_exists.1 hg9_1
    obtain ⟨hsr,hov⟩:=yol (e:=h.evs[a]) (n:=n) hr (by rw [←hn];show _=zbh (fun k=>decide (k > (zgk h (k7 h h.evs[a] a)[j].o (k7 h h.evs[a] a)[j].v).getD 0)) 0 _;rw [hr];rfl)
    rw [hn]
    have hnl:n≤(chL h h.evs[a].p (k7 h h.evs[a] a)[j].o).length:=by have:=(zn7 (fun k=>decide (k > ((zap ((k7 h h.evs[a] a)[j].o,(k7 h h.evs[a] a)[j].v.t,(k7 h h.evs[a] a)[j].v.k) (rkM h h.os.length)).getD 0))) (chL h h.evs[a].p (k7 h h.evs[a] a)[j].o) 0).2;omega
    refine j4 8 rfl ?_
    refine dq rfl rfl qrA ?_;refine dq rfl rfl qrA ?_;refine dq rfl rfl qrA ?_;refine dq rfl rfl qrA ?_;refine dq rfl rfl qrA ?_;refine dq rfl rfl (zpc (zmq (l:=n) rfl rfl (by rw [oM];exact hnl)) (show AV.list false 1 _=za6 (rwOver h h.evs[a].p (k7 h h.evs[a] a)[j].o r0) by rw [←List.map_drop,←hov];rfl)) ?_
    refine dq rfl rfl (u9 (out:=znp ((k7 h h.evs[a] a)[j].o,rwOver h h.evs[a].p (k7 h h.evs[a] a)[j].o r0)) rfl (by rfl)) ?_
    refine dv rfl rfl (w9 rfl rfl) ?_
    refine rn ?_;refine z7 rfl (j6 rfl rfl (by simp only [oM,List.length_cons,List.length_nil];omega) rfl (fun s65=> ?_) (yjk [((k7 h h.evs[a] a)[j].o,rwOver h h.evs[a].p (k7 h h.evs[a] a)[j].o r0)]))
    refine zam s65 fun sv hsv=> ?_
    subst hsv
    refine rn ?_;first|exact ⟨hj,(sv,M2),hM2,by rw [yhz hj hsr,List.map_append];exact eA⟩|exact ⟨hj,(z.1,M2),hM2,by rw [yh0 hj hsr];exact eA⟩
   ·have hsr:zd4 h h.evs[a] (k7 h h.evs[a] a)[j]=none:=yn1 (by first|exact .inr hc56|exact .inl hg9_1)
    refine rn ?_;first|exact ⟨hj,(sv,M2),hM2,by rw [yhz hj hsr,List.map_append];exact eA⟩|exact ⟨hj,(z.1,M2),hM2,by rw [yh0 hj hsr];exact eA⟩
  ·refine rn ?_;refine zof rfl ?_;have hsr:zd4 h h.evs[a] (k7 h h.evs[a] a)[j]=none:=yn1 (by first|exact .inr hc56|exact .inl hg9_1)
   refine rn ?_;first|exact ⟨hj,(sv,M2),hM2,by rw [yhz hj hsr,List.map_append];exact eA⟩|exact ⟨hj,(z.1,M2),hM2,by rw [yh0 hj hsr];exact eA⟩
 ·have qj:=zdg hc24 lj
  refine rn ?_;exact zal rfl (.trans zg9 (.drop [_] _ _)) ⟨_,hz,rfl,by rw [qj,List.take_length];rfl⟩
def zh8 (h:Hist) (x:Int) (l:List Int) (m:List ((Int×Int)×Int)):List ((Int×Int)×Int):=l.foldl (fun m t=>zcq (t,x) (zb9 h t x) m) m
theorem yca {h:Hist} {x:Int} {l:List Int} {k:Nat} {m:List ((Int×Int)×Int)} (hk:k < l.length):zh8 h x (l.take (k+1)) m=zcq (l[k],x) (zb9 h l[k] x) (zh8 h x (l.take k) m):=by
 rw [zh8,List.take_succ_eq_append_getElem hk,List.foldl_append];rfl
def zz1 (h:Hist):Nat→List ((Int×Int)×Int)
 |0=> []
 |n+1=>zh8 h n (zaj h n) (zz1 h n)
theorem ykk (h:Hist) (n:Nat):zz1 h (n+1)=zh8 h n ((zaj h n).take (zaj h n).length) (zz1 h n):=by rw [List.take_length];rfl
theorem zm1 {h:Hist} {x:Int}:∀(l:List Int) (m:List ((Int×Int)×Int)),(∀p v,zap p m=some v→v=zb9 h p.1 p.2)→∀p v,zap p (zh8 h x l m)=some v→v=zb9 h p.1 p.2
 | [],_,hm=>hm
 |t::l,m,hm=>zm1 l (zcq (t,x) (zb9 h t x) m) fun p v e=>by
  rw [zbl] at e
  split at e
  ·rename_i q;injection e with e;rw [←e,←q]
  ·exact hm p v e
theorem ztq (h:Hist):∀n p v,zap p (zz1 h n)=some v→v=zb9 h p.1 p.2
 |0,p,v,e=>by cases e
 |n+1,p,v,e=>zm1 _ _ (ztq h n) p v e
theorem zhh {h:Hist} {x:Int} {p:Int×Int}:∀(l:List Int) (m:List ((Int×Int)×Int)),(zap p m).isSome=true→(zap p (zh8 h x l m)).isSome=true
 | [],_,hm=>hm
 |t::l,m,hm=>zhh l _ (by
  rw [zbl]
  by_cases q:(t,x)=p
  ·rw [if_pos q];rfl
  ·rw [if_neg q];exact hm)
theorem zm2 {h:Hist} {x t:Int}:∀(l:List Int) (m:List ((Int×Int)×Int)),t∈l→(zap (t,x) (zh8 h x l m)).isSome=true
 | [],_,hm=>by cases hm
 |a::l,m,hm=>by
  rcases List.mem_cons.1 hm with rfl|hm
  ·exact zhh l _ (by rw [zbl,if_pos rfl];rfl)
  ·exact zm2 l _ hm
theorem zpu {h:Hist} {x:Nat} {t:Int} (ht:t∈zaj h x):∀n,x < n→(zap (t,(x:Int)) (zz1 h n)).isSome=true
 |n+1,hx=>by
  by_cases e:x=n
  ·subst e;exact zm2 _ _ ht
  ·exact zhh _ _ (zpu ht n (by omega))
theorem yg5 {h:Hist} {x t:Int} (h0:0≤x) (h1:x < h.os.length) (ht:t∈zaj h x):(zap (t,x) (zz1 h h.os.length)).getD 0=zb9 h t x:=by
 obtain ⟨n,rfl⟩:∃n:Nat,x=(n:Int):=⟨x.toNat,by omega⟩
 have:=zpu ht h.os.length (by omega)
 cases hq:zap (t,(n:Int)) (zz1 h h.os.length) with
 |none=>rw [hq] at this;cases this
 |some v=>exact ztq h _ _ _ hq
abbrev zcw (h:Hist) (rf:Nat):Res:= .map rf (j9 zan (zau iv (zz1 h h.os.length)))
abbrev wrP (h:Hist) (rd rf rk rg:Nat):List AV:=y9 h++ [mpv rd,ydu h,mpv rf,mpv rk,mpv rg]
instance:Chk3 Tryz.prog 70:=⟨fun e w a b c=>by kernel_rfl⟩
theorem zth (h:Hist) (la:Lim 4611686018427387904 h) (hc:q6 h=0) (t x:Int):y8 Tryz.prog 121 [.agg (y9 h),iv t,iv x] (.glob 2 156 y2:: .glob 4 305 y3:: .glob 5 308 z8:: .glob 3 246 w6:: []) (fun r h'=>h'= .glob 2 156 y2:: .glob 4 305 y3:: .glob 5 308 z8:: .glob 3 246 w6:: []∧r= .tup [.agg (yac (zf8 h x t)),iv (zb9 h t x),bv (zi5 h.evs t x).isSome]):=(ygr h la t x).mono fun _ _ q=>⟨q.1,by rw [q.2,yh1,if_pos hc];rfl⟩
theorem yl2 (h:Hist) (la:Lim 4611686018427387904 h):y8 Tryz.prog 111 [.agg (y9 h)] (.glob 2 156 y2:: .glob 4 305 y3:: .glob 5 308 z8:: .glob 3 246 w6:: []) (fun r h'=>(q6 h=0∧∃bl rd rf rk rg,h'= .box bl 202 (wrP h rd rf rk rg)::rgR rg []::rkS h rk::zcw h rf::rcR h rd:: .glob 2 156 y2:: .glob 4 305 y3:: .glob 5 308 z8:: .glob 3 246 w6:: []∧r= .tup [pZ bl,iv 0])∨(q6 h≠0∧h'= .glob 2 156 y2:: .glob 4 305 y3:: .glob 5 308 z8:: .glob 3 246 w6:: []∧r= .tup [.v (.pointer none),iv (q6 h)])):=by
 refine z6 Tryz.func111 rfl rfl rfl ?_
 refine rn ?_;refine z7 rfl (w7 rfl rfl rfl fun b1=> ?_)
 refine rn ?_;refine qv rfl rfl (y4 rfl rfl (y1.qt (y1.of_fun (zx7 h la)) ((pt1 _ _ _).trans (.cons _ ((pt1 _ _ _).trans (.cons _ ((pt1 _ _ _).trans (.cons _ (pt1 _ _ _))))))))) ?_
 refine rn ?_;refine y0 rfl (fun hc23=> ?_) (fun hc23=> ?_)
 ·have hc:=nzT hc23
  refine rn ?_;exact zbj rfl rfl (.drop [_] _ _) (.inr ⟨hc,rfl,rfl⟩)
 ·have hc:=nzF hc23
  have hts:onE (q6 h) (zco h.evs)=(zco h.evs):=by rw [hc,onE,if_pos rfl]
  rw [hts]
  have hs:=zat.1 hc
  have lA:=zdh hc
  have lO:=lA.os
  have lE:=lA.evs
  have bC:=Nat.le_trans (zyz h.evs) lA.evs
  refine rn ?_;refine z7 rfl (zac (enc:=intK) rfl fun b26=> ?_)
  refine z7 rfl (zac (enc:=zan) rfl fun b27=> ?_)
  refine z7 rfl (zac (enc:=zb4) rfl fun b28=> ?_)
  refine z7 rfl (zac (enc:=zan) rfl fun b29=> ?_)
  refine qq rfl rfl (u9 (out:=y9 h++ [mpv b26,.v (.slice none 0 0),mpv b27,mpv b28,mpv b29]) rfl (by rfl)) ?_
  refine z7 rfl (w7 rfl rfl rfl fun b31=> ?_)
  refine rn ?_;refine zby (zco h.evs).length (fun _=>True) (fun k=>⟨[(34,iv k),(1,pZ b1),(6,pZ b31),(32,za6 (zco h.evs)),(33,iv ((zco h.evs).map za9).length)],.box b31 202 (y9 h++ [mpv b26,.v (.slice none 0 0),mpv b27,mpv b28,mpv b29]):: .map b29 (j9 zan (zau za6 [])):: .map b28 (j9 zb4 (zau iv [])):: .map b27 (j9 zan (zau iv [])):: .map b26 (j9 intK (zau bv (dnM ((zco h.evs).take k)))):: .box b1 28 (y9 h):: .glob 2 156 y2:: .glob 4 305 y3:: .glob 5 308 z8:: .glob 3 246 w6:: [],[]⟩) trivial es ?_
  intro k lk _
  refine rn ?_;refine y0 rfl (fun hc35=> ?_) (fun hc35=> ?_)
  ·have hk:=zde hc35
   have rk:=zbn (f:=za9) hk
   refine rn ?_;refine z7 rfl (j8 (g:=bv) (enc:=intK) (k:=(zco h.evs)[k]) (v:=true) rfl rfl rfl ?_)
   refine rn ?_;exact ⟨hk,trivial,by rw [yk2 hk];exact eA⟩
  ·have qk:=zdg hc35 lk
   rw [qk,List.take_length]
   refine rn ?_;refine zl1 h.os.length (fun k s=>⟨[(47,iv k),(1,pZ b1),(6,pZ b31),(46,iv (h.os.map zfk).length)],.row s.v 1 29 (((upR k).map (zaj h)).map yas):: .box b31 202 (y9 h++ [mpv b26,.v s.v,mpv b27,mpv b28,mpv b29]):: .map b29 (j9 zan (zau za6 [])):: .map b28 (j9 zb4 (zau iv (rkM h k))):: .map b27 (j9 zan (zau iv (zz1 h k))):: .map b26 (j9 intK (zau bv (dnM (zco h.evs)))):: .box b1 28 (y9 h):: .glob 2 156 y2:: .glob 4 305 y3:: .glob 5 308 z8:: .glob 3 246 w6:: [],[]⟩) ⟨none,0,0⟩ (v6 (za1 1 29) es) ?_
   intro k s lk
   refine rn ?_;refine y0 rfl (fun hc48=> ?_) (fun hc48=> ?_)
   ·have hk:k < h.os.length:=by have q:=oT hc48;rw [oM] at q;omega
    have k0:(0:Int)≤(k:Int):=by omega
    have k1:(k:Int) < h.os.length:=by omega
    have hb:=zlf hc k0 k1
    refine rn ?_;refine qv rfl rfl (y4 rfl rfl (y1.qt (y1.of_fun (ydq h la hc k k0 k1)) ((pt7 _ _ _ _ _ _ _ _ _).trans (.cons _ ((pt7 _ _ _ _ _ _ _ _ _).trans (.cons _ ((pt7 _ _ _ _ _ _ _ _ _).trans (.cons _ (pt7 _ _ _ _ _ _ _ _ _))))))))) ?_
    refine rn ?_;refine qv rfl rfl (w9 rfl rfl) ?_
    refine z7 rfl (j6 rfl rfl (by simp only [oM,upR,List.length_range,List.length_cons,List.length_nil];omega) rfl (fun s63=> ?_) (fun r hr=>by rw [List.mem_singleton.1 hr];rfl))
    refine zam s63 fun sv hsv=> ?_
    subst hsv
    refine q1 ?_;refine q1 ?_;first|refine z7 rfl (u5 rfl rfl rfl ?_)|refine z7 rfl (zaf rfl rfl rfl rfl (Nat.le_of_ble_eq_true rfl) ?_)
    refine v8 (zak ?_)
    refine w8 (y6 ?_)
    refine q1 ?_;refine q1 ?_;refine q1 ?_;refine q1 ?_;refine q1 ?_;refine qq rfl rfl (u9 (out:= [iv k,iv 0,iv 0]) rfl (by rfl)) ?_
    refine z7 rfl (j8 (g:=iv) (enc:=zb4) (k:=((k:Int),(0:Int),(0:Int))) (v:=(0:Int)) rfl rfl rfl ?_)
    refine rn ?_;refine zby (zaj h k).length (fun _=>True) (fun j=>⟨[(74,iv j),(1,pZ b1),(6,pZ b31),(9,iv k),(46,iv (h.os.map zfk).length),(47,iv k),(72,za6 (zaj h k)),(73,iv ((zaj h k).map za9).length)],.row sv.v 1 29 (((upR k).map (zaj h)).map yas++ [yas (zaj h k)]):: .box b31 202 (y9 h++ [mpv b26,.v sv.v,mpv b27,mpv b28,mpv b29]):: .map b29 (j9 zan (zau za6 [])):: .map b28 (j9 zb4 (zau iv (zfx h k 0 ((zaj h k).take j) (zcq (zou k ⟨0,0⟩) 0 (rkM h k))))):: .map b27 (j9 zan (zau iv (zh8 h k ((zaj h k).take j) (zz1 h k)))):: .map b26 (j9 intK (zau bv (dnM (zco h.evs)))):: .box b1 28 (y9 h):: .glob 2 156 y2:: .glob 4 305 y3:: .glob 5 308 z8:: .glob 3 246 w6:: [],[]⟩) trivial es ?_
    intro j lj _
    refine rn ?_;refine y0 rfl (fun hc75=> ?_) (fun hc75=> ?_)
    ·have hj:=zde hc75
     have rj:=zbn (f:=za9) hj
     refine rn ?_;refine qv rfl rfl (y4 rfl rfl (y1.qt (y1.of_fun (zth h la hc (zaj h k)[j] k)) ((pt7 _ _ _ _ _ _ _ _ _).trans (.cons _ ((pt7 _ _ _ _ _ _ _ _ _).trans (.cons _ ((pt7 _ _ _ _ _ _ _ _ _).trans (.cons _ (pt7 _ _ _ _ _ _ _ _ _))))))))) ?_
     refine rn ?_;refine z7 rfl (y7 rfl fun b14=> ?_)
     first|refine z7 rfl (u5 rfl rfl rfl ?_)|refine z7 rfl (zaf rfl rfl rfl rfl (Nat.le_of_ble_eq_true rfl) ?_)
     refine q1 ?_;refine q1 ?_;refine v8 (zak ?_)
     refine w8 (y6 ?_)
     refine q1 ?_;refine q1 ?_;refine q1 ?_;refine q1 ?_;refine q1 ?_;refine q1 ?_;refine qq rfl rfl (zbk (out:= [iv (zaj h k)[j],iv k]) rfl (by rfl)) ?_
     refine rn ?_;refine z7 rfl (j8 (g:=iv) (enc:=zan) (k:=((zaj h k)[j],(k:Int))) (v:=zb9 h (zaj h k)[j] k) rfl rfl rfl ?_)
     refine rn ?_;refine j4 9 rfl ?_
     refine dq rfl rfl qrA ?_;refine dq rfl rfl qrA ?_;refine dq rfl rfl qrA ?_;refine dq rfl rfl qrA ?_;refine dq rfl rfl qrA ?_;refine dq rfl rfl qrA ?_;refine dq rfl rfl (u9 (out:= [iv k,iv (zf8 h k (zaj h k)[j]).t,iv (zf8 h k (zaj h k)[j]).k]) rfl (by rfl)) ?_
     refine dq rfl rfl qrA ?_;refine dq rfl rfl (zfe rfl rfl rfl (by omega)) ?_
     refine rn ?_;refine z7 rfl (j8 (g:=iv) (enc:=zb4) (k:=((k:Int),(zf8 h k (zaj h k)[j]).t,(zf8 h k (zaj h k)[j]).k)) (v:=(j:Int)+1) rfl rfl rfl ?_)
     refine rn ?_;exact ⟨hj,trivial,by rw [zw0 hj,yca hj];exact eA⟩
    ·have qj:=zdg hc75 lj
     refine rn ?_;exact ⟨hk,sv,by rw [yad,List.map_append,List.map_append,yis,ykk];rw [qj,List.take_length];exact eA⟩
   ·have qk:k=h.os.length:=by have q:=oF hc48;rw [oM] at q;omega
    refine zjb ?_;refine zim ?_;refine zim ?_;refine zd8 ?_;refine zak ?_;refine w8 (y6 ?_)
    refine zgt (zg3 (y9 h++ [mpv b26]) [mpv b27,mpv b28,mpv b29]) ?_
    refine rn ?_;exact zbj rfl rfl (.trans (.perm (pt5 _ _ _ _ _ _ _) _) (.drop [_] _ _)) (.inl ⟨hc,b31,b26,b27,b28,b29,by rw [qk];rfl,rfl⟩)
theorem yl5 (h:Hist) (la:Lim 4611686018427387904 h) (hc:q6 h=0) (p x:Int) (bl rd rf rk rg:Nat) (M:List ((Int×Int)×List Int)) (hM:zei h M) (W:List Res):y8 Tryz.prog 161 [pZ bl,iv p,iv x] (.box bl 202 (wrP h rd rf rk rg)::rgR rg M::rkS h rk::zcw h rf::rcR h rd:: .glob 2 156 y2:: .glob 4 305 y3:: .glob 5 308 z8:: .glob 3 246 w6::W) (fun r h'=>∃M',zei h M'∧h'= .box bl 202 (wrP h rd rf rk rg)::rgR rg M'::rkS h rk::zcw h rf::rcR h rd:: .glob 2 156 y2:: .glob 4 305 y3:: .glob 5 308 z8:: .glob 3 246 w6::W∧r=za6 (chL h p x)):=by
 refine z6 Tryz.func161 rfl rfl rfl ?_
 refine w8 (y6 ?_)
 refine q1 ?_;refine v8 (zak ?_)
 refine w8 (y6 ?_)
 refine q1 ?_;refine q1 ?_;refine qq rfl rfl (zbk (out:= [iv p,iv x]) rfl (by rfl)) ?_
 refine z7 rfl (y7 rfl fun b7=> ?_)
 refine rn ?_;refine j4 10 rfl ?_
 refine dq rfl rfl qrA ?_;refine dq rfl rfl qrA ?_;refine dq rfl rfl qrA ?_;refine dq rfl rfl qrA ?_;refine dq rfl rfl qrA ?_;refine dq rfl rfl (zd6 (g:=za6) (enc:=zan) (k:=(p,x)) ([]:List Int) rfl rfl rfl) ?_
 refine rn ?_;refine y0 rfl (fun hc23=> ?_) (fun hc23=> ?_)
 ·refine rn ?_;refine qv rfl rfl (y4 rfl rfl (y1.qt (y1.of_fun (ydm h la p x)) ((pt6 _ _ _ _ _ _ _ _).trans (.cons _ ((pt6 _ _ _ _ _ _ _ _).trans (.cons _ ((pt6 _ _ _ _ _ _ _ _).trans (.cons _ (pt6 _ _ _ _ _ _ _ _))))))))) ?_
  refine rn ?_;refine j4 6 rfl ?_
  refine rn ?_;refine z7 rfl (j8 (g:=za6) (enc:=zan) (k:=(p,x)) (v:=chL h p x) rfl rfl rfl ?_)
  refine rn ?_;first|exact zal rfl (.drop [_] _ _) ⟨_,zkk hM p x,rfl,rfl⟩|exact zal rfl (.drop [_] _ _) ⟨_,hM,rfl,congrArg za6 (zkm hM hc23)⟩
 ·refine rn ?_;first|exact zal rfl (.drop [_] _ _) ⟨_,zkk hM p x,rfl,rfl⟩|exact zal rfl (.drop [_] _ _) ⟨_,hM,rfl,congrArg za6 (zkm hM hc23)⟩
theorem yc0 (h:Hist) (f x:Int) (a:Nat) (ha:a < h.evs.length) (h0:0≤x) (h1:x < h.os.length) (hf:f∈zaj h x) (bl rd rf rk rg:Nat) (M:List ((Int×Int)×List Int)) (W:List Res):y8 Tryz.prog 159 [pZ bl,iv f,iv (a:Int),iv x] (.box bl 202 (wrP h rd rf rk rg)::rgR rg M::rkS h rk::zcw h rf::rcR h rd:: .glob 2 156 y2:: .glob 4 305 y3:: .glob 5 308 z8:: .glob 3 246 w6::W) (fun r h'=>h'= .box bl 202 (wrP h rd rf rk rg)::rgR rg M::rkS h rk::zcw h rf::rcR h rd:: .glob 2 156 y2:: .glob 4 305 y3:: .glob 5 308 z8:: .glob 3 246 w6::W∧r= .agg (zaa ⟨f,h.evs[a].t,0,zb9 h f x,a,x,0⟩)):=by
 refine z6 Tryz.func159 rfl rfl rfl ?_
 have ra:=zbn (f:=evR) ha
 refine rn ?_;refine z7 rfl (y7 rfl fun b8=> ?_)
 refine rn ?_;refine j4 20 rfl ?_
 refine dq rfl rfl qrA ?_;refine dq rfl rfl qrA ?_;refine dq rfl rfl qrA ?_;refine dq rfl rfl qrA ?_;refine dq rfl rfl qrA ?_;refine dq rfl rfl qrA ?_;refine dq rfl rfl qrA ?_;refine dq rfl rfl qrA ?_;refine dq rfl rfl qrA ?_;refine dq rfl rfl qrA ?_;refine dq rfl rfl qrA ?_;refine dq rfl rfl qrA ?_;refine dq rfl rfl qrA ?_;refine dq rfl rfl qrA ?_;refine dq rfl rfl qrA ?_;refine dq rfl rfl qrA ?_;refine dq rfl rfl (zbk (out:= [iv f,iv x]) rfl (by rfl)) ?_
 refine dq rfl rfl (zpc (za0 (enc:=zan) (k:=(f,x)) 0 rfl rfl) (show iv _=iv (zb9 h f x) from congrArg iv (yg5 h0 h1 hf))) ?_
 refine rn2 ?_;refine qq rfl rfl (u9 (out:=zaa ⟨f,h.evs[a].t,0,zb9 h f x,a,x,0⟩) rfl (by rfl)) ?_
 refine rn ?_;exact zdt (.cons _ _ _ _ (.agg _ _ _ _ _ _ _ rfl inferInstance inferInstance inferInstance rfl) .nil) (.drop [_] _ _) ⟨rfl,rfl⟩
theorem zz5 (a bl:Nat) (W:List Res):y8 Tryz.prog 114 [pZ bl,iv (a:Int)] W (fun r h'=>∃ba bp,h'= .box ba 3 [iv (a:Int)]:: .box bp 147 [pZ bl]::W∧r= .fn (.func 158) [] [pZ bp,pZ ba]):=by
 refine z6 Tryz.func114 rfl rfl rfl ?_
 refine rn ?_;refine z7 rfl (w7 rfl rfl rfl fun b2=> ?_)
 refine z7 rfl (w7 rfl rfl rfl fun b3=> ?_)
 refine rn ?_;exact zal rfl (.refl _ _) ⟨_,_,rfl,rfl⟩
theorem zz4 (a bl:Nat) (W:List Res):y8 Tryz.prog 115 [pZ bl,iv (a:Int)] W (fun r h'=>∃ba bp,h'= .box ba 3 [iv (a:Int)]:: .box bp 147 [pZ bl]::W∧r= .fn (.func 160) [] [pZ bp,pZ ba]):=by
 refine z6 Tryz.func115 rfl rfl rfl ?_
 refine rn ?_;refine z7 rfl (w7 rfl rfl rfl fun b2=> ?_)
 refine z7 rfl (w7 rfl rfl rfl fun b3=> ?_)
 refine rn ?_;exact zal rfl (.refl _ _) ⟨_,_,rfl,rfl⟩
theorem yl1 {h:Hist} (hs:zar h=true) {e:Ev} (o0:0≤e.o) (o1:e.o < h.os.length) (hn:((zap (e.o,e.v.t,e.v.k) (rkM h h.os.length)).getD 0==0)=false):∃k,∃hk:k < (zaj h e.o).length,(zap (e.o,e.v.t,e.v.k) (rkM h h.os.length)).getD 0=(k:Int)+1∧zl4 h e.o ((k:Int)+1)=(zaj h e.o)[k]:=by
 cases hq:zap (e.o,e.v.t,e.v.k) (rkM h h.os.length) with
 |none=>rw [hq] at hn;simp at hn
 |some r=>
  rw [hq] at hn
  obtain ⟨k,hk,e1,_⟩:=yip hs o0 o1 (v:=e.v) (r:=r) hq (by simpa using hn)
  refine ⟨k,hk,by rw [e1];rfl,?_⟩
  rw [zl4,show ((k:Int)+1 - 1).toNat=k by omega,List.getElem?_eq_getElem hk];rfl
theorem zsl {h:Hist} {e:Ev} {a:Nat} (h3:e.kind≠3):zb6 h e a= []:=by rw [zb6,if_neg (by simpa using h3)]
theorem zsk {h:Hist} {e:Ev} {a:Nat} (hn:((zap (e.o,e.v.t,e.v.k) (rkM h h.os.length)).getD 0==0)=true):zb6 h e a= []:=by
 rw [zb6];split
 ·exact if_pos hn
 ·rfl
theorem zsj {h:Hist} {e:Ev} {a k:Nat} (hk:k < (zaj h e.o).length) (hr:(zap (e.o,e.v.t,e.v.k) (rkM h h.os.length)).getD 0=(k:Int)+1) (ea:zl4 h e.o ((k:Int)+1)=(zaj h e.o)[k]) (ht:((zaj h e.o)[k]==e.t)=true):zb6 h e a= []:=by
 have hr:(zgk h e.o e.v).getD 0=(k:Int)+1:=hr
 rw [zb6];split
 ·rw [hr,ea,ht];split <;> rfl
 ·rfl
theorem zz6 {h:Hist} {e:Ev} {a k:Nat} (h3:e.kind=3) (hk:k < (zaj h e.o).length) (hr:(zap (e.o,e.v.t,e.v.k) (rkM h h.os.length)).getD 0=(k:Int)+1) (ea:zl4 h e.o ((k:Int)+1)=(zaj h e.o)[k]) (ht:((zaj h e.o)[k]==e.t)=false):zb6 h e a= [wrC h e a 1 (zaj h e.o)[k] e.o 0]:=by
 have hr:(zgk h e.o e.v).getD 0=(k:Int)+1:=hr
 rw [zb6,if_pos (by simpa using h3),hr,ea,ht,if_neg (by simp;omega),if_neg (by decide)]
theorem yei {σ:Type} (h:Hist) (la:Lim 4611686018427387904 h) (hc:q6 h=0) (a:Nat) (ha:a < h.evs.length) (y:AV) (bp ba:Nat) (bl rd rf rk rg:Nat) (M0:List ((Int×Int)×List Int)) (hM0:zei h M0) (p:List Conf→σ→Prop) (q:σ→Prop) (I:List Conf→σ→List Res) (X:σ→List Res) (x0:σ) (hp0:p [] x0) (hy:∀pre d rest x M,(zb6 h h.evs[a] a)=pre++d::rest→p pre x→zei h M→y1 Tryz.prog y [.agg (zaa d)] (.box ba 3 [iv (a:Int)]:: .box bp 147 [pZ bl]:: .box bl 202 (wrP h rd rf rk rg)::rgR rg M::rkS h rk::zcw h rf::rcR h rd:: .glob 2 156 y2:: .glob 4 305 y3:: .glob 5 308 z8:: .glob 3 246 w6::I pre x) (fun r h'=>∃x',(r=bv true∧p (pre++ [d]) x'∧h'= .box ba 3 [iv (a:Int)]:: .box bp 147 [pZ bl]:: .box bl 202 (wrP h rd rf rk rg)::rgR rg M::rkS h rk::zcw h rf::rcR h rd:: .glob 2 156 y2:: .glob 4 305 y3:: .glob 5 308 z8:: .glob 3 246 w6::I (pre++ [d]) x')∨(r=bv false∧q x'∧h'= .box ba 3 [iv (a:Int)]:: .box bp 147 [pZ bl]:: .box bl 202 (wrP h rd rf rk rg)::rgR rg M::rkS h rk::zcw h rf::rcR h rd:: .glob 2 156 y2:: .glob 4 305 y3:: .glob 5 308 z8:: .glob 3 246 w6::X x'))):y8 Tryz.prog 158 [y,pZ bp,pZ ba] (.box ba 3 [iv (a:Int)]:: .box bp 147 [pZ bl]:: .box bl 202 (wrP h rd rf rk rg)::rgR rg M0::rkS h rk::zcw h rf::rcR h rd:: .glob 2 156 y2:: .glob 4 305 y3:: .glob 5 308 z8:: .glob 3 246 w6::I [] x0) (fun r h'=>∃x M,zei h M∧((p (zb6 h h.evs[a] a) x∧h'= .box ba 3 [iv (a:Int)]:: .box bp 147 [pZ bl]:: .box bl 202 (wrP h rd rf rk rg)::rgR rg M::rkS h rk::zcw h rf::rcR h rd:: .glob 2 156 y2:: .glob 4 305 y3:: .glob 5 308 z8:: .glob 3 246 w6::I (zb6 h h.evs[a] a) x)∨(q x∧h'= .box ba 3 [iv (a:Int)]:: .box bp 147 [pZ bl]:: .box bl 202 (wrP h rd rf rk rg)::rgR rg M::rkS h rk::zcw h rf::rcR h rd:: .glob 2 156 y2:: .glob 4 305 y3:: .glob 5 308 z8:: .glob 3 246 w6::X x))):=by
 refine z6 Tryz.func158 rfl rfl rfl ?_
 have ra:=zbn (f:=evR) ha
 refine rn ?_;refine j4 9 rfl ?_
 refine rn ?_;refine zkj rfl fun b4=> ?_
 refine rn ?_;refine y0 rfl (fun hc17=> ?_) (fun hc17=> ?_)
 ·have h3:h.evs[a].kind≠3:=by simpa using hc17
  refine rn ?_;exact zdt .nil (.drop [_] _ _) ⟨x0,M0,hM0,.inl ⟨by rw [zsl h3];exact hp0,by rw [zsl h3]⟩⟩
 ·have h3:h.evs[a].kind=3:=by simpa using hc17
  obtain ⟨⟨o0,o1⟩, -⟩:=zk4 (zcz (zat.1 hc) _ (List.getElem_mem ha)) h3
  refine rn ?_;refine j4 9 rfl ?_
  refine dq rfl rfl qrA ?_;refine dq rfl rfl qrA ?_;refine dq rfl rfl qrA ?_;refine dq rfl rfl qrA ?_;refine dq rfl rfl qrA ?_;refine dq rfl rfl qrA ?_;refine dq rfl rfl qrA ?_;refine dq rfl rfl qrA ?_;refine dq rfl rfl (u9 (out:= [iv h.evs[a].o,iv h.evs[a].v.t,iv h.evs[a].v.k]) rfl (by rfl)) ?_
  refine rn2 ?_;refine qq rfl rfl (za0 (enc:=zb4) (k:=(h.evs[a].o,h.evs[a].v.t,h.evs[a].v.k)) (0:Int) rfl rfl) ?_
  refine rn ?_;refine j4 17 rfl ?_
  refine rn ?_;refine zcu (fun hg3_2=> ?_) (fun hg3_2=> ?_)
  ·refine rn ?_;refine zsb rfl ?_;have hw:(zb6 h h.evs[a] a)= []:=by
    first
    |exact zsk hg3_2
    |exact zsj hk hr ea hc46
   refine rn ?_;exact zdt .nil (.drop [_] _ _) ⟨x0,M0,hM0,.inl ⟨by rw [hw];exact hp0,by rw [hw]⟩⟩
  ·obtain ⟨k,hk,hr,ea⟩:=yl1 (zat.1 hc) o0 o1 hg3_2
   have hil:=zlf hc o0 o1
   rw [hr]
   have rr:((zaj h h.evs[a].o).map za9)[((k:Int)+1 - 1).toNat]? =some (za9 (zaj h h.evs[a].o)[k]):=by rw [show ((k:Int)+1 - 1).toNat=k by omega];exact zbn hk
   refine dq rfl rfl qrA ?_;refine dq rfl rfl qrA ?_;refine dq rfl rfl qrA ?_;refine dq rfl rfl qrA ?_;refine dq rfl rfl qrA ?_;refine dq rfl rfl qrA ?_;refine dq rfl rfl (zaz rfl rfl o0 (zh5 h o0 o1)) ?_
   refine dq rfl rfl qrA ?_;refine dq rfl rfl qrA ?_;refine dq rfl rfl (zfe rfl rfl rfl (by omega)) ?_
   refine dq rfl rfl (zaz rfl rfl (by omega) rr) ?_
   refine rn ?_;refine y0 rfl (fun hc46=> ?_) (fun hc46=> ?_)
   ·have hw:(zb6 h h.evs[a] a)= []:=by
     first
     |exact zsk hg3_2
     |exact zsj hk hr ea hc46
    refine rn ?_;exact zdt .nil (.drop [_] _ _) ⟨x0,M0,hM0,.inl ⟨by rw [hw];exact hp0,by rw [hw]⟩⟩
   ·have hw:(zb6 h h.evs[a] a)= [(wrC h h.evs[a] a 1 (zaj h h.evs[a].o)[k] h.evs[a].o 0)]:=zz6 h3 hk hr ea hc46
    refine rn ?_;refine j4 18 rfl ?_
    refine dq rfl rfl qrA ?_;refine dq rfl rfl qrA ?_;refine dq rfl rfl qrA ?_;refine dq rfl rfl qrA ?_;refine dq rfl rfl qrA ?_;refine dq rfl rfl qrA ?_;refine dq rfl rfl qrA ?_;refine dq rfl rfl (zaz rfl rfl o0 (zh5 h o0 o1)) ?_
    refine dq rfl rfl qrA ?_;refine dq rfl rfl qrA ?_;refine dq rfl rfl (zfe rfl rfl rfl (by omega)) ?_
    refine dq rfl rfl (zaz rfl rfl (by omega) rr) ?_
    refine rn ?_;refine dv rfl rfl (by exact y4 rfl rfl (y1.qt (y1.of_fun (yc0 h (zaj h h.evs[a].o)[k] h.evs[a].o a ha o0 o1 (List.getElem_mem hk) bl rd rf rk rg M0 [])) ((pt3 _ _ _ _ _).trans (.cons _ ((pt3 _ _ _ _ _).trans (.cons _ ((pt3 _ _ _ _ _).trans (.cons _ ((pt3 _ _ _ _ _).trans (.cons _ ((pt3 _ _ _ _ _).trans (.cons _ ((pt3 _ _ _ _ _).trans (.cons _ ((pt3 _ _ _ _ _).trans (.cons _ ((pt3 _ _ _ _ _).trans (.cons _ (pt3 _ _ _ _ _))))))))))))))))))) ?_
    refine rn ?_;refine zkj rfl fun b6=> ?_
    refine rn2 ?_;first|refine z7 rfl (u5 rfl rfl rfl ?_)|refine z7 rfl (zaf rfl rfl rfl rfl (Nat.le_of_ble_eq_true rfl) ?_)
    refine v8 (zak ?_)
    refine w8 (y6 ?_)
    refine q1 ?_;first|refine z7 rfl (u5 rfl rfl rfl ?_)|refine z7 rfl (zaf rfl rfl rfl rfl (Nat.le_of_ble_eq_true rfl) ?_)
    refine v8 (zak ?_)
    refine y6 ?_;refine q1 ?_;refine q1 ?_;refine z7 rfl (q7 rfl rfl (y1.fr2 (hy [] (wrC h h.evs[a] a 1 (zaj h h.evs[a].o)[k] h.evs[a].o 0) [] x0 M0 hw hp0 hM0)) rfl ?_)
    rintro _ _ ⟨_,rfl,x',⟨rfl,hp',rfl⟩|⟨rfl,hq',rfl⟩⟩
    ·refine rn ?_;first|exact zc3 .nil (.drop [_,_] _ _) ⟨x',M0,hM0,.inr ⟨hq',rfl⟩⟩|exact zc3 .nil (.drop [_,_] _ _) ⟨x',M0,hM0,.inl ⟨by rw [hw];exact hp',by rw [hw];rfl⟩⟩
    ·refine rn ?_;first|exact zc3 .nil (.drop [_,_] _ _) ⟨x',M0,hM0,.inr ⟨hq',rfl⟩⟩|exact zc3 .nil (.drop [_,_] _ _) ⟨x',M0,hM0,.inl ⟨by rw [hw];exact hp',by rw [hw];rfl⟩⟩
theorem zsh {h:Hist} {a:Nat} (ha:a < h.evs.length) (hc:q6 h=0) (hs:zda h a≠0):zdk h h.evs[a] a= []:=by
 rw [zdk];split
 ·rename_i h4;exact absurd (ylp ha hc (eq_of_beq h4)).1 hs
 ·rfl
theorem ye6 {h:Hist} {a:Nat} (ha:a < h.evs.length) (hc:q6 h=0) (hs:zda h a=0):h.evs[a].kind=4:=by
 by_cases h4:h.evs[a].kind=4
 ·exact h4
 ·have:=(yhu (n:=(a:Int)) hc (fun q=>h4 (by rw [zpx ha] at q;exact q.2.2))).1
  omega
theorem znh {h:Hist} {e:Ev} {a:Nat} (h4:e.kind=4):zdk h e a=(k7 h e a).flatMap (zaq h e a):=by rw [zdk,if_pos (by simpa using h4)]
theorem yfc {h:Hist} {e:Ev} {a:Nat} {s:Seen} (hn:(!(zgk h s.o s.v).isSome)=true):zaq h e a s= []:=by
 rw [zaq];cases hq:zgk h s.o s.v with
 |none=>rfl
 |some r=>rw [hq] at hn;cases hn
theorem zq1 {h:Hist} {e:Ev} {a:Nat} {s:Seen} {r:Int} (hr:zgk h s.o s.v=some r):zaq h e a s=((chL h e.p s.o).takeWhile fun k=>decide (k≤r)).filterMap (wrQ h e a s.o):=by rw [zaq,hr]
theorem zj5 {q:Int→Bool}:∀(l:List Int) (j:Nat),((l.take j).all q)=true→l.takeWhile q=l.take j++(l.drop j).takeWhile q
 |_,0,_=>by simp
 | [],j+1,_=>by simp
 |a::l,j+1,h=>by
  rw [List.take_succ_cons,List.all_cons,Bool.and_eq_true] at h
  rw [List.takeWhile_cons,h.1,List.take_succ_cons,List.drop_succ_cons,if_pos rfl,zj5 l j h.2];rfl
theorem yer {l:List Int} {r:Int} {j:Nat} (hj:j < l.length) (ha:((l.take j).all fun k=>decide (k≤r))=true) (hg:decide (l[j] > r)=true):(l.takeWhile fun k=>decide (k≤r))=l.take j:=by
 rw [zj5 l j ha,List.drop_eq_getElem_cons hj,List.takeWhile_cons,if_neg (by have:=oT hg;simpa using this),List.append_nil]
theorem yia {l:List Int} {r:Int} {j:Nat} (hj:j=l.length) (ha:((l.take j).all fun k=>decide (k≤r))=true):(l.takeWhile fun k=>decide (k≤r))=l.take j:=by
 rw [zj5 l j ha,hj,List.drop_length];simp
theorem yl8 {l:List Int} {r:Int} {j:Nat} (hj:j < l.length) (ha:((l.take j).all fun k=>decide (k≤r))=true) (hg:decide (l[j] > r)=false):((l.take (j+1)).all fun k=>decide (k≤r))=true:=by
 rw [List.take_succ_eq_append_getElem hj,List.all_append,ha]
 have:=oF hg
 simp;omega
theorem yll {h:Hist} {e:Ev} {a:Nat} {L:List Seen} {i:Nat} (hi:i < L.length):(L.take (i+1)).flatMap (zaq h e a)=(L.take i).flatMap (zaq h e a)++zaq h e a L[i]:=by
 rw [List.take_succ_eq_append_getElem hi,List.flatMap_append];simp
theorem yh3 {h:Hist} {e:Ev} {a i j:Nat} {r:Int} {d:Conf} (h4:e.kind=4) (hi:i < (k7 h e a).length) (hr:zgk h (k7 h e a)[i].o (k7 h e a)[i].v=some r) (hj:j < (chL h e.p (k7 h e a)[i].o).length)
 (ha:(((chL h e.p (k7 h e a)[i].o).take j).all fun k=>decide (k≤r))=true) (hg:decide ((chL h e.p (k7 h e a)[i].o)[j] > r)=false) (hd:wrQ h e a (k7 h e a)[i].o (chL h e.p (k7 h e a)[i].o)[j]=some d):
 ∃rest,zdk h e a=(((k7 h e a).take i).flatMap (zaq h e a)++((chL h e.p (k7 h e a)[i].o).take j).filterMap (wrQ h e a (k7 h e a)[i].o))++d::rest:=by
 have hg':=oF hg
 have e1:zaq h e a (k7 h e a)[i]=((chL h e.p (k7 h e a)[i].o).take j).filterMap (wrQ h e a (k7 h e a)[i].o)++d::(((chL h e.p (k7 h e a)[i].o).drop (j+1)).takeWhile fun k=>decide (k≤r)).filterMap (wrQ h e a (k7 h e a)[i].o):=by
  rw [zq1 hr,zj5 _ j ha,List.drop_eq_getElem_cons hj,List.takeWhile_cons,if_pos (by simp;omega),List.filterMap_append,List.filterMap_cons,hd]
 refine ⟨(((chL h e.p (k7 h e a)[i].o).drop (j+1)).takeWhile fun k=>decide (k≤r)).filterMap (wrQ h e a (k7 h e a)[i].o)++((k7 h e a).drop (i+1)).flatMap (zaq h e a),?_⟩
 rw [znh h4]
 conv=>lhs;rw [←List.take_append_drop i (k7 h e a),List.drop_eq_getElem_cons hi]
 rw [List.flatMap_append,List.flatMap_cons,e1]
 simp [List.append_assoc]
theorem ycp {h:Hist} (hc:q6 h=0) {p x:Int} {k:Int} (hk:k∈chL h p x):1≤k∧k≤(zaj h x).length:=by
 rw [chL] at hk;split at hk
 ·rename_i ht
  rw [yhe,zie] at hk
  obtain ⟨j,rfl,j0,j1,_⟩:=hk
  rw [zin] at j1
  omega
 ·cases hk
theorem ygw {h:Hist} {x k:Int} (h1:1≤k) (h2:k≤(zaj h x).length):zl4 h x k∈zaj h x∧((zaj h x).map za9)[(k - 1).toNat]? =some (za9 (zl4 h x k)):=by
 have hl:(k - 1).toNat < (zaj h x).length:=by omega
 rw [zl4,List.getElem?_eq_getElem hl,List.getElem?_map,List.getElem?_eq_getElem hl]
 exact ⟨List.getElem_mem hl,rfl⟩
theorem yh4 {h:Hist} {e:Ev} {a:Nat} {x k:Int} (ht:(zl4 h x k !=e.t)=false):wrQ h e a x k=none:=by rw [wrQ,if_pos (by simpa using ht)]
theorem yej {h:Hist} {e:Ev} {a:Nat} {x k:Int} (ht:(zl4 h x k !=e.t)=true):wrQ h e a x k=some (wrC h e a 2 (zl4 h x k) x e.p):=by rw [wrQ,if_neg (by simpa using ht)]
theorem yeg {σ:Type} (h:Hist) (la:Lim 4611686018427387904 h) (hc:q6 h=0) (a:Nat) (ha:a < h.evs.length) (y:AV) (bp ba:Nat) (bl rd rf rk rg:Nat) (M0:List ((Int×Int)×List Int)) (hM0:zei h M0) (p:List Conf→σ→Prop) (q:σ→Prop) (I:List Conf→σ→List Res) (X:σ→List Res) (x0:σ) (hp0:p [] x0) (hy:∀pre d rest x M,(zdk h h.evs[a] a)=pre++d::rest→p pre x→zei h M→y1 Tryz.prog y [.agg (zaa d)] (.box ba 3 [iv (a:Int)]:: .box bp 147 [pZ bl]:: .box bl 202 (wrP h rd rf rk rg)::rgR rg M::rkS h rk::zcw h rf::rcR h rd:: .glob 2 156 y2:: .glob 4 305 y3:: .glob 5 308 z8:: .glob 3 246 w6::I pre x) (fun r h'=>∃x',(r=bv true∧p (pre++ [d]) x'∧h'= .box ba 3 [iv (a:Int)]:: .box bp 147 [pZ bl]:: .box bl 202 (wrP h rd rf rk rg)::rgR rg M::rkS h rk::zcw h rf::rcR h rd:: .glob 2 156 y2:: .glob 4 305 y3:: .glob 5 308 z8:: .glob 3 246 w6::I (pre++ [d]) x')∨(r=bv false∧q x'∧h'= .box ba 3 [iv (a:Int)]:: .box bp 147 [pZ bl]:: .box bl 202 (wrP h rd rf rk rg)::rgR rg M::rkS h rk::zcw h rf::rcR h rd:: .glob 2 156 y2:: .glob 4 305 y3:: .glob 5 308 z8:: .glob 3 246 w6::X x'))):y8 Tryz.prog 160 [y,pZ bp,pZ ba] (.box ba 3 [iv (a:Int)]:: .box bp 147 [pZ bl]:: .box bl 202 (wrP h rd rf rk rg)::rgR rg M0::rkS h rk::zcw h rf::rcR h rd:: .glob 2 156 y2:: .glob 4 305 y3:: .glob 5 308 z8:: .glob 3 246 w6::I [] x0) (fun r h'=>∃x M,zei h M∧((p (zdk h h.evs[a] a) x∧h'= .box ba 3 [iv (a:Int)]:: .box bp 147 [pZ bl]:: .box bl 202 (wrP h rd rf rk rg)::rgR rg M::rkS h rk::zcw h rf::rcR h rd:: .glob 2 156 y2:: .glob 4 305 y3:: .glob 5 308 z8:: .glob 3 246 w6::I (zdk h h.evs[a] a) x)∨(q x∧h'= .box ba 3 [iv (a:Int)]:: .box bp 147 [pZ bl]:: .box bl 202 (wrP h rd rf rk rg)::rgR rg M::rkS h rk::zcw h rf::rcR h rd:: .glob 2 156 y2:: .glob 4 305 y3:: .glob 5 308 z8:: .glob 3 246 w6::X x))):=by
 refine z6 Tryz.func160 rfl rfl rfl ?_
 have ra:=zbn (f:=evR) ha
 refine zif ?_;refine rn ?_;refine j4 9 rfl ?_
 refine rn ?_;refine zkj rfl fun b4=> ?_
 refine rn ?_;refine j4 10 rfl ?_
 refine rn ?_;refine dv rfl rfl (by exact y4 rfl rfl (y1.qt (y1.of_fun (ydl h la a)) ((pt8 _ _ _ _ _ _ _ _ _ _).trans (.cons _ ((pt8 _ _ _ _ _ _ _ _ _ _).trans (.cons _ ((pt8 _ _ _ _ _ _ _ _ _ _).trans (.cons _ (pt8 _ _ _ _ _ _ _ _ _ _))))))))) ?_
 refine rn ?_;refine y0 rfl (fun hc33=> ?_) (fun hc33=> ?_)
 ·have hs:=nzT hc33
  refine rn ?_;refine ⟨fun l h=>(by cases h),?_⟩
  exact zdt .nil (.drop [_] _ _) ⟨x0,M0,hM0,.inl ⟨by rw [zsh ha hc hs];exact hp0,by rw [zsh ha hc hs]⟩⟩
 ·have hs:=nzF hc33
  have h4:=ye6 ha hc hs
  rw [(ylp ha hc h4).2]
  have hsl:(k7 h h.evs[a] a).length≤3000:=by rw [zk0];exact (zdh hc).os
  refine rn ?_;refine zfc (k7 h h.evs[a] a).length (fun i (z:σ×List ((Int×Int)×List Int))=>p (((k7 h h.evs[a] a).take i).flatMap (zaq h h.evs[a] a)) z.1∧zei h z.2) (fun i z=>⟨[(36,iv i),(0,y),(1,pZ bp),(2,pZ ba),(4,pZ b4),(34,zgz (k7 h h.evs[a] a)),(35,iv ((k7 h h.evs[a] a).map zav).length)],.box b4 60 (evR h.evs[a]):: .box ba 3 [iv (a:Int)]:: .box bp 147 [pZ bl]:: .box bl 202 (wrP h rd rf rk rg)::rgR rg z.2::rkS h rk::zcw h rf::rcR h rd:: .glob 2 156 y2:: .glob 4 305 y3:: .glob 5 308 z8:: .glob 3 246 w6::I (((k7 h h.evs[a] a).take i).flatMap (zaq h h.evs[a] a)) z.1,[]⟩) (x0,M0) ⟨hp0,hM0⟩ es ?_
  rintro i ⟨x,M⟩ li ⟨zi,hM⟩
  have zi:p (((k7 h h.evs[a] a).take i).flatMap (zaq h h.evs[a] a)) x:=zi
  have hM:zei h M:=hM
  show aw _ _ _ _ _ ⟨[(36,iv i),(0,y),(1,pZ bp),(2,pZ ba),(4,pZ b4),(34,zgz (k7 h h.evs[a] a)),(35,iv ((k7 h h.evs[a] a).map zav).length)],.box b4 60 (evR h.evs[a]):: .box ba 3 [iv (a:Int)]:: .box bp 147 [pZ bl]:: .box bl 202 (wrP h rd rf rk rg)::rgR rg M::rkS h rk::zcw h rf::rcR h rd:: .glob 2 156 y2:: .glob 4 305 y3:: .glob 5 308 z8:: .glob 3 246 w6::I (((k7 h h.evs[a] a).take i).flatMap (zaq h h.evs[a] a)) x,[]⟩
  refine rn ?_;refine y0 rfl (fun hc37=> ?_) (fun hc37=> ?_)
  ·have hi:=zde hc37
   have ri:=zbn (f:=zav) hi
   obtain ⟨⟨o0,o1⟩, -⟩:=zwn (List.getElem_mem hi)
   have hcl:=zt0 hc h.evs[a].p (k7 h h.evs[a] a)[i].o
   have hil:=zlf hc o0 o1
   refine rn ?_;refine z7 rfl (y7 rfl fun b8=> ?_)
   refine rn ?_;refine j4 10 rfl ?_
   refine dq rfl rfl qrA ?_;refine dq rfl rfl qrA ?_;refine dq rfl rfl qrA ?_;refine dq rfl rfl qrA ?_;refine dq rfl rfl (zpc (zhd rfl rfl) (show AV.agg (zav (k7 h h.evs[a] a)[i])=AV.agg [iv (k7 h h.evs[a] a)[i].o,iv (k7 h h.evs[a] a)[i].v.t,iv (k7 h h.evs[a] a)[i].v.k] from rfl)) ?_
   refine dq rfl rfl (zd6 (g:=iv) (enc:=zb4) (k:=((k7 h h.evs[a] a)[i].o,(k7 h h.evs[a] a)[i].v.t,(k7 h h.evs[a] a)[i].v.k)) (0:Int) rfl rfl rfl) ?_
   refine rn ?_;refine y0 rfl (fun hc50=> ?_) (fun hc50=> ?_)
   ·have hw:zaq h h.evs[a] a (k7 h h.evs[a] a)[i]= []:=yfc hc50
    refine rn ?_;exact ⟨hi,(x,M),⟨by simp only;rw [yll hi,hw,List.append_nil];exact zi,hM⟩,by simp only;rw [yll hi,hw,List.append_nil];exact eA⟩
   ·obtain ⟨r0,hr⟩:∃r,(zap ((k7 h h.evs[a] a)[i].o,(k7 h h.evs[a] a)[i].v.t,(k7 h h.evs[a] a)[i].v.k) (rkM h h.os.length))=some r:=Option.isSome_iff_exists.1 (by simpa using hc50)
    have hr':zgk h (k7 h h.evs[a] a)[i].o (k7 h h.evs[a] a)[i].v=some r0:=hr
    rw [hr,Option.getD_some,Option.isSome_some]
    refine rn ?_;refine z7 rfl (q7 rfl rfl (y1.fr4 (y1.of_fun (yl5 h la hc h.evs[a].p (k7 h h.evs[a] a)[i].o bl rd rf rk rg M hM (I (((k7 h h.evs[a] a).take i).flatMap (zaq h h.evs[a] a)) x)))) rfl ?_)
    rintro _ _ ⟨_,rfl,M',hM',rfl,rfl⟩
    refine rn ?_;refine zfc (chL h h.evs[a].p (k7 h h.evs[a] a)[i].o).length (fun j (x:σ)=>(((chL h h.evs[a].p (k7 h h.evs[a] a)[i].o).take j).all fun k=>decide (k≤r0))=true∧p ((((k7 h h.evs[a] a).take i).flatMap (zaq h h.evs[a] a))++((chL h h.evs[a].p (k7 h h.evs[a] a)[i].o).take j).filterMap (wrQ h h.evs[a] a (k7 h h.evs[a] a)[i].o)) x) (fun j x=>⟨[(58,iv j),(0,y),(1,pZ bp),(2,pZ ba),(4,pZ b4),(8,pZ b8),(9,iv r0),(34,zgz (k7 h h.evs[a] a)),(35,iv ((k7 h h.evs[a] a).map zav).length),(36,iv i),(56,za6 (chL h h.evs[a].p (k7 h h.evs[a] a)[i].o)),(57,iv ((chL h h.evs[a].p (k7 h h.evs[a] a)[i].o).map za9).length)],.box b8 70 (zav (k7 h h.evs[a] a)[i]):: .box b4 60 (evR h.evs[a]):: .box ba 3 [iv (a:Int)]:: .box bp 147 [pZ bl]:: .box bl 202 (wrP h rd rf rk rg)::rgR rg M'::rkS h rk::zcw h rf::rcR h rd:: .glob 2 156 y2:: .glob 4 305 y3:: .glob 5 308 z8:: .glob 3 246 w6::I ((((k7 h h.evs[a] a).take i).flatMap (zaq h h.evs[a] a))++((chL h h.evs[a].p (k7 h h.evs[a] a)[i].o).take j).filterMap (wrQ h h.evs[a] a (k7 h h.evs[a] a)[i].o)) x,[]⟩) x ⟨by simp,by simpa using zi⟩ (by simpa using eA) ?_
    intro j x lj zj
    refine rn ?_;refine y0 rfl (fun hc59=> ?_) (fun hc59=> ?_)
    ·have hj:=zde hc59
     have rj:=zbn (f:=za9) hj
     obtain ⟨k0,k1⟩:=ycp hc (List.getElem_mem hj)
     obtain ⟨hmem,rr⟩:=ygw k0 k1
     refine rn ?_;refine y0 rfl (fun hc64=> ?_) (fun hc64=> ?_)
     ·have htw:=yer hj zj.1 hc64
      refine rn ?_;have e1:((((k7 h h.evs[a] a).take i).flatMap (zaq h h.evs[a] a))++((chL h h.evs[a].p (k7 h h.evs[a] a)[i].o).take j).filterMap (wrQ h h.evs[a] a (k7 h h.evs[a] a)[i].o))=(((k7 h h.evs[a] a).take (i+1)).flatMap (zaq h h.evs[a] a)):=by rw [yll hi,zq1 hr',htw]
      exact ⟨hi,(x,M'),⟨by rw [←e1];exact zj.2,hM'⟩,by simp only;rw [←e1];exact eA⟩
     ·have hon:=yl8 hj zj.1 hc64
      refine rn ?_;refine j4 10 rfl ?_
      refine dq rfl rfl qrA ?_;refine dq rfl rfl qrA ?_;refine dq rfl rfl qrA ?_;refine dq rfl rfl qrA ?_;refine dq rfl rfl qrA ?_;refine dq rfl rfl qrA ?_;refine dq rfl rfl (zaz rfl rfl o0 (zh5 h o0 o1)) ?_
      refine dq rfl rfl qrA ?_;refine dq rfl rfl qrA ?_;refine dq rfl rfl (zfe rfl rfl rfl (by omega)) ?_
      refine rn2 ?_;refine qq rfl rfl (zaz rfl rfl (by omega) rr) ?_
      refine rn ?_;refine qv rfl rfl (y4 rfl rfl (y1.qt (y1.of_fun (yc0 h (zl4 h (k7 h h.evs[a] a)[i].o (chL h h.evs[a].p (k7 h h.evs[a] a)[i].o)[j]) (k7 h h.evs[a] a)[i].o a ha o0 o1 hmem bl rd rf rk rg M' [])) ((pt4 _ _ _ _ _ _).trans (.cons _ ((pt4 _ _ _ _ _ _).trans (.cons _ ((pt4 _ _ _ _ _ _).trans (.cons _ ((pt4 _ _ _ _ _ _).trans (.cons _ ((pt4 _ _ _ _ _ _).trans (.cons _ ((pt4 _ _ _ _ _ _).trans (.cons _ ((pt4 _ _ _ _ _ _).trans (.cons _ ((pt4 _ _ _ _ _ _).trans (.cons _ (pt4 _ _ _ _ _ _))))))))))))))))))) ?_
      refine z7 rfl (y7 rfl fun b14=> ?_)
      refine rn ?_;refine zdj 4 [(b14,41,_)] rfl (List.perm_append_comm (l₁:= [_])) ?_
      refine rn ?_;refine dw 0 rfl rfl rfl rfl rfl (Nat.le_of_ble_eq_true rfl) ?_
      refine rn2 ?_;show zb5 _ _ _ _ _ _ ⟨_,.box b14 41 (zaa ⟨zl4 h (k7 h h.evs[a] a)[i].o (chL h h.evs[a].p (k7 h h.evs[a] a)[i].o)[j],h.evs[a].t,2,zb9 h (zl4 h (k7 h h.evs[a] a)[i].o (chL h h.evs[a].p (k7 h h.evs[a] a)[i].o)[j]) (k7 h h.evs[a] a)[i].o,a,(k7 h h.evs[a] a)[i].o,0⟩):: .box b8 70 (zav (k7 h h.evs[a] a)[i]):: .box b4 60 (evR h.evs[a]):: .box ba 3 [iv (a:Int)]:: .box bp 147 [pZ bl]:: .box bl 202 (wrP h rd rf rk rg)::rgR rg M'::rkS h rk::zcw h rf::rcR h rd:: .glob 2 156 y2:: .glob 4 305 y3:: .glob 5 308 z8:: .glob 3 246 w6::I ((((k7 h h.evs[a] a).take i).flatMap (zaq h h.evs[a] a))++((chL h h.evs[a].p (k7 h h.evs[a] a)[i].o).take j).filterMap (wrQ h h.evs[a] a (k7 h h.evs[a] a)[i].o)) x,_⟩
      refine rn ?_;refine u0 (fun hg15_4=> ?_) (fun hg15_4=> ?_)
      ·refine q1 ?_;refine q1 ?_;obtain ⟨rest,hL⟩:=yh3 h4 hi hr' hj zj.1 hc64 (yej hg15_4)
       refine z7 rfl (q7 rfl rfl (y1.fr3 (hy ((((k7 h h.evs[a] a).take i).flatMap (zaq h h.evs[a] a))++((chL h h.evs[a].p (k7 h h.evs[a] a)[i].o).take j).filterMap (wrQ h h.evs[a] a (k7 h h.evs[a] a)[i].o)) _ rest x M' hL zj.2 hM')) rfl ?_)
       rintro _ _ ⟨_,rfl,x',⟨rfl,hp',rfl⟩|⟨rfl,hq',rfl⟩⟩
       ·refine rn ?_;refine y0 rfl (fun hc96=> ?_) (fun hc96=> ?_)
        ·first|cases hc96|exact absurd hc96 (by decide)|(exfalso;simp_all;done)
        ·refine rn ?_;exact ⟨hj,x',⟨hon,by rw [yhz hj (yej hg15_4),←List.append_assoc];exact hp'⟩,by rw [yhz hj (yej hg15_4),←List.append_assoc];exact eA⟩
       ·refine rn ?_;refine y0 rfl (fun hc96=> ?_) (fun hc96=> ?_)
        ·refine rn ?_;refine ⟨fun l h=>(by cases h),?_⟩
         exact zdt .nil (.drop [_,_,_] _ _) ⟨x',M',hM',.inr ⟨hq',rfl⟩⟩
        ·first|cases hc96|exact absurd hc96 (by decide)|(exfalso;simp_all;done)
      ·refine rn ?_;refine zof rfl ?_;refine rn ?_;exact ⟨hj,x,⟨hon,by rw [yh0 hj (yh4 hg15_4)];exact zj.2⟩,by rw [yh0 hj (yh4 hg15_4)];exact eA⟩
    ·have qj:=zdg hc59 lj
     refine rn ?_;have htw:=yia qj zj.1
     have e1:((((k7 h h.evs[a] a).take i).flatMap (zaq h h.evs[a] a))++((chL h h.evs[a].p (k7 h h.evs[a] a)[i].o).take j).filterMap (wrQ h h.evs[a] a (k7 h h.evs[a] a)[i].o))=(((k7 h h.evs[a] a).take (i+1)).flatMap (zaq h h.evs[a] a)):=by rw [yll hi,zq1 hr',htw]
     exact ⟨hi,(x,M'),⟨by rw [←e1];exact zj.2,hM'⟩,by simp only;rw [←e1];exact eA⟩
  ·have qi:=zdg hc37 li
   refine rn ?_;refine ⟨fun l h=>(by cases h),?_⟩
   exact zc3 .nil (.drop [_] _ _) ⟨x,M,hM,.inl ⟨by rw [znh h4];rw [qi,List.take_length] at zi;exact zi,by rw [znh h4,qi,List.take_length]⟩⟩
end Go.Proofs
