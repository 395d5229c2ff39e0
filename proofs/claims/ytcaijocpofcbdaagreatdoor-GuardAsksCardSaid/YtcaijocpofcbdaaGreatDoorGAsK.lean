/- The walk of the reference's Spoken. Conditions: none. -/
import Derived.Test.YtcaijocpofcbdaaGreatDoorGAsJ
set_option maxHeartbeats 4000000
set_option linter.unusedSectionVars false
set_option linter.unusedSimpArgs false
set_option linter.unusedVariables false
set_option maxRecDepth 10000
namespace Go.Proofs
open Go Go.Ab
attribute [local irreducible] QR QV OE zc9 aw zds zb0 zbp za8 thn zgc
open Go.H
theorem ybu (h:Hist) (la:Lim 3000 h):y9 Tryz.prog 107 [.agg (y8 h)] [] (fun r h'=>h'= []∧r= .agg [zcs (zco h 0),zcs (zco h 1),zcs (zco h 2),zcs (zco h 3)]):=by
 refine z6 Tryz.func107 rfl rfl rfl ?_;refine rn ?_;refine z8 rfl (w7 rfl rfl rfl fun b1=>?_);refine z8 rfl (y6 rfl fun b2=>?_);refine rn ?_;refine z8 rfl (y6 rfl fun b3=>?_);refine rn ?_;refine zji h.evs.length (fun k s0 s1 s2 s3=>⟨[(21,iv k),(1,pZ b1),(2,pZ b2),(3,pZ b3),(19,zll h.evs),(20,iv (h.evs.map evR).length)],[.row s0.v 1 3 (((spE h k) 0).map zag),.row s1.v 1 3 (((spE h k) 1).map zag),.row s2.v 1 3 (((spE h k) 2).map zag),.row s3.v 1 3 (((spE h k) 3).map zag),.box b3 171 [.v s0.v,.v s1.v,.v s2.v,.v s3.v],.box b2 171 [.v (.slice none 0 0),.v (.slice none 0 0),.v (.slice none 0 0),.v (.slice none 0 0)],.box b1 28 (y8 h)],[]⟩) (⟨none,0,0⟩) (⟨none,0,0⟩) (⟨none,0,0⟩) (⟨none,0,0⟩) (w8 (zaf 1 3) (w8 (zaf 1 3) (w8 (zaf 1 3) (w8 (zaf 1 3) es)))) ?_;intro k s0 s1 s2 s3 lk;refine rn ?_;refine z7 rfl (fun hc22=>?_) (fun hc22=>?_)
 ·have hk:=zaw hc22;have rk:=zam (f:=evR) hk;have bd:=bdE la k lk;have ls:=la.scans h.evs[k] (D0 hk);have le:=la.evs;refine rn ?_;refine z8 rfl (y6 rfl fun b5=>?_);refine rn ?_;refine qq rfl rfl (x4 rfl rfl (by decide) (by decide)) ?_;refine rn ?_;refine z8 rfl (q7 rfl rfl (za3 (y4.of_fun (zbk _ _ _ (by have:=bd 0;omega)))) rfl ?_);rintro _ _ ⟨s',rfl,rfl⟩;refine qq rfl rfl (x4 rfl rfl (by decide) (by decide)) ?_;refine rn0 ?_;refine yo9 (fun s0 s1 s2 s3=>⟨[(5,pZ b5),(21,iv k),(20,iv (h.evs.map evR).length),(19,zll h.evs),(1,pZ b1),(2,pZ b2),(3,pZ b3)],[.box b5 66 (evR h.evs[k]),.row s0.v 1 3 (((zf5 (zas (spE h k) (0,h.evs[k].t)) h.evs[k]) 0).map zag),.row s1.v 1 3 (((zf5 (zas (spE h k) (0,h.evs[k].t)) h.evs[k]) 1).map zag),.row s2.v 1 3 (((zf5 (zas (spE h k) (0,h.evs[k].t)) h.evs[k]) 2).map zag),.row s3.v 1 3 (((zf5 (zas (spE h k) (0,h.evs[k].t)) h.evs[k]) 3).map zag),.box b3 171 [.v s0.v,.v s1.v,.v s2.v,.v s3.v],.box b2 171 [.v (.slice none 0 0),.v (.slice none 0 0),.v (.slice none 0 0),.v (.slice none 0 0)],.box b1 28 (y8 h)],[]⟩) ?_ ?_
  ·refine rn ?_;refine z7 rfl (fun hc33=>?_) (fun hc33=>?_)
   ·refine rn ?_;refine qq rfl rfl (x4 rfl rfl (by decide) (by decide)) ?_;refine rn ?_;refine z8 rfl (q7 rfl rfl (za3 (y4.of_fun (zbk _ _ _ (by have:=bd 1;omega)))) rfl ?_);rintro _ _ ⟨s',rfl,rfl⟩;refine qq rfl rfl (x4 rfl rfl (by decide) (by decide)) ?_;refine rn ?_;exact ⟨_,_,_,_,by unfold zf5;first|(rw [A6 (by simpa using hc33)];exact eA)|(rw [A0 (by simpa using hc33),A6 (by simp at hc33;simp_all)];exact eA)|(rw [A0 (by simpa using hc33),A0 (by simp at hc33;simp_all),A6 (by simpa using hc56)];exact eA)|(rw [A0 (by simpa using hc33),A0 (by simp at hc33;simp_all),A0 (by simpa using hc56)];exact eA)⟩
   refine rn ?_;refine z7 rfl (fun hc41=>?_) (fun hc41=>?_)
   ·refine rn ?_;refine z7 rfl (fun hc41=>?_) (fun hc41=>?_)
    ·refine rn ?_;refine qq rfl rfl (x4 rfl rfl (by decide) (by decide)) ?_;refine rn ?_;refine z8 rfl (q7 rfl rfl (za3 (y4.of_fun (zbk _ _ _ (by have:=bd 2;omega)))) rfl ?_);rintro _ _ ⟨s',rfl,rfl⟩;refine qq rfl rfl (x4 rfl rfl (by decide) (by decide)) ?_;refine rn ?_;refine qq rfl rfl (x4 rfl rfl (by decide) (by decide)) ?_;refine rn ?_;refine z8 rfl (q7 rfl rfl (za3 (y4.of_fun (zm3 _ _ _ (by have:=(bd.f (0,h.evs[k].t)) 0;exact B8 this (by omega))))) rfl ?_);rintro _ _ ⟨s',rfl,rfl⟩;refine qq rfl rfl (x4 rfl rfl (by decide) (by decide)) ?_;refine rn ?_;exact ⟨_,_,_,_,by unfold zf5;first|(rw [A6 (by simpa using hc33)];exact eA)|(rw [A0 (by simpa using hc33),A6 (by simp at hc33;simp_all)];exact eA)|(rw [A0 (by simpa using hc33),A0 (by simp at hc33;simp_all),A6 (by simpa using hc56)];exact eA)|(rw [A0 (by simpa using hc33),A0 (by simp at hc33;simp_all),A0 (by simpa using hc56)];exact eA)⟩
    first|cases hc41|exact absurd hc41 (by decide)|(exfalso;simp_all;done)
   refine rn ?_;refine z7 rfl (fun hc41=>?_) (fun hc41=>?_)
   ·refine rn ?_;refine qq rfl rfl (x4 rfl rfl (by decide) (by decide)) ?_;refine rn ?_;refine z8 rfl (q7 rfl rfl (za3 (y4.of_fun (zbk _ _ _ (by have:=bd 2;omega)))) rfl ?_);rintro _ _ ⟨s',rfl,rfl⟩;refine qq rfl rfl (x4 rfl rfl (by decide) (by decide)) ?_;refine rn ?_;refine qq rfl rfl (x4 rfl rfl (by decide) (by decide)) ?_;refine rn ?_;refine z8 rfl (q7 rfl rfl (za3 (y4.of_fun (zm3 _ _ _ (by have:=(bd.f (0,h.evs[k].t)) 0;exact B8 this (by omega))))) rfl ?_);rintro _ _ ⟨s',rfl,rfl⟩;refine qq rfl rfl (x4 rfl rfl (by decide) (by decide)) ?_;refine rn ?_;exact ⟨_,_,_,_,by unfold zf5;first|(rw [A6 (by simpa using hc33)];exact eA)|(rw [A0 (by simpa using hc33),A6 (by simp at hc33;simp_all)];exact eA)|(rw [A0 (by simpa using hc33),A0 (by simp at hc33;simp_all),A6 (by simpa using hc56)];exact eA)|(rw [A0 (by simpa using hc33),A0 (by simp at hc33;simp_all),A0 (by simpa using hc56)];exact eA)⟩
   refine rn ?_;refine z7 rfl (fun hc56=>?_) (fun hc56=>?_)
   ·refine rn ?_;refine qq rfl rfl (x4 rfl rfl (by decide) (by decide)) ?_;refine rn ?_;refine z8 rfl (q7 rfl rfl (za3 (y4.of_fun (zbk _ _ _ (by have:=bd 3;omega)))) rfl ?_);rintro _ _ ⟨s',rfl,rfl⟩;refine qq rfl rfl (x4 rfl rfl (by decide) (by decide)) ?_;refine rn ?_;exact ⟨_,_,_,_,by unfold zf5;first|(rw [A6 (by simpa using hc33)];exact eA)|(rw [A0 (by simpa using hc33),A6 (by simp at hc33;simp_all)];exact eA)|(rw [A0 (by simpa using hc33),A0 (by simp at hc33;simp_all),A6 (by simpa using hc56)];exact eA)|(rw [A0 (by simpa using hc33),A0 (by simp at hc33;simp_all),A0 (by simpa using hc56)];exact eA)⟩
   refine rn ?_;exact ⟨_,_,_,_,by unfold zf5;first|(rw [A6 (by simpa using hc33)];exact eA)|(rw [A0 (by simpa using hc33),A6 (by simp at hc33;simp_all)];exact eA)|(rw [A0 (by simpa using hc33),A0 (by simp at hc33;simp_all),A6 (by simpa using hc56)];exact eA)|(rw [A0 (by simpa using hc33),A0 (by simp at hc33;simp_all),A0 (by simpa using hc56)];exact eA)⟩
  intro s0 s1 s2 s3;refine rn ?_;refine zji h.evs[k].scan.length (fun j s0 s1 s2 s3=>⟨[(67,iv j),(1,pZ b1),(2,pZ b2),(3,pZ b3),(19,zll h.evs),(20,iv (h.evs.map evR).length),(21,iv k),(65,zlb h.evs[k].scan),(66,iv (h.evs[k].scan.map zav).length)],[.box b5 66 (evR h.evs[k]),.row s0.v 1 3 ((((h.evs[k].scan.take j).foldl stepS (zf5 (zas (spE h k) (0,h.evs[k].t)) h.evs[k])) 0).map zag),.row s1.v 1 3 ((((h.evs[k].scan.take j).foldl stepS (zf5 (zas (spE h k) (0,h.evs[k].t)) h.evs[k])) 1).map zag),.row s2.v 1 3 ((((h.evs[k].scan.take j).foldl stepS (zf5 (zas (spE h k) (0,h.evs[k].t)) h.evs[k])) 2).map zag),.row s3.v 1 3 ((((h.evs[k].scan.take j).foldl stepS (zf5 (zas (spE h k) (0,h.evs[k].t)) h.evs[k])) 3).map zag),.box b3 171 [.v s0.v,.v s1.v,.v s2.v,.v s3.v],.box b2 171 [.v (.slice none 0 0),.v (.slice none 0 0),.v (.slice none 0 0),.v (.slice none 0 0)],.box b1 28 (y8 h)],[]⟩) _ _ _ _ (es) ?_;intro j s0 s1 s2 s3 lj;refine rn ?_;refine z7 rfl (fun hc68=>?_) (fun hc68=>?_)
  ·have hj:=zaw hc68;have rj:=zam (f:=zav) hj;have bj:=Bd.fold (c:=2) (l:=h.evs[k].scan.take j) (fun s _ L n h=>h.s s) ((bd.f (0,h.evs[k].t)).k h.evs[k]);have bl:(h.evs[k].scan.take j).length≤3000:=by rw [D5];omega
   refine rn ?_;refine z8 rfl (y6 rfl fun b7=>?_);refine rn ?_;refine qq rfl rfl (x4 rfl rfl (by decide) (by decide)) ?_;refine rn ?_;refine z8 rfl (q7 rfl rfl (za3 (y4.of_fun (zbk _ _ _ (by have:=bj 2;omega)))) rfl ?_);rintro _ _ ⟨s',rfl,rfl⟩;refine qq rfl rfl (x4 rfl rfl (by decide) (by decide)) ?_;refine rn ?_;refine qq rfl rfl (x4 rfl rfl (by decide) (by decide)) ?_;refine rn ?_;refine z8 rfl (q7 rfl rfl (za3 (y4.of_fun (zm3 _ _ _ (by have:=bj 0;omega)))) rfl ?_);rintro _ _ ⟨s',rfl,rfl⟩;refine qq rfl rfl (x4 rfl rfl (by decide) (by decide)) ?_;refine rn ?_;have e:(h.evs[k].scan.take (j+1)).foldl stepS (zf5 (zas (spE h k) (0,h.evs[k].t)) h.evs[k])=stepS ((h.evs[k].scan.take j).foldl stepS (zf5 (zas (spE h k) (0,h.evs[k].t)) h.evs[k])) h.evs[k].scan[j]:=zhb _ _ hj;exact ⟨hj,_,_,_,_,by simp only [e];exact eA⟩
  have qj:=zaz hc68 lj;refine rn ?_;have e:spE h (k+1)=(h.evs[k].scan.take j).foldl stepS (zf5 (zas (spE h k) (0,h.evs[k].t)) h.evs[k]):=by rw [spE,zhb _ _ hk,H.stepE,zjf _ _ qj];rfl
  exact ⟨hk,_,_,_,_,by simp only [e];exact eA⟩
 have qk:=zaz hc22 lk;refine rn ?_;refine zji h.ords.length (fun k s0 s1 s2 s3=>⟨[(88,iv k),(1,pZ b1),(2,pZ b2),(3,pZ b3),(86,zb2 h.ords),(87,iv (h.ords.map zb7).length)],[.row s0.v 1 3 (((spO h k) 0).map zag),.row s1.v 1 3 (((spO h k) 1).map zag),.row s2.v 1 3 (((spO h k) 2).map zag),.row s3.v 1 3 (((spO h k) 3).map zag),.box b3 171 [.v s0.v,.v s1.v,.v s2.v,.v s3.v],.box b2 171 [.v (.slice none 0 0),.v (.slice none 0 0),.v (.slice none 0 0),.v (.slice none 0 0)],.box b1 28 (y8 h)],[]⟩) _ _ _ _ (by rw [show spO h 0=spE h k from (zjf stepE noR qk).symm];exact es) ?_;intro k s0 s1 s2 s3 lk;refine rn ?_;refine z7 rfl (fun hc89=>?_) (fun hc89=>?_)
 ·have hk:=zaw hc89;have rk:=zam (f:=zb7) hk;have bd:=bdO la k lk;have ls:=la.ordts h.ords[k] (D0 hk);have le:=la.ords;refine rn ?_;refine z8 rfl (y6 rfl fun b9=>?_);refine rn ?_;refine qq rfl rfl (x4 rfl rfl (by decide) (by decide)) ?_;refine rn ?_;refine z8 rfl (q7 rfl rfl (za3 (y4.of_fun (zbk _ _ _ (by have:=bd 2;omega)))) rfl ?_);rintro _ _ ⟨s',rfl,rfl⟩;refine qq rfl rfl (x4 rfl rfl (by decide) (by decide)) ?_;refine rn ?_;refine zji h.ords[k].ts.length (fun j s0 s1 s2 s3=>⟨[(101,iv j),(1,pZ b1),(2,pZ b2),(3,pZ b3),(86,zb2 h.ords),(87,iv (h.ords.map zb7).length),(88,iv k),(99,zcs h.ords[k].ts),(100,iv (h.ords[k].ts.map zag).length)],[.box b9 99 (zb7 h.ords[k]),.row s0.v 1 3 ((((h.ords[k].ts.take j).foldl zpk (zas (spO h k) (2,h.ords[k].o))) 0).map zag),.row s1.v 1 3 ((((h.ords[k].ts.take j).foldl zpk (zas (spO h k) (2,h.ords[k].o))) 1).map zag),.row s2.v 1 3 ((((h.ords[k].ts.take j).foldl zpk (zas (spO h k) (2,h.ords[k].o))) 2).map zag),.row s3.v 1 3 ((((h.ords[k].ts.take j).foldl zpk (zas (spO h k) (2,h.ords[k].o))) 3).map zag),.box b3 171 [.v s0.v,.v s1.v,.v s2.v,.v s3.v],.box b2 171 [.v (.slice none 0 0),.v (.slice none 0 0),.v (.slice none 0 0),.v (.slice none 0 0)],.box b1 28 (y8 h)],[]⟩) _ _ _ _ (es) ?_;intro j s0 s1 s2 s3 lj;refine rn ?_;refine z7 rfl (fun hc102=>?_) (fun hc102=>?_)
  ·have hj:=zaw hc102;have rj:=zam (f:=zag) hj;have bj:=Bd.fold (c:=1) (l:=h.ords[k].ts.take j) (fun s _ L n h=>h.t s) (bd.f (2,h.ords[k].o));have bl:(h.ords[k].ts.take j).length≤3000:=by rw [D5];omega
   refine rn ?_;refine qq rfl rfl (x4 rfl rfl (by decide) (by decide)) ?_;refine rn ?_;refine z8 rfl (q7 rfl rfl (za3 (y4.of_fun (zbk _ _ _ (by have:=bj 0;omega)))) rfl ?_);rintro _ _ ⟨s',rfl,rfl⟩;refine qq rfl rfl (x4 rfl rfl (by decide) (by decide)) ?_;refine rn ?_;have e:(h.ords[k].ts.take (j+1)).foldl zpk (zas (spO h k) (2,h.ords[k].o))=zpk ((h.ords[k].ts.take j).foldl zpk (zas (spO h k) (2,h.ords[k].o))) h.ords[k].ts[j]:=zhb _ _ hj;exact ⟨hj,_,_,_,_,by simp only [e];exact eA⟩
  have qj:=zaz hc102 lj;refine rn ?_;have e:spO h (k+1)=(h.ords[k].ts.take j).foldl zpk (zas (spO h k) (2,h.ords[k].o)):=by rw [spO,zhb _ _ hk,zr4,zjf _ _ qj];rfl
  exact ⟨hk,_,_,_,_,by simp only [e];exact eA⟩
 have qk:=zaz hc89 lk;refine rn ?_;refine zji h.mats.length (fun k s0 s1 s2 s3=>⟨[(115,iv k),(1,pZ b1),(2,pZ b2),(3,pZ b3),(113,zb3 h.mats),(114,iv (h.mats.map zck).length)],[.row s0.v 1 3 (((spM h k) 0).map zag),.row s1.v 1 3 (((spM h k) 1).map zag),.row s2.v 1 3 (((spM h k) 2).map zag),.row s3.v 1 3 (((spM h k) 3).map zag),.box b3 171 [.v s0.v,.v s1.v,.v s2.v,.v s3.v],.box b2 171 [.v (.slice none 0 0),.v (.slice none 0 0),.v (.slice none 0 0),.v (.slice none 0 0)],.box b1 28 (y8 h)],[]⟩) _ _ _ _ (by rw [show spM h 0=spO h k from (zjf zr4 _ qk).symm];exact es) ?_;intro k s0 s1 s2 s3 lk;refine rn ?_;refine z7 rfl (fun hc116=>?_) (fun hc116=>?_)
 ·have hk:=zaw hc116;have rk:=zam (f:=zck) hk;have bd:=bdM la k lk;have ls:=la.matts h.mats[k] (D0 hk);have le:=la.mats;refine rn ?_;refine z8 rfl (y6 rfl fun b13=>?_);refine rn ?_;refine qq rfl rfl (x4 rfl rfl (by decide) (by decide)) ?_;refine rn ?_;refine z8 rfl (q7 rfl rfl (za3 (y4.of_fun (zbk _ _ _ (by have:=bd 3;omega)))) rfl ?_);rintro _ _ ⟨s',rfl,rfl⟩;refine qq rfl rfl (x4 rfl rfl (by decide) (by decide)) ?_;refine rn ?_;refine qq rfl rfl (x4 rfl rfl (by decide) (by decide)) ?_;refine rn ?_;refine z8 rfl (q7 rfl rfl (za3 (y4.of_fun (zbk _ _ _ (by have:=bd 2;omega)))) rfl ?_);rintro _ _ ⟨s',rfl,rfl⟩;refine qq rfl rfl (x4 rfl rfl (by decide) (by decide)) ?_;refine rn ?_;refine zji h.mats[k].ts.length (fun j s0 s1 s2 s3=>⟨[(134,iv j),(1,pZ b1),(2,pZ b2),(3,pZ b3),(113,zb3 h.mats),(114,iv (h.mats.map zck).length),(115,iv k),(132,zcs h.mats[k].ts),(133,iv (h.mats[k].ts.map zag).length)],[.box b13 112 (zck h.mats[k]),.row s0.v 1 3 ((((h.mats[k].ts.take j).foldl zpk (zas (zas (spM h k) (3,h.mats[k].p)) (2,h.mats[k].o))) 0).map zag),.row s1.v 1 3 ((((h.mats[k].ts.take j).foldl zpk (zas (zas (spM h k) (3,h.mats[k].p)) (2,h.mats[k].o))) 1).map zag),.row s2.v 1 3 ((((h.mats[k].ts.take j).foldl zpk (zas (zas (spM h k) (3,h.mats[k].p)) (2,h.mats[k].o))) 2).map zag),.row s3.v 1 3 ((((h.mats[k].ts.take j).foldl zpk (zas (zas (spM h k) (3,h.mats[k].p)) (2,h.mats[k].o))) 3).map zag),.box b3 171 [.v s0.v,.v s1.v,.v s2.v,.v s3.v],.box b2 171 [.v (.slice none 0 0),.v (.slice none 0 0),.v (.slice none 0 0),.v (.slice none 0 0)],.box b1 28 (y8 h)],[]⟩) _ _ _ _ (es) ?_;intro j s0 s1 s2 s3 lj;refine rn ?_;refine z7 rfl (fun hc135=>?_) (fun hc135=>?_)
  ·have hj:=zaw hc135;have rj:=zam (f:=zag) hj;have bj:=Bd.fold (c:=1) (l:=h.mats[k].ts.take j) (fun s _ L n h=>h.t s) ((bd.f (3,h.mats[k].p)).f (2,h.mats[k].o));have bl:(h.mats[k].ts.take j).length≤3000:=by rw [D5];omega
   refine rn ?_;refine qq rfl rfl (x4 rfl rfl (by decide) (by decide)) ?_;refine rn ?_;refine z8 rfl (q7 rfl rfl (za3 (y4.of_fun (zbk _ _ _ (by have:=bj 0;omega)))) rfl ?_);rintro _ _ ⟨s',rfl,rfl⟩;refine qq rfl rfl (x4 rfl rfl (by decide) (by decide)) ?_;refine rn ?_;have e:(h.mats[k].ts.take (j+1)).foldl zpk (zas (zas (spM h k) (3,h.mats[k].p)) (2,h.mats[k].o))=zpk ((h.mats[k].ts.take j).foldl zpk (zas (zas (spM h k) (3,h.mats[k].p)) (2,h.mats[k].o))) h.mats[k].ts[j]:=zhb _ _ hj;exact ⟨hj,_,_,_,_,by simp only [e];exact eA⟩
  have qj:=zaz hc135 lj;refine rn ?_;have e:spM h (k+1)=(h.mats[k].ts.take j).foldl zpk (zas (zas (spM h k) (3,h.mats[k].p)) (2,h.mats[k].o)):=by rw [spM,zhb _ _ hk,stepM,zjf _ _ qj];rfl
  exact ⟨hk,_,_,_,_,by simp only [e];exact eA⟩
 have qk:=zaz hc116 lk;refine rn ?_;refine zji h.wants.length (fun k s0 s1 s2 s3=>⟨[(148,iv k),(2,pZ b2),(3,pZ b3),(146,zd3 h.wants),(147,iv (h.wants.map zar).length)],[.row s0.v 1 3 (((spW h k) 0).map zag),.row s1.v 1 3 (((spW h k) 1).map zag),.row s2.v 1 3 (((spW h k) 2).map zag),.row s3.v 1 3 (((spW h k) 3).map zag),.box b3 171 [.v s0.v,.v s1.v,.v s2.v,.v s3.v],.box b2 171 [.v (.slice none 0 0),.v (.slice none 0 0),.v (.slice none 0 0),.v (.slice none 0 0)],.box b1 28 (y8 h)],[]⟩) _ _ _ _ (by rw [show spW h 0=spM h k from (zjf stepM _ qk).symm];exact es) ?_;intro k s0 s1 s2 s3 lk;refine rn ?_;refine z7 rfl (fun hc149=>?_) (fun hc149=>?_)
 ·have hk:=zaw hc149;have rk:=zam (f:=zar) hk;have bd:=bdW la k lk;have le:=la.wants;refine rn ?_;refine z8 rfl (y6 rfl fun b17=>?_);refine rn ?_;refine qq rfl rfl (x4 rfl rfl (by decide) (by decide)) ?_;refine rn ?_;refine z8 rfl (q7 rfl rfl (za3 (y4.of_fun (zbk _ _ _ (by have:=bd 1;omega)))) rfl ?_);rintro _ _ ⟨s',rfl,rfl⟩;refine qq rfl rfl (x4 rfl rfl (by decide) (by decide)) ?_;refine rn ?_;have e:spW h (k+1)=yf9 (spW h k) h.wants[k]:=zhb _ _ hk;exact ⟨hk,_,_,_,_,by simp only [e];exact eA⟩
 have qk:=zaz hc149 lk;refine rn ?_;exact zdn (.cons _ _ _ _ (.agg _ _ _ _ _ _ _ rfl inferInstance inferInstance inferInstance rfl) .nil) (.trans (zat [] _) (.trans (zat [_] _) (.trans (zat [_,_] _) (.trans (zat [_,_,_] _) (.drop [_,_,_] _ _))))) ⟨rfl,by rw [←show spW h k=zco h from zjf _ _ qk];rfl⟩
theorem ygx (h:Hist) (la:Lim 4611686018427387904 h):y9 Tryz.prog 56 [.agg (y8 h)] [] (fun r h'=>h'= []∧r=bv (zjx h)):=by
 refine z6 Tryz.func56 rfl rfl rfl ?_;refine rn ?_;refine z8 rfl (w7 rfl rfl rfl fun b1=>?_);refine rn ?_;refine qv rfl rfl (y3 rfl rfl (u0 (ybv h la) (Sbs.refl _))) ?_;refine rn ?_;refine z7 rfl (fun hc10=>?_) (fun hc10=>?_)
 ·refine rn ?_;refine rq 1 ?_;exact ⟨rfl,A4 bv (by rw [ymt (by simpa using hc10)])⟩
 have hs:zaa h=true:=by simpa using hc10
 have la3:=zov hs;refine rn ?_;refine qv rfl rfl (y3 rfl rfl (u0 (ybu h la3) (Sbs.refl _))) ?_;refine rn ?_;refine zc8 (4) (fun k:Nat=>∀j,j < k→okS h j=true) (fun k=> [(13,iv k)]) [(1,_),(12,_)] (fun j hj=>by omega) ?_;intro k lk zk;refine rn ?_;refine z7 rfl (fun hc14=>?_) (fun hc14=>?_)
 ·have hk:k < 4:=by simp at hc14;omega
  have r0:=yu1 h hk;have r1:=ynq h hk;have bl:=zy2 la3 k;refine rn ?_;refine z7 rfl (fun hc35=>?_) (fun hc35=>?_)
  ·refine rn ?_;refine rq 1 ?_;exact ⟨rfl,A4 bv (by rw [ybs hk];rw [okS,H1.2 (by simp at hc35;omega),B0])⟩
  have hlen:(zco h k).length=(nmK h k).length:=by simp at hc35;omega
  refine rn ?_;refine zc8 ((zco h k).length) (fun i:Nat=>zfx 0 (zco h k)=zfx i ((zco h k).drop i)) (fun i=> [(38,iv i)]) [(1,_),(12,_),(13,_),(36,_),(37,_)] rfl ?_;intro i li zi;refine rn ?_;refine z7 rfl (fun hc39=>?_) (fun hc39=>?_)
  ·have hi:=zaw hc39;have ri:=zam (f:=zag) hi;refine rn ?_;refine z7 rfl (fun hc45=>?_) (fun hc45=>?_)
   ·refine rn ?_;refine rq 1 ?_;exact ⟨rfl,A4 bv (by rw [ybs hk];rw [okS,yp4 hi zi (by simp at hc45;omega),C2])⟩
   refine rn ?_;exact ⟨hi,yaz hi zi (by simp at hc45;omega),eA⟩
  have qi:=zaz hc39 li
  refine rn ?_;exact ⟨hk,fun j hj=>(M4 j k).elim (zk j) (fun q=>by
   obtain rfl:j=k:=by omega
   rw [okS,hlen,yp5 qi zi];simp),eA⟩
 have qk:k=4:=by simp at hc14;omega
 subst qk;refine rn ?_;refine rq 1 ?_;exact ⟨rfl,A4 bv (by rw [yms hs zk])⟩
theorem zsi (h:Hist) (la:Lim 4611686018427387904 h):y9 Tryz.prog 56 [.agg (y8 h)] [] (fun r h'=>h'= []∧r=bv (zfy h)):=
 (ygx h la).mono fun _ _ q=>⟨q.1,by rw [q.2,ybt]⟩
attribute [local irreducible] zem jch zfo
theorem yrw {l:List Ev} {t x:Int} {j:Nat} (h:j < l.length) (hw:zbw t x l[j]=true):zh1 l t x (j+1)=some (l[j].v,j):=by
 rw [zh1,B4 h];simp only [hw,G4]
theorem zvr {l:List Ev} {t x:Int} {j:Nat} (h:j < l.length) (hw:zbw t x l[j]=false):zh1 l t x (j+1)=zh1 l t x j:=by
 rw [zh1,B4 h];simp [hw]
theorem ygt {l:List Ev} {j:Nat} (h:j < l.length):(l.map evR)[(((j+1:Nat):Int) - 1).toNat]? =some (evR l[j]):=by
 rw [show (((j+1:Nat):Int) - 1).toNat=j by omega,M1,B4 h];rfl
theorem zyq {α:Type} {l:List α} {q:α→Bool} {k:Nat} (hk:k < l.length):(l.take (k+1)).all q=((l.take k).all q && q l[k]):=by
 rw [A5 hk,List.all_append,P4,List.all_nil,E3]
theorem ygw (h:Hist) (la:Lim 4611686018427387904 h):y9 Tryz.prog 57 [.agg (y8 h)] [] (fun r h'=>h'= []∧r=bv (zb6 h)):=by
 refine z6 Tryz.func57 rfl rfl rfl ?_;refine rn ?_;refine z8 rfl (w7 rfl rfl rfl fun b1=>?_);refine rn ?_;refine qv rfl rfl (y3 rfl rfl (u0 (zsi h la) (Sbs.refl _))) ?_;refine rn ?_;refine z7 rfl (fun hc7=>?_) (fun hc7=>?_)
 ·have hm:zfy h=false:=by simpa using hc7
  refine rn ?_;refine rq 1 ?_;exact ⟨rfl,A4 bv (by rw [zb6,hm];rfl)⟩
 have hm:zfy h=true:=by simpa using hc7
 refine rn ?_;refine qv rfl rfl (y3 rfl rfl (u0 (zzg h ((zqh hm).mono (by decide))) (Sbs.refl _))) ?_;obtain ⟨bi,bj,be⟩:=yer (za5 (ze5 h) rules10);rw [be];refine rn ?_;refine z8 rfl (y6 rfl fun b3=>?_);refine rn ?_;refine rq 2 ?_;exact ⟨rfl,A4 bv (by rw [zb6,hm,show zlk h=za5 (ze5 h) rules10 from yiv hm];cases za5 (ze5 h) rules10 <;> rfl)⟩
theorem zih (h:Hist) (la:Lim 4611686018427387904 h):y9 Tryz.prog 14 [.agg (y8 h)] [] (fun r h'=>h'= []∧r=iv (v6 h)):=by
 refine z6 Tryz.func14 rfl rfl rfl ?_;refine rn ?_;refine z8 rfl (w7 rfl rfl rfl fun b1=>?_);refine rn ?_;refine qv rfl rfl (y3 rfl rfl (u0 (zsi h la) (Sbs.refl _))) ?_;refine rn ?_;refine z7 rfl (fun hc5=>?_) (fun hc5=>?_)
 ·have hm:zfy h=false:=by simpa using hc5
  refine rn ?_;refine rq 1 ?_;exact ⟨rfl,by rw [v6,hm];rfl⟩
 have hm:zfy h=true:=by simpa using hc5
 refine rn ?_;refine qv rfl rfl (y3 rfl rfl (u0 (ygw h la) (Sbs.refl _))) ?_;refine rn ?_;refine z7 rfl (fun hc8=>?_) (fun hc8=>?_)
 ·refine rn ?_;refine rq 1 ?_;exact ⟨rfl,by rw [v6,hm,A6 rfl,A0 (by simpa using hc8)];rfl⟩
 refine rn ?_;refine rq 1 ?_;exact ⟨rfl,by rw [v6,hm,A6 rfl,A6 (by simpa using hc8)];rfl⟩
theorem zzh (h:Hist) (la:h.evs.length≤1000000) (t x:Int):y9 Tryz.prog 196 [.agg (y8 h),iv t,iv x] [] (fun r h'=>h'= []∧r= .tup [.agg (yf2 (yln (zyb h.evs t x))),iv (atO (zyb h.evs t x)),bv (zyb h.evs t x).isSome]):=by
 refine z6 Tryz.func196 rfl rfl rfl ?_;refine rn ?_;refine z8 rfl (w7 rfl rfl rfl fun b3=>?_);refine z8 rfl (y6 rfl fun b6=>?_);refine q1 ?_;refine q1 ?_;refine u1 (j8 ?_);refine x7 ?_;refine x7 (y5 ?_);refine q1 ?_;refine q1 ?_;refine q1 ?_;refine qq rfl rfl (zai rfl rfl rfl (by rw [oM];omega)) ?_;refine rn ?_;refine zdf (fun k:Nat=>k≤h.evs.length∧zh1 h.evs t x h.evs.length=zh1 h.evs t x k) (fun k=>⟨[(9,iv ((k:Int) - 1)),(1,iv t),(2,iv x),(3,pZ b3),(6,pZ b6),(7,iv 0),(8,bv false)],.box b6 63 [iv 0,iv 0]:: .box b3 28 (y8 h):: [],[]⟩) (fun k=>k) h.evs.length ⟨C5 _,rfl⟩ (by rw [oM];exact es) ?_;rintro k ⟨lk,zk⟩;refine rn ?_;refine z7 rfl (fun hc16=>?_) (fun hc16=>?_)
 ·obtain ⟨j,rfl⟩:∃j,k=j+1:=⟨k - 1,by have:=oT hc16;omega⟩;have hj:j < h.evs.length:=by omega
  refine k7 ?_;refine j8 ?_;refine x7 ?_;refine k8 ?_;refine x7 (y5 ?_);refine q1 ?_;refine q1 ?_;refine q1 ?_;refine qq rfl rfl (zld rfl rfl (by omega) (ygt hj)) ?_;refine rn ?_;refine z8 rfl (y6 rfl fun b10=>?_);refine rn ?_;refine x5 (fun hg5_3=>?_) (fun hg5_3=>?_)
  ·refine rn ?_;refine x5 (fun hg5_9=>?_) (fun hg5_9=>?_)
   ·refine rn ?_;refine z7 rfl (fun hc38=>?_) (fun hc38=>?_)
    ·have hw:zbw t x h.evs[j]=true:=by rw [zbw];first|(rw [hg5_3,hg5_9,hc38];rfl)|(rw [hg5_3,hg5_9];rfl)|(rw [hg5_3];rfl)
     refine rn ?_;exact zdn (.cons _ _ _ _ (.agg _ _ _ _ _ _ _ rfl inferInstance inferInstance inferInstance rfl) (.cons _ _ _ _ (.tmp _ _ rfl) (.cons _ _ _ _ (.tmp _ _ rfl) .nil))) (.drop [_,_,_] _ _) ⟨rfl,by rw [zyb,zk,yrw hj hw];simp only [yln,atO];rw [show (((j+1:Nat):Int) - 1)=(j:Int) by omega];rfl⟩
    have hw:zbw t x h.evs[j]=false:=by rw [zbw];first|(rw [hg5_3,hg5_9,hc38];rfl)|(rw [hg5_3,hg5_9];rfl)|(rw [hg5_3];rfl)
    refine k7 ?_;refine zh2 ?_;refine j8 ?_;refine y5 ?_;refine q1 ?_;refine qq rfl rfl (zai rfl rfl rfl (by omega)) ?_;refine rn ?_;exact ⟨j,⟨by omega,by rw [zk,zvr hj hw]⟩,by rw [show (((j+1:Nat):Int) - 1 - 1)=(j:Int) - 1 by omega];exact eA,by omega⟩
   refine rn ?_;refine zfd rfl ?_;have hw:zbw t x h.evs[j]=false:=by rw [zbw];first|(rw [hg5_3,hg5_9,hc38];rfl)|(rw [hg5_3,hg5_9];rfl)|(rw [hg5_3];rfl)
   refine k7 ?_;refine zh2 ?_;refine j8 ?_;refine y5 ?_;refine q1 ?_;refine qq rfl rfl (zai rfl rfl rfl (by omega)) ?_;refine rn ?_;exact ⟨j,⟨by omega,by rw [zk,zvr hj hw]⟩,by rw [show (((j+1:Nat):Int) - 1 - 1)=(j:Int) - 1 by omega];exact eA,by omega⟩
  refine rn ?_;refine zfd rfl ?_;have hw:zbw t x h.evs[j]=false:=by rw [zbw];first|(rw [hg5_3,hg5_9,hc38];rfl)|(rw [hg5_3,hg5_9];rfl)|(rw [hg5_3];rfl)
  refine k7 ?_;refine zh2 ?_;refine j8 ?_;refine y5 ?_;refine q1 ?_;refine qq rfl rfl (zai rfl rfl rfl (by omega)) ?_;refine rn ?_;exact ⟨j,⟨by omega,by rw [zk,zvr hj hw]⟩,by rw [show (((j+1:Nat):Int) - 1 - 1)=(j:Int) - 1 by omega];exact eA,by omega⟩
 have qk:k=0:=by have:=oF hc16;omega
 subst qk;refine zes ?_;refine ze2 ?_;refine ze2 ?_;refine zcg ?_;refine j8 ?_;refine x7 (y5 ?_);refine qq rfl rfl (zal (out:= [iv 0,iv 0]) rfl (by rfl)) ?_;refine rn ?_;exact zdn (.cons _ _ _ _ (.agg _ _ _ _ _ _ _ rfl inferInstance inferInstance inferInstance rfl) (.cons _ _ _ _ (.tmp _ _ rfl) (.cons _ _ _ _ (.tmp _ _ rfl) .nil))) (.drop [_,_] _ _) ⟨rfl,by rw [zyb,zk];rfl⟩
theorem yuk {α β:Type} {l:List α} {q:α→Bool} {f:α→β} {k:Nat} (hk:k < l.length) (h:q l[k]=true):((l.take (k+1)).filter q).map f=((l.take k).filter q).map f++ [f l[k]]:=by
 rw [A5 hk,K5,A0b h,D9];rfl
theorem yul {α β:Type} {l:List α} {q:α→Bool} {f:α→β} {k:Nat} (hk:k < l.length) (h:q l[k]=false):((l.take (k+1)).filter q).map f=((l.take k).filter q).map f:=by
 rw [A5 hk,K5,A0c (by rw [h];decide)];simp
theorem you {α β:Type} (l:List α) (q:α→Bool) (f:α→β) (k:Nat):(((l.take k).filter q).map f).length≤l.length:=by
 rw [oM];exact B8 (K6 _ _) (by rw [D5];omega)
theorem yii {h:Hist} {x:Int} {k:Nat} (hk:k < h.ords.length) (hx:(h.ords[k].o==x)=true) (hz:((h.ords.take k).all fun o:Ord=> !(o.o==x))=true):zls h x=h.ords[k].ts:=by
 have:h.ords.find? (fun o=>o.o==x)=some h.ords[k]:=by
  rw [X2];exact ⟨hx,k,hk,rfl,fun j hj=>by have:=B7.1 hz h.ords[j] (zne (by omega) hj);exact this⟩
 rw [zls,this]
theorem yn6 {h:Hist} {x:Int} (hz:(h.ords.all fun o:Ord=> !(o.o==x))=true):zls h x=zbf h x:=by
 have:h.ords.find? (fun o=>o.o==x)=none:=by
  rw [V6];intro s hs q;have:=B7.1 hz s hs;rw [q] at this;cases this
 rw [zls,this]
theorem yn7 {h:Hist} {N:Nat} (la:Lim N h) (x:Int):(zls h x).length≤N:=by
 unfold zls;split
 ·rename_i o ho;exact la.ordts o (Z2 ho)
 exact B8 (zgx _ _) la.ts
def rkQ (h:Hist) (x:Int) (v:Ver) (t:Int):Bool:=yln (zyb h.evs t x)==v
def zp0 (h:Hist) (x:Int) (v:Ver):Int×Bool:=if v=⟨0,0⟩ then (0,true) else if zbe (rkQ h x v) 0 (zls h x) ≥ 0 then (zbe (rkQ h x v) 0 (zls h x)+1,true) else (0,false)
theorem yqr {h:Hist} {x:Int} {v:Ver} {k:Nat} (hv:v≠⟨0,0⟩) (hk:k < (zls h x).length) (hq:rkQ h x v (zls h x)[k]=true) (hz:(((zls h x).take k).all fun t=> !rkQ h x v t)=true):zp0 h x v=((k:Int)+1,true):=by
 have:zbe (rkQ h x v) 0 (zls h x)=(k:Int):=by
  have:=yd5 (p:=rkQ h x v) (l:=zls h x) (i:=0) hk hq (fun j hj=>by
   have:=B7.1 hz (zls h x)[j] (zne (by omega) hj);simpa using this)
  rw [this];congr 1;omega
 rw [zp0,A0 hv,this,A6 (by omega)]
theorem yu7 {h:Hist} {x:Int} {v:Ver} (hv:v≠⟨0,0⟩) (hz:((zls h x).all fun t=> !rkQ h x v t)=true):zp0 h x v=(0,false):=by
 have:decide (zbe (rkQ h x v) 0 (zls h x) ≥ 0)=false:=by
  rw [zeo,L7];intro t ht;have:=B7.1 hz t ht;simpa using this
 rw [zp0,A0 hv,A0 (oF this)]
theorem ybx (h:Hist) (la:Lim 1000000 h) (n:Int):y9 Tryz.prog 60 [.agg (y8 h),iv n] [] (fun r h'=>h'= []∧r=zcs (zbn h.evs n)):=by
 refine z6 Tryz.func60 rfl rfl rfl ?_;have be:=la.evs;refine rn ?_;refine z8 rfl (w7 rfl rfl rfl fun b2=>?_);refine rn ?_;refine zer h.evs.length (fun k s=>⟨[(11,iv k),(5,.v s.v),(1,iv n),(2,pZ b2),(9,zll h.evs),(10,iv (h.evs.map evR).length)],.row s.v 1 3 ((((h.evs.take k).filter (fun e:Ev=>e.kind==1 && (e.s==n && ztc h.evs e.t 5))).map Ev.t).map zag):: .box b2 28 (y8 h):: [],[]⟩) ⟨none,0,0⟩ (w8 (zaf 1 3) es) ?_;intro k s lk;refine rn ?_;refine z7 rfl (fun hc12=>?_) (fun hc12=>?_)
 ·have hk:=zaw hc12;have rk:=zam (f:=evR) hk;refine rn ?_;refine z8 rfl (y6 rfl fun b7=>?_);refine rn ?_;refine x5 (fun hg5_3=>?_) (fun hg5_3=>?_)
  ·refine rn ?_;refine x5 (fun hg5_9=>?_) (fun hg5_9=>?_)
   ·refine rn ?_;refine qv rfl rfl (y3 rfl rfl (u0 (yb1 h h.evs[k].t (la.mono (by decide))) (Sbs.refl _))) ?_;refine rn ?_;refine z7 rfl (fun hc29=>?_) (fun hc29=>?_)
    ·refine rn ?_;refine qv rfl rfl (q8 rfl rfl) ?_;refine z8 rfl (j3 rfl rfl (by rw [oM];simp only [E6,F3];have:=you h.evs (fun e:Ev=>e.kind==1 && (e.s==n && ztc h.evs e.t 5)) Ev.t k;omega) rfl (fun s34=>?_) (zja [h.evs[k].t]));refine zac s34 fun sv hsv=>?_;subst hsv;refine rn ?_;first|exact ⟨hk,sv,by rw [yuk hk (by first|(rw [hg5_3,hg5_9,hc29];rfl)|(rw [hg5_3,hg5_9];rfl)|(rw [hg5_3];rfl)),D9];exact eA⟩|exact ⟨hk,s,by rw [yul hk (by first|(rw [hg5_3,hg5_9,hc29];rfl)|(rw [hg5_3,hg5_9];rfl)|(rw [hg5_3];rfl))];exact eA⟩
    refine rn ?_;first|exact ⟨hk,sv,by rw [yuk hk (by first|(rw [hg5_3,hg5_9,hc29];rfl)|(rw [hg5_3,hg5_9];rfl)|(rw [hg5_3];rfl)),D9];exact eA⟩|exact ⟨hk,s,by rw [yul hk (by first|(rw [hg5_3,hg5_9,hc29];rfl)|(rw [hg5_3,hg5_9];rfl)|(rw [hg5_3];rfl))];exact eA⟩
   refine rn ?_;refine zfd rfl ?_;refine rn ?_;first|exact ⟨hk,sv,by rw [yuk hk (by first|(rw [hg5_3,hg5_9,hc29];rfl)|(rw [hg5_3,hg5_9];rfl)|(rw [hg5_3];rfl)),D9];exact eA⟩|exact ⟨hk,s,by rw [yul hk (by first|(rw [hg5_3,hg5_9,hc29];rfl)|(rw [hg5_3,hg5_9];rfl)|(rw [hg5_3];rfl))];exact eA⟩
  refine rn ?_;refine zfd rfl ?_;refine rn ?_;first|exact ⟨hk,sv,by rw [yuk hk (by first|(rw [hg5_3,hg5_9,hc29];rfl)|(rw [hg5_3,hg5_9];rfl)|(rw [hg5_3];rfl)),D9];exact eA⟩|exact ⟨hk,s,by rw [yul hk (by first|(rw [hg5_3,hg5_9,hc29];rfl)|(rw [hg5_3,hg5_9];rfl)|(rw [hg5_3];rfl))];exact eA⟩
 have qk:=zaz hc12 lk;refine rn ?_;exact u6 rfl (.trans zc5 (.drop [_] _ _)) ⟨rfl,by rw [qk,C7];rfl⟩
theorem yby (h:Hist) (la:Lim 1000000 h) (x:Int):y9 Tryz.prog 195 [.agg (y8 h),iv x] [] (fun r h'=>h'= []∧r=zcs (zls h x)):=by
 refine z6 Tryz.func195 rfl rfl rfl ?_;have bo:=la.ords;refine rn ?_;refine z8 rfl (w7 rfl rfl rfl fun b2=>?_);refine rn ?_;refine zc8 (h.ords.length) (fun k:Nat=>((h.ords.take k).all fun o:Ord=> !(o.o==x))=true) (fun k=> [(10,iv k)]) [(1,_),(2,_),(8,_),(9,_)] rfl ?_;intro k lk zk;refine rn ?_;refine z7 rfl (fun hc11=>?_) (fun hc11=>?_)
 ·have hk:=zaw hc11;have rk:=zam (f:=zb7) hk;refine rn ?_;refine z8 rfl (y6 rfl fun b6=>?_);refine rn ?_;refine z7 rfl (fun hc17=>?_) (fun hc17=>?_)
  ·refine rn ?_;refine rq 2 ?_;exact ⟨rfl,by rw [yii hk hc17 zk];rfl⟩
  refine rn ?_;exact ⟨hk,by rw [zyq hk,zk,hc17];rfl,eA⟩
 have qk:=zaz hc11 lk;rw [qk,C7] at zk;refine rn ?_;refine qv rfl rfl (y3 rfl rfl (u0 (zig h x la) (Sbs.refl _))) ?_;refine rn ?_;refine rq 1 ?_;exact ⟨rfl,by rw [yn6 zk];rfl⟩
theorem zsj (h:Hist) (la:Lim 1000000 h) (x:Int) (v:Ver):y9 Tryz.prog 155 [.agg (y8 h),iv x,.agg (yf2 v)] [] (fun r h'=>h'= []∧r= .tup [iv (zp0 h x v).1,bv (zp0 h x v).2]):=by
 refine z6 Tryz.func155 rfl rfl rfl ?_;have be:=la.evs;have bi:=yn7 la x;refine rn ?_;refine z8 rfl (w7 rfl rfl rfl fun b3=>?_);refine z8 rfl (w7 rfl rfl rfl fun b5=>?_);refine q1 ?_;refine q1 ?_;refine u1 (j8 ?_);refine x7 ?_;refine x7 (y5 ?_);refine q1 ?_;refine qq rfl rfl (zal (out:= [iv 0,iv 0]) rfl (by rfl)) ?_;refine rn ?_;refine z7 rfl (fun hc15=>?_) (fun hc15=>?_)
 ·have hv:v=⟨0,0⟩:=eq_of_beq (by rw [←zcz];exact hc15);refine rn ?_;refine rq 2 ?_;exact ⟨rfl,by rw [zp0,A6 hv];rfl⟩
 have hv:v≠⟨0,0⟩:=H1.1 (by rw [←zcz];exact hc15);refine rn ?_;refine qv rfl rfl (y3 rfl rfl (u0 (yby h la x) (Sbs.refl _))) ?_;refine rn ?_;refine zc8 ((zls h x).length) (fun k:Nat=>(((zls h x).take k).all fun t=> !rkQ h x v t)=true) (fun k=> [(20,iv k)]) [(1,_),(3,_),(5,_),(18,_),(19,_)] rfl ?_;intro k lk zk;refine rn ?_;refine z7 rfl (fun hc21=>?_) (fun hc21=>?_)
 ·have hk:=zaw hc21;have rk:=zam (f:=zag) hk;refine rn ?_;refine qv rfl rfl (y3 rfl rfl (u0 (zzh h la.evs (zls h x)[k] x) (Sbs.refl _))) ?_;refine rn ?_;refine z8 rfl (y6 rfl fun b10=>?_);refine rn ?_;refine z7 rfl (fun hc35=>?_) (fun hc35=>?_)
  ·have hq:(yln (zyb h.evs (zls h x)[k] x)==v)=true:=by rw [←zcz];exact hc35
   refine x7 (y5 ?_);refine q1 ?_;refine qq rfl rfl (zai rfl rfl rfl (by omega)) ?_;refine rn ?_;refine rq 3 ?_;exact ⟨rfl,by rw [yqr hv hk hq zk];rfl⟩
  have hq:(yln (zyb h.evs (zls h x)[k] x)==v)=false:=by rw [←zcz];exact hc35
  refine rn ?_;exact ⟨hk,by rw [zyq hk,zk,rkQ,hq];rfl,eA⟩
 have qk:=zaz hc21 lk;rw [qk,C7] at zk;refine rn ?_;refine rq 2 ?_;exact ⟨rfl,by rw [yu7 hv zk];rfl⟩
theorem zsg {h:Hist} (hc:v6 h=0) {x:Int} (h0:0≤x) (h1:x < h.os.length) (v:Ver):zp0 h x v=((zxf h x v).getD 0,(zxf h x v).isSome):=by
 have hs:=zcb.1 hc;rw [zxf,ybr hs v h0 h1 _ (C5 _) h1,zp0,←ykj hs h0 h1];by_cases hv:v=⟨0,0⟩
 ·rw [A6 hv,A6 hv];rfl
 rw [A0 hv,A0 hv];have e:zbe (rkQ h x v) 0 (zgg h x)=zp1 h x v:=rfl;rw [e];by_cases q:zp1 h x v ≥ 0
 ·rw [A6 q,A6 q];rfl
 rw [A0 q,A0 q];rfl
def kdR (rd:Bool):Int:=bif rd then 3 else 2
def zfz (h:Hist) (x:Int) (rd:Bool) (e:Ev):Option Int:=if e.o=x∧e.kind=kdR rd then zxf h x e.v else none
theorem zn1 {h:Hist} {x:Int} {rd:Bool} {e:Ev} (hn:¬(e.o=x∧e.kind=kdR rd)):zfz h x rd e=none:=A0 hn
theorem zwi {h:Hist} {x:Int} {rd:Bool} {e:Ev} (hy:e.o=x∧e.kind=kdR rd):zfz h x rd e=zxf h x e.v:=A6 hy
def rdA (g:Int):Bool:=g==2||g==8
def rdB (g:Int):Bool:=g==1||g==2
theorem yr8 (g:Int):kdA g=kdR (rdA g):=by
 unfold kdA kdR rdA;by_cases h1:g=2
 ·subst h1;rfl
 by_cases h2:g=8
 ·subst h2;rfl
 have e1:(g==2)=false:=by simpa using h1
 have e2:(g==8)=false:=by simpa using h2
 rw [A0 (by omega),e1,e2];rfl
theorem yr7 (g:Int):kdB g=kdR (rdB g):=by
 unfold kdB kdR rdB;by_cases h1:g=1
 ·subst h1;rfl
 by_cases h2:g=2
 ·subst h2;rfl
 have e1:(g==1)=false:=by simpa using h1
 have e2:(g==2)=false:=by simpa using h2
 rw [A0 (by omega),e1,e2];rfl
theorem yf4 {a b c d:Bool} (h1:a=c) (h2:b=d):zfm [bv a,bv b]= .tup [bv c,bv d]:=by rw [h1,h2];rfl
def yao (h:Hist) (t kd x:Int) (k:Nat):List Acc:=(zri h t kd k).filter fun a=>a.o==x
theorem yfh {h:Hist} {t x:Int} {rd:Bool} {k:Nat} {r:Int} (hk:k < h.evs.length) (ht:h.evs[k].t=t) (hr:zfz h x rd h.evs[k]=some r):yao h t (kdR rd) x (k+1)=yao h t (kdR rd) x k++ [⟨x,r,k⟩]:=by
 rw [zfz] at hr;split at hr
 ·rename_i q;rw [yao,zi2 hk,K5,yfi ht q.2 (by rw [q.1];exact hr),q.1];simp [yao]
 cases hr
theorem yk8 {h:Hist} {t x:Int} {rd:Bool} {k:Nat} (hk:k < h.evs.length) (hn:h.evs[k].t≠t∨zfz h x rd h.evs[k]=none):yao h t (kdR rd) x (k+1)=yao h t (kdR rd) x k:=by
 have:(zn5 h t (kdR rd) k h.evs[k]).filter (fun a=>a.o==x)= []:=by
  rw [S6];intro a ha hx;obtain ⟨e1,e2,e3,e4,e5⟩:=zyu ha;have hx:a.o=x:=by simpa using hx
  rcases hn with hn|hn
  ·exact hn e1
  rw [zwi ⟨by rw [←e3,hx],e2⟩,←hx,e3,e5] at hn;cases hn
 rw [yao,zi2 hk,K5,this,F8];rfl
def hF (g t1 t2 x:Int) (a b:Acc):Option Brch:=if b.r < a.r then some ⟨g,t1,t2,x,a.a,b.a⟩ else none
def bG (h:Hist) (g t1 t2 x:Int) (i:Nat):List Brch:=(yao h t1 (kdR (rdA g)) x i).flatMap fun a=>(yao h t2 (kdR (rdB g)) x h.evs.length).filterMap (hF g t1 t2 x a)
def zug (h:Hist) (g t1 t2:Int) (k:Nat):List Brch:=(upR k).flatMap fun x=>bG h g t1 t2 x h.evs.length
theorem ytv (h:Hist) (g t1 t2:Int) (k:Nat):zug h g t1 t2 (k+1)=zug h g t1 t2 k++bG h g t1 t2 k h.evs.length:=by
 rw [zug,ya0,M0];simp [zug]
theorem yxw {h:Hist} {g t1 t2 x r:Int} {i:Nat} (hi:i < h.evs.length) (ht:h.evs[i].t=t1) (hr:zfz h x (rdA g) h.evs[i]=some r):bG h g t1 t2 x (i+1)=bG h g t1 t2 x i++(yao h t2 (kdR (rdB g)) x h.evs.length).filterMap (hF g t1 t2 x ⟨x,r,i⟩):=by
 rw [bG,yfh hi ht hr,M0];simp [bG]
theorem ywx {h:Hist} {g t1 t2 x:Int} {i:Nat} (hi:i < h.evs.length) (hn:h.evs[i].t≠t1∨zfz h x (rdA g) h.evs[i]=none):bG h g t1 t2 x (i+1)=bG h g t1 t2 x i:=by
 rw [bG,yk8 hi hn];rfl
def bJ (h:Hist) (g t1 t2 x:Int) (a:Acc) (j:Nat):List Brch:=(yao h t2 (kdR (rdB g)) x j).filterMap (hF g t1 t2 x a)
theorem yxu {h:Hist} {g t1 t2 x r:Int} {a:Acc} {j:Nat} (hj:j < h.evs.length) (ht:h.evs[j].t=t2) (hr:zfz h x (rdB g) h.evs[j]=some r) (hlt:r < a.r):bJ h g t1 t2 x a (j+1)=bJ h g t1 t2 x a j++ [⟨g,t1,t2,x,a.a,j⟩]:=by
 rw [bJ,yfh hj ht hr,N4];simp [bJ,hF,hlt]
theorem yxv {h:Hist} {g t1 t2 x r:Int} {a:Acc} {j:Nat} (hj:j < h.evs.length) (ht:h.evs[j].t=t2) (hr:zfz h x (rdB g) h.evs[j]=some r) (hlt:¬r < a.r):bJ h g t1 t2 x a (j+1)=bJ h g t1 t2 x a j:=by
 rw [bJ,yfh hj ht hr,N4];simp [bJ,hF,hlt]
theorem yww {h:Hist} {g t1 t2 x:Int} {a:Acc} {j:Nat} (hj:j < h.evs.length) (hn:h.evs[j].t≠t2∨zfz h x (rdB g) h.evs[j]=none):bJ h g t1 t2 x a (j+1)=bJ h g t1 t2 x a j:=by
 rw [bJ,yk8 hj hn];rfl
theorem yjg (h:Hist) (g t1 t2:Int):zug h g t1 t2 h.os.length=yts h.os.length g t1 t2 (zrh h t1 (kdA g)) (zrh h t2 (kdB g)):=by
 rw [zug,yts,yr8,yr7];rfl
theorem zqy {α β:Type} {f:α→List β} {c:Nat}:∀{l:List α},(∀a∈l,(f a).length≤c)→(l.flatMap f).length≤l.length * c
 | [],_=>by simp
 |a::l,h=>by
  have h1:=zqy (l:=l) fun x hx=>h x (by simp [hx]);have h2:=h a (by simp);rw [I6,D4,E6,Nat.succ_mul];omega
theorem zrj (h:Hist) (t kd x:Int) (k:Nat):(yao h t kd x k).length≤k:=B8 (K6 _ _) (zf3 h t kd k)
theorem ytw (h:Hist) (g t1 t2 x:Int) (a:Acc) (j:Nat):(bJ h g t1 t2 x a j).length≤j:=B8 (A0a _ _) (zrj _ _ _ _ _)
theorem ykz (h:Hist) (g t1 t2 x:Int) (i:Nat):(bG h g t1 t2 x i).length≤i * h.evs.length:=by
 refine B8 (zqy (c:=h.evs.length) fun a _=>B8 (A0a _ _) (zrj _ _ _ _ _)) ?_;exact G6 _ (zrj _ _ _ _ _)
theorem yjf (h:Hist) (g t1 t2:Int) (k:Nat):(zug h g t1 t2 k).length≤k * (h.evs.length * h.evs.length):=by
 refine B8 (zqy (c:=h.evs.length * h.evs.length) fun x _=>ykz _ _ _ _ _ _) ?_;rw [upR,oM,S9];exact C5 _
theorem yk0 {h:Hist} (hE:h.evs.length≤70) (hc:v6 h=0) {g t1 t2 x:Int} {k i j:Nat} {a:Acc} (hk:k≤h.os.length) (hi:i≤h.evs.length) (hj:j≤h.evs.length):(zug h g t1 t2 k++bG h g t1 t2 x i++bJ h g t1 t2 x a j).length≤15000000:=by
 have lA:=zeq hc;have lO:=lA.os;have lE:=hE;have e1:h.evs.length * h.evs.length≤70 * 70:=R6 lE lE;have e2:k * (h.evs.length * h.evs.length)≤3000 * (70 * 70):=R6 (by omega) e1;have e3:i * h.evs.length≤70 * 70:=R6 (by omega) lE;have h1:=yjf h g t1 t2 k;have h2:=ykz h g t1 t2 x i;have h3:=ytw h g t1 t2 x a j;rw [D4,D4];omega
theorem yez {h:Hist} (hE:h.evs.length≤70) (hc:v6 h=0) (g t1 t2:Int):(zug h g t1 t2 h.os.length).length≤15000000:=by
 have:=yk0 hE hc (g:=g) (t1:=t1) (t2:=t2) (x:=0) (a:=⟨0,0,0⟩) (k:=h.os.length) (i:=0) (j:=0) (C5 _) (G1 _) (G1 _);rw [D4,D4] at this;omega
def eR (h:Hist) (g:Int) (l:List Int) (t2:Int) (i:Nat):List Brch:=(l.take i).flatMap fun t1=>zug h g t1 t2 h.os.length
theorem yxt {h:Hist} {g:Int} {l:List Int} {t2:Int} {i:Nat} (hi:i < l.length):eR h g l t2 (i+1)=eR h g l t2 i++zug h g l[i] t2 h.os.length:=by
 rw [eR,A5 hi,M0];simp [eR]
def eL (h:Hist) (g:Int) (l:List Int):Nat→List Brch
 |0=> []
 |k+1=>eL h g l k++(match l[k]? with|some t2=>eR h g (l.take k) t2 (l.take k).length|none=> [])
theorem ywu {h:Hist} {g:Int} {l:List Int} {k:Nat} (hk:k < l.length):eL h g l (k+1)=eL h g l k++eR h g (l.take k) l[k] (l.take k).length:=by rw [eL,B4 hk]
theorem yeb (h:Hist) (g:Int) (l:List Int):∀k,eL h g l k=ztp h.os.length g (l.map (doi h g)) k
 |0=>rfl
 |k+1=>by
  rw [eL,ztp,yeb h g l k,M1];cases l[k]? with
  |none=>rfl
  |some t2=>
   simp only [K8];rw [eR,C7,←L6,List.flatMap_map];congr 1;exact zdr fun t1 _=>yjg h g t1 t2
theorem yth (h:Hist) (s g:Int):eL h g (zbn h.evs s) (zbn h.evs s).length=eaS h s g:=by rw [yeb,eaS,ykt,oM]
theorem ykq {h:Hist} (hE:h.evs.length≤70) (hc:v6 h=0) (g:Int) (l:List Int) (t2:Int) (i:Nat):(eR h g l t2 i).length≤i * 15000000:=by
 refine B8 (zqy (c:=15000000) fun t1 _=>yez hE hc g t1 t2) ?_;exact G6 _ (by rw [D5];exact Nat.min_le_left _ _)
theorem ykr {h:Hist} (hE:h.evs.length≤70) (hc:v6 h=0) (g:Int) (l:List Int):∀k,k≤l.length→(eL h g l k).length≤k * (l.length * 15000000)
 |0,_=>by simp [eL]
 |k+1,hk=>by
  have h1:=ykr hE hc g l k (by omega);have h2:=ykq hE hc g (l.take k) l[k] (l.take k).length;have h3:(l.take k).length * 15000000≤l.length * 15000000:=G6 _ (by rw [D5];omega);rw [ywu hk,D4,Nat.succ_mul];omega
theorem yti {h:Hist} (hE:h.evs.length≤70) (hc:v6 h=0) (g:Int) {l:List Int} (hl:l.length≤70) {k i:Nat} (t2:Int) (hk:k≤l.length) (hi:i≤70):(eL h g l k++eR h g (l.take k) t2 i).length≤80000000000:=by
 have h1:=ykr hE hc g l k hk;have h2:=ykq hE hc g (l.take k) t2 i;have h3:k * (l.length * 15000000)≤70 * (70 * 15000000):=R6 (by omega) (G6 _ hl);rw [D4];omega
abbrev zyk (l:List Brch):AV:= .list false 6 (l.map zc4)
theorem yqx (h:Hist) (la:Lim 3000 h) (hc:v6 h=0) (hE:h.evs.length≤70) (i x:Nat) (hi:i < h.evs.length) (hx:x < h.os.length):y9 Tryz.prog 115 [.agg (y8 h),iv (i:Int),iv (x:Int),bv true] [] (fun r h'=>h'= []∧r= .tup [iv ((zfz h x true h.evs[i]).getD 0),bv (zfz h x true h.evs[i]).isSome]):=by
 refine z6 Tryz.func115 rfl rfl rfl ?_;refine rn ?_;refine z8 rfl (w7 rfl rfl rfl fun b4=>?_);refine q1 ?_;refine q1 ?_;refine u1 (j8 ?_);refine x7 (y5 ?_);refine q1 ?_;refine q1 ?_;refine q1 ?_;refine qq rfl rfl (za2 rfl rfl (zam (f:=evR) hi)) ?_;refine rn ?_;refine z8 rfl (y6 rfl fun b10=>?_);refine rn ?_;refine x5 (fun hg2_4=>?_) (fun hg2_4=>?_)
 ·refine rn ?_;refine z7 rfl (fun hc35=>?_) (fun hc35=>?_)
  ·have hn:¬(h.evs[i].o=(x:Int)∧h.evs[i].kind=kdR true):=by
    intro qq;have q1:h.evs[i].kind=3:=qq.2;first|(have w:=hg2_4;rw [qq.1] at w;simp at w;done)|(have w:=hg2_11;rw [q1] at w;simp at w;done)|(have w:=hc35;rw [q1] at w;simp at w;done)
   refine rn ?_;refine rq 2 ?_;exact ⟨rfl,by rw [zn1 hn];rfl⟩
  first|cases hc35|exact absurd hc35 (by decide)|(exfalso;simp_all;done)
 refine q1 ?_;refine q1 ?_;refine q1 ?_;refine q1 ?_;refine qq rfl rfl (zm5 rfl rfl) ?_;refine rn ?_;refine x5 (fun hg2_11=>?_) (fun hg2_11=>?_)
 ·refine rn ?_;refine z7 rfl (fun hc35=>?_) (fun hc35=>?_)
  ·have hn:¬(h.evs[i].o=(x:Int)∧h.evs[i].kind=kdR true):=by
    intro qq;have q1:h.evs[i].kind=3:=qq.2;first|(have w:=hg2_4;rw [qq.1] at w;simp at w;done)|(have w:=hg2_11;rw [q1] at w;simp at w;done)|(have w:=hc35;rw [q1] at w;simp at w;done)
   refine rn ?_;refine rq 2 ?_;exact ⟨rfl,by rw [zn1 hn];rfl⟩
  first|cases hc35|exact absurd hc35 (by decide)|(exfalso;simp_all;done)
 refine rn ?_;refine z7 rfl (fun hc35=>?_) (fun hc35=>?_)
 ·first|cases hc35|exact absurd hc35 (by decide)|(exfalso;simp_all;done)
 have hyy:h.evs[i].o=(x:Int)∧h.evs[i].kind=kdR true:=⟨by simpa using hg2_4,by simpa [kdR] using hg2_11⟩;refine rn ?_;refine qv rfl rfl (y3 rfl rfl (u0 ((zsj h (la.mono (by decide)) (x:Int) h.evs[i].v).mono fun _ _ q=>⟨q.1,by rw [q.2,zsg hc (by omega) (by omega),←zwi hyy]⟩) (Sbs.refl _))) ?_;refine rn ?_;refine rq 2 ?_;exact ⟨rfl,rfl⟩
theorem yqy (h:Hist) (la:Lim 3000 h) (hc:v6 h=0) (hE:h.evs.length≤70) (i x:Nat) (hi:i < h.evs.length) (hx:x < h.os.length):y9 Tryz.prog 115 [.agg (y8 h),iv (i:Int),iv (x:Int),bv false] [] (fun r h'=>h'= []∧r= .tup [iv ((zfz h x false h.evs[i]).getD 0),bv (zfz h x false h.evs[i]).isSome]):=by
 refine z6 Tryz.func115 rfl rfl rfl ?_;refine rn ?_;refine z8 rfl (w7 rfl rfl rfl fun b4=>?_);refine q1 ?_;refine q1 ?_;refine u1 (j8 ?_);refine x7 (y5 ?_);refine q1 ?_;refine q1 ?_;refine q1 ?_;refine qq rfl rfl (za2 rfl rfl (zam (f:=evR) hi)) ?_;refine rn ?_;refine z8 rfl (y6 rfl fun b10=>?_);refine rn ?_;refine x5 (fun hg2_4=>?_) (fun hg2_4=>?_)
 ·refine rn ?_;refine z7 rfl (fun hc35=>?_) (fun hc35=>?_)
  ·have hn:¬(h.evs[i].o=(x:Int)∧h.evs[i].kind=kdR false):=by
    intro qq;have q1:h.evs[i].kind=2:=qq.2;first|(have w:=hg2_4;rw [qq.1] at w;simp at w;done)|(have w:=hg2_11;rw [q1] at w;simp at w;done)|(have w:=hc35;rw [q1] at w;simp at w;done)
   refine rn ?_;refine rq 2 ?_;exact ⟨rfl,by rw [zn1 hn];rfl⟩
  first|cases hc35|exact absurd hc35 (by decide)|(exfalso;simp_all;done)
 refine q1 ?_;refine q1 ?_;refine q1 ?_;refine q1 ?_;refine qq rfl rfl (zm5 rfl rfl) ?_;refine rn ?_;refine x5 (fun hg2_11=>?_) (fun hg2_11=>?_)
 ·refine rn ?_;refine z7 rfl (fun hc35=>?_) (fun hc35=>?_)
  ·have hn:¬(h.evs[i].o=(x:Int)∧h.evs[i].kind=kdR false):=by
    intro qq;have q1:h.evs[i].kind=2:=qq.2;first|(have w:=hg2_4;rw [qq.1] at w;simp at w;done)|(have w:=hg2_11;rw [q1] at w;simp at w;done)|(have w:=hc35;rw [q1] at w;simp at w;done)
   refine rn ?_;refine rq 2 ?_;exact ⟨rfl,by rw [zn1 hn];rfl⟩
  first|cases hc35|exact absurd hc35 (by decide)|(exfalso;simp_all;done)
 refine rn ?_;refine z7 rfl (fun hc35=>?_) (fun hc35=>?_)
 ·have hn:¬(h.evs[i].o=(x:Int)∧h.evs[i].kind=kdR false):=by
   intro qq;have q1:h.evs[i].kind=2:=qq.2;first|(have w:=hg2_4;rw [qq.1] at w;simp at w;done)|(have w:=hg2_11;rw [q1] at w;simp at w;done)|(have w:=hc35;rw [q1] at w;simp at w;done)
  refine rn ?_;refine rq 2 ?_;exact ⟨rfl,by rw [zn1 hn];rfl⟩
 have hyy:h.evs[i].o=(x:Int)∧h.evs[i].kind=kdR false:=⟨by simpa using hg2_4,by simpa [kdR] using hc35⟩;refine rn ?_;refine qv rfl rfl (y3 rfl rfl (u0 ((zsj h (la.mono (by decide)) (x:Int) h.evs[i].v).mono fun _ _ q=>⟨q.1,by rw [q.2,zsg hc (by omega) (by omega),←zwi hyy]⟩) (Sbs.refl _))) ?_;refine rn ?_;refine rq 2 ?_;exact ⟨rfl,rfl⟩
theorem yb4 (h:Hist) (la:Lim 3000 h) (hc:v6 h=0) (hE:h.evs.length≤70) (i x:Nat) (hi:i < h.evs.length) (hx:x < h.os.length) (rd:Bool):y9 Tryz.prog 115 [.agg (y8 h),iv (i:Int),iv (x:Int),bv rd] [] (fun r h'=>h'= []∧r= .tup [iv ((zfz h x rd h.evs[i]).getD 0),bv (zfz h x rd h.evs[i]).isSome]):=by
 cases rd
 ·exact yqy h la hc hE i x hi hx
 exact yqx h la hc hE i x hi hx
theorem yb5 (g:Int):y9 Tryz.prog 114 [iv g] [] (fun r h'=>h'= []∧r= .tup [bv (rdA g),bv (rdB g)]):=by
 refine z6 Tryz.func114 rfl rfl rfl ?_;refine rn ?_;refine x5 (fun hg1_2=>?_) (fun hg1_2=>?_)
 ·refine rn ?_;refine x5 (fun hg1_8=>?_) (fun hg1_8=>?_)
  ·refine rn ?_;refine rq 0 ?_;exact ⟨rfl,yf4 (by simp only [rdA,hg1_2,D1,C4]) (by simp only [rdB,hg1_8,D1,C4])⟩
  refine rn ?_;refine rq 0 ?_;exact ⟨rfl,yf4 (by simp only [rdA,hg1_2,D1,C4]) (by simp only [rdB,hg1_8,D1,C4])⟩
 refine rn ?_;refine x5 (fun hg1_8=>?_) (fun hg1_8=>?_)
 ·refine rn ?_;refine rq 0 ?_;exact ⟨rfl,yf4 (by simp only [rdA,hg1_2,D1,C4]) (by simp only [rdB,hg1_8,D1,C4])⟩
 refine rn ?_;refine rq 0 ?_;exact ⟨rfl,yf4 (by simp only [rdA,hg1_2,D1,C4]) (by simp only [rdB,hg1_8,D1,C4])⟩
set_option maxHeartbeats 8000000 in
theorem yb3 (h:Hist) (la:Lim 3000 h) (hc:v6 h=0) (hE:h.evs.length≤70) (g t1 t2:Int):y9 Tryz.prog 61 [.agg (y8 h),iv g,iv t1,iv t2] [] (fun r h'=>∃v:SV,h'= [.row v.v 6 36 ((zug h g t1 t2 h.os.length).map zc4)]∧r= .v v.v):=by
 refine z6 Tryz.func61 rfl rfl rfl ?_;have lO:=la.os;have lE:=la.evs;refine rn ?_;refine z8 rfl (w7 rfl rfl rfl fun b4=>?_);refine rn ?_;refine qv rfl rfl (y3 rfl rfl (u0 (yb5 g) (Sbs.refl _))) ?_;refine rn ?_;refine zer h.os.length (fun x v=>⟨[(29,iv x),(9,.v v.v),(1,iv g),(2,iv t1),(3,iv t2),(4,pZ b4),(10,bv (rdA g)),(11,bv (rdB g)),(28,iv (h.os.map zaq).length)],.row v.v 6 36 ((zug h g t1 t2 x).map zc4):: .box b4 28 (y8 h):: [],[]⟩) ⟨none,0,0⟩ (w8 (zaf 6 36) es) ?_;intro x v lx;refine rn ?_;refine z7 rfl (fun hc30=>?_) (fun hc30=>?_)
 ·have hx:x < h.os.length:=by have q:=oT hc30;rw [oM] at q;omega
  refine rn ?_;refine zer h.evs.length (fun i v=>⟨[(35,iv i),(9,.v v.v),(1,iv g),(2,iv t1),(3,iv t2),(4,pZ b4),(10,bv (rdA g)),(11,bv (rdB g)),(12,iv x),(28,iv (h.os.map zaq).length),(29,iv x),(33,zll h.evs),(34,iv (h.evs.map evR).length)],.row v.v 6 36 ((zug h g t1 t2 x++bG h g t1 t2 x i).map zc4):: .box b4 28 (y8 h):: [],[]⟩) v (by rw [show bG h g t1 t2 x 0= [] from rfl,F8];exact es) ?_;intro i v li;refine rn ?_;refine z7 rfl (fun hc36=>?_) (fun hc36=>?_)
  ·have hi:=zaw hc36;have ri:=zam (f:=evR) hi;refine rn ?_;refine z8 rfl (y6 rfl fun b14=>?_);refine rn ?_;refine qv rfl rfl (y3 rfl rfl (u0 (yb4 h la hc hE i x hi hx (rdA g)) (Sbs.refl _))) ?_;refine rn ?_;refine x5 (fun hg10_4=>?_) (fun hg10_4=>?_)
   ·refine rn ?_;refine zdk rfl ?_;have hn:h.evs[i].t≠t1∨(zfz h x (rdA g) h.evs[i])=none:=by
     first|(have w:=hg10_4;exact .inl (by simpa using w))|(have w:=hc55;exact .inr (by simpa using w))
    refine rn ?_;exact ⟨hi,v,by rw [ywx hi hn];exact eA⟩
   refine rn ?_;refine z7 rfl (fun hc55=>?_) (fun hc55=>?_)
   ·have hn:h.evs[i].t≠t1∨(zfz h x (rdA g) h.evs[i])=none:=by
     first|(have w:=hg10_4;exact .inl (by simpa using w))|(have w:=hc55;exact .inr (by simpa using w))
    refine rn ?_;exact ⟨hi,v,by rw [ywx hi hn];exact eA⟩
   have ht1:h.evs[i].t=t1:=by simpa using hg10_4
   obtain ⟨r1,hr1⟩:∃r,(zfz h x (rdA g) h.evs[i])=some r:=O7.1 (by simpa using hc55);rw [hr1,O4,Option.isSome_some];refine rn ?_;refine zer h.evs.length (fun j v=>⟨[(59,iv j),(9,.v v.v),(1,iv g),(2,iv t1),(3,iv t2),(4,pZ b4),(10,bv (rdA g)),(11,bv (rdB g)),(12,iv x),(13,iv i),(15,iv r1),(28,iv (h.os.map zaq).length),(29,iv x),(33,zll h.evs),(34,iv (h.evs.map evR).length),(35,iv i),(57,zll h.evs),(58,iv (h.evs.map evR).length)],.row v.v 6 36 ((zug h g t1 t2 x++bG h g t1 t2 x i++bJ h g t1 t2 x ⟨x,r1,i⟩ j).map zc4):: .box b14 66 (evR h.evs[i]):: .box b4 28 (y8 h):: [],[]⟩) v (by rw [show bJ h g t1 t2 x ⟨x,r1,i⟩ 0= [] from rfl,F8];exact w8 (zau (pt1 _ _ _)) es) ?_;intro j v lj;refine rn ?_;refine z7 rfl (fun hc60=>?_) (fun hc60=>?_)
   ·have hj:=zaw hc60;have rj:=zam (f:=evR) hj;refine rn ?_;refine z8 rfl (y6 rfl fun b18=>?_);refine rn ?_;refine qv rfl rfl (y3 rfl rfl (u0 (yb4 h la hc hE j x hj hx (rdB g)) (Sbs.refl _))) ?_;refine rn ?_;refine x5 (fun hg15_4=>?_) (fun hg15_4=>?_)
    ·refine rn ?_;refine x5 (fun hg15_7=>?_) (fun hg15_7=>?_)
     ·refine rn ?_;refine z7 rfl (fun hc83=>?_) (fun hc83=>?_)
      ·have ht2:h.evs[j].t=t2:=by simpa using hg15_4
       obtain ⟨r2,hr2⟩:∃r,(zfz h x (rdB g) h.evs[j])=some r:=O7.1 hg15_7;have hlt:r2 < r1:=by have w:=oT hc83;rw [hr2] at w;exact w
       refine y5 ?_;refine q1 ?_;refine q1 ?_;refine q1 ?_;refine q1 ?_;refine q1 ?_;refine q1 ?_;refine q1 ?_;refine qq rfl rfl (zal (out:= [iv g,iv t1,iv t2,iv x,iv i,iv j]) rfl (by rfl)) ?_;refine qv rfl rfl (q8 rfl rfl) ?_;refine z8 rfl (j3 rfl rfl (by simp only [oM,E6,F3];have:=yk0 hE hc (g:=g) (t1:=t1) (t2:=t2) (x:=x) (a:=⟨x,r1,i⟩) (k:=x) (i:=i) (j:=j) (by omega) (by omega) (by omega);omega) rfl (fun s93=>?_) (fun r hr=>by rw [D7.1 hr];rfl));refine zac s93 fun sv hsv=>?_;subst hsv;refine rn ?_;exact ⟨hj,sv,by rw [yxu hj ht2 hr2 hlt,←E0];simp only [D9];exact eA⟩
      skip;refine rn ?_;have ht2:h.evs[j].t=t2:=by simpa using hg15_4
      obtain ⟨r2,hr2⟩:∃r,(zfz h x (rdB g) h.evs[j])=some r:=O7.1 hg15_7;have hlt:¬r2 < r1:=by have w:=oF hc83;rw [hr2] at w;exact w
      exact ⟨hj,v,by rw [yxv hj ht2 hr2 hlt];exact eA⟩
     refine rn ?_;refine zfd rfl ?_;skip;refine rn ?_;have hn2:(zfz h x (rdB g) h.evs[j])=none:=by have w:=hg15_7;simpa using w
     exact ⟨hj,v,by rw [yww hj (.inr hn2)];exact eA⟩
    refine rn ?_;refine zfd rfl ?_;skip;refine rn ?_;have hn2:h.evs[j].t≠t2:=by simpa using hg15_4
    exact ⟨hj,v,by rw [yww hj (.inl hn2)];exact eA⟩
   have qj:=zaz hc60 lj;subst qj;refine rn ?_;exact ⟨hi,v,by rw [yxw hi ht1 hr1,←E0];exact eD 1⟩
  have qi:=zaz hc36 li;subst qi;refine rn ?_;exact ⟨hx,v,by rw [ytv];exact eA⟩
 have qx:x=h.os.length:=by have q:=oF hc30;rw [oM] at q;omega
 refine rn ?_;exact u6 rfl (.trans (.perm (pt1 _ _ _) _) (.drop [_] _ _)) ⟨v,by rw [qx],rfl⟩
theorem yg3 (h:Hist) (la:Lim 3000 h) (hc:v6 h=0) (hE:h.evs.length≤70) (g t1 t2:Int):y9 Tryz.prog 61 [.agg (y8 h),iv g,iv t1,iv t2] [] (fun r h'=>h'= []∧r=zyk (zug h g t1 t2 h.os.length)):=(yb3 h la hc hE g t1 t2).ventR (by rintro _ _ ⟨v,rfl,rfl⟩;exact ⟨_,_,zc5,rfl,rfl⟩)
set_option maxHeartbeats 8000000 in
theorem zzj (h:Hist) (la:Lim 3000 h) (hc:v6 h=0) (hE:h.evs.length≤70) (s g:Int):y9 Tryz.prog 20 [.agg (y8 h),iv s,iv g] [] (fun r h'=>∃v:SV,h'= [.row v.v 6 36 ((eaS h s g).map zc4)]∧r= .v v.v):=by
 refine z6 Tryz.func20 rfl rfl rfl ?_;have lE:=la.evs;have lL:=zql h s;have lL3:(zbn h.evs s).length≤70:=by omega
 refine rn ?_;refine z8 rfl (w7 rfl rfl rfl fun b3=>?_);refine rn ?_;refine qv rfl rfl (y3 rfl rfl (u0 (ybx h (la.mono (by decide)) s) (Sbs.refl _))) ?_;refine rn ?_;refine zer (zbn h.evs s).length (fun k v=>⟨[(18,iv k),(7,.v v.v),(2,iv g),(3,pZ b3),(8,zcs (zbn h.evs s)),(16,zcs (zbn h.evs s)),(17,iv ((zbn h.evs s).map zag).length)],.row v.v 6 36 ((eL h g (zbn h.evs s) k).map zc4):: .box b3 28 (y8 h):: [],[]⟩) ⟨none,0,0⟩ (w8 (zaf 6 36) es) ?_;intro k v lk;refine rn ?_;refine z7 rfl (fun hc19=>?_) (fun hc19=>?_)
 ·have hk:=zaw hc19;have rk:=zam (f:=zag) hk;refine k7 ?_;refine j8 ?_;refine x7 ?_;refine k8 ?_;refine x7 (y5 ?_);refine q1 ?_;refine q1 ?_;refine q1 ?_;refine q1 ?_;refine q1 ?_;refine u1 (j8 ?_);refine x7 (y5 ?_);refine q1 ?_;refine q1 ?_;refine qq rfl rfl (zbl (k:=k) rfl rfl (by rw [oM];omega)) ?_;rw [←L6];refine rn ?_;refine zer ((zbn h.evs s).take k).length (fun i v=>⟨[(27,iv i),(7,.v v.v),(2,iv g),(3,pZ b3),(8,zcs (zbn h.evs s)),(10,iv (zbn h.evs s)[k]),(16,zcs (zbn h.evs s)),(17,iv ((zbn h.evs s).map zag).length),(18,iv k),(25,zcs ((zbn h.evs s).take k)),(26,iv (((zbn h.evs s).take k).map zag).length)],.row v.v 6 36 ((eL h g (zbn h.evs s) k++eR h g ((zbn h.evs s).take k) (zbn h.evs s)[k] i).map zc4):: .box b3 28 (y8 h):: [],[]⟩) v (by rw [show eR h g ((zbn h.evs s).take k) (zbn h.evs s)[k] 0= [] by simp [eR],F8];exact es) ?_;intro i v li;refine rn ?_;refine z7 rfl (fun hc28=>?_) (fun hc28=>?_)
  ·have hi:=zaw hc28;have ri:=zam (f:=zag) hi;have htl:=V0 k (zbn h.evs s);refine rn ?_;refine qv rfl rfl (y3 rfl rfl (u0 (yg3 h la hc hE g ((zbn h.evs s).take k)[i] (zbn h.evs s)[k]) (Sbs.refl _))) ?_;refine z8 rfl (j3 rfl rfl (by have q1:=yti hE hc g lL3 (k:=k) (i:=i) (zbn h.evs s)[k] (by omega) (by omega);have q2:=yez hE hc g ((zbn h.evs s).take k)[i] (zbn h.evs s)[k];simp only [oM];omega) rfl (fun s37=>?_) (yjb _));refine zac s37 fun sv hsv=>?_;subst hsv;refine rn ?_;exact ⟨hi,sv,by rw [yxt hi,←E0];simp only [D9];exact eA⟩
  have qi:=zaz hc28 li;refine rn ?_;exact ⟨hk,v,by rw [ywu hk,qi];exact eA⟩
 have qk:=zaz hc19 lk;refine rn ?_;exact u6 rfl (.trans (.perm (pt1 _ _ _) _) (.drop [_] _ _)) ⟨v,by rw [←yth,qk],rfl⟩
theorem yb0 (h:Hist) (la:Lim 3000 h) (hc:v6 h=0) (hE:h.evs.length≤70) (s g:Int):y9 Tryz.prog 20 [.agg (y8 h),iv s,iv g] [] (fun r h'=>h'= []∧r=zyk (eaS h s g)):=(zzj h la hc hE s g).ventR (by rintro _ _ ⟨v,rfl,rfl⟩;exact ⟨_,_,zc5,rfl,rfl⟩)
def isG (g:Int):Bool:=g==1||g==2||g==4||g==8
def hrK (h:Hist) (s:Int) (k:Nat):Int:=(zjh.take k).foldl (fun n g=>if eaS h s g= [] then n+g else n) 0
theorem ysj {h:Hist} {s:Int} {k:Nat} (hk:k < zjh.length):hrK h s (k+1)=if eaS h s zjh[k]= [] then hrK h s k+zjh[k] else hrK h s k:=by
 rw [hrK,A5 hk,K0];rfl
theorem ywi:∀b∈zjh,0≤b∧b≤8:=by decide
theorem ysk (h:Hist) (s:Int):∀k,k≤4→0≤hrK h s k∧hrK h s k≤15:=by
 intro k hk;rcases (by omega:k=0∨k=1∨k=2∨k=3∨k=4) with rfl|rfl|rfl|rfl|rfl <;> simp only [hrK,zjh,List.take,K1,V8] <;> repeat' split
 all_goals omega
theorem yg2 (h:Hist) (la:Lim 3000 h) (hc:v6 h=0) (hE:h.evs.length≤70) (s:Int):y9 Tryz.prog 25 [.agg (y8 h),iv s] [] (fun r h'=>h'= []∧r=iv (yil h s)):=by
 refine z6 Tryz.func25 rfl rfl rfl ?_;refine rn ?_;refine z8 rfl (w7 rfl rfl rfl fun b2=>?_);refine rn ?_;refine qv rfl rfl (q8 rfl rfl) ?_;refine rn ?_;refine zbv 4 (fun _=>True) (fun k=>⟨[(10,iv (k:Nat)),(5,iv (hrK h s k)),(1,iv s),(2,pZ b2),(8,.list true 1 (zjh.map zag)),(9,iv 4)],.box b2 28 (y8 h):: [],[]⟩) trivial es ?_;intro k lk _;refine rn ?_;refine z7 rfl (fun hc11=>?_) (fun hc11=>?_)
 ·have hk:k < 4:=by have q:=oT hc11;omega
  have rk:=zam (f:=zag) (l:=zjh) hk;have hb:=ywi _ (D0 (l:=zjh) hk);have hin:=ysk h s k lk;refine rn ?_;refine qv rfl rfl (y3 rfl rfl (u0 (yb0 h la hc hE s zjh[k]) (Sbs.refl _))) ?_;refine rn ?_;refine z7 rfl (fun hc19=>?_) (fun hc19=>?_)
  ·have hz:eaS h s zjh[k]= []:=by have w:=hc19;simpa using w
   refine rn ?_;exact ⟨hk,trivial,by rw [ysj hk,A6 hz];exact eA⟩
  have hz:¬eaS h s zjh[k]= []:=by have w:=hc19;intro e;rw [e] at w;simp at w
  refine rn ?_;exact ⟨hk,trivial,by rw [ysj hk,A0 hz];exact eA⟩
 have qk:k=4:=by have q:=oF hc11;omega
 refine rn ?_;refine rq 1 ?_;exact ⟨rfl,by rw [qk];rfl⟩
def nmR (n:NV) (h:Hist) (L:List Res):List Res:= .row n.vT.v 1 9 (h.ts.map zaq):: .row n.vS.v 1 9 (h.ss.map zaq):: .row n.vO.v 1 9 (h.os.map zaq):: .row n.vP.v 1 9 (h.ps.map zaq)::L
def yox (e:Ev):List AV:= [iv e.kind,iv e.t,iv e.s,iv e.l,iv e.o,iv e.v.t,iv e.v.k,iv e.p,.v (.slice none 0 0)]
theorem yoy {α:Type} [DecidableEq α] {l m:List α} {k:Nat} (h1:k < l.length) (h2:k < m.length) (h:l.take k=m.take k) (e:l[k]=m[k]):l.take (k+1)=m.take (k+1):=by
 rw [A5 h1,A5 h2,h,e]
theorem yvo {α:Type} {l m:List α} {k:Nat} (h1:k < l.length) (h2:k < m.length) (e:l[k]≠m[k]):l≠m:=fun q=>e (by subst q;rfl)
theorem yoz {a b:Nat} (h:((a:Int) !=(b:Int))=false):a=b:=Int.ofNat.inj (by simpa using h)
theorem yop (h:Hist) (t:Int) {k:Nat} (hk:k < 4):zed k (zv7 h t)=zrp h.os.length (zrh h t (kdA (zfe k))):=by
 rcases (by omega:k=0∨k=1∨k=2∨k=3) with rfl|rfl|rfl|rfl <;> rfl
theorem yl6 (h:Hist) (t:Int) {k:Nat} (hk:k < 4):zid k (zv7 h t)=zrp h.os.length (zrh h t (kdB (zfe k))):=by
 rcases (by omega:k=0∨k=1∨k=2∨k=3) with rfl|rfl|rfl|rfl <;> rfl
theorem yo7 (h:Hist) (t1 t2:Int) {k:Nat} (hk:k < 4):zk5 k (zv7 h t1) (zv7 h t2)=ytt h.os.length (zfe k) t1 t2 (zrh h t1 (kdA (zfe k))) (zrh h t2 (kdB (zfe k))):=by
 rw [zk5,yop h t1 hk,yl6 h t2 hk];rfl
theorem yeu (h:Hist) (s:Int) {k:Nat} (hk:k < 4):∀j,brW k (zax h s) j=brL h.os.length (zfe k) (ykt h s (zfe k)) j
 |0=>rfl
 |j+1=>by
  rw [brW,brL,yeu h s hk j,zax,ykt,M1,M1];cases (zbn h.evs s)[j]? with
  |none=>rfl
  |some t2=>
   simp only [K8];rw [←L6,←L6,Y3,Y3];congr 1;refine zqx fun t1 _=>?_;simp only [Function.comp,hdW];rw [yo7 h t1 t2 hk];rfl
theorem zq9 (h:Hist) (s:Int) {k:Nat} (hk:k < 4):brW k (zax h s) (zax h s).length=brS h s (zfe k):=by
 rw [yeu h s hk,brS,zax,ykt,oM,oM]
theorem yoa {h:Hist} {s:Int} (hl:zfc h s=0):haO h s=ypy h s:=by
 rw [haO,A6 hl];simp only [haK,ypy,K1,V8];rw [zq9 h s (by decide:0 < 4),zq9 h s (by decide:1 < 4),zq9 h s (by decide:2 < 4),zq9 h s (by decide:3 < 4)];simp only [show zfe 0=1 from rfl,show zfe 1=2 from rfl,show zfe 2=4 from rfl,show zfe 3=8 from rfl];by_cases h1:brS h s 1= [] <;> by_cases h2:brS h s 2= [] <;> by_cases h3:brS h s 4= [] <;> by_cases h4:brS h s 8= [] <;> simp only [h1,h2,h3,h4,G4,F2,↓reduceIte] <;> decide
theorem zni {n m:Int}:isB n m=true ↔ 0≤n∧n < m:=by unfold isB;simp
theorem yc4 {h:Hist} (hc:v6 h=0) {s:Int} (hb:isB s h.ss.length=true):zfc h s=0:=ye4 hc (zni.1 hb)
theorem ysy {g:Int}:zqu g < 0 ↔ isG g=false:=by
 unfold zqu isG;by_cases h1:g=1
 ·subst h1;decide
 by_cases h2:g=2
 ·subst h2;decide
 by_cases h3:g=4
 ·subst h3;decide
 by_cases h4:g=8
 ·subst h4;decide
 simp [h1,h2,h3,h4]
theorem yt2 {h:Hist} (hc:v6 h=0) {s:Int} (hb:isB s h.ss.length=true) {g:Int} (hg:isG g=true):zoj h s g=0:=(zk7 (yc4 hc hb) fun q=>by rw [ysy.1 q] at hg;cases hg).1
theorem zjy {f g:Bool} (l m:List ByteArray) (hl:l.length≤4611686018427387904) (hm:m.length≤4611686018427387904):y9 Tryz.prog 62 [.list f 1 (l.map zaq),.list g 1 (m.map zaq)] [] (fun r h'=>h'= []∧r=bv (decide (l=m))):=
 (yg0 l m hl hm).mono (fun r h' q=>⟨q.1,by rw [q.2,zhm zwx]⟩)
theorem zm2 {f g:Bool} (l m:List Int) (hl:l.length≤4611686018427387904) (hm:m.length≤4611686018427387904):y9 Tryz.prog 64 [.list f 1 (l.map zag),.list g 1 (m.map zag)] [] (fun r h'=>h'= []∧r=bv (decide (l=m))):=
 (zze l m hl hm).mono (fun r h' q=>⟨q.1,by rw [q.2,zhm zmd]⟩)
theorem ybz (a b:Ev) (ha:a.scan.length≤4611686018427387904) (hb:b.scan.length≤4611686018427387904):y9 Tryz.prog 63 [.agg (evR a),.agg (evR b)] [] (fun r h'=>h'= []∧r=bv (decide (a=b))):=
 (zf1 a b ha hb).mono (fun r h' q=>⟨q.1,by rw [q.2,zv3]⟩)
theorem zdg {a b:Hist} (h:a≠b):zn7 a b=false:=by
 cases q:zn7 a b with
 |false=>rfl
 |true=>exact absurd ((zmw a b).1 q) h
theorem yml {a b:Hist} (h:a=b):zn7 a b=true:=(zmw a b).2 h
theorem ymy (a b:Hist) (la:Lim 4611686018427387904 a) (lb:Lim 4611686018427387904 b):y9 Tryz.prog 22 [.agg (y8 a),.agg (y8 b)] [] (fun r h'=>h'= []∧r=bv (zn7 a b)):=by
 refine z6 Tryz.func22 rfl rfl rfl ?_;refine rn ?_;refine z8 rfl (w7 rfl rfl rfl fun b2=>?_);refine z8 rfl (w7 rfl rfl rfl fun b3=>?_);refine rn ?_;refine qv rfl rfl (y3 rfl rfl (u0 (zjy a.ts b.ts la.ts lb.ts) (Sbs.refl _))) ?_;refine rn ?_;refine x5 (fun hg1_6=>?_) (fun hg1_6=>?_)
 ·refine rn ?_;refine zdk rfl ?_;refine rn ?_;exact u6 rfl (.drop [_,_] _ _) ⟨rfl,A4 bv (Q1 (zdg fun q=>by subst q;simp_all))⟩
 refine rn ?_;refine qv rfl rfl (y3 rfl rfl (u0 (zjy a.ss b.ss la.ss lb.ss) (Sbs.refl _))) ?_;refine rn ?_;refine x5 (fun hg1_14=>?_) (fun hg1_14=>?_)
 ·refine rn ?_;refine zdk rfl ?_;refine rn ?_;exact u6 rfl (.drop [_,_] _ _) ⟨rfl,A4 bv (Q1 (zdg fun q=>by subst q;simp_all))⟩
 refine rn ?_;refine qv rfl rfl (y3 rfl rfl (u0 (zjy a.os b.os la.os lb.os) (Sbs.refl _))) ?_;refine rn ?_;refine x5 (fun hg1_22=>?_) (fun hg1_22=>?_)
 ·refine rn ?_;refine zdk rfl ?_;refine rn ?_;exact u6 rfl (.drop [_,_] _ _) ⟨rfl,A4 bv (Q1 (zdg fun q=>by subst q;simp_all))⟩
 refine rn ?_;refine qv rfl rfl (y3 rfl rfl (u0 (zjy a.ps b.ps la.ps lb.ps) (Sbs.refl _))) ?_;refine rn ?_;refine x5 (fun hg1_30=>?_) (fun hg1_30=>?_)
 ·refine rn ?_;refine zdk rfl ?_;refine rn ?_;exact u6 rfl (.drop [_,_] _ _) ⟨rfl,A4 bv (Q1 (zdg fun q=>by subst q;simp_all))⟩
 refine rn ?_;refine x5 (fun hg1_39=>?_) (fun hg1_39=>?_)
 ·refine rn ?_;refine zdk rfl ?_;refine rn ?_;exact u6 rfl (.drop [_,_] _ _) ⟨rfl,A4 bv (Q1 (zdg fun q=>by subst q;simp_all))⟩
 refine rn ?_;refine x5 (fun hg1_48=>?_) (fun hg1_48=>?_)
 ·refine rn ?_;refine zdk rfl ?_;refine rn ?_;exact u6 rfl (.drop [_,_] _ _) ⟨rfl,A4 bv (Q1 (zdg fun q=>by subst q;simp_all))⟩
 refine rn ?_;refine x5 (fun hg1_57=>?_) (fun hg1_57=>?_)
 ·refine rn ?_;refine zdk rfl ?_;refine rn ?_;exact u6 rfl (.drop [_,_] _ _) ⟨rfl,A4 bv (Q1 (zdg fun q=>by subst q;simp_all))⟩
 refine rn ?_;refine z7 rfl (fun hc78=>?_) (fun hc78=>?_)
 ·refine rn ?_;exact u6 rfl (.drop [_,_] _ _) ⟨rfl,A4 bv (Q1 (zdg fun q=>by subst q;simp_all))⟩
 have Ets:a.ts=b.ts:=by simp_all
 have Ess:a.ss=b.ss:=by simp_all
 have Eos:a.os=b.os:=by simp_all
 have Eps:a.ps=b.ps:=by simp_all
 have Levs:a.evs.length=b.evs.length:=by simp at *;omega
 have Lords:a.ords.length=b.ords.length:=by simp at *;omega
 have Lmats:a.mats.length=b.mats.length:=by simp at *;omega
 have Lwants:a.wants.length=b.wants.length:=by simp at *;omega
 refine rn ?_;refine u4 (fun k:Nat=>k≤a.evs.length∧a.evs.take k=b.evs.take k) (fun k=>⟨[(82,iv k),(81,iv (a.evs.map evR).length),(2,pZ b2),(3,pZ b3)],[.box b3 28 (y8 b),.box b2 28 (y8 a)],[]⟩) (fun k=>a.evs.length - k) 0 ⟨G1 _,by simp⟩
  (w6 (.cons _ _ _ rfl (.cons _ _ _ rfl (.cons _ _ _ rfl (.cons _ _ _ rfl (.nil)))))) ?_
 rintro k ⟨hk,ht⟩;refine rn ?_;refine z7 rfl (fun hc83=>?_) (fun hc83=>?_)
 ·have hbig:=la.evs;have hk2:k < a.evs.length:=by simpa using hc83
  have hk3:k < b.evs.length:=by omega
  obtain ⟨x,hx0⟩:∃x,x=a.evs[k]:=⟨_,rfl⟩;obtain ⟨y,hy0⟩:∃y,y=b.evs[k]:=⟨_,rfl⟩;have hrow1:(a.evs.map evR)[k]? =some (evR x):=by rw [hx0];simp [hk2]
  have hrow2:(b.evs.map evR)[k]? =some (evR y):=by rw [hy0];simp [hk3]
  refine rn ?_;refine j5 10 rfl ?_;refine rn ?_;refine qv rfl rfl (y3 rfl rfl (u0 (ybz x y (la.scans _ (by rw [hx0];exact D0 _)) (lb.scans _ (by rw [hy0];exact D0 _))) (Sbs.refl _))) ?_;refine rn ?_;refine z7 rfl (fun hc96=>?_) (fun hc96=>?_)
  ·have hne:x≠y:=by clear hx0 hy0 hrow1 hrow2 ht;intro q;subst q;simp_all
   refine rn ?_;exact u6 rfl (.drop [_,_] _ _) ⟨rfl,A4 bv (Q1 (zdg fun q=>by subst q;exact hne (hx0.trans hy0.symm)))⟩
  have hxy:x=y:=by simpa using hc96
  refine rn ?_;exact ⟨k+1,⟨by omega,by rw [A5 hk2,A5 hk3,ht,←hx0,←hy0,hxy]⟩,(w6 (.cons _ _ _ rfl (.cons _ _ _ rfl (.cons _ _ _ rfl (.cons _ _ _ rfl (.nil)))))),by omega⟩
 have hk2:¬k < a.evs.length:=by simpa using hc83
 have Eevs:a.evs=b.evs:=by
  have hk3:k=a.evs.length:=by omega
  rw [hk3,C7] at ht;rw [ht,Levs,C7]
 clear ht hk
 refine rn ?_;refine u4 (fun k:Nat=>k≤a.ords.length∧a.ords.take k=b.ords.take k) (fun k=>⟨[(101,iv k),(100,iv (a.ords.map zb7).length),(99,zb2 a.ords),(2,pZ b2),(3,pZ b3)],[.box b3 28 (y8 b),.box b2 28 (y8 a)],[]⟩) (fun k=>a.ords.length - k) 0 ⟨G1 _,by simp⟩
  (w6 (.cons _ _ _ rfl (.cons _ _ _ rfl (.cons _ _ _ rfl (.cons _ _ _ rfl (.cons _ _ _ rfl (.nil))))))) ?_
 rintro k ⟨hk,ht⟩;refine rn ?_;refine z7 rfl (fun hc102=>?_) (fun hc102=>?_)
 ·have hbig:=la.ords;have hk2:k < a.ords.length:=by simpa using hc102
  have hk3:k < b.ords.length:=by omega
  obtain ⟨x,hx0⟩:∃x,x=a.ords[k]:=⟨_,rfl⟩;obtain ⟨y,hy0⟩:∃y,y=b.ords[k]:=⟨_,rfl⟩;have hrow1:(a.ords.map zb7)[k]? =some (zb7 x):=by rw [hx0];simp [hk2]
  have hrow2:(b.ords.map zb7)[k]? =some (zb7 y):=by rw [hy0];simp [hk3]
  refine rn ?_;refine z8 rfl (y6 rfl fun b7=>?_);refine rn ?_;refine z8 rfl (y6 rfl fun b8=>?_);refine rn ?_;refine x5 (fun hg13_5=>?_) (fun hg13_5=>?_)
  ·refine rn ?_;refine zdk rfl ?_;have hne:x≠y:=by clear hx0 hy0 hrow1 hrow2 ht;intro q;subst q;simp_all
   refine rn ?_;exact u6 rfl (.drop [_,_,_,_] _ _) ⟨rfl,A4 bv (Q1 (zdg fun q=>by subst q;exact hne (hx0.trans hy0.symm)))⟩
  refine rn ?_;refine qv rfl rfl (y3 rfl rfl (u0 (zm2 x.ts y.ts (la.ordts _ (by rw [hx0];exact D0 _)) (lb.ordts _ (by rw [hy0];exact D0 _))) (Sbs.refl _))) ?_;refine rn ?_;refine z7 rfl (fun hc123=>?_) (fun hc123=>?_)
  ·have hne:x≠y:=by clear hx0 hy0 hrow1 hrow2 ht;intro q;subst q;simp_all
   refine rn ?_;exact u6 rfl (.drop [_,_,_,_] _ _) ⟨rfl,A4 bv (Q1 (zdg fun q=>by subst q;exact hne (hx0.trans hy0.symm)))⟩
  have hxy:x=y:=by clear hx0 hy0 hrow1 hrow2 ht;cases x;cases y;simp_all
  refine rn ?_;exact ⟨k+1,⟨by omega,by rw [A5 hk2,A5 hk3,ht,←hx0,←hy0,hxy]⟩,(w8 (za1 (h1:= [_,_])) (w6 (.cons _ _ _ rfl (.cons _ _ _ rfl (.cons _ _ _ rfl (.cons _ _ _ rfl (.cons _ _ _ rfl (.nil)))))))),by omega⟩
 have hk2:¬k < a.ords.length:=by simpa using hc102
 have Eords:a.ords=b.ords:=by
  have hk3:k=a.ords.length:=by omega
  rw [hk3,C7] at ht;rw [ht,Lords,C7]
 clear ht hk
 refine rn ?_;refine u4 (fun k:Nat=>k≤a.mats.length∧a.mats.take k=b.mats.take k) (fun k=>⟨[(128,iv k),(127,iv (a.mats.map zck).length),(126,zb3 a.mats),(2,pZ b2),(3,pZ b3)],[.box b3 28 (y8 b),.box b2 28 (y8 a)],[]⟩) (fun k=>a.mats.length - k) 0 ⟨G1 _,by simp⟩
  (w6 (.cons _ _ _ rfl (.cons _ _ _ rfl (.cons _ _ _ rfl (.cons _ _ _ rfl (.cons _ _ _ rfl (.nil))))))) ?_
 rintro k ⟨hk,ht⟩;refine rn ?_;refine z7 rfl (fun hc129=>?_) (fun hc129=>?_)
 ·have hbig:=la.mats;have hk2:k < a.mats.length:=by simpa using hc129
  have hk3:k < b.mats.length:=by omega
  obtain ⟨x,hx0⟩:∃x,x=a.mats[k]:=⟨_,rfl⟩;obtain ⟨y,hy0⟩:∃y,y=b.mats[k]:=⟨_,rfl⟩;have hrow1:(a.mats.map zck)[k]? =some (zck x):=by rw [hx0];simp [hk2]
  have hrow2:(b.mats.map zck)[k]? =some (zck y):=by rw [hy0];simp [hk3]
  refine rn ?_;refine z8 rfl (y6 rfl fun b10=>?_);refine rn ?_;refine z8 rfl (y6 rfl fun b11=>?_);refine rn ?_;refine x5 (fun hg20_5=>?_) (fun hg20_5=>?_)
  ·refine rn ?_;refine zdk rfl ?_;have hne:x≠y:=by clear hx0 hy0 hrow1 hrow2 ht;intro q;subst q;simp_all
   refine rn ?_;exact u6 rfl (.drop [_,_,_,_] _ _) ⟨rfl,A4 bv (Q1 (zdg fun q=>by subst q;exact hne (hx0.trans hy0.symm)))⟩
  refine rn ?_;refine x5 (fun hg20_12=>?_) (fun hg20_12=>?_)
  ·refine rn ?_;refine zdk rfl ?_;have hne:x≠y:=by clear hx0 hy0 hrow1 hrow2 ht;intro q;subst q;simp_all
   refine rn ?_;exact u6 rfl (.drop [_,_,_,_] _ _) ⟨rfl,A4 bv (Q1 (zdg fun q=>by subst q;exact hne (hx0.trans hy0.symm)))⟩
  refine rn ?_;refine x5 (fun hg20_19=>?_) (fun hg20_19=>?_)
  ·refine rn ?_;refine zdk rfl ?_;have hne:x≠y:=by clear hx0 hy0 hrow1 hrow2 ht;intro q;subst q;simp_all
   refine rn ?_;exact u6 rfl (.drop [_,_,_,_] _ _) ⟨rfl,A4 bv (Q1 (zdg fun q=>by subst q;exact hne (hx0.trans hy0.symm)))⟩
  refine rn ?_;refine qv rfl rfl (y3 rfl rfl (u0 (zm2 x.ts y.ts (la.matts _ (by rw [hx0];exact D0 _)) (lb.matts _ (by rw [hy0];exact D0 _))) (Sbs.refl _))) ?_;refine rn ?_;refine z7 rfl (fun hc164=>?_) (fun hc164=>?_)
  ·have hne:x≠y:=by clear hx0 hy0 hrow1 hrow2 ht;intro q;subst q;simp_all
   refine rn ?_;exact u6 rfl (.drop [_,_,_,_] _ _) ⟨rfl,A4 bv (Q1 (zdg fun q=>by subst q;exact hne (hx0.trans hy0.symm)))⟩
  have hxy:x=y:=by clear hx0 hy0 hrow1 hrow2 ht;cases x;cases y;simp_all
  refine rn ?_;exact ⟨k+1,⟨by omega,by rw [A5 hk2,A5 hk3,ht,←hx0,←hy0,hxy]⟩,(w8 (za1 (h1:= [_,_])) (w6 (.cons _ _ _ rfl (.cons _ _ _ rfl (.cons _ _ _ rfl (.cons _ _ _ rfl (.cons _ _ _ rfl (.nil)))))))),by omega⟩
 have hk2:¬k < a.mats.length:=by simpa using hc129
 have Emats:a.mats=b.mats:=by
  have hk3:k=a.mats.length:=by omega
  rw [hk3,C7] at ht;rw [ht,Lmats,C7]
 clear ht hk
 refine rn ?_;refine u4 (fun k:Nat=>k≤a.wants.length∧a.wants.take k=b.wants.take k) (fun k=>⟨[(169,iv k),(168,iv (a.wants.map zar).length),(2,pZ b2),(3,pZ b3)],[.box b3 28 (y8 b),.box b2 28 (y8 a)],[]⟩) (fun k=>a.wants.length - k) 0 ⟨G1 _,by simp⟩
  (w6 (.cons _ _ _ rfl (.cons _ _ _ rfl (.cons _ _ _ rfl (.cons _ _ _ rfl (.nil)))))) ?_
 rintro k ⟨hk,ht⟩;refine rn ?_;refine z7 rfl (fun hc170=>?_) (fun hc170=>?_)
 ·have hbig:=la.wants;have hk2:k < a.wants.length:=by simpa using hc170
  have hk3:k < b.wants.length:=by omega
  obtain ⟨x,hx0⟩:∃x,x=a.wants[k]:=⟨_,rfl⟩;obtain ⟨y,hy0⟩:∃y,y=b.wants[k]:=⟨_,rfl⟩;have hrow1:(a.wants.map zar)[k]? =some (zar x):=by rw [hx0];simp [hk2]
  have hrow2:(b.wants.map zar)[k]? =some (zar y):=by rw [hy0];simp [hk3]
  refine rn ?_;refine j5 10 rfl ?_;refine rn ?_;refine z7 rfl (fun hc182=>?_) (fun hc182=>?_)
  ·have hne:x≠y:=by clear hx0 hy0 hrow1 hrow2 ht;intro q;subst q;simp_all
   refine rn ?_;exact u6 rfl (.drop [_,_] _ _) ⟨rfl,A4 bv (Q1 (zdg fun q=>by subst q;exact hne (hx0.trans hy0.symm)))⟩
  have hxy:x=y:=by clear hx0 hy0 hrow1 hrow2 ht;cases x;cases y;simp_all
  refine rn ?_;exact ⟨k+1,⟨by omega,by rw [A5 hk2,A5 hk3,ht,←hx0,←hy0,hxy]⟩,(w6 (.cons _ _ _ rfl (.cons _ _ _ rfl (.cons _ _ _ rfl (.cons _ _ _ rfl (.nil)))))),by omega⟩
 have hk2:¬k < a.wants.length:=by simpa using hc170
 have Ewants:a.wants=b.wants:=by
  have hk3:k=a.wants.length:=by omega
  rw [hk3,C7] at ht;rw [ht,Lwants,C7]
 clear ht hk;refine rn ?_;exact u6 rfl (.drop [_,_] _ _) ⟨rfl,A4 bv (Q1 (yml (by cases a;cases b;simp_all)))⟩
theorem ybm (h:Hist) (la:Lim 4611686018427387904 h):y9 Tryz.prog 22 [.agg (y8 h),.agg (y8 h)] [] (fun r h'=>h'= []∧r=bv true):=(ymy h h la la).mono fun _ _ q=>⟨q.1,by rw [q.2,zy6]⟩
end Go.Proofs
namespace Go.Ab
open Go
section
variable {P:Program} {h:List Res} {f:Operand→Option AV} {dst:Option Tmp} {ty:TypeId} {pos:String} {after:Array Edge} {guard:Option (Nat×Bool)} {x:Operand}
end
end Go.Ab
set_option maxRecDepth 10000
namespace Go.Proofs
open Go Go.Ab
attribute [local irreducible] QR QV OE zc9 aw zds zb0 zbp za8 thn zgc zem jch zfo
open Go.H
theorem take_min {α β:Type} {f:α→β} (l:List α) (n:Nat):(l.map f).take (min (l.map f).length n)=(l.take n).map f:=by
 rw [←L6,oM];congr 1;by_cases h:l.length≤n
 ·rw [K3 h,C7,M7 h]
 rw [U4 (by omega)]
theorem yqm:∀{k:Nat},k < 4→zou .shl .i64 1 (k:Nat)=some (zfe k)
 |0,_=>rfl
 |1,_=>rfl
 |2,_=>rfl
 |3,_=>rfl
end Go.Proofs
