/- The walk of the reference's event. Conditions: none. -/
import Derived.Test.YtfmcbdjnmlcacaaGreatDoorWAlI
set_option linter.unusedSectionVars false
set_option linter.unusedSimpArgs false
set_option linter.unusedVariables false
set_option maxRecDepth 10000
namespace Go.Proofs
open Go Go.Ab
attribute [local irreducible] QR QV OE aops aw dsoup dsoupM dalloc zf9 thn inBlk jsoup jch lsoup
open Go.H
theorem bvz0_4484 {a b:Bool} (h:a=b:=by subst e1;show _=(begunB l e.t && e.kind==1|| !begunB l e.t && e.kind !=1);rw [←zB];clear zb zo zB zO;simp_all):bv a=bv b:=congrArg bv h
set_option maxHeartbeats 4000000 in
theorem refEvent15 (rl:Nat) (e:Ev) (l:List Ev) (h1:1≤rl) (h6:rl≤6) (la:l.length≤1000000) (hl:e.scan.length≤1000000):za6 Tryz.prog 263 [iv rl,.agg (evR e),evsA l] [] (fun r h'=>h'= []∧r=bv (wrongR rl e l)):=by
 refine za1 Tryz.func263 rfl rfl rfl ?_
 refine rn ?_;refine za2 rfl (zb5 rfl rfl rfl fun b4=> ?_)
 refine rn ?_;refine aw_rngS l.length (fun j x=>x.1=(l.take j).any (fun y:Ev=>y.t==e.t && y.kind==1)∧x.2=(l.take j).any (fun y:Ev=>y.t==e.t && (y.kind==5||y.kind==6))) (fun j x=> [(21,iv j),(7,bv x.1),(8,bv x.2)]) [(0,_),(2,_),(4,_),(19,_),(20,_)] (false,false) ⟨rfl,rfl⟩ ?_
 rintro j ⟨bg,ov⟩ lj ⟨zb,zo⟩
 refine rn ?_;refine za0 rfl (fun hc22=> ?_) (fun hc22=> ?_)
 ·have hj:=ltMap hc22
  have rj:=ze2 (f:=evR) hj
  refine rn ?_;refine za2 rfl (zb1 rfl fun b10=> ?_)
  refine rn ?_;refine za0 rfl (fun hc29=> ?_) (fun hc29=> ?_)
  ·refine rn ?_;refine za8 (fun hg6_1=> ?_) (fun hg6_1=> ?_)
   ·refine rn ?_;refine za8 (fun hg7_1=> ?_) (fun hg7_1=> ?_)
    ·refine rn ?_;refine ⟨hj,(_,_),?_,eA⟩
     rw [any_step hj,any_step hj]
     generalize (l.take j).any (fun y:Ev=>y.t==e.t && y.kind==1)=A at *
     generalize (l.take j).any (fun y:Ev=>y.t==e.t && (y.kind==5||y.kind==6))=B at *
     simp_all
    ·refine rn ?_;refine za8 (fun hg7_6=> ?_) (fun hg7_6=> ?_)
     ·refine rn ?_;refine ⟨hj,(_,_),?_,eA⟩
      rw [any_step hj,any_step hj]
      generalize (l.take j).any (fun y:Ev=>y.t==e.t && y.kind==1)=A at *
      generalize (l.take j).any (fun y:Ev=>y.t==e.t && (y.kind==5||y.kind==6))=B at *
      simp_all
     ·refine rn ?_;refine ⟨hj,(_,_),?_,eA⟩
      rw [any_step hj,any_step hj]
      generalize (l.take j).any (fun y:Ev=>y.t==e.t && y.kind==1)=A at *
      generalize (l.take j).any (fun y:Ev=>y.t==e.t && (y.kind==5||y.kind==6))=B at *
      simp_all
   ·refine rn ?_;refine za8 (fun hg7_1=> ?_) (fun hg7_1=> ?_)
    ·refine rn ?_;refine ⟨hj,(_,_),?_,eA⟩
     rw [any_step hj,any_step hj]
     generalize (l.take j).any (fun y:Ev=>y.t==e.t && y.kind==1)=A at *
     generalize (l.take j).any (fun y:Ev=>y.t==e.t && (y.kind==5||y.kind==6))=B at *
     simp_all
    ·refine rn ?_;refine za8 (fun hg7_6=> ?_) (fun hg7_6=> ?_)
     ·refine rn ?_;refine ⟨hj,(_,_),?_,eA⟩
      rw [any_step hj,any_step hj]
      generalize (l.take j).any (fun y:Ev=>y.t==e.t && y.kind==1)=A at *
      generalize (l.take j).any (fun y:Ev=>y.t==e.t && (y.kind==5||y.kind==6))=B at *
      simp_all
     ·refine rn ?_;refine ⟨hj,(_,_),?_,eA⟩
      rw [any_step hj,any_step hj]
      generalize (l.take j).any (fun y:Ev=>y.t==e.t && y.kind==1)=A at *
      generalize (l.take j).any (fun y:Ev=>y.t==e.t && (y.kind==5||y.kind==6))=B at *
      simp_all
  ·refine rn ?_;refine ⟨hj,(_,_),?_,eA⟩
   rw [any_step hj,any_step hj]
   generalize (l.take j).any (fun y:Ev=>y.t==e.t && y.kind==1)=A at *
   generalize (l.take j).any (fun y:Ev=>y.t==e.t && (y.kind==5||y.kind==6))=B at *
   simp_all
 ·have qj :=geMap hc22 lj
  have zB:bg=begunB l e.t:=by rw [begunB_eq,begunL];simpa [qj] using zb
  have zO:ov=overB l e.t:=by rw [overB];simpa [qj] using zo
  refine rn ?_;refine za0 rfl (fun hc49=> ?_) (fun hc49=> ?_)
  ·have e1:rl=1:=by have h:=hc49;simp at h;omega
   refine rn ?_;refine za8 (fun hg11_1=> ?_) (fun hg11_1=> ?_)
   ·refine rn ?_;refine za8 (fun hg11_6=> ?_) (fun hg11_6=> ?_)
    ·refine rn ?_;refine rq 1 ?_
     exact ⟨rfl,bvz0_4484⟩
    ·refine rn ?_;refine za8 (fun hg11_9=> ?_) (fun hg11_9=> ?_)
     ·refine rn ?_;refine rq 1 ?_
      exact ⟨rfl,bvz0_4484⟩
     ·refine rn ?_;refine rq 1 ?_
      exact ⟨rfl,bvz0_4484⟩
   ·refine rn ?_;refine za8 (fun hg11_9=> ?_) (fun hg11_9=> ?_)
    ·refine rn ?_;refine rq 1 ?_
     exact ⟨rfl,bvz0_4484⟩
    ·refine rn ?_;refine rq 1 ?_
     exact ⟨rfl,bvz0_4484⟩
  ·have n1 :rl≠1:=by intro h;subst h;exact absurd hc49 (by decide)
   refine rn ?_;refine za0 rfl (fun hc66=> ?_) (fun hc66=> ?_)
   ·have e2:rl=2:=by have h:=hc66;simp at h;omega
    refine rn ?_;refine rq 1 ?_
    exact ⟨rfl,congrArg bv (by subst e2;show _=overB l e.t;rw [←zO])⟩
   ·have n2 :rl≠2:=by intro h;subst h;exact absurd hc66 (by decide)
    refine rn ?_;refine za0 rfl (fun hc69=> ?_) (fun hc69=> ?_)
    ·have e3:rl=3:=by have h:=hc69;simp at h;omega
     refine rn ?_;refine zd2 15 rfl ?_
     refine rn ?_;refine dsplit (fun hg15_3=> ?_) (fun hg15_3=> ?_)
     ·refine rn ?_;refine dv rfl rfl (by exact za4 rfl rfl (zc0 (refWrote l e.t e.o la) (Sbs.refl _))) ?_
      refine dq rfl rfl qrA ?_;first|refine ds rfl rfl ?_|refine dq rfl rfl (qr_ari rfl rfl rfl (by rw [List.length_map];have:=wroteL_le l e.t e.o;omega)) ?_
      refine rn ?_;refine rq 1 ?_
      exact ⟨rfl,congrArg bv (by subst e3;simp_all [wrongR])⟩
     ·refine rn ?_;refine rq 1 ?_
      exact ⟨rfl,congrArg bv (by subst e3;simp_all [wrongR])⟩
    ·have n3:rl≠3:=by intro h;subst h;exact absurd hc69 (by decide)
     refine rn ?_;refine qv rfl rfl (za4 rfl rfl (zc0 (refSeen e) (Sbs.refl _))) ?_
     refine rn ?_;refine aw_rng ((zc6 e).length) (fun k:Nat=>OkS rl e l k) (fun k=> [(91,iv k)]) [(0,_),(2,_),(4,_),(89,_),(90,_)] (fun i _ h=>absurd h (Nat.not_lt_zero _)) ?_
     intro k lk zk
     refine rn ?_;refine za0 rfl (fun hc92=> ?_) (fun hc92=> ?_)
     ·have hk:=ltMap hc92
      have rk:=ze2 (f:=ze9) hk
      have sl:=seenOf_len (e:=e) (Nat.le_trans hl (by decide))
      refine rn ?_;refine za2 rfl (zb1 rfl fun b12=> ?_)
      refine rn ?_;refine qv rfl rfl (za4 rfl rfl (zc0 (refWrote l e.t (zc6 e)[k].o la) (Sbs.refl _))) ?_
      refine rn ?_;refine aw_rngS l.length (fun m x=>x=((zc6 e)[k].v.k==0||(l.take m).any (fun y:Ev=>y.kind==2 && y.o==(zc6 e)[k].o && y.v==(zc6 e)[k].v))) (fun m x=> [(108,iv m),(14,bv x)]) [(0,_),(2,_),(4,_),(11,_),(12,_),(13,_),(89,_),(90,_),(91,_),(106,_),(107,_)] ((zc6 e)[k].v.k==0) (by simp) ?_
      intro m th lm zm
      refine rn ?_;refine za0 rfl (fun hc109=> ?_) (fun hc109=> ?_)
      ·have hm:=ltMap hc109
       have rm:=ze2 (f:=evR) hm
       refine rn ?_;refine za2 rfl (zb1 rfl fun b16=> ?_)
       refine rn ?_;refine za8 (fun hg24_1=> ?_) (fun hg24_1=> ?_)
       ·refine rn ?_;refine ⟨hm,_,?_,eA⟩
        try rw [ver_list]
        rw [any_step hm]
        generalize (l.take m).any (fun y:Ev=>y.kind==2 && y.o==(zc6 e)[k].o && y.v==(zc6 e)[k].v)=A at *
        generalize ((zc6 e)[k].v.k==0)=B at *
        generalize (l[m].v==(zc6 e)[k].v)=D at *
        cases A <;> cases B <;> simp_all
       ·refine rn ?_;refine za8 (fun hg24_5=> ?_) (fun hg24_5=> ?_)
        ·refine rn ?_;refine za8 (fun hg24_12=> ?_) (fun hg24_12=> ?_)
         ·refine rn ?_;refine ⟨hm,_,?_,eA⟩
          try rw [ver_list]
          rw [any_step hm]
          generalize (l.take m).any (fun y:Ev=>y.kind==2 && y.o==(zc6 e)[k].o && y.v==(zc6 e)[k].v)=A at *
          generalize ((zc6 e)[k].v.k==0)=B at *
          generalize (l[m].v==(zc6 e)[k].v)=D at *
          cases A <;> cases B <;> simp_all
         ·refine rn ?_;refine ⟨hm,_,?_,eA⟩
          try rw [ver_list]
          rw [any_step hm]
          generalize (l.take m).any (fun y:Ev=>y.kind==2 && y.o==(zc6 e)[k].o && y.v==(zc6 e)[k].v)=A at *
          generalize ((zc6 e)[k].v.k==0)=B at *
          generalize (l[m].v==(zc6 e)[k].v)=D at *
          cases A <;> cases B <;> simp_all
        ·refine rn ?_;refine ⟨hm,_,?_,eA⟩
         try rw [ver_list]
         rw [any_step hm]
         generalize (l.take m).any (fun y:Ev=>y.kind==2 && y.o==(zc6 e)[k].o && y.v==(zc6 e)[k].v)=A at *
         generalize ((zc6 e)[k].v.k==0)=B at *
         generalize (l[m].v==(zc6 e)[k].v)=D at *
         cases A <;> cases B <;> simp_all
      ·have qm:=geMap hc109 lm
       have zT:th=((zc6 e)[k].v.k==0||thereB l (zc6 e)[k].o (zc6 e)[k].v):=by rw [zm,qm,List.take_length];rfl
       refine rn ?_;refine za0 rfl (fun hc134=> ?_) (fun hc134=> ?_)
       ·have e4:rl=4:=by have h:=hc134;simp at h;omega
        refine rn ?_;refine za0 rfl (fun hc137=> ?_) (fun hc137=> ?_)
        ·refine rn ?_;refine rq 2 ?_
         exact ⟨rfl,congrArg bv (by subst e4;rw [wrongR_t (by omega) hk (by show (!((zc6 e)[k].v.k==0||thereB l (zc6 e)[k].o (zc6 e)[k].v))=true;rw [←zT];exact hc137)])⟩
        ·refine rn ?_;exact ⟨hk,okS_s hk zk (by first|(subst e4;show (!((zc6 e)[k].v.k==0||thereB l (zc6 e)[k].o (zc6 e)[k].v))=false;rw [←zT];exact hc137)|(subst e5;rw [sBad5_s hw1,bne,←ver_list];exact hc154)|(subst e5;exact sBad5_n hg31_3)|(subst e6;show ((zc6 e).take k).any _=false;rw [anyNot,au];rfl)|(exfalso;omega)),eA⟩
       ·have n4:rl≠4:=by intro h;subst h;exact absurd hc134 (by decide)
        refine rn ?_;refine za0 rfl (fun hc138=> ?_) (fun hc138=> ?_)
        ·have e5:rl=5:=by have h:=hc138;simp at h;omega
         refine rn ?_;refine zd2 13 rfl ?_
         refine rn ?_;refine dsplit (fun hg31_3=> ?_) (fun hg31_3=> ?_)
         ·try obtain ⟨w,hw1,hw2,hw3⟩:=last_row hg31_3
          refine dq rfl rfl qrA ?_;refine dq rfl rfl qrA ?_;refine dq rfl rfl qrA ?_;first|refine ds rfl rfl ?_|refine dq rfl rfl (qr_ari rfl rfl rfl (by rw [List.length_map];have:=wroteL_le l e.t (zc6 e)[k].o;omega)) ?_
          first|refine ds rfl rfl ?_|refine dq rfl rfl (qr_index_int rfl rfl hw3 hw2) ?_
          refine rn ?_;refine za0 rfl (fun hc154=> ?_) (fun hc154=> ?_)
          ·refine rn ?_;refine rq 2 ?_
           exact ⟨rfl,congrArg bv (by subst e5;rw [wrongR_t (by omega) hk (by rw [sBad5_s hw1,bne,←ver_list];exact hc154)])⟩
          ·refine rn ?_;exact ⟨hk,okS_s hk zk (by first|(subst e4;show (!((zc6 e)[k].v.k==0||thereB l (zc6 e)[k].o (zc6 e)[k].v))=false;rw [←zT];exact hc137)|(subst e5;rw [sBad5_s hw1,bne,←ver_list];exact hc154)|(subst e5;exact sBad5_n hg31_3)|(subst e6;show ((zc6 e).take k).any _=false;rw [anyNot,au];rfl)|(exfalso;omega)),eA⟩
         ·try obtain ⟨w,hw1,hw2,hw3⟩:=last_row hg31_3
          refine rn ?_;refine aw_cf rfl ?_;refine rn ?_;exact ⟨hk,okS_s hk zk (by first|(subst e4;show (!((zc6 e)[k].v.k==0||thereB l (zc6 e)[k].o (zc6 e)[k].v))=false;rw [←zT];exact hc137)|(subst e5;rw [sBad5_s hw1,bne,←ver_list];exact hc154)|(subst e5;exact sBad5_n hg31_3)|(subst e6;show ((zc6 e).take k).any _=false;rw [anyNot,au];rfl)|(exfalso;omega)),eA⟩
        ·have n5:rl≠5:=by intro h;subst h;exact absurd hc138 (by decide)
         refine rn ?_;refine za0 rfl (fun hc155=> ?_) (fun hc155=> ?_)
         ·have e6:rl=6:=by have h:=hc155;simp at h;omega
          refine rn ?_;refine qv rfl rfl (za4 rfl rfl (zc0 (refSeen e) (Sbs.refl _))) ?_
          refine q1 ?_;refine qq rfl rfl (qr_slice_h (k:=k) rfl rfl (by simp;omega)) ?_
          rw [←List.map_take]
          refine rn ?_;refine aw_rng (((zc6 e).take k).length) (fun u:Nat=>((zc6 e).take k).all (fun p:Seen=> !(p.o==(zc6 e)[k].o))=(((zc6 e).take k).drop u).all (fun p:Seen=> !(p.o==(zc6 e)[k].o))) (fun u=> [(162,iv u)]) [(0,_),(2,_),(4,_),(12,_),(89,_),(90,_),(91,_),(160,_),(161,_)] rfl ?_
          intro u lu zu
          refine rn ?_;refine za0 rfl (fun hc163=> ?_) (fun hc163=> ?_)
          ·have hu:=ltMap hc163
           have ru:=ze2 (f:=ze9) hu
           have bu:((zc6 e).take k).length≤4611686018427387904:=by simp;omega
           refine rn ?_;refine za2 rfl (zb1 rfl fun b18=> ?_)
           refine rn ?_;refine za0 rfl (fun hc170=> ?_) (fun hc170=> ?_)
           ·refine rn ?_;refine rq 3 ?_
            exact ⟨rfl,congrArg bv (by subst e6;rw [wrongR_t (by omega) hk (by show ((zc6 e).take k).any _=true;rw [anyNot,allF hu (by simpa using hc170)];rfl)])⟩
           ·refine rn ?_;exact ⟨hu,allT hu zu (by simpa using hc170),eA⟩
          ·have qu:=geMap hc163 lu
           have au:=allE qu zu
           refine rn ?_;exact ⟨hk,okS_s hk zk (by first|(subst e4;show (!((zc6 e)[k].v.k==0||thereB l (zc6 e)[k].o (zc6 e)[k].v))=false;rw [←zT];exact hc137)|(subst e5;rw [sBad5_s hw1,bne,←ver_list];exact hc154)|(subst e5;exact sBad5_n hg31_3)|(subst e6;show ((zc6 e).take k).any _=false;rw [anyNot,au];rfl)|(exfalso;omega)),eA⟩
         ·have n6:rl≠6:=by intro h;subst h;exact absurd hc155 (by decide)
          refine rn ?_;exact ⟨hk,okS_s hk zk (by first|(subst e4;show (!((zc6 e)[k].v.k==0||thereB l (zc6 e)[k].o (zc6 e)[k].v))=false;rw [←zT];exact hc137)|(subst e5;rw [sBad5_s hw1,bne,←ver_list];exact hc154)|(subst e5;exact sBad5_n hg31_3)|(subst e6;show ((zc6 e).take k).any _=false;rw [anyNot,au];rfl)|(exfalso;omega)),eA⟩
     ·have qk:=geMap hc92 lk
      refine rn ?_;refine rq 1 ?_
      exact ⟨rfl,congrArg bv (by rw [wrongR_f (by omega) (qk ▸ zk)])⟩
theorem refBroken (h:Hist) (rl i:Nat) (h1:1≤rl) (h10:rl≤10) (hi:i < manyN h rl) (la:Lim 1000000 h):za6 Tryz.prog 217 [.agg (zb0 h),iv rl,iv i] [] (fun r h'=>h'= []∧r=bv (brokenR h rl i)):=by
 refine za1 Tryz.func217 rfl rfl rfl ?_
 refine rn ?_;refine za2 rfl (zb5 rfl rfl rfl fun b3=> ?_)
 refine rn ?_;refine za0 rfl (fun hc8=> ?_) (fun hc8=> ?_)
 ·obtain rfl:rl=7:=by have q:=hc8;simp at q;omega
  have hi2:i < h.ords.length:=hi
  refine rn ?_;refine qv rfl rfl (za4 rfl rfl (zc0 (refOrder h i hi2 la) (Sbs.refl _))) ?_
  refine rn ?_;refine rq 1 ?_
  exact ⟨rfl,congrArg bv (by exact (atQ_lt hi2).symm)⟩
 ·have n7:rl≠7:=by intro q;subst q;exact absurd hc8 (by decide)
  refine rn ?_;refine za0 rfl (fun hc13=> ?_) (fun hc13=> ?_)
  ·obtain rfl:rl=8:=by have q:=hc13;simp at q;omega
   have hi2:i < h.os.length:=hi
   refine rn ?_;refine qv rfl rfl (za4 rfl rfl (zc0 (refMissing h i la) (Sbs.refl _))) ?_
   refine rn ?_;refine rq 1 ?_
   exact ⟨rfl,congrArg bv (by exact (atQ_lt (w:=fun x _=>missR h (x:Int)) hi2).symm)⟩
  ·have n8:rl≠8:=by intro q;subst q;exact absurd hc13 (by decide)
   refine rn ?_;refine za0 rfl (fun hc18=> ?_) (fun hc18=> ?_)
   ·obtain rfl:rl=9:=by have q:=hc18;simp at q;omega
    have hi2:i < h.mats.length:=hi
    refine rn ?_;refine qv rfl rfl (za4 rfl rfl (zc0 (refMatch h i hi2 la) (Sbs.refl _))) ?_
    refine rn ?_;refine rq 1 ?_
    exact ⟨rfl,congrArg bv (by exact (atQ_lt hi2).symm)⟩
   ·have n9:rl≠9:=by intro q;subst q;exact absurd hc18 (by decide)
    refine rn ?_;refine za0 rfl (fun hc23=> ?_) (fun hc23=> ?_)
    ·obtain rfl:rl=10:=by have q:=hc23;simp at q;omega
     have hi2:i < h.wants.length:=hi
     refine rn ?_;refine qv rfl rfl (za4 rfl rfl (zc0 (refWant h i hi2 la) (Sbs.refl _))) ?_
     refine rn ?_;refine rq 1 ?_
     exact ⟨rfl,congrArg bv (by exact (atQ_lt hi2).symm)⟩
    ·have n10:rl≠10:=by intro q;subst q;exact absurd hc23 (by decide)
     have hi2:i < h.evs.length:=by rw [←manyN_e n7 n8 n9 n10];exact hi
     have ri:=ze2 (f:=evR) hi2
     have be:=la.evs
     have sc:=la.scans h.evs[i] (List.getElem_mem hi2)
     refine rn ?_;refine zd2 10 rfl ?_
     refine dq rfl rfl qrA ?_;refine dq rfl rfl qrA ?_;refine dq rfl rfl qrA ?_;refine dq rfl rfl qrA ?_;refine dq rfl rfl qrA ?_;refine dq rfl rfl qrA ?_;refine dq rfl rfl qrA ?_;refine dq rfl rfl qrA ?_;refine dq rfl rfl qrA ?_;refine dq rfl rfl (qr_slice_h (k:=i) rfl rfl (by simp;omega)) ?_
     rw [←List.map_take]
     refine rn ?_;refine qv rfl rfl (za4 rfl rfl (zc0 (refEvent15 rl h.evs[i] (h.evs.take i) h1 (by omega) (by simp;omega) sc) (Sbs.refl _))) ?_
     refine rn ?_;refine rq 1 ?_
     exact ⟨rfl,congrArg bv (by rw [brokenR_e n7 n8 n9 n10,atQ_lt hi2])⟩
theorem refPlace (h:Hist) (rl:Nat) (h1:1≤rl) (h10:rl≤10) (la:Lim 1000000 h):za6 Tryz.prog 168 [.agg (zb0 h),iv rl] [] (fun r h'=>h'= []∧r=iv (placeJ (placeR h rl))):=by
 refine za1 Tryz.func168 rfl rfl rfl ?_
 refine rn ?_;refine za2 rfl (zb5 rfl rfl rfl fun b2=> ?_)
 refine rn0 ?_;refine zb4 (za9 ?_)
 refine rn0 ?_;refine aw_cut (⟨[(5,iv (manyN h rl)),(1,iv rl),(2,pZ b2)],.box b2 28 (zb0 h):: [],[]⟩) ?_ ?_
 ·refine rn ?_;refine za0 rfl (fun hc11=> ?_) (fun hc11=> ?_)
  ·obtain rfl:rl=7:=by have q:=hc11;simp at q;omega
   refine rn ?_;first|(rw [many7];exact es)|(rw [many8];exact es)|(rw [many9];exact es)|(rw [many10];exact es)|(rw [manyE n7 n8 n9 n10];exact es)
  ·have n7:rl≠7:=by intro q;subst q;exact absurd hc11 (by decide)
   refine rn ?_;refine za0 rfl (fun hc16=> ?_) (fun hc16=> ?_)
   ·obtain rfl:rl=8:=by have q:=hc16;simp at q;omega
    refine rn ?_;first|(rw [many7];exact es)|(rw [many8];exact es)|(rw [many9];exact es)|(rw [many10];exact es)|(rw [manyE n7 n8 n9 n10];exact es)
   ·have n8:rl≠8:=by intro q;subst q;exact absurd hc16 (by decide)
    refine rn ?_;refine za0 rfl (fun hc21=> ?_) (fun hc21=> ?_)
    ·obtain rfl:rl=9:=by have q:=hc21;simp at q;omega
     refine rn ?_;first|(rw [many7];exact es)|(rw [many8];exact es)|(rw [many9];exact es)|(rw [many10];exact es)|(rw [manyE n7 n8 n9 n10];exact es)
    ·have n9:rl≠9:=by intro q;subst q;exact absurd hc21 (by decide)
     refine rn ?_;refine za0 rfl (fun hc26=> ?_) (fun hc26=> ?_)
     ·obtain rfl:rl=10:=by have q:=hc26;simp at q;omega
      refine rn ?_;first|(rw [many7];exact es)|(rw [many8];exact es)|(rw [many9];exact es)|(rw [many10];exact es)|(rw [manyE n7 n8 n9 n10];exact es)
     ·have n10:rl≠10:=by intro q;subst q;exact absurd hc26 (by decide)
      refine rn ?_;first|(rw [many7];exact es)|(rw [many8];exact es)|(rw [many9];exact es)|(rw [many10];exact es)|(rw [manyE n7 n8 n9 n10];exact es)
 ·refine rn ?_;refine aw_rng (manyN h rl) (fun k:Nat=>∀j,j < k→brokenR h rl j=false) (fun k=> [(32,iv k)]) [(1,_),(2,_),(31,_)] (fun j q=>absurd q (Nat.not_lt_zero _)) ?_
  intro k lk zk
  refine rn ?_;refine za0 rfl (fun hc33=> ?_) (fun hc33=> ?_)
  ·have hk:k < manyN h rl:=by have q:=hc33;simp at q;omega
   have mb:manyN h rl≤1000000:=manyN_le la
   refine rn ?_;refine qv rfl rfl (za4 rfl rfl (zc0 (refBroken h rl k h1 h10 hk la) (Sbs.refl _))) ?_
   refine rn ?_;refine za0 rfl (fun hc38=> ?_) (fun hc38=> ?_)
   ·refine rn ?_;refine rq 1 ?_
    exact ⟨rfl,by rw [place_hit hk hc38 zk];rfl⟩
   ·refine rn ?_;exact ⟨hk,under_s zk hc38,eA⟩
  ·have qk:k=manyN h rl:=by have q:=hc33;simp at q;omega
   refine rn ?_;refine rq 1 ?_
   exact ⟨rfl,by rw [place_over (qk ▸ zk)];rfl⟩
theorem placeJ_ge {o:Option Nat} (h:decide (placeJ o ≥ 0)=true):∃n,o=some n:=by
 cases o with
 |none=>exact absurd h (by decide)
 |some n=>exact ⟨n,rfl⟩
theorem placeJ_lt {o:Option Nat} (h:decide (placeJ o ≥ 0)=false):o=none:=by
 cases o with
 |none=>rfl
 |some n=>have:=of_decide_eq_false h;simp [placeJ] at this
theorem refFirst15 (h:Hist) (la:Lim 1000000 h):za6 Tryz.prog 124 [.agg (zb0 h)] [] (fun r h'=>h'= []∧r= .tup [.agg (brkC (zf5 (placeR h) zf4)),bv (zf5 (placeR h) zf4).isSome]):=by
 refine za1 Tryz.func124 rfl rfl rfl ?_
 refine rn ?_;refine za2 rfl (zb5 rfl rfl rfl fun b1=> ?_)
 refine za2 rfl (zb1 rfl fun b2=> ?_)
 refine rn ?_;refine aw_while (fun k:Nat=>(1≤k∧k≤11)∧zf5 (placeR h) zf4=zf5 (placeR h) (zf4.drop (k - 1))) (fun k=>⟨[(4,iv k),(1,pZ b1),(2,pZ b2)],(.box b2 158 [iv 0,iv 0]:: .box b1 28 (zb0 h):: []),[]⟩) (fun k=>11 - k) 1 ⟨by omega,rfl⟩ es ?_
 rintro k ⟨⟨k1,k3⟩,zk⟩
 refine rn ?_;refine za0 rfl (fun hc7=> ?_) (fun hc7=> ?_)
 ·have k2:k≤10:=by have:=of_decide_eq_true hc7;omega
  refine rn ?_;refine qv rfl rfl (za4 rfl rfl (zc0 (refPlace h k k1 k2 la) (Sbs.refl _))) ?_
  refine rn ?_;refine za0 rfl (fun hc14=> ?_) (fun hc14=> ?_)
  ·refine rn ?_;exact retq (.cons _ _ _ _ (.agg _ _ _ _ _ _ _ rfl inferInstance inferInstance inferInstance rfl) (.cons _ _ _ _ (.tmp _ _ rfl) .nil)) (.drop [_,_] _ _) ⟨rfl,by
    obtain ⟨n,hp⟩:=placeJ_ge hc14
    rw [first_hit k1 k2 zk hp,hp];rfl⟩
  ·refine rn ?_;exact ⟨k+1,⟨by omega,first_step k1 k2 zk (placeJ_lt hc14)⟩,eA,by omega⟩
 ·have k2:11≤k:=by have:=of_decide_eq_false hc7;omega
  refine rn ?_;exact retq (.cons _ _ _ _ (.agg _ _ _ _ _ _ _ rfl inferInstance inferInstance inferInstance rfl) (.cons _ _ _ _ (.tmp _ _ rfl) .nil)) (.drop [_,_] _ _) ⟨rfl,by rw [first_over k2 k3 zk];rfl⟩
theorem ref9 (l:Int):za6 Tryz.prog 215 [iv l] [] (fun r h'=>h'= []∧r=bv (right9 l)):=by
 refine za1 Tryz.func215 rfl rfl rfl ?_
 refine rn ?_;refine za8 (fun hg1_2=> ?_) (fun hg1_2=> ?_)
 ·refine rn ?_;exact retT rfl (.refl _ _) ⟨rfl,congrArg bv (by first|(simp only [right9, *,Bool.true_and,Bool.false_and,Bool.and_false,Bool.and_true,Bool.true_or,Bool.or_false,Bool.false_or,Bool.or_true,if_true,if_false,Bool.false_eq_true,Bool.not_true,Bool.not_false];done)|(simp_all [right9];done)|(simp_all [right9] <;> omega))⟩
 ·refine rn ?_;exact retT rfl (.refl _ _) ⟨rfl,congrArg bv (by first|(simp only [right9, *,Bool.true_and,Bool.false_and,Bool.and_false,Bool.and_true,Bool.true_or,Bool.or_false,Bool.false_or,Bool.or_true,if_true,if_false,Bool.false_eq_true,Bool.not_true,Bool.not_false];done)|(simp_all [right9];done)|(simp_all [right9] <;> omega))⟩
theorem bvz1_3534 {a b:Bool} (h:a=b:=by first|(simp only [letB2, *,Bool.true_and,Bool.false_and,Bool.and_false,Bool.and_true,Bool.true_or,Bool.or_false,Bool.false_or,Bool.or_true,if_true,if_false,Bool.false_eq_true,Bool.not_true,Bool.not_false];done)|(simp_all [letB2];done)|(simp_all [letB2] <;> omega)):bv a=bv b:=congrArg bv h
theorem ref2Letter (c:Int):za6 Tryz.prog 257 [.v (.int .i32 c)] [] (fun r h'=>h'= []∧r=bv (letB2 c)):=by
 refine za1 Tryz.func257 rfl rfl rfl ?_
 refine rn ?_;refine za8 (fun hg1_2=> ?_) (fun hg1_2=> ?_)
 ·refine rn ?_;refine za8 (fun hg1_6=> ?_) (fun hg1_6=> ?_)
  ·refine rn ?_;exact retT rfl (.refl _ _) ⟨rfl,bvz1_3534⟩
  ·refine rn ?_;refine za8 (fun hg1_9=> ?_) (fun hg1_9=> ?_)
   ·refine rn ?_;refine za8 (fun hg1_14=> ?_) (fun hg1_14=> ?_)
    ·refine rn ?_;exact retT rfl (.refl _ _) ⟨rfl,bvz1_3534⟩
    ·refine rn ?_;refine za8 (fun hg1_18=> ?_) (fun hg1_18=> ?_)
     ·refine rn ?_;exact retT rfl (.refl _ _) ⟨rfl,bvz1_3534⟩
     ·refine rn ?_;exact retT rfl (.refl _ _) ⟨rfl,bvz1_3534⟩
   ·refine rn ?_;refine za8 (fun hg1_18=> ?_) (fun hg1_18=> ?_)
    ·refine rn ?_;exact retT rfl (.refl _ _) ⟨rfl,bvz1_3534⟩
    ·refine rn ?_;exact retT rfl (.refl _ _) ⟨rfl,bvz1_3534⟩
 ·refine rn ?_;refine za8 (fun hg1_9=> ?_) (fun hg1_9=> ?_)
  ·refine rn ?_;refine za8 (fun hg1_14=> ?_) (fun hg1_14=> ?_)
   ·refine rn ?_;exact retT rfl (.refl _ _) ⟨rfl,bvz1_3534⟩
   ·refine rn ?_;refine za8 (fun hg1_18=> ?_) (fun hg1_18=> ?_)
    ·refine rn ?_;exact retT rfl (.refl _ _) ⟨rfl,bvz1_3534⟩
    ·refine rn ?_;exact retT rfl (.refl _ _) ⟨rfl,bvz1_3534⟩
  ·refine rn ?_;refine za8 (fun hg1_18=> ?_) (fun hg1_18=> ?_)
   ·refine rn ?_;exact retT rfl (.refl _ _) ⟨rfl,bvz1_3534⟩
   ·refine rn ?_;exact retT rfl (.refl _ _) ⟨rfl,bvz1_3534⟩
theorem ref2Digit (c:Int):za6 Tryz.prog 258 [.v (.int .i32 c)] [] (fun r h'=>h'= []∧r=bv (numB c)):=by
 refine za1 Tryz.func258 rfl rfl rfl ?_
 refine rn ?_;refine za8 (fun hg1_2=> ?_) (fun hg1_2=> ?_)
 ·refine rn ?_;exact retT rfl (.refl _ _) ⟨rfl,congrArg bv (by first|(simp only [numB, *,Bool.true_and,Bool.false_and,Bool.and_false,Bool.and_true,Bool.true_or,Bool.or_false,Bool.false_or,Bool.or_true,if_true,if_false,Bool.false_eq_true,Bool.not_true,Bool.not_false];done)|(simp_all [numB];done)|(simp_all [numB] <;> omega))⟩
 ·refine rn ?_;exact retT rfl (.refl _ _) ⟨rfl,congrArg bv (by first|(simp only [numB, *,Bool.true_and,Bool.false_and,Bool.and_false,Bool.and_true,Bool.true_or,Bool.or_false,Bool.false_or,Bool.or_true,if_true,if_false,Bool.false_eq_true,Bool.not_true,Bool.not_false];done)|(simp_all [numB];done)|(simp_all [numB] <;> omega))⟩
theorem refTs {f:Bool} (h:Hist) (l:List Int) (hl:l.length≤4611686018427387904):za6 Tryz.prog 165 [.agg (zb0 h),.list f 1 (l.map intR)] [] (fun r h'=>h'= []∧r=bv (rightTsB h l)):=by
 refine za1 Tryz.func165 rfl rfl rfl ?_
 refine rn ?_;refine za2 rfl (zb5 rfl rfl rfl fun b2=> ?_)
 refine rn ?_;refine zd4 (fun k:Nat=>k≤l.length∧l.all (fun t=>isB t h.ts.length)=(l.drop k).all (fun t=>isB t h.ts.length)) (fun k=>⟨[(9,iv k),(8,iv (l.map intR).length),(7,.list f 1 (l.map intR)),(1,.list f 1 (l.map intR)),(2,pZ b2)],[.box b2 28 (zb0 h)],[]⟩) (fun k=>l.length - k) 0 ⟨Nat.zero_le _,by simp⟩
  (zb8 (.cons _ _ _ rfl (.cons _ _ _ rfl (.cons _ _ _ rfl (.cons _ _ _ rfl (.cons _ _ _ rfl (.nil))))))) ?_
 rintro k ⟨hk,hz⟩
 refine rn ?_;refine za0 rfl (fun hc10=> ?_) (fun hc10=> ?_)
 ·have hk2:k < l.length:=by simpa using hc10
  have hrow:(l.map intR)[k]? =some (intR l[k]):=by simp [hk2]
  have hd:=List.drop_eq_getElem_cons hk2
  refine rn ?_;refine qv rfl rfl (za4 rfl rfl (zc0 (refIs _ _) (Sbs.refl _))) ?_
  refine rn ?_;refine za0 rfl (fun hc18=> ?_) (fun hc18=> ?_)
  ·have hx:isB l[k] h.ts.length=false:=by simpa using hc18
   refine rn ?_;exact retT rfl (.drop [_] _ _) ⟨rfl,congrArg bv (by rw [rightTsB,hz,hd,List.all_cons,hx,Bool.false_and];rfl)⟩
  ·have hx:isB l[k] h.ts.length=true:=by simpa using hc18
   refine rn ?_;exact ⟨k+1,⟨by omega,by rw [hz,hd,List.all_cons,hx,Bool.true_and]⟩,(zb8 (.cons _ _ _ rfl (.cons _ _ _ rfl (.cons _ _ _ rfl (.cons _ _ _ rfl (.cons _ _ _ rfl (.nil))))))),by omega⟩
 ·have hk3:k=l.length:=by
   have:l.length≤k:=by simpa using hc10
   omega
  refine rn ?_;exact retT rfl (.drop [_] _ _) ⟨rfl,congrArg bv (by rw [rightTsB,hz,hk3,List.drop_length];simp)⟩
theorem zd9 {a b:Bool} (h:a=b:=by first|(simp only [rightEv,bareE, *,Bool.true_and,Bool.false_and,Bool.and_false,Bool.and_true,Bool.true_or,Bool.or_false,Bool.false_or,Bool.or_true,if_true,if_false,Bool.false_eq_true,Bool.not_true,Bool.not_false];done)|(simp_all [rightEv,bareE];done)|(simp_all [rightEv,bareE] <;> omega)):bv a=bv b:=congrArg bv h
theorem refRightEv (h:Hist) (e:Ev) (hl:e.scan.length≤4611686018427387904):za6 Tryz.prog 164 [.agg (zb0 h),.agg (evR e)] [] (fun r h'=>h'= []∧r=bv (rightEv h e)):=by
 refine za1 Tryz.func164 rfl rfl rfl ?_
 refine rn ?_;refine za2 rfl (zb5 rfl rfl rfl fun b2=> ?_)
 refine za2 rfl (zb5 rfl rfl rfl fun b3=> ?_)
 refine rn ?_;refine qv rfl rfl (za4 rfl rfl (zc0 (refIs _ _) (Sbs.refl _))) ?_
 refine rn ?_;refine za0 rfl (fun hc16=> ?_) (fun hc16=> ?_)
 ·refine rn ?_;exact retT rfl (.drop [_,_] _ _) ⟨rfl,zd9⟩
 ·refine rn ?_;refine za2 rfl (zb1 rfl fun b6=> ?_)
  refine rn ?_;refine za0 rfl (fun hc24=> ?_) (fun hc24=> ?_)
  ·refine rn ?_;refine aw_drawS 6 [(b6,60,_)] rfl (List.perm_append_comm (l₁:= [_])) ?_
   refine rn ?_;refine dw 0 rfl rfl rfl rfl rfl (Nat.le_of_ble_eq_true rfl) ?_
   refine rn2 ?_;show aops _ _ _ _ _ _ ⟨_,.box b6 60 [iv e.kind,iv e.t,iv e.s,iv 0,iv 0,iv 0,iv 0,iv 0,.v (.slice none 0 0)]:: .box b3 60 (evR e):: .box b2 28 (zb0 h):: [],_⟩
   refine rn0 ?_;refine zb4 ?_;show aw _ _ _ _ _ ⟨_,.box b6 60 [iv e.kind,iv e.t,iv e.s,iv e.l,iv 0,iv 0,iv 0,iv 0,.v (.slice none 0 0)]:: .box b3 60 (evR e):: .box b2 28 (zb0 h):: [],_⟩
   refine rn ?_;refine qv rfl rfl (za4 rfl rfl (zc0 (refEvent ⟨e.kind,e.t,e.s,e.l,0,⟨0,0⟩,0,[]⟩ e (by simp [hl]) hl) (by exact ⟨(by exact Sb.aggs (by exact ⟨.refl _,.refl _,.refl _,.refl _,.refl _,.refl _,.refl _,.refl _,.nil _ _,trivial⟩)),.refl _,trivial⟩))) ?_
   refine rn ?_;refine za8 (fun hg8_3=> ?_) (fun hg8_3=> ?_)
   ·refine rn ?_;refine qv rfl rfl (za4 rfl rfl (zc0 (refIs _ _) (Sbs.refl _))) ?_
    refine rn ?_;refine za8 (fun hg8_11=> ?_) (fun hg8_11=> ?_)
    ·refine rn ?_;refine qv rfl rfl (za4 rfl rfl (zc0 (ref9 _) (Sbs.refl _))) ?_
     refine rn ?_;exact retT rfl (.drop [_,_,_] _ _) ⟨rfl,zd9⟩
    ·refine rn ?_;exact retT rfl (.drop [_,_,_] _ _) ⟨rfl,zd9⟩
   ·refine rn ?_;exact retT rfl (.drop [_,_,_] _ _) ⟨rfl,zd9⟩
  ·refine rn ?_;refine za0 rfl (fun hc48=> ?_) (fun hc48=> ?_)
   ·refine rn ?_;refine za0 rfl (fun hc48=> ?_) (fun hc48=> ?_)
    ·refine rn ?_;refine aw_drawS 6 [(b6,60,_)] rfl (List.perm_append_comm (l₁:= [_])) ?_
     refine rn ?_;refine dw 0 rfl rfl rfl rfl rfl (Nat.le_of_ble_eq_true rfl) ?_
     refine rn2 ?_;show aops _ _ _ _ _ _ ⟨_,.box b6 60 [iv e.kind,iv e.t,iv 0,iv 0,iv e.o,iv 0,iv 0,iv 0,.v (.slice none 0 0)]:: .box b3 60 (evR e):: .box b2 28 (zb0 h):: [],_⟩
     refine rn0 ?_;refine zb4 ?_;refine zb4 ?_;show aw _ _ _ _ _ ⟨_,.box b6 60 [iv e.kind,iv e.t,iv 0,iv 0,iv e.o,iv e.v.t,iv e.v.k,iv 0,.v (.slice none 0 0)]:: .box b3 60 (evR e):: .box b2 28 (zb0 h):: [],_⟩
     refine rn ?_;refine za8 (fun hg12_3=> ?_) (fun hg12_3=> ?_)
     ·refine rn ?_;refine za8 (fun hg12_8=> ?_) (fun hg12_8=> ?_)
      ·refine rn ?_;refine aw_ct rfl ?_;refine rn ?_;exact retT rfl (.drop [_,_,_] _ _) ⟨rfl,zd9⟩
      ·refine rn ?_;refine za0 rfl (fun hc73=> ?_) (fun hc73=> ?_)
       ·refine rn ?_;exact retT rfl (.drop [_,_,_] _ _) ⟨rfl,zd9⟩
       ·refine rn ?_;refine qv rfl rfl (za4 rfl rfl (zc0 (refEvent ⟨e.kind,e.t,0,0,e.o,e.v,0,[]⟩ e (by simp [hl]) hl) (by exact ⟨(by exact Sb.aggs (by exact ⟨.refl _,.refl _,.refl _,.refl _,.refl _,.refl _,.refl _,.refl _,.nil _ _,trivial⟩)),.refl _,trivial⟩))) ?_
        refine rn ?_;refine za8 (fun hg14_3=> ?_) (fun hg14_3=> ?_)
        ·refine rn ?_;refine qv rfl rfl (za4 rfl rfl (zc0 (refIs _ _) (Sbs.refl _))) ?_
         refine rn ?_;refine za8 (fun hg14_11=> ?_) (fun hg14_11=> ?_)
         ·refine rn ?_;refine qv rfl rfl (za4 rfl rfl (zc0 (refVersion e.v _) (Sbs.refl _))) ?_
          refine rn ?_;exact retT rfl (.drop [_,_,_] _ _) ⟨rfl,zd9⟩
         ·refine rn ?_;exact retT rfl (.drop [_,_,_] _ _) ⟨rfl,zd9⟩
        ·refine rn ?_;exact retT rfl (.drop [_,_,_] _ _) ⟨rfl,zd9⟩
     ·refine rn ?_;refine aw_cf rfl ?_;refine rn ?_;refine qv rfl rfl (za4 rfl rfl (zc0 (refEvent ⟨e.kind,e.t,0,0,e.o,e.v,0,[]⟩ e (by simp [hl]) hl) (by exact ⟨(by exact Sb.aggs (by exact ⟨.refl _,.refl _,.refl _,.refl _,.refl _,.refl _,.refl _,.refl _,.nil _ _,trivial⟩)),.refl _,trivial⟩))) ?_
      refine rn ?_;refine za8 (fun hg14_3=> ?_) (fun hg14_3=> ?_)
      ·refine rn ?_;refine qv rfl rfl (za4 rfl rfl (zc0 (refIs _ _) (Sbs.refl _))) ?_
       refine rn ?_;refine za8 (fun hg14_11=> ?_) (fun hg14_11=> ?_)
       ·refine rn ?_;refine qv rfl rfl (za4 rfl rfl (zc0 (refVersion e.v _) (Sbs.refl _))) ?_
        refine rn ?_;exact retT rfl (.drop [_,_,_] _ _) ⟨rfl,zd9⟩
       ·refine rn ?_;exact retT rfl (.drop [_,_,_] _ _) ⟨rfl,zd9⟩
      ·refine rn ?_;exact retT rfl (.drop [_,_,_] _ _) ⟨rfl,zd9⟩
    ·first|cases hc48|exact absurd hc48 (by decide)|(exfalso;simp_all;done)
   ·refine rn ?_;refine za0 rfl (fun hc48=> ?_) (fun hc48=> ?_)
    ·refine rn ?_;refine aw_drawS 6 [(b6,60,_)] rfl (List.perm_append_comm (l₁:= [_])) ?_
     refine rn ?_;refine dw 0 rfl rfl rfl rfl rfl (Nat.le_of_ble_eq_true rfl) ?_
     refine rn2 ?_;show aops _ _ _ _ _ _ ⟨_,.box b6 60 [iv e.kind,iv e.t,iv 0,iv 0,iv e.o,iv 0,iv 0,iv 0,.v (.slice none 0 0)]:: .box b3 60 (evR e):: .box b2 28 (zb0 h):: [],_⟩
     refine rn0 ?_;refine zb4 ?_;refine zb4 ?_;show aw _ _ _ _ _ ⟨_,.box b6 60 [iv e.kind,iv e.t,iv 0,iv 0,iv e.o,iv e.v.t,iv e.v.k,iv 0,.v (.slice none 0 0)]:: .box b3 60 (evR e):: .box b2 28 (zb0 h):: [],_⟩
     refine rn ?_;refine za8 (fun hg12_3=> ?_) (fun hg12_3=> ?_)
     ·refine rn ?_;refine za8 (fun hg12_8=> ?_) (fun hg12_8=> ?_)
      ·refine rn ?_;refine aw_ct rfl ?_;refine rn ?_;exact retT rfl (.drop [_,_,_] _ _) ⟨rfl,zd9⟩
      ·refine rn ?_;refine za0 rfl (fun hc73=> ?_) (fun hc73=> ?_)
       ·refine rn ?_;exact retT rfl (.drop [_,_,_] _ _) ⟨rfl,zd9⟩
       ·refine rn ?_;refine qv rfl rfl (za4 rfl rfl (zc0 (refEvent ⟨e.kind,e.t,0,0,e.o,e.v,0,[]⟩ e (by simp [hl]) hl) (by exact ⟨(by exact Sb.aggs (by exact ⟨.refl _,.refl _,.refl _,.refl _,.refl _,.refl _,.refl _,.refl _,.nil _ _,trivial⟩)),.refl _,trivial⟩))) ?_
        refine rn ?_;refine za8 (fun hg14_3=> ?_) (fun hg14_3=> ?_)
        ·refine rn ?_;refine qv rfl rfl (za4 rfl rfl (zc0 (refIs _ _) (Sbs.refl _))) ?_
         refine rn ?_;refine za8 (fun hg14_11=> ?_) (fun hg14_11=> ?_)
         ·refine rn ?_;refine qv rfl rfl (za4 rfl rfl (zc0 (refVersion e.v _) (Sbs.refl _))) ?_
          refine rn ?_;exact retT rfl (.drop [_,_,_] _ _) ⟨rfl,zd9⟩
         ·refine rn ?_;exact retT rfl (.drop [_,_,_] _ _) ⟨rfl,zd9⟩
        ·refine rn ?_;exact retT rfl (.drop [_,_,_] _ _) ⟨rfl,zd9⟩
     ·refine rn ?_;refine aw_cf rfl ?_;refine rn ?_;refine qv rfl rfl (za4 rfl rfl (zc0 (refEvent ⟨e.kind,e.t,0,0,e.o,e.v,0,[]⟩ e (by simp [hl]) hl) (by exact ⟨(by exact Sb.aggs (by exact ⟨.refl _,.refl _,.refl _,.refl _,.refl _,.refl _,.refl _,.refl _,.nil _ _,trivial⟩)),.refl _,trivial⟩))) ?_
      refine rn ?_;refine za8 (fun hg14_3=> ?_) (fun hg14_3=> ?_)
      ·refine rn ?_;refine qv rfl rfl (za4 rfl rfl (zc0 (refIs _ _) (Sbs.refl _))) ?_
       refine rn ?_;refine za8 (fun hg14_11=> ?_) (fun hg14_11=> ?_)
       ·refine rn ?_;refine qv rfl rfl (za4 rfl rfl (zc0 (refVersion e.v _) (Sbs.refl _))) ?_
        refine rn ?_;exact retT rfl (.drop [_,_,_] _ _) ⟨rfl,zd9⟩
       ·refine rn ?_;exact retT rfl (.drop [_,_,_] _ _) ⟨rfl,zd9⟩
      ·refine rn ?_;exact retT rfl (.drop [_,_,_] _ _) ⟨rfl,zd9⟩
    ·refine rn ?_;refine za0 rfl (fun hc91=> ?_) (fun hc91=> ?_)
     ·refine rn ?_;refine aw_drawS 6 [(b6,60,_)] rfl (List.perm_append_comm (l₁:= [_])) ?_
      refine rn ?_;refine dw 0 rfl rfl rfl rfl rfl (Nat.le_of_ble_eq_true rfl) ?_
      refine rn2 ?_;show aops _ _ _ _ _ _ ⟨_,.box b6 60 [iv e.kind,iv e.t,iv 0,iv 0,iv 0,iv 0,iv 0,iv e.p,.v (.slice none 0 0)]:: .box b3 60 (evR e):: .box b2 28 (zb0 h):: [],_⟩
      refine rn0 ?_;refine zb4 ?_;refine zb4 ?_;show aw _ _ _ _ _ ⟨_,.box b6 60 [iv e.kind,iv e.t,iv 0,iv 0,iv 0,iv 0,iv 0,iv e.p,seensA e.scan]:: .box b3 60 (evR e):: .box b2 28 (zb0 h):: [],_⟩
      refine rn ?_;refine zd4 (fun k:Nat=>k≤e.scan.length∧e.scan.all (rightSeen h)=(e.scan.drop k).all (rightSeen h)) (fun k=>⟨[(102,iv k),(101,iv (e.scan.map ze9).length),(100,seensA e.scan),(2,pZ b2),(3,pZ b3),(6,pZ b6),(5,iv (h.ts.map strR).length)],[.box b6 60 (evR ⟨e.kind,e.t,0,0,0,⟨0,0⟩,e.p,e.scan⟩),.box b3 60 (evR e),.box b2 28 (zb0 h)],[]⟩) (fun k=>e.scan.length - k) 0 ⟨Nat.zero_le _,by simp⟩
       (zb8 (.cons _ _ _ rfl (.cons _ _ _ rfl (.cons _ _ _ rfl (.cons _ _ _ rfl (.cons _ _ _ rfl (.cons _ _ _ rfl (.cons _ _ _ rfl (.nil))))))))) ?_
      rintro k ⟨hk,hz⟩
      refine rn ?_;refine za0 rfl (fun hc103=> ?_) (fun hc103=> ?_)
      ·have hk2:k < e.scan.length:=by simpa using hc103
       obtain ⟨s,hs⟩:∃s,s=e.scan[k]:=⟨_,rfl⟩
       have hrow:(e.scan.map ze9)[k]? =some (ze9 s):=by rw [hs];simp [hk2]
       have hd:=List.drop_eq_getElem_cons hk2
       rw [←hs] at hd
       refine rn ?_;refine za2 rfl (zb1 rfl fun b8=> ?_)
       refine rn ?_;refine qv rfl rfl (za4 rfl rfl (zc0 (refIs _ _) (Sbs.refl _))) ?_
       refine rn ?_;refine za8 (fun hg20_7=> ?_) (fun hg20_7=> ?_)
       ·refine rn ?_;refine aw_ct rfl ?_;have hx:rightSeen h s=false:=by clear hz hd hrow hs hc103 hk2 hk;simp_all [rightSeen]
        have hall:e.scan.all (rightSeen h)=false:=by rw [hz,hd,List.all_cons,hx,Bool.false_and]
        clear hz hd hx hrow
        refine rn ?_;exact retT rfl (.drop [_,_,_,_] _ _) ⟨rfl,zd9⟩
       ·refine rn ?_;refine qv rfl rfl (za4 rfl rfl (zc0 (refVersion s.v _) (Sbs.refl _))) ?_
        refine rn ?_;refine za0 rfl (fun hc119=> ?_) (fun hc119=> ?_)
        ·have hx:rightSeen h s=false:=by clear hz hd hrow hs hc103 hk2 hk;simp_all [rightSeen]
         have hall:e.scan.all (rightSeen h)=false:=by rw [hz,hd,List.all_cons,hx,Bool.false_and]
         clear hz hd hx hrow
         refine rn ?_;exact retT rfl (.drop [_,_,_,_] _ _) ⟨rfl,zd9⟩
        ·have hx:rightSeen h s=true:=by clear hz hd hrow hs hc103 hk2 hk;simp_all [rightSeen]
         refine rn ?_;exact ⟨k+1,⟨by omega,by rw [hz,hd,List.all_cons,hx,Bool.true_and]⟩,(zc5 (ent_drop (h1:= [_])) (zb8 (.cons _ _ _ rfl (.cons _ _ _ rfl (.cons _ _ _ rfl (.cons _ _ _ rfl (.cons _ _ _ rfl (.cons _ _ _ rfl (.cons _ _ _ rfl (.nil)))))))))),by omega⟩
      ·have hk3:k=e.scan.length:=by
        have:e.scan.length≤k:=by simpa using hc103
        omega
       rw [hk3,List.drop_length,List.all_nil] at hz
       refine rn ?_;refine qv rfl rfl (za4 rfl rfl (zc0 (refEvent ⟨e.kind,e.t,0,0,0,⟨0,0⟩,e.p,e.scan⟩ e (by simp [hl]) hl) (by exact ⟨(by exact Sb.aggs (by exact ⟨.refl _,.refl _,.refl _,.refl _,.refl _,.refl _,.refl _,.refl _,.refl _,trivial⟩)),.refl _,trivial⟩))) ?_
       refine rn ?_;refine za8 (fun hg23_3=> ?_) (fun hg23_3=> ?_)
       ·refine rn ?_;refine qv rfl rfl (za4 rfl rfl (zc0 (refIs _ _) (Sbs.refl _))) ?_
        refine rn ?_;refine za8 (fun hg23_11=> ?_) (fun hg23_11=> ?_)
        ·refine rn ?_;exact retT rfl (.drop [_,_,_] _ _) ⟨rfl,zd9⟩
        ·refine rn ?_;exact retT rfl (.drop [_,_,_] _ _) ⟨rfl,zd9⟩
       ·refine rn ?_;exact retT rfl (.drop [_,_,_] _ _) ⟨rfl,zd9⟩
     ·refine rn ?_;refine qv rfl rfl (za4 rfl rfl (zc0 (refEvent ⟨e.kind,e.t,0,0,0,⟨0,0⟩,0,[]⟩ e (by simp [hl]) hl) (by exact ⟨(by exact Sb.aggs (by exact ⟨.refl _,.refl _,.refl _,.refl _,.refl _,.refl _,.refl _,.refl _,.nil _ _,trivial⟩)),.refl _,trivial⟩))) ?_
      refine rn ?_;refine za8 (fun hg24_3=> ?_) (fun hg24_3=> ?_)
      ·refine rn ?_;refine za8 (fun hg24_7=> ?_) (fun hg24_7=> ?_)
       ·refine rn ?_;exact retT rfl (.drop [_,_,_] _ _) ⟨rfl,zd9⟩
       ·refine rn ?_;exact retT rfl (.drop [_,_,_] _ _) ⟨rfl,zd9⟩
      ·refine rn ?_;exact retT rfl (.drop [_,_,_] _ _) ⟨rfl,zd9⟩
end Go.Proofs
namespace Go.Ab
open Go
section
variable {P:Program} {dst:Option Tmp} {ty:TypeId} {pos:String} {after:Array Edge} {guard:Option (Nat×Bool)} {x:Operand} {h:List Res} {f:Operand→Option AV}
theorem qr_convert_str {S T:TypeId} {k:IntKind} {n:Int} (hx:f x=some (.v (.int k n))) [hs:Und P S (.int k)] [ht:Und P T .string]:
 QR P h f ⟨dst,.convert S T x,ty,pos,after,guard⟩ (.v (.string (Utf8.encode n))):=fun X ρ w he=>by
 refine ⟨_,run_v _ ?_,.v _⟩
 rw [(he.rel x _ hx).v_eq]
 simp only [convert,Sem.run_bind,Go.Ab.run_underlying (d:=TypeDesc.int k),Go.Ab.run_underlying (d:=TypeDesc.string),Result.andThen_ok]
 rfl
end
end Go.Ab
set_option maxRecDepth 10000
namespace Go.Proofs
open Go Go.Ab
attribute [local irreducible] QR QV OE aops aw dsoup dsoupM dalloc zf9 thn inBlk
open Go.H
theorem ref2First (s:ByteArray):za6 Tryz.prog 256 [sv s] [] (fun r h'=>h'= []∧r= .tup [.v (.int .i32 (firstR s).1),iv (firstR s).2]):=by
 refine za1 Tryz.func256 rfl rfl rfl ?_
 refine rn ?_;refine za2 rfl (oe_range_str rfl rfl fun b8=> ?_)
 refine rn ?_;refine zd4 (fun x:Unit=>True) (fun x=>⟨[(8,pZ b8),(0,sv s),(2,.v (.int .i32 0)),(3,iv 0)],[.obj b8 (.stringIter s 0)],[]⟩) (fun x=>0) () trivial
  (zb8 (.cons _ _ _ rfl (.cons _ _ _ rfl (.cons _ _ _ rfl (.cons _ _ _ rfl (.nil)))))) ?_
 rintro _ _
 refine zb4 (za9 ?_)
 refine za2 rfl (oe_next_str rfl rfl (fun hp=> ?_) (fun hp=> ?_))
 ·refine rn ?_;refine za0 rfl (fun hc10=> ?_) (fun hc10=> ?_)
  ·first|cases hc10|exact absurd hc10 (by decide)|(exfalso;simp_all;done)
  ·refine rn ?_;exact retU rfl rfl (.drop1 _ _ _) ⟨rfl,by first|(rw [firstR,if_pos hp];rfl)|(rw [firstR,if_neg (by omega)];split <;> first|rfl|(exfalso;simp_all;done)|(exfalso;simp_all;omega))⟩
 ·refine rn ?_;refine za0 rfl (fun hc10=> ?_) (fun hc10=> ?_)
  ·refine rn ?_;refine za0 rfl (fun hc14=> ?_) (fun hc14=> ?_)
   ·exact absurd hc14 (by decide)
   ·refine zf2 ?_;refine zd8 ?_;refine zb4 (za9 ?_)
    refine q1 ?_;refine qq rfl rfl (qr_convert_str rfl) ?_
    refine rn ?_;refine za8 (fun hg6_2=> ?_) (fun hg6_2=> ?_)
    ·refine rn ?_;refine za8 (fun hg6_6=> ?_) (fun hg6_6=> ?_)
     ·refine rn ?_;refine za0 rfl (fun hc29=> ?_) (fun hc29=> ?_)
      ·refine rn ?_;exact retU rfl rfl (.drop1 _ _ _) ⟨rfl,by first|(rw [firstR,if_pos hp];rfl)|(rw [firstR,if_neg (by omega)];split <;> first|rfl|(exfalso;simp_all;done)|(exfalso;simp_all;omega))⟩
      ·first|cases hc29|exact absurd hc29 (by decide)|(exfalso;simp_all;done)
     ·refine q1 ?_;refine qq rfl rfl (qr_slice_string_h (k:=3) rfl rfl (by have:=hg6_6;simp at this;omega)) ?_
      refine rn ?_;refine za0 rfl (fun hc29=> ?_) (fun hc29=> ?_)
      ·refine rn ?_;exact retU rfl rfl (.drop1 _ _ _) ⟨rfl,by first|(rw [firstR,if_pos hp];rfl)|(rw [firstR,if_neg (by omega)];split <;> first|rfl|(exfalso;simp_all;done)|(exfalso;simp_all;omega))⟩
      ·refine rn ?_;exact retU rfl rfl (.drop1 _ _ _) ⟨rfl,by first|(rw [firstR,if_pos hp];rfl)|(rw [firstR,if_neg (by omega)];split <;> first|rfl|(exfalso;simp_all;done)|(exfalso;simp_all;omega))⟩
    ·refine rn ?_;refine za0 rfl (fun hc29=> ?_) (fun hc29=> ?_)
     ·first|cases hc29|exact absurd hc29 (by decide)|(exfalso;simp_all;done)
     ·refine rn ?_;exact retU rfl rfl (.drop1 _ _ _) ⟨rfl,by first|(rw [firstR,if_pos hp];rfl)|(rw [firstR,if_neg (by omega)];split <;> first|rfl|(exfalso;simp_all;done)|(exfalso;simp_all;omega))⟩
  ·first|cases hc10|exact absurd hc10 (by decide)|(exfalso;simp_all;done)
theorem ref2FirstN (s:ByteArray) (c n:Int) (h:firstR s=(c,n)):za6 Tryz.prog 256 [sv s] [] (fun r h'=>h'= []∧r= .tup [.v (.int .i32 c),iv n]):=
 (ref2First s).mono fun _ _ q=>⟨q.1,by rw [q.2,h]⟩
theorem ref2Word (s:ByteArray):za6 Tryz.prog 214 [sv s] [] (fun r h'=>h'= []∧r=bv (wordB s)):=by
 refine za1 Tryz.func214 rfl rfl rfl ?_
 refine rn ?_;refine za8 (fun hg1_2=> ?_) (fun hg1_2=> ?_)
 ·refine rn ?_;refine aw_ct rfl ?_;refine rn ?_;refine rq 0 ?_
  exact ⟨rfl,congrArg bv (by first|(rw [wordB_eq,←emptyL,hg1_2];rfl)|(rw [wordB_eq,decide_eq_false (show ¬(s.size:Int)≤24 by simp at hc12;omega),Bool.and_false];rfl))⟩
 ·refine rn ?_;refine za0 rfl (fun hc12=> ?_) (fun hc12=> ?_)
  ·refine rn ?_;refine rq 0 ?_
   exact ⟨rfl,congrArg bv (by first|(rw [wordB_eq,←emptyL,hg1_2];rfl)|(rw [wordB_eq,decide_eq_false (show ¬(s.size:Int)≤24 by simp at hc12;omega),Bool.and_false];rfl))⟩
  ·have hlen:s.size≤24:=by simp at hc12;omega
   refine rn ?_;refine aw_while (fun i:Nat=>wordR s 0=wordR s i∧i≤48) (fun i=>⟨[(3,iv i),(0,sv s)],[],[]⟩) (fun i=>s.size - i) 0 ⟨rfl,by omega⟩ es ?_
   rintro i ⟨hz,hi⟩
   refine rn ?_;refine za0 rfl (fun hc16=> ?_) (fun hc16=> ?_)
   ·have h1:i < s.size:=by simpa using hc16
    refine zf2 ?_;refine zd8 ?_;refine aw_block ?_;refine zb4 (za9 ?_)
    refine q1 ?_;refine q1 ?_;refine qq rfl rfl (qr_slice_string_l (k:=i) rfl rfl (by omega)) ?_
    obtain ⟨c,n,hw,hn1,hn4⟩:=firstR_w h1
    refine qv rfl rfl (za4 rfl rfl (zc0 (ref2FirstN _ c n hw) (Sbs.refl _))) ?_
    refine rn ?_;refine qv rfl rfl (za4 rfl rfl (zc0 (ref2Letter _) (Sbs.refl _))) ?_
    refine rn ?_;refine za8 (fun hg6_3=> ?_) (fun hg6_3=> ?_)
    ·refine rn ?_;refine za8 (fun hg6_6=> ?_) (fun hg6_6=> ?_)
     ·refine rn ?_;refine aw_ct rfl ?_;refine rn ?_;refine rq 0 ?_
      exact ⟨rfl,congrArg bv (by rw [wordB_eq,hz,wordR_stop h1 hw (by simpa using hg6_3) (by first|exact .inl (by simpa using hg6_6)|exact .inr (by simpa using hc35)),Bool.and_false])⟩
     ·refine rn ?_;refine qv rfl rfl (za4 rfl rfl (zc0 (ref2Digit _) (Sbs.refl _))) ?_
      refine rn ?_;refine za0 rfl (fun hc35=> ?_) (fun hc35=> ?_)
      ·refine rn ?_;refine rq 0 ?_
       exact ⟨rfl,congrArg bv (by rw [wordB_eq,hz,wordR_stop h1 hw (by simpa using hg6_3) (by first|exact .inl (by simpa using hg6_6)|exact .inr (by simpa using hc35)),Bool.and_false])⟩
      ·refine rn ?_;exact ⟨i+n,⟨hz.trans (wordR_go h1 hw hn1 (.inr ⟨by simpa using hg6_6,by simpa using hc35⟩)),by omega⟩,eA,by omega⟩
    ·refine rn ?_;first|(refine qv rfl rfl (za4 rfl rfl (zc0 (ref2Digit _) (Sbs.refl _))) ?_)|refine qs rfl rfl ?_|skip
     refine rn ?_;refine aw_cf rfl ?_;refine rn ?_;exact ⟨i+n,⟨hz.trans (wordR_go h1 hw hn1 (.inl (by simpa using hg6_3))),by omega⟩,eA,by omega⟩
   ·have h1:¬i < s.size:=by simpa using hc16
    refine rn ?_;refine rq 0 ?_
    exact ⟨rfl,congrArg bv (by rw [wordB_eq,←emptyL,hg1_2,hz,wordR_end h1,decide_eq_true (show (s.size:Int)≤24 by omega)];rfl)⟩
theorem refRightNames (l:List ByteArray) (most:Nat) (hl:l.length≤4611686018427387904):za6 Tryz.prog 163 [strsA l,iv most] [] (fun r h'=>h'= []∧r=bv (namesB most l)):=by
 refine za1 Tryz.func163 rfl rfl rfl ?_
 refine rn ?_;refine aw_rng (l.length) (fun k:Nat=>freshB [] l=freshB (l.take k) (l.drop k)) (fun k=> [(11,iv k)]) [(0,_),(1,_),(9,_),(10,_)] rfl ?_
 intro k lk zk
 refine rn ?_;refine za0 rfl (fun hc12=> ?_) (fun hc12=> ?_)
 ·have hk:=ltMap hc12
  have rk:=ze2 (f:=strR) hk
  refine rn ?_;refine qv rfl rfl (za4 rfl rfl (zc0 (ref2Word _) (Sbs.refl _))) ?_
  refine rn ?_;refine za0 rfl (fun hc18=> ?_) (fun hc18=> ?_)
  ·refine rn ?_;refine rq 0 ?_
   exact ⟨rfl,congrArg bv (by rw [namesB,fresh_w hk zk (by simpa using hc18),Bool.and_false])⟩
  ·refine zf2 ?_;refine zd8 ?_;refine zb4 (za9 ?_)
   refine q1 ?_;refine q1 ?_;refine qq rfl rfl (qr_slice_h (k:=k) rfl rfl (by simp;omega)) ?_
   rw [←List.map_take]
   refine rn ?_;refine aw_rng ((l.take k).length) (fun j:Nat=>(l.take k).all (fun t=> !(l[k].toList==t.toList))=((l.take k).drop j).all (fun t=> !(l[k].toList==t.toList))) (fun j=> [(23,iv j)]) [(0,_),(1,_),(6,_),(9,_),(10,_),(11,_),(21,_),(22,_)] rfl ?_
   intro j lj zj
   refine rn ?_;refine za0 rfl (fun hc24=> ?_) (fun hc24=> ?_)
   ·have hj:=ltMap hc24
    have rj:=ze2 (f:=strR) hj
    have bj:(l.take k).length≤4611686018427387904:=by simp;omega
    refine rn ?_;refine za0 rfl (fun hc29=> ?_) (fun hc29=> ?_)
    ·refine rn ?_;refine rq 0 ?_
     exact ⟨rfl,congrArg bv (by rw [namesB,fresh_m hk zk (allF hj (by simpa using hc29)),Bool.and_false])⟩
    ·refine rn ?_;exact ⟨hj,allT hj zj (by simpa using hc29),eA⟩
   ·have qj:=geMap hc24 lj
    have aj:=allE qj zj
    refine rn ?_;exact ⟨hk,fresh_step hk zk (by simpa using hc18) aj,eA⟩
 ·have qk:=geMap hc12 lk
  refine rn ?_;refine rq 0 ?_
  exact ⟨rfl,congrArg bv (by rw [namesB,fresh_e qk zk];simp)⟩
theorem refRightEvE (h:Hist) (e:Ev) (hl:e.scan.length≤4611686018427387904):za6 Tryz.prog 164 [.agg (zb0 h),.agg (evR e)] [] (fun r h'=>h'= []∧r=bv (eventB h e)):=
 (refRightEv h e hl).mono fun _ _ q=>⟨q.1,by rw [q.2,rightEv_eq]⟩
theorem bvz3_4083 {a b:Bool} (h:a=b:=by rw [shaped_is (by simp_all) (by simp_all) (by simp_all) (by simp_all) ai aj ak am];first|(simp_all;done)|(simp_all;intros;omega)):bv a=bv b:=congrArg bv h
theorem refShaped (h:Hist) (la:Lim 4611686018427387904 h):za6 Tryz.prog 122 [.agg (zb0 h)] [] (fun r h'=>h'= []∧r=bv (zd7 h)):=by
 refine za1 Tryz.func122 rfl rfl rfl ?_
 refine rn ?_;refine za2 rfl (zb5 rfl rfl rfl fun b1=> ?_)
 refine rn ?_;refine qv rfl rfl (za4 rfl rfl (zc0 (refRightNames h.ts 300 la.ts) (Sbs.refl _))) ?_
 refine rn ?_;refine za8 (fun hg1_4=> ?_) (fun hg1_4=> ?_)
 ·refine rn ?_;refine aw_ct rfl ?_;refine rn ?_;refine rq 1 ?_
  exact ⟨rfl,congrArg bv (by rw [shaped_fn (by simp_all)])⟩
 ·refine rn ?_;refine qv rfl rfl (za4 rfl rfl (zc0 (refRightNames h.ss 60 la.ss) (Sbs.refl _))) ?_
  refine rn ?_;refine za8 (fun hg1_10=> ?_) (fun hg1_10=> ?_)
  ·refine rn ?_;refine aw_ct rfl ?_;refine rn ?_;refine rq 1 ?_
   exact ⟨rfl,congrArg bv (by rw [shaped_fn (by simp_all)])⟩
  ·refine rn ?_;refine qv rfl rfl (za4 rfl rfl (zc0 (refRightNames h.os 300 la.os) (Sbs.refl _))) ?_
   refine rn ?_;refine za8 (fun hg1_16=> ?_) (fun hg1_16=> ?_)
   ·refine rn ?_;refine aw_ct rfl ?_;refine rn ?_;refine rq 1 ?_
    exact ⟨rfl,congrArg bv (by rw [shaped_fn (by simp_all)])⟩
   ·refine rn ?_;refine qv rfl rfl (za4 rfl rfl (zc0 (refRightNames h.ps 60 la.ps) (Sbs.refl _))) ?_
    refine rn ?_;refine za0 rfl (fun hc32=> ?_) (fun hc32=> ?_)
    ·refine rn ?_;refine rq 1 ?_
     exact ⟨rfl,congrArg bv (by rw [shaped_fn (by simp_all)])⟩
    ·refine rn ?_;refine aw_rng (h.evs.length) (fun i:Nat=>h.evs.all (eventB h)=(h.evs.drop i).all (eventB h)) (fun i=> [(36,iv i)]) [(1,_),(34,_),(35,_)] rfl ?_
     intro i li zi
     refine rn ?_;refine za0 rfl (fun hc37=> ?_) (fun hc37=> ?_)
     ·have hi:=ltMap hc37
      have ri:=ze2 (f:=evR) hi
      have bi:=la.evs
      have si:=la.scans h.evs[i] (List.getElem_mem hi)
      refine rn ?_;refine za2 rfl (zb1 rfl fun b4=> ?_)
      refine rn ?_;refine qv rfl rfl (za4 rfl rfl (zc0 (refRightEvE h h.evs[i] si) (Sbs.refl _))) ?_
      refine rn ?_;refine za0 rfl (fun hc43=> ?_) (fun hc43=> ?_)
      ·refine rn ?_;refine rq 2 ?_
       exact ⟨rfl,congrArg bv (by rw [shaped_fe (allF hi (by simpa using hc43))])⟩
      ·refine rn ?_;exact ⟨hi,allT hi zi (by simpa using hc43),eA⟩
     ·have qi:=geMap hc37 li
      have ai:=allE qi zi
      refine rn ?_;refine aw_rng (h.ords.length) (fun j:Nat=>h.ords.all (ordB h)=(h.ords.drop j).all (ordB h)) (fun j=> [(48,iv j)]) [(1,_),(46,_),(47,_)] rfl ?_
      intro j lj zj
      refine rn ?_;refine za0 rfl (fun hc49=> ?_) (fun hc49=> ?_)
      ·have hj:=ltMap hc49
       have rj:=ze2 (f:=ordR) hj
       have bj:=la.ords
       have sj:=la.ordts h.ords[j] (List.getElem_mem hj)
       refine rn ?_;refine za2 rfl (zb1 rfl fun b6=> ?_)
       refine rn ?_;refine qv rfl rfl (za4 rfl rfl (zc0 (refIs _ _) (Sbs.refl _))) ?_
       refine rn ?_;refine za8 (fun hg12_7=> ?_) (fun hg12_7=> ?_)
       ·refine rn ?_;refine aw_ct rfl ?_;refine rn ?_;refine rq 2 ?_
        exact ⟨rfl,congrArg bv (by rw [shaped_fo (allF hj (by rw [ordB_eq];simp_all))])⟩
       ·refine rn ?_;refine qv rfl rfl (za4 rfl rfl (zc0 (refTs h h.ords[j].ts sj) (Sbs.refl _))) ?_
        refine rn ?_;refine za0 rfl (fun hc65=> ?_) (fun hc65=> ?_)
        ·refine rn ?_;refine rq 2 ?_
         exact ⟨rfl,congrArg bv (by rw [shaped_fo (allF hj (by rw [ordB_eq];simp_all))])⟩
        ·refine rn ?_;exact ⟨hj,allT hj zj (by rw [ordB_eq];simp_all),eA⟩
      ·have qj:=geMap hc49 lj
       have aj:=allE qj zj
       refine rn ?_;refine aw_rng (h.mats.length) (fun k:Nat=>h.mats.all (matB h)=(h.mats.drop k).all (matB h)) (fun k=> [(70,iv k)]) [(1,_),(68,_),(69,_)] rfl ?_
       intro k lk zk
       refine rn ?_;refine za0 rfl (fun hc71=> ?_) (fun hc71=> ?_)
       ·have hk:=ltMap hc71
        have rk:=ze2 (f:=matR) hk
        have bk:=la.mats
        have sk:=la.matts h.mats[k] (List.getElem_mem hk)
        refine rn ?_;refine za2 rfl (zb1 rfl fun b8=> ?_)
        refine rn ?_;refine qv rfl rfl (za4 rfl rfl (zc0 (refIs _ _) (Sbs.refl _))) ?_
        refine rn ?_;refine za8 (fun hg18_7=> ?_) (fun hg18_7=> ?_)
        ·refine rn ?_;refine aw_ct rfl ?_;refine rn ?_;refine rq 2 ?_
         exact ⟨rfl,congrArg bv (by rw [shaped_fm (allF hk (by rw [matB_eq];simp_all))])⟩
        ·refine rn ?_;refine qv rfl rfl (za4 rfl rfl (zc0 (refIs _ _) (Sbs.refl _))) ?_
         refine rn ?_;refine za8 (fun hg18_16=> ?_) (fun hg18_16=> ?_)
         ·refine rn ?_;refine aw_ct rfl ?_;refine rn ?_;refine rq 2 ?_
          exact ⟨rfl,congrArg bv (by rw [shaped_fm (allF hk (by rw [matB_eq];simp_all))])⟩
         ·refine rn ?_;refine qv rfl rfl (za4 rfl rfl (zc0 (refTs h h.mats[k].ts sk) (Sbs.refl _))) ?_
          refine rn ?_;refine za0 rfl (fun hc96=> ?_) (fun hc96=> ?_)
          ·refine rn ?_;refine rq 2 ?_
           exact ⟨rfl,congrArg bv (by rw [shaped_fm (allF hk (by rw [matB_eq];simp_all))])⟩
          ·refine rn ?_;exact ⟨hk,allT hk zk (by rw [matB_eq];simp_all),eA⟩
       ·have qk:=geMap hc71 lk
        have ak:=allE qk zk
        refine rn ?_;refine aw_rng (h.wants.length) (fun m:Nat=>h.wants.all (wanB h)=(h.wants.drop m).all (wanB h)) (fun m=> [(101,iv m)]) [(1,_),(99,_),(100,_)] rfl ?_
        intro m lm zm
        refine rn ?_;refine za0 rfl (fun hc102=> ?_) (fun hc102=> ?_)
        ·have hm:=ltMap hc102
         have rm:=ze2 (f:=wanR) hm
         have bm:=la.wants
         refine rn ?_;refine za2 rfl (zb1 rfl fun b10=> ?_)
         refine rn ?_;refine qv rfl rfl (za4 rfl rfl (zc0 (refIs _ _) (Sbs.refl _))) ?_
         refine rn ?_;refine za8 (fun hg24_7=> ?_) (fun hg24_7=> ?_)
         ·refine rn ?_;refine aw_ct rfl ?_;refine rn ?_;refine rq 2 ?_
          exact ⟨rfl,congrArg bv (by rw [shaped_fw (allF hm (by rw [wanB_eq];simp_all))])⟩
         ·refine rn ?_;refine qv rfl rfl (za4 rfl rfl (zc0 (refIs _ _) (Sbs.refl _))) ?_
          refine rn ?_;refine za0 rfl (fun hc117=> ?_) (fun hc117=> ?_)
          ·refine rn ?_;refine rq 2 ?_
           exact ⟨rfl,congrArg bv (by rw [shaped_fw (allF hm (by rw [wanB_eq];simp_all))])⟩
          ·refine rn ?_;exact ⟨hm,allT hm zm (by rw [wanB_eq];simp_all),eA⟩
        ·have qm:=geMap hc102 lm
         have am:=allE qm zm
         refine rn ?_;refine za8 (fun hg27_4=> ?_) (fun hg27_4=> ?_)
         ·refine rn ?_;refine za8 (fun hg27_10=> ?_) (fun hg27_10=> ?_)
          ·refine rn ?_;refine za8 (fun hg27_16=> ?_) (fun hg27_16=> ?_)
           ·refine rn ?_;refine rq 1 ?_
            exact ⟨rfl,bvz3_4083⟩
           ·refine rn ?_;refine rq 1 ?_
            exact ⟨rfl,bvz3_4083⟩
          ·refine rn ?_;refine rq 1 ?_
           exact ⟨rfl,bvz3_4083⟩
         ·refine rn ?_;refine rq 1 ?_
          exact ⟨rfl,bvz3_4083⟩
theorem ref11First (s:SV) (l:List Int) (n:Int) (hl:l.length≤1000000000):za6 Tryz.prog 166 [.v s.v,iv n] [.row s.v 1 3 (l.map intR)] (fun r h'=>∃s':SV,h'= [.row s'.v 1 3 ((addF l n).map intR)]∧r= .v s'.v):=by
 refine za1 Tryz.func166 rfl rfl rfl ?_
 refine rn ?_;refine qv rfl rfl (za4 rfl rfl (za3.lend (R:=fun x=>x=iv (atI n 0 l)) (za3.of_fun (refAt (f:=false) l n (by omega))) (fun r hr=>by rw [hr];rfl) (.refl _ _) ⟨ble_row,.refl _ _,trivial⟩)) ?_
 refine rn ?_;refine za0 rfl (fun hc8=> ?_) (fun hc8=> ?_)
 ·refine rn ?_;refine rq 0 ?_
  exact ⟨s,by rw [addF,if_pos (by simpa using hc8)];rfl,rfl⟩
 ·refine rn ?_;refine qv rfl rfl (zc2 rfl rfl) ?_
  refine za2 rfl (zb7 rfl rfl (by simp;omega) rfl (fun s13=> ?_) (fun r hr=>by simp at hr;subst hr;rfl))
  refine zc7 s13 fun sv hsv=> ?_
  subst hsv
  refine rn ?_;refine rq 0 ?_
  exact ⟨sv,by rw [addF,if_neg (by simpa using hc8),List.map_append];rfl,rfl⟩
theorem ref11Made (s:SV) (l:List Int) (v:Ver) (hl:l.length≤1000000000):za6 Tryz.prog 167 [.v s.v,.agg (verR v)] [.row s.v 1 3 (l.map intR)] (fun r h'=>∃s':SV,h'= [.row s'.v 1 3 ((addV l v).map intR)]∧r= .v s'.v):=by
 refine za1 Tryz.func167 rfl rfl rfl ?_
 refine rn ?_;refine za2 rfl (zb5 rfl rfl rfl fun b3=> ?_)
 refine rn ?_;refine za0 rfl (fun hc7=> ?_) (fun hc7=> ?_)
 ·refine rn ?_;refine rq 1 ?_
  exact ⟨s,by rw [addV,if_pos (by simpa using hc7)];rfl,rfl⟩
 ·refine rn ?_;refine za2 rfl (zc3 rfl rfl (zf8 (za3.of_fun (ref11First s l v.t hl))) rfl ?_)
  rintro _ _ ⟨s',rfl,rfl⟩
  refine rn ?_;refine rq 1 ?_
  exact ⟨s',by rw [addV,if_neg (by simpa using hc7)];rfl,rfl⟩
set_option maxHeartbeats 4000000 in
theorem refSpoken (h:Hist) (la:Lim 3000 h):za6 Tryz.prog 123 [.agg (zb0 h)] [] (fun r h'=>h'= []∧r= .agg [zf0 (spokenF h 0),zf0 (spokenF h 1),zf0 (spokenF h 2),zf0 (spokenF h 3)]):=by
 refine za1 Tryz.func123 rfl rfl rfl ?_
 refine rn ?_;refine za2 rfl (zb5 rfl rfl rfl fun b1=> ?_)
 refine za2 rfl (zb1 rfl fun b2=> ?_)
 refine rn ?_;refine za2 rfl (zb1 rfl fun b3=> ?_)
 refine rn ?_;refine aw_rng4 h.evs.length (fun k s0 s1 s2 s3=>⟨[(21,iv k),(1,pZ b1),(2,pZ b2),(3,pZ b3),(19,evsA h.evs),(20,iv (h.evs.map evR).length)],[.row s0.v 1 3 (((spE h k) 0).map intR),.row s1.v 1 3 (((spE h k) 1).map intR),.row s2.v 1 3 (((spE h k) 2).map intR),.row s3.v 1 3 (((spE h k) 3).map intR),.box b3 154 [.v s0.v,.v s1.v,.v s2.v,.v s3.v],.box b2 154 [.v (.slice none 0 0),.v (.slice none 0 0),.v (.slice none 0 0),.v (.slice none 0 0)],.box b1 28 (zb0 h)],[]⟩) (⟨none,0,0⟩) (⟨none,0,0⟩) (⟨none,0,0⟩) (⟨none,0,0⟩) (zc5 (ze5 1 3) (zc5 (ze5 1 3) (zc5 (ze5 1 3) (zc5 (ze5 1 3) es)))) ?_
 intro k s0 s1 s2 s3 lk
 refine rn ?_;refine za0 rfl (fun hc22=> ?_) (fun hc22=> ?_)
 ·have hk:=ltMap hc22
  have rk:=ze2 (f:=evR) hk
  have bd:=bdE la k lk
  have ls:=la.scans h.evs[k] (List.getElem_mem hk)
  have le:=la.evs
  refine rn ?_;refine za2 rfl (zb1 rfl fun b5=> ?_)
  refine rn ?_;refine qq rfl rfl (za5 rfl rfl (by decide) (by decide)) ?_
  refine rn ?_;refine za2 rfl (zc3 rfl rfl (zf8 (za3.of_fun (ref11First _ _ _ (by have:=bd 0;omega)))) rfl ?_)
  rintro _ _ ⟨s',rfl,rfl⟩
  refine qq rfl rfl (za5 rfl rfl (by decide) (by decide)) ?_
  refine rn0 ?_;refine aw_cut4 (fun s0 s1 s2 s3=>⟨[(5,pZ b5),(21,iv k),(20,iv (h.evs.map evR).length),(19,evsA h.evs),(1,pZ b1),(2,pZ b2),(3,pZ b3)],[.box b5 60 (evR h.evs[k]),.row s0.v 1 3 (((stepK (ze1 (spE h k) (0,h.evs[k].t)) h.evs[k]) 0).map intR),.row s1.v 1 3 (((stepK (ze1 (spE h k) (0,h.evs[k].t)) h.evs[k]) 1).map intR),.row s2.v 1 3 (((stepK (ze1 (spE h k) (0,h.evs[k].t)) h.evs[k]) 2).map intR),.row s3.v 1 3 (((stepK (ze1 (spE h k) (0,h.evs[k].t)) h.evs[k]) 3).map intR),.box b3 154 [.v s0.v,.v s1.v,.v s2.v,.v s3.v],.box b2 154 [.v (.slice none 0 0),.v (.slice none 0 0),.v (.slice none 0 0),.v (.slice none 0 0)],.box b1 28 (zb0 h)],[]⟩) ?_ ?_
  ·refine rn ?_;refine za0 rfl (fun hc33=> ?_) (fun hc33=> ?_)
   ·refine rn ?_;refine qq rfl rfl (za5 rfl rfl (by decide) (by decide)) ?_
    refine rn ?_;refine za2 rfl (zc3 rfl rfl (zf8 (za3.of_fun (ref11First _ _ _ (by have:=bd 1;omega)))) rfl ?_)
    rintro _ _ ⟨s',rfl,rfl⟩
    refine qq rfl rfl (za5 rfl rfl (by decide) (by decide)) ?_
    refine rn ?_;exact ⟨_,_,_,_,by unfold stepK;first|(rw [if_pos (by simpa using hc33)];exact eA)|(rw [if_neg (by simpa using hc33),if_pos (by simp at hc33;simp_all)];exact eA)|(rw [if_neg (by simpa using hc33),if_neg (by simp at hc33;simp_all),if_pos (by simpa using hc56)];exact eA)|(rw [if_neg (by simpa using hc33),if_neg (by simp at hc33;simp_all),if_neg (by simpa using hc56)];exact eA)⟩
   ·refine rn ?_;refine za0 rfl (fun hc41=> ?_) (fun hc41=> ?_)
    ·refine rn ?_;refine za0 rfl (fun hc41=> ?_) (fun hc41=> ?_)
     ·refine rn ?_;refine qq rfl rfl (za5 rfl rfl (by decide) (by decide)) ?_
      refine rn ?_;refine za2 rfl (zc3 rfl rfl (zf8 (za3.of_fun (ref11First _ _ _ (by have:=bd 2;omega)))) rfl ?_)
      rintro _ _ ⟨s',rfl,rfl⟩
      refine qq rfl rfl (za5 rfl rfl (by decide) (by decide)) ?_
      refine rn ?_;refine qq rfl rfl (za5 rfl rfl (by decide) (by decide)) ?_
      refine rn ?_;refine za2 rfl (zc3 rfl rfl (zf8 (za3.of_fun (ref11Made _ _ _ (by have:=(bd.f (0,h.evs[k].t)) 0;exact Nat.le_trans this (by omega))))) rfl ?_)
      rintro _ _ ⟨s',rfl,rfl⟩
      refine qq rfl rfl (za5 rfl rfl (by decide) (by decide)) ?_
      refine rn ?_;exact ⟨_,_,_,_,by unfold stepK;first|(rw [if_pos (by simpa using hc33)];exact eA)|(rw [if_neg (by simpa using hc33),if_pos (by simp at hc33;simp_all)];exact eA)|(rw [if_neg (by simpa using hc33),if_neg (by simp at hc33;simp_all),if_pos (by simpa using hc56)];exact eA)|(rw [if_neg (by simpa using hc33),if_neg (by simp at hc33;simp_all),if_neg (by simpa using hc56)];exact eA)⟩
     ·first|cases hc41|exact absurd hc41 (by decide)|(exfalso;simp_all;done)
    ·refine rn ?_;refine za0 rfl (fun hc41=> ?_) (fun hc41=> ?_)
     ·refine rn ?_;refine qq rfl rfl (za5 rfl rfl (by decide) (by decide)) ?_
      refine rn ?_;refine za2 rfl (zc3 rfl rfl (zf8 (za3.of_fun (ref11First _ _ _ (by have:=bd 2;omega)))) rfl ?_)
      rintro _ _ ⟨s',rfl,rfl⟩
      refine qq rfl rfl (za5 rfl rfl (by decide) (by decide)) ?_
      refine rn ?_;refine qq rfl rfl (za5 rfl rfl (by decide) (by decide)) ?_
      refine rn ?_;refine za2 rfl (zc3 rfl rfl (zf8 (za3.of_fun (ref11Made _ _ _ (by have:=(bd.f (0,h.evs[k].t)) 0;exact Nat.le_trans this (by omega))))) rfl ?_)
      rintro _ _ ⟨s',rfl,rfl⟩
      refine qq rfl rfl (za5 rfl rfl (by decide) (by decide)) ?_
      refine rn ?_;exact ⟨_,_,_,_,by unfold stepK;first|(rw [if_pos (by simpa using hc33)];exact eA)|(rw [if_neg (by simpa using hc33),if_pos (by simp at hc33;simp_all)];exact eA)|(rw [if_neg (by simpa using hc33),if_neg (by simp at hc33;simp_all),if_pos (by simpa using hc56)];exact eA)|(rw [if_neg (by simpa using hc33),if_neg (by simp at hc33;simp_all),if_neg (by simpa using hc56)];exact eA)⟩
     ·refine rn ?_;refine za0 rfl (fun hc56=> ?_) (fun hc56=> ?_)
      ·refine rn ?_;refine qq rfl rfl (za5 rfl rfl (by decide) (by decide)) ?_
       refine rn ?_;refine za2 rfl (zc3 rfl rfl (zf8 (za3.of_fun (ref11First _ _ _ (by have:=bd 3;omega)))) rfl ?_)
       rintro _ _ ⟨s',rfl,rfl⟩
       refine qq rfl rfl (za5 rfl rfl (by decide) (by decide)) ?_
       refine rn ?_;exact ⟨_,_,_,_,by unfold stepK;first|(rw [if_pos (by simpa using hc33)];exact eA)|(rw [if_neg (by simpa using hc33),if_pos (by simp at hc33;simp_all)];exact eA)|(rw [if_neg (by simpa using hc33),if_neg (by simp at hc33;simp_all),if_pos (by simpa using hc56)];exact eA)|(rw [if_neg (by simpa using hc33),if_neg (by simp at hc33;simp_all),if_neg (by simpa using hc56)];exact eA)⟩
      ·refine rn ?_;exact ⟨_,_,_,_,by unfold stepK;first|(rw [if_pos (by simpa using hc33)];exact eA)|(rw [if_neg (by simpa using hc33),if_pos (by simp at hc33;simp_all)];exact eA)|(rw [if_neg (by simpa using hc33),if_neg (by simp at hc33;simp_all),if_pos (by simpa using hc56)];exact eA)|(rw [if_neg (by simpa using hc33),if_neg (by simp at hc33;simp_all),if_neg (by simpa using hc56)];exact eA)⟩
  ·intro s0 s1 s2 s3
   refine rn ?_;refine aw_rng4 h.evs[k].scan.length (fun j s0 s1 s2 s3=>⟨[(67,iv j),(1,pZ b1),(2,pZ b2),(3,pZ b3),(19,evsA h.evs),(20,iv (h.evs.map evR).length),(21,iv k),(65,seensA h.evs[k].scan),(66,iv (h.evs[k].scan.map ze9).length)],[.box b5 60 (evR h.evs[k]),.row s0.v 1 3 ((((h.evs[k].scan.take j).foldl stepS (stepK (ze1 (spE h k) (0,h.evs[k].t)) h.evs[k])) 0).map intR),.row s1.v 1 3 ((((h.evs[k].scan.take j).foldl stepS (stepK (ze1 (spE h k) (0,h.evs[k].t)) h.evs[k])) 1).map intR),.row s2.v 1 3 ((((h.evs[k].scan.take j).foldl stepS (stepK (ze1 (spE h k) (0,h.evs[k].t)) h.evs[k])) 2).map intR),.row s3.v 1 3 ((((h.evs[k].scan.take j).foldl stepS (stepK (ze1 (spE h k) (0,h.evs[k].t)) h.evs[k])) 3).map intR),.box b3 154 [.v s0.v,.v s1.v,.v s2.v,.v s3.v],.box b2 154 [.v (.slice none 0 0),.v (.slice none 0 0),.v (.slice none 0 0),.v (.slice none 0 0)],.box b1 28 (zb0 h)],[]⟩) _ _ _ _ (es) ?_
   intro j s0 s1 s2 s3 lj
   refine rn ?_;refine za0 rfl (fun hc68=> ?_) (fun hc68=> ?_)
   ·have hj:=ltMap hc68
    have rj:=ze2 (f:=ze9) hj
    have bj:=Bd.fold (c:=2) (l:=h.evs[k].scan.take j) (fun s _ L n h=>h.s s) ((bd.f (0,h.evs[k].t)).k h.evs[k])
    have bl:(h.evs[k].scan.take j).length≤3000:=by rw [List.length_take];omega
    refine rn ?_;refine za2 rfl (zb1 rfl fun b7=> ?_)
    refine rn ?_;refine qq rfl rfl (za5 rfl rfl (by decide) (by decide)) ?_
    refine rn ?_;refine za2 rfl (zc3 rfl rfl (zf8 (za3.of_fun (ref11First _ _ _ (by have:=bj 2;omega)))) rfl ?_)
    rintro _ _ ⟨s',rfl,rfl⟩
    refine qq rfl rfl (za5 rfl rfl (by decide) (by decide)) ?_
    refine rn ?_;refine qq rfl rfl (za5 rfl rfl (by decide) (by decide)) ?_
    refine rn ?_;refine za2 rfl (zc3 rfl rfl (zf8 (za3.of_fun (ref11Made _ _ _ (by have:=bj 0;omega)))) rfl ?_)
    rintro _ _ ⟨s',rfl,rfl⟩
    refine qq rfl rfl (za5 rfl rfl (by decide) (by decide)) ?_
    refine rn ?_;have e:(h.evs[k].scan.take (j+1)).foldl stepS (stepK (ze1 (spE h k) (0,h.evs[k].t)) h.evs[k])=stepS ((h.evs[k].scan.take j).foldl stepS (stepK (ze1 (spE h k) (0,h.evs[k].t)) h.evs[k])) h.evs[k].scan[j]:=foldTake _ _ hj
    exact ⟨hj,_,_,_,_,by simp only [e];exact eA⟩
   ·have qj:=geMap hc68 lj
    refine rn ?_;have e:spE h (k+1)=(h.evs[k].scan.take j).foldl stepS (stepK (ze1 (spE h k) (0,h.evs[k].t)) h.evs[k]):=by rw [spE,foldTake _ _ hk,H.stepE,foldEnd _ _ qj];rfl
    exact ⟨hk,_,_,_,_,by simp only [e];exact eA⟩
 ·have qk:=geMap hc22 lk
  refine rn ?_;refine aw_rng4 h.ords.length (fun k s0 s1 s2 s3=>⟨[(88,iv k),(1,pZ b1),(2,pZ b2),(3,pZ b3),(86,ordsA h.ords),(87,iv (h.ords.map ordR).length)],[.row s0.v 1 3 (((spO h k) 0).map intR),.row s1.v 1 3 (((spO h k) 1).map intR),.row s2.v 1 3 (((spO h k) 2).map intR),.row s3.v 1 3 (((spO h k) 3).map intR),.box b3 154 [.v s0.v,.v s1.v,.v s2.v,.v s3.v],.box b2 154 [.v (.slice none 0 0),.v (.slice none 0 0),.v (.slice none 0 0),.v (.slice none 0 0)],.box b1 28 (zb0 h)],[]⟩) _ _ _ _ (by rw [show spO h 0=spE h k from (foldEnd stepE noR qk).symm];exact es) ?_
  intro k s0 s1 s2 s3 lk
  refine rn ?_;refine za0 rfl (fun hc89=> ?_) (fun hc89=> ?_)
  ·have hk:=ltMap hc89
   have rk:=ze2 (f:=ordR) hk
   have bd:=bdO la k lk
   have ls:=la.ordts h.ords[k] (List.getElem_mem hk)
   have le:=la.ords
   refine rn ?_;refine za2 rfl (zb1 rfl fun b9=> ?_)
   refine rn ?_;refine qq rfl rfl (za5 rfl rfl (by decide) (by decide)) ?_
   refine rn ?_;refine za2 rfl (zc3 rfl rfl (zf8 (za3.of_fun (ref11First _ _ _ (by have:=bd 2;omega)))) rfl ?_)
   rintro _ _ ⟨s',rfl,rfl⟩
   refine qq rfl rfl (za5 rfl rfl (by decide) (by decide)) ?_
   refine rn ?_;refine aw_rng4 h.ords[k].ts.length (fun j s0 s1 s2 s3=>⟨[(101,iv j),(1,pZ b1),(2,pZ b2),(3,pZ b3),(86,ordsA h.ords),(87,iv (h.ords.map ordR).length),(88,iv k),(99,zf0 h.ords[k].ts),(100,iv (h.ords[k].ts.map intR).length)],[.box b9 87 (ordR h.ords[k]),.row s0.v 1 3 ((((h.ords[k].ts.take j).foldl addT (ze1 (spO h k) (2,h.ords[k].o))) 0).map intR),.row s1.v 1 3 ((((h.ords[k].ts.take j).foldl addT (ze1 (spO h k) (2,h.ords[k].o))) 1).map intR),.row s2.v 1 3 ((((h.ords[k].ts.take j).foldl addT (ze1 (spO h k) (2,h.ords[k].o))) 2).map intR),.row s3.v 1 3 ((((h.ords[k].ts.take j).foldl addT (ze1 (spO h k) (2,h.ords[k].o))) 3).map intR),.box b3 154 [.v s0.v,.v s1.v,.v s2.v,.v s3.v],.box b2 154 [.v (.slice none 0 0),.v (.slice none 0 0),.v (.slice none 0 0),.v (.slice none 0 0)],.box b1 28 (zb0 h)],[]⟩) _ _ _ _ (es) ?_
   intro j s0 s1 s2 s3 lj
   refine rn ?_;refine za0 rfl (fun hc102=> ?_) (fun hc102=> ?_)
   ·have hj:=ltMap hc102
    have rj:=ze2 (f:=intR) hj
    have bj:=Bd.fold (c:=1) (l:=h.ords[k].ts.take j) (fun s _ L n h=>h.t s) (bd.f (2,h.ords[k].o))
    have bl:(h.ords[k].ts.take j).length≤3000:=by rw [List.length_take];omega
    refine rn ?_;refine qq rfl rfl (za5 rfl rfl (by decide) (by decide)) ?_
    refine rn ?_;refine za2 rfl (zc3 rfl rfl (zf8 (za3.of_fun (ref11First _ _ _ (by have:=bj 0;omega)))) rfl ?_)
    rintro _ _ ⟨s',rfl,rfl⟩
    refine qq rfl rfl (za5 rfl rfl (by decide) (by decide)) ?_
    refine rn ?_;have e:(h.ords[k].ts.take (j+1)).foldl addT (ze1 (spO h k) (2,h.ords[k].o))=addT ((h.ords[k].ts.take j).foldl addT (ze1 (spO h k) (2,h.ords[k].o))) h.ords[k].ts[j]:=foldTake _ _ hj
    exact ⟨hj,_,_,_,_,by simp only [e];exact eA⟩
   ·have qj:=geMap hc102 lj
    refine rn ?_;have e:spO h (k+1)=(h.ords[k].ts.take j).foldl addT (ze1 (spO h k) (2,h.ords[k].o)):=by rw [spO,foldTake _ _ hk,stepO,foldEnd _ _ qj];rfl
    exact ⟨hk,_,_,_,_,by simp only [e];exact eA⟩
  ·have qk:=geMap hc89 lk
   refine rn ?_;refine aw_rng4 h.mats.length (fun k s0 s1 s2 s3=>⟨[(115,iv k),(1,pZ b1),(2,pZ b2),(3,pZ b3),(113,matsA h.mats),(114,iv (h.mats.map matR).length)],[.row s0.v 1 3 (((spM h k) 0).map intR),.row s1.v 1 3 (((spM h k) 1).map intR),.row s2.v 1 3 (((spM h k) 2).map intR),.row s3.v 1 3 (((spM h k) 3).map intR),.box b3 154 [.v s0.v,.v s1.v,.v s2.v,.v s3.v],.box b2 154 [.v (.slice none 0 0),.v (.slice none 0 0),.v (.slice none 0 0),.v (.slice none 0 0)],.box b1 28 (zb0 h)],[]⟩) _ _ _ _ (by rw [show spM h 0=spO h k from (foldEnd stepO _ qk).symm];exact es) ?_
   intro k s0 s1 s2 s3 lk
   refine rn ?_;refine za0 rfl (fun hc116=> ?_) (fun hc116=> ?_)
   ·have hk:=ltMap hc116
    have rk:=ze2 (f:=matR) hk
    have bd:=bdM la k lk
    have ls:=la.matts h.mats[k] (List.getElem_mem hk)
    have le:=la.mats
    refine rn ?_;refine za2 rfl (zb1 rfl fun b13=> ?_)
    refine rn ?_;refine qq rfl rfl (za5 rfl rfl (by decide) (by decide)) ?_
    refine rn ?_;refine za2 rfl (zc3 rfl rfl (zf8 (za3.of_fun (ref11First _ _ _ (by have:=bd 3;omega)))) rfl ?_)
    rintro _ _ ⟨s',rfl,rfl⟩
    refine qq rfl rfl (za5 rfl rfl (by decide) (by decide)) ?_
    refine rn ?_;refine qq rfl rfl (za5 rfl rfl (by decide) (by decide)) ?_
    refine rn ?_;refine za2 rfl (zc3 rfl rfl (zf8 (za3.of_fun (ref11First _ _ _ (by have:=bd 2;omega)))) rfl ?_)
    rintro _ _ ⟨s',rfl,rfl⟩
    refine qq rfl rfl (za5 rfl rfl (by decide) (by decide)) ?_
    refine rn ?_;refine aw_rng4 h.mats[k].ts.length (fun j s0 s1 s2 s3=>⟨[(134,iv j),(1,pZ b1),(2,pZ b2),(3,pZ b3),(113,matsA h.mats),(114,iv (h.mats.map matR).length),(115,iv k),(132,zf0 h.mats[k].ts),(133,iv (h.mats[k].ts.map intR).length)],[.box b13 109 (matR h.mats[k]),.row s0.v 1 3 ((((h.mats[k].ts.take j).foldl addT (ze1 (ze1 (spM h k) (3,h.mats[k].p)) (2,h.mats[k].o))) 0).map intR),.row s1.v 1 3 ((((h.mats[k].ts.take j).foldl addT (ze1 (ze1 (spM h k) (3,h.mats[k].p)) (2,h.mats[k].o))) 1).map intR),.row s2.v 1 3 ((((h.mats[k].ts.take j).foldl addT (ze1 (ze1 (spM h k) (3,h.mats[k].p)) (2,h.mats[k].o))) 2).map intR),.row s3.v 1 3 ((((h.mats[k].ts.take j).foldl addT (ze1 (ze1 (spM h k) (3,h.mats[k].p)) (2,h.mats[k].o))) 3).map intR),.box b3 154 [.v s0.v,.v s1.v,.v s2.v,.v s3.v],.box b2 154 [.v (.slice none 0 0),.v (.slice none 0 0),.v (.slice none 0 0),.v (.slice none 0 0)],.box b1 28 (zb0 h)],[]⟩) _ _ _ _ (es) ?_
    intro j s0 s1 s2 s3 lj
    refine rn ?_;refine za0 rfl (fun hc135=> ?_) (fun hc135=> ?_)
    ·have hj:=ltMap hc135
     have rj:=ze2 (f:=intR) hj
     have bj:=Bd.fold (c:=1) (l:=h.mats[k].ts.take j) (fun s _ L n h=>h.t s) ((bd.f (3,h.mats[k].p)).f (2,h.mats[k].o))
     have bl:(h.mats[k].ts.take j).length≤3000:=by rw [List.length_take];omega
     refine rn ?_;refine qq rfl rfl (za5 rfl rfl (by decide) (by decide)) ?_
     refine rn ?_;refine za2 rfl (zc3 rfl rfl (zf8 (za3.of_fun (ref11First _ _ _ (by have:=bj 0;omega)))) rfl ?_)
     rintro _ _ ⟨s',rfl,rfl⟩
     refine qq rfl rfl (za5 rfl rfl (by decide) (by decide)) ?_
     refine rn ?_;have e:(h.mats[k].ts.take (j+1)).foldl addT (ze1 (ze1 (spM h k) (3,h.mats[k].p)) (2,h.mats[k].o))=addT ((h.mats[k].ts.take j).foldl addT (ze1 (ze1 (spM h k) (3,h.mats[k].p)) (2,h.mats[k].o))) h.mats[k].ts[j]:=foldTake _ _ hj
     exact ⟨hj,_,_,_,_,by simp only [e];exact eA⟩
    ·have qj:=geMap hc135 lj
     refine rn ?_;have e:spM h (k+1)=(h.mats[k].ts.take j).foldl addT (ze1 (ze1 (spM h k) (3,h.mats[k].p)) (2,h.mats[k].o)):=by rw [spM,foldTake _ _ hk,stepM,foldEnd _ _ qj];rfl
     exact ⟨hk,_,_,_,_,by simp only [e];exact eA⟩
   ·have qk:=geMap hc116 lk
    refine rn ?_;refine aw_rng4 h.wants.length (fun k s0 s1 s2 s3=>⟨[(148,iv k),(2,pZ b2),(3,pZ b3),(146,wansA h.wants),(147,iv (h.wants.map wanR).length)],[.row s0.v 1 3 (((spW h k) 0).map intR),.row s1.v 1 3 (((spW h k) 1).map intR),.row s2.v 1 3 (((spW h k) 2).map intR),.row s3.v 1 3 (((spW h k) 3).map intR),.box b3 154 [.v s0.v,.v s1.v,.v s2.v,.v s3.v],.box b2 154 [.v (.slice none 0 0),.v (.slice none 0 0),.v (.slice none 0 0),.v (.slice none 0 0)],.box b1 28 (zb0 h)],[]⟩) _ _ _ _ (by rw [show spW h 0=spM h k from (foldEnd stepM _ qk).symm];exact es) ?_
    intro k s0 s1 s2 s3 lk
    refine rn ?_;refine za0 rfl (fun hc149=> ?_) (fun hc149=> ?_)
    ·have hk:=ltMap hc149
     have rk:=ze2 (f:=wanR) hk
     have bd:=bdW la k lk
     have le:=la.wants
     refine rn ?_;refine za2 rfl (zb1 rfl fun b17=> ?_)
     refine rn ?_;refine qq rfl rfl (za5 rfl rfl (by decide) (by decide)) ?_
     refine rn ?_;refine za2 rfl (zc3 rfl rfl (zf8 (za3.of_fun (ref11First _ _ _ (by have:=bd 1;omega)))) rfl ?_)
     rintro _ _ ⟨s',rfl,rfl⟩
     refine qq rfl rfl (za5 rfl rfl (by decide) (by decide)) ?_
     refine rn ?_;have e:spW h (k+1)=stepW (spW h k) h.wants[k]:=foldTake _ _ hk
     exact ⟨hk,_,_,_,_,by simp only [e];exact eA⟩
    ·have qk:=geMap hc149 lk
     refine rn ?_;exact retq (.cons _ _ _ _ (.agg _ _ _ _ _ _ _ rfl inferInstance inferInstance inferInstance rfl) .nil) (.trans (vent_freeze_cell [] _) (.trans (vent_freeze_cell [_] _) (.trans (vent_freeze_cell [_,_] _) (.trans (vent_freeze_cell [_,_,_] _) (.drop [_,_,_] _ _))))) ⟨rfl,by rw [←show spW h k=spokenF h from foldEnd _ _ qk];rfl⟩
theorem refRight (h:Hist) (la:Lim 4611686018427387904 h):za6 Tryz.prog 65 [.agg (zb0 h)] [] (fun r h'=>h'= []∧r=bv (rightB h)):=by
 refine za1 Tryz.func65 rfl rfl rfl ?_
 refine rn ?_;refine za2 rfl (zb5 rfl rfl rfl fun b1=> ?_)
 refine rn ?_;refine qv rfl rfl (za4 rfl rfl (zc0 (refShaped h la) (Sbs.refl _))) ?_
 refine rn ?_;refine za0 rfl (fun hc10=> ?_) (fun hc10=> ?_)
 ·refine rn ?_;refine rq 1 ?_
  exact ⟨rfl,congrArg bv (by rw [right_s (by simpa using hc10)])⟩
 ·have hs:zd7 h=true:=by simpa using hc10
  have la3:=shaped_lim hs
  refine rn ?_;refine qv rfl rfl (za4 rfl rfl (zc0 (refSpoken h la3) (Sbs.refl _))) ?_
  refine rn ?_;refine aw_rng (4) (fun k:Nat=>∀j,j < k→okS h j=true) (fun k=> [(13,iv k)]) [(1,_),(12,_)] (fun j hj=>by omega) ?_
  intro k lk zk
  refine rn ?_;refine za0 rfl (fun hc14=> ?_) (fun hc14=> ?_)
  ·have hk:k < 4:=by simp at hc14;omega
   have r0:=sp_at h hk
   have r1:=many_at h hk
   have bl:=spoken_len la3 k
   refine rn ?_;refine za0 rfl (fun hc35=> ?_) (fun hc35=> ?_)
   ·refine rn ?_;refine rq 1 ?_
    exact ⟨rfl,congrArg bv (by rw [right_f hk];rw [okS,beq_eq_false_iff_ne.2 (by simp at hc35;omega),Bool.false_and])⟩
   ·have hlen:(spokenF h k).length=(nmK h k).length:=by simp at hc35;omega
    refine rn ?_;refine aw_rng ((spokenF h k).length) (fun i:Nat=>uptoF 0 (spokenF h k)=uptoF i ((spokenF h k).drop i)) (fun i=> [(38,iv i)]) [(1,_),(12,_),(13,_),(36,_),(37,_)] rfl ?_
    intro i li zi
    refine rn ?_;refine za0 rfl (fun hc39=> ?_) (fun hc39=> ?_)
    ·have hi:=ltMap hc39
     have ri:=ze2 (f:=intR) hi
     refine rn ?_;refine za0 rfl (fun hc45=> ?_) (fun hc45=> ?_)
     ·refine rn ?_;refine rq 1 ?_
      exact ⟨rfl,congrArg bv (by rw [right_f hk];rw [okS,upto_f hi zi (by simp at hc45;omega),Bool.and_false])⟩
     ·refine rn ?_;exact ⟨hi,upto_step hi zi (by simp at hc45;omega),eA⟩
    ·have qi:=geMap hc39 li
     refine rn ?_;exact ⟨hk,fun j hj=>(Nat.lt_or_ge j k).elim (zk j) (fun q=>by
      obtain rfl:j=k:=by omega
      rw [okS,hlen,upto_e qi zi];simp),eA⟩
  ·have qk:k=4:=by simp at hc14;omega
   subst qk
   refine rn ?_;refine rq 1 ?_
   exact ⟨rfl,congrArg bv (by rw [right_t hs zk])⟩
theorem refRightM (h:Hist) (la:Lim 4611686018427387904 h):za6 Tryz.prog 65 [.agg (zb0 h)] [] (fun r h'=>h'= []∧r=bv (mayB h)):=
 (refRight h la).mono fun _ _ q=>⟨q.1,by rw [q.2,rightB_eq]⟩
attribute [local irreducible] jsoup jch lsoup
theorem lw_hit {l:List Ev} {t x:Int} {j:Nat} (h:j < l.length) (hw:wroteQ t x l[j]=true):lastW l t x (j+1)=some (l[j].v,j):=by
 rw [lastW,List.getElem?_eq_getElem h];simp only [hw,if_true]
theorem lw_miss {l:List Ev} {t x:Int} {j:Nat} (h:j < l.length) (hw:wroteQ t x l[j]=false):lastW l t x (j+1)=lastW l t x j:=by
 rw [lastW,List.getElem?_eq_getElem h];simp [hw]
theorem row_pred {l:List Ev} {j:Nat} (h:j < l.length):(l.map evR)[(((j+1:Nat):Int) - 1).toNat]? =some (evR l[j]):=by
 rw [show (((j+1:Nat):Int) - 1).toNat=j by omega,List.getElem?_map,List.getElem?_eq_getElem h];rfl
theorem all_snoc {α:Type} {l:List α} {q:α→Bool} {k:Nat} (hk:k < l.length):(l.take (k+1)).all q=((l.take k).all q && q l[k]):=by
 rw [List.take_succ_eq_append_getElem hk,List.all_append,List.all_cons,List.all_nil,Bool.and_true]
theorem refSound (h:Hist) (la:Lim 4611686018427387904 h):za6 Tryz.prog 66 [.agg (zb0 h)] [] (fun r h'=>h'= []∧r=bv (soundB h)):=by
 refine za1 Tryz.func66 rfl rfl rfl ?_
 refine rn ?_;refine za2 rfl (zb5 rfl rfl rfl fun b1=> ?_)
 refine rn ?_;refine qv rfl rfl (za4 rfl rfl (zc0 (refRightM h la) (Sbs.refl _))) ?_
 refine rn ?_;refine za0 rfl (fun hc7=> ?_) (fun hc7=> ?_)
 ·have hm:mayB h=false:=by simpa using hc7
  refine rn ?_;refine rq 1 ?_
  exact ⟨rfl,congrArg bv (by rw [soundB,hm];rfl)⟩
 ·have hm:mayB h=true:=by simpa using hc7
  refine rn ?_;refine qv rfl rfl (za4 rfl rfl (zc0 (refFirst15 h ((may3000 hm).mono (by decide))) (Sbs.refl _))) ?_
  obtain ⟨bi,bj,be⟩:=brk_two (zf5 (placeR h) zf4)
  rw [be]
  refine rn ?_;refine za2 rfl (zb1 rfl fun b3=> ?_)
  refine rn ?_;refine rq 2 ?_
  exact ⟨rfl,congrArg bv (by rw [soundB,hm,show firstH h=zf5 (placeR h) zf4 from first_eq hm];cases zf5 (placeR h) zf4 <;> rfl)⟩
theorem refCheck16 (h:Hist) (la:Lim 4611686018427387904 h):za6 Tryz.prog 16 [.agg (zb0 h)] [] (fun r h'=>h'= []∧r=iv (zd0 h)):=by
 refine za1 Tryz.func16 rfl rfl rfl ?_
 refine rn ?_;refine za2 rfl (zb5 rfl rfl rfl fun b1=> ?_)
 refine rn ?_;refine qv rfl rfl (za4 rfl rfl (zc0 (refRightM h la) (Sbs.refl _))) ?_
 refine rn ?_;refine za0 rfl (fun hc5=> ?_) (fun hc5=> ?_)
 ·have hm:mayB h=false:=by simpa using hc5
  refine rn ?_;refine rq 1 ?_
  exact ⟨rfl,by rw [zd0,hm];rfl⟩
 ·have hm:mayB h=true:=by simpa using hc5
  refine rn ?_;refine qv rfl rfl (za4 rfl rfl (zc0 (refSound h la) (Sbs.refl _))) ?_
  refine rn ?_;refine za0 rfl (fun hc8=> ?_) (fun hc8=> ?_)
  ·refine rn ?_;refine rq 1 ?_
   exact ⟨rfl,by rw [zd0,hm,if_pos rfl,if_neg (by simpa using hc8)];rfl⟩
  ·refine rn ?_;refine rq 1 ?_
   exact ⟨rfl,by rw [zd0,hm,if_pos rfl,if_pos (by simpa using hc8)];rfl⟩
theorem refFinal16 (h:Hist) (la:h.evs.length≤1000000) (t x:Int):za6 Tryz.prog 75 [.agg (zb0 h),iv t,iv x] [] (fun r h'=>h'= []∧r= .tup [.agg (verR (verO (finW h.evs t x))),iv (atO (finW h.evs t x)),bv (finW h.evs t x).isSome]):=by
 refine za1 Tryz.func75 rfl rfl rfl ?_
 refine rn ?_;refine za2 rfl (zb5 rfl rfl rfl fun b3=> ?_)
 refine za2 rfl (zb1 rfl fun b6=> ?_)
 refine q1 ?_;refine q1 ?_;refine zd5 (zd8 ?_)
 refine zb4 ?_;refine zb4 (za9 ?_)
 refine q1 ?_;refine q1 ?_;refine q1 ?_;refine qq rfl rfl (qr_ari rfl rfl rfl (by rw [List.length_map];omega)) ?_
 refine rn ?_;refine aw_while (fun k:Nat=>k≤h.evs.length∧lastW h.evs t x h.evs.length=lastW h.evs t x k) (fun k=>⟨[(9,iv ((k:Int) - 1)),(1,iv t),(2,iv x),(3,pZ b3),(6,pZ b6),(7,iv 0),(8,bv false)],.box b6 57 [iv 0,iv 0]:: .box b3 28 (zb0 h):: [],[]⟩) (fun k=>k) h.evs.length ⟨Nat.le_refl _,rfl⟩ (by rw [List.length_map];exact es) ?_
 rintro k ⟨lk,zk⟩
 refine rn ?_;refine za0 rfl (fun hc16=> ?_) (fun hc16=> ?_)
 ·obtain ⟨j,rfl⟩:∃j,k=j+1:=⟨k - 1,by have:=of_decide_eq_true hc16;omega⟩
  have hj:j < h.evs.length:=by omega
  refine zf2 ?_;refine zd8 ?_;refine zb4 ?_;refine aw_block ?_;refine zb4 (za9 ?_)
  refine q1 ?_;refine q1 ?_;refine q1 ?_;refine qq rfl rfl (qr_index_int rfl rfl (by omega) (row_pred hj)) ?_
  refine rn ?_;refine za2 rfl (zb1 rfl fun b10=> ?_)
  refine rn ?_;refine za8 (fun hg5_3=> ?_) (fun hg5_3=> ?_)
  ·refine rn ?_;refine za8 (fun hg5_9=> ?_) (fun hg5_9=> ?_)
   ·refine rn ?_;refine za0 rfl (fun hc38=> ?_) (fun hc38=> ?_)
    ·have hw:wroteQ t x h.evs[j]=true:=by rw [wroteQ];first|(rw [hg5_3,hg5_9,hc38];rfl)|(rw [hg5_3,hg5_9];rfl)|(rw [hg5_3];rfl)
     refine rn ?_;exact retq (.cons _ _ _ _ (.agg _ _ _ _ _ _ _ rfl inferInstance inferInstance inferInstance rfl) (.cons _ _ _ _ (.tmp _ _ rfl) (.cons _ _ _ _ (.tmp _ _ rfl) .nil))) (.drop [_,_,_] _ _) ⟨rfl,by rw [finW,zk,lw_hit hj hw];simp only [verO,atO];rw [show (((j+1:Nat):Int) - 1)=(j:Int) by omega];rfl⟩
    ·have hw:wroteQ t x h.evs[j]=false:=by rw [wroteQ];first|(rw [hg5_3,hg5_9,hc38];rfl)|(rw [hg5_3,hg5_9];rfl)|(rw [hg5_3];rfl)
     refine zf2 ?_;refine inBlk_n ?_;refine zd8 ?_;refine za9 ?_;refine q1 ?_;refine qq rfl rfl (qr_ari rfl rfl rfl (by omega)) ?_
     refine rn ?_;exact ⟨j,⟨by omega,by rw [zk,lw_miss hj hw]⟩,by rw [show (((j+1:Nat):Int) - 1 - 1)=(j:Int) - 1 by omega];exact eA,by omega⟩
   ·refine rn ?_;refine aw_cf rfl ?_;have hw:wroteQ t x h.evs[j]=false:=by rw [wroteQ];first|(rw [hg5_3,hg5_9,hc38];rfl)|(rw [hg5_3,hg5_9];rfl)|(rw [hg5_3];rfl)
    refine zf2 ?_;refine inBlk_n ?_;refine zd8 ?_;refine za9 ?_;refine q1 ?_;refine qq rfl rfl (qr_ari rfl rfl rfl (by omega)) ?_
    refine rn ?_;exact ⟨j,⟨by omega,by rw [zk,lw_miss hj hw]⟩,by rw [show (((j+1:Nat):Int) - 1 - 1)=(j:Int) - 1 by omega];exact eA,by omega⟩
  ·refine rn ?_;refine aw_cf rfl ?_;have hw:wroteQ t x h.evs[j]=false:=by rw [wroteQ];first|(rw [hg5_3,hg5_9,hc38];rfl)|(rw [hg5_3,hg5_9];rfl)|(rw [hg5_3];rfl)
   refine zf2 ?_;refine inBlk_n ?_;refine zd8 ?_;refine za9 ?_;refine q1 ?_;refine qq rfl rfl (qr_ari rfl rfl rfl (by omega)) ?_
   refine rn ?_;exact ⟨j,⟨by omega,by rw [zk,lw_miss hj hw]⟩,by rw [show (((j+1:Nat):Int) - 1 - 1)=(j:Int) - 1 by omega];exact eA,by omega⟩
 ·have qk:k=0:=by have:=of_decide_eq_false hc16;omega
  subst qk
  refine aw_exit ?_;refine thn_e ?_;refine thn_e ?_;refine inBlk_hit ?_;refine zd8 ?_;refine zb4 (za9 ?_)
  refine qq rfl rfl (qr_build (out:= [iv 0,iv 0]) rfl (by rfl)) ?_
  refine rn ?_;exact retq (.cons _ _ _ _ (.agg _ _ _ _ _ _ _ rfl inferInstance inferInstance inferInstance rfl) (.cons _ _ _ _ (.tmp _ _ rfl) (.cons _ _ _ _ (.tmp _ _ rfl) .nil))) (.drop [_,_] _ _) ⟨rfl,by rw [finW,zk];rfl⟩
theorem insR_hit {h:Hist} {x:Int} {k:Nat} (hk:k < h.ords.length) (hx:(h.ords[k].o==x)=true) (hz:((h.ords.take k).all fun o:Ord=> !(o.o==x))=true):insR h x=h.ords[k].ts:=by
 have:h.ords.find? (fun o=>o.o==x)=some h.ords[k]:=by
  rw [List.find?_eq_some_iff_getElem]
  exact ⟨hx,k,hk,rfl,fun j hj=>by have:=List.all_eq_true.1 hz h.ords[j] (mem_take_lt (by omega) hj);exact this⟩
 rw [insR,this]
theorem insR_no {h:Hist} {x:Int} (hz:(h.ords.all fun o:Ord=> !(o.o==x))=true):insR h x=writersR h x:=by
 have:h.ords.find? (fun o=>o.o==x)=none:=by
  rw [List.find?_eq_none];intro s hs q
  have:=List.all_eq_true.1 hz s hs
  rw [q] at this;cases this
 rw [insR,this]
theorem refInst16 (h:Hist) (la:Lim 1000000 h) (x:Int):za6 Tryz.prog 74 [.agg (zb0 h),iv x] [] (fun r h'=>h'= []∧r=zf0 (insR h x)):=by
 refine za1 Tryz.func74 rfl rfl rfl ?_
 have bo:=la.ords
 refine rn ?_;refine za2 rfl (zb5 rfl rfl rfl fun b2=> ?_)
 refine rn ?_;refine aw_rng (h.ords.length) (fun k:Nat=>((h.ords.take k).all fun o:Ord=> !(o.o==x))=true) (fun k=> [(10,iv k)]) [(1,_),(2,_),(8,_),(9,_)] rfl ?_
 intro k lk zk
 refine rn ?_;refine za0 rfl (fun hc11=> ?_) (fun hc11=> ?_)
 ·have hk:=ltMap hc11
  have rk:=ze2 (f:=ordR) hk
  refine rn ?_;refine za2 rfl (zb1 rfl fun b6=> ?_)
  refine rn ?_;refine za0 rfl (fun hc17=> ?_) (fun hc17=> ?_)
  ·refine rn ?_;refine rq 2 ?_
   exact ⟨rfl,by rw [insR_hit hk hc17 zk];rfl⟩
  ·refine rn ?_;exact ⟨hk,by rw [all_snoc hk,zk,hc17];rfl,eA⟩
 ·have qk:=geMap hc11 lk
  rw [qk,List.take_length] at zk
  refine rn ?_;refine qv rfl rfl (za4 rfl rfl (zc0 (refWriters h x la) (Sbs.refl _))) ?_
  refine rn ?_;refine rq 1 ?_
  exact ⟨rfl,by rw [insR_no zk];rfl⟩
def wlM (l:List Ev):Nat→List ((Int×Int)×Int)
 |0=> []
 | k+1=>match l[k]? with
   |some e=>if (e.kind==2)=true then putT (e.t,e.o) (k:Int) (wlM l k) else wlM l k
   |none=>wlM l k
theorem wlM_t {l:List Ev} {k:Nat} (hk:k < l.length) (hw:(l[k].kind==2)=true):wlM l (k+1)=putT (l[k].t,l[k].o) (k:Int) (wlM l k):=by
 rw [wlM,List.getElem?_eq_getElem hk];simp only [hw,if_true]
theorem wlM_f {l:List Ev} {k:Nat} (hk:k < l.length) (hw:(l[k].kind==2)=false):wlM l (k+1)=wlM l k:=by
 rw [wlM,List.getElem?_eq_getElem hk];simp only [hw];rfl
theorem wlM_get (l:List Ev) (t x:Int):∀k,k≤l.length→(getT (t,x) (wlM l k)).getD 0=atO (lastW l t x k)
 |0,_=>rfl
 | k + 1,hk=>by
   have ih:=wlM_get l t x k (by omega)
   have hk':k < l.length:=hk
   cases hw:l[k].kind==2 with
   | false=>
     have:wroteQ t x l[k]=false:=by rw [wroteQ,hw];rfl
     rw [wlM_f hk' hw,lw_miss hk' this,ih]
   | true=>
     rw [wlM_t hk' hw,get_put]
     cases hq:wroteQ t x l[k] with
     | true=>
       rw [lw_hit hk' hq,if_pos]
       ·rfl
       ·simp only [wroteQ,Bool.and_eq_true,beq_iff_eq] at hq
        rw [hq.1.2,hq.2]
     | false=>
       rw [lw_miss hk' hq,if_neg,ih]
       intro e
       rw [Prod.mk.injEq] at e
       simp [wroteQ,hw,e.1,e.2] at hq
theorem wlM_last (h:Hist) (t x:Int):(getT (t,x) (wlM h.evs h.evs.length)).getD 0=lastAt h t x:=wlM_get _ _ _ _ (Nat.le_refl _)
abbrev instsA (h:Hist):AV:= .list false 1 (((upR h.os.length).map (insP h)).map rowL)
abbrev pastC (h:Hist) (rm:Nat):List AV:= [instsA h,mpv rm]
abbrev lastR (h:Hist) (rm:Nat):Res:= .map rm (encM int2K (mapA iv (wlM h.evs h.evs.length)))
theorem insts_at (h:Hist) {x:Int} (h0:0≤x) (h1:x < h.os.length):(((upR h.os.length).map (insP h)).map rowL)[x.toNat]? =some (rowL (insP h x)):=by
 have hx:(upR h.os.length)[x.toNat]? =some x:=by
  rw [upR,List.getElem?_map,List.getElem?_range (by omega)];simp [Int.toNat_of_nonneg h0]
 rw [List.getElem?_map,List.getElem?_map,hx];rfl
theorem ixInsW (h:Hist) (la:Lim 4611686018427387904 h) (hc:zd0 h=0) (x:Int) (h0:0≤x) (h1:x < h.os.length):za6 Tryz.prog 101 [.agg (zb0 h),iv x] (.glob 2 156 zc1:: .glob 4 305 zb6:: .glob 5 308 zb2:: .glob 3 246 ze0:: []) (fun r h'=>h'= .glob 2 156 zc1:: .glob 4 305 zb6:: .glob 5 308 zb2:: .glob 3 246 ze0:: []∧r= .tup [zf0 (insP h x),iv 0]):=(ixInst h la x).mono fun _ _ q=>⟨q.1,by rw [q.2,ask_y hc ⟨h0,h1⟩];rfl⟩
set_option maxHeartbeats 4000000 in
theorem wwOf (h:Hist) (la:Lim 4611686018427387904 h):za6 Tryz.prog 67 [.agg (zb0 h)] (.glob 2 156 zc1:: .glob 4 305 zb6:: .glob 5 308 zb2:: .glob 3 246 ze0:: []) (fun r h'=>(zd0 h=0∧∃rm,h'=lastR h rm:: .glob 2 156 zc1:: .glob 4 305 zb6:: .glob 5 308 zb2:: .glob 3 246 ze0:: []∧r= .tup [.agg (pastC h rm),iv 0])∨(zd0 h≠0∧h'= .glob 2 156 zc1:: .glob 4 305 zb6:: .glob 5 308 zb2:: .glob 3 246 ze0:: []∧r= .tup [.agg [.v (.slice none 0 0),nmp],iv (zd0 h)])):=by
 refine za1 Tryz.func67 rfl rfl rfl ?_
 refine rn ?_;refine za2 rfl (zb5 rfl rfl rfl fun b1=> ?_)
 refine za2 rfl (zb1 rfl fun b2=> ?_)
 refine rn ?_;refine qv rfl rfl (za4 rfl rfl (za3.qt (za3.of_fun (ixCheck h la)) ((pt2 _ _ _ _).trans (.cons _ ((pt2 _ _ _ _).trans (.cons _ ((pt2 _ _ _ _).trans (.cons _ (pt2 _ _ _ _))))))))) ?_
 refine rn ?_;refine za0 rfl (fun hc14=> ?_) (fun hc14=> ?_)
 ·have hc:=nzT hc14
  refine zb4 (za9 ?_)
  refine qq rfl rfl (qr_build (out:= [.v (.slice none 0 0),nmp]) rfl (by rfl)) ?_
  refine rn ?_;exact retq (.cons _ _ _ _ (.agg _ _ _ _ _ _ _ rfl inferInstance inferInstance inferInstance rfl) (.cons _ _ _ _ (.tmp _ _ rfl) .nil)) (.drop [_,_] _ _) (.inr ⟨hc,rfl,rfl⟩)
 ·have hc:=nzF hc14
  have lA:=chk_lim hc
  have lO:=lA.os
  have lE:=lA.evs
  refine rn ?_;refine za2 rfl (oe_makeMap (enc:=int2K) rfl fun b17=> ?_)
  refine qq rfl rfl (qr_build (out:= [.v (.slice none 0 0),mpv b17]) rfl (by rfl)) ?_
  refine za2 rfl (zb1 rfl fun b5=> ?_)
  refine rn ?_;refine aw_rng1 h.os.length (fun k s=>⟨[(22,iv k),(1,pZ b1),(2,pZ b2),(5,pZ b5),(21,iv (h.os.map strR).length)],.row s.v 1 29 (((upR k).map (insP h)).map rowL):: .box b5 92 [.v s.v,mpv b17]:: .map b17 (encM int2K (mapA iv (wlM h.evs 0))):: .box b2 92 [.v (.slice none 0 0),nmp]:: .box b1 28 (zb0 h):: .glob 2 156 zc1:: .glob 4 305 zb6:: .glob 5 308 zb2:: .glob 3 246 ze0:: [],[]⟩) ⟨none,0,0⟩ (zc5 (ze5 1 29) es) ?_
  intro k s lk
  refine rn ?_;refine za0 rfl (fun hc23=> ?_) (fun hc23=> ?_)
  ·have hk:k < h.os.length:=by have q:=of_decide_eq_true hc23;rw [List.length_map] at q;omega
   refine rn ?_;refine qv rfl rfl (za4 rfl rfl (za3.qt (za3.of_fun (ixInsW h la hc k (by omega) (by omega))) ((pt5 _ _ _ _ _ _ _).trans (.cons _ ((pt5 _ _ _ _ _ _ _).trans (.cons _ ((pt5 _ _ _ _ _ _ _).trans (.cons _ (pt5 _ _ _ _ _ _ _))))))))) ?_
   refine rn ?_;refine qv rfl rfl (zc2 rfl rfl) ?_
   refine za2 rfl (zb7 rfl rfl (by simp only [List.length_map,upR,List.length_range,List.length_cons,List.length_nil];omega) rfl (fun s35=> ?_) (fun r hr=>by rw [List.mem_singleton.1 hr];rfl))
   refine zc7 s35 fun sv hsv=> ?_
   subst hsv
   refine rn ?_;exact ⟨hk,sv,by rw [upR_s,List.map_append,List.map_append];exact eA⟩
  ·have qk:k=h.os.length:=by have q:=of_decide_eq_false hc23;rw [List.length_map] at q;omega
   refine rn ?_;refine aw_range h.evs.length (fun _=>True) (fun j=>⟨[(41,iv j),(2,pZ b2),(5,pZ b5),(39,evsA h.evs),(40,iv (h.evs.map evR).length)],.row s.v 1 29 (((upR h.os.length).map (insP h)).map rowL):: .box b5 92 [.v s.v,mpv b17]:: .map b17 (encM int2K (mapA iv (wlM h.evs j))):: .box b2 92 [.v (.slice none 0 0),nmp]:: .box b1 28 (zb0 h):: .glob 2 156 zc1:: .glob 4 305 zb6:: .glob 5 308 zb2:: .glob 3 246 ze0:: [],[]⟩) trivial (by rw [←qk];exact es) ?_
   intro j lj _
   refine rn ?_;refine za0 rfl (fun hc42=> ?_) (fun hc42=> ?_)
   ·have hj:=ltMap hc42
    have rj:=ze2 (f:=evR) hj
    refine rn ?_;refine za2 rfl (zb1 rfl fun b10=> ?_)
    refine rn ?_;refine za0 rfl (fun hc48=> ?_) (fun hc48=> ?_)
    ·have hw:(h.evs[j].kind==2)=true:=by simpa using hc48
     refine za9 ?_;refine q1 ?_;refine q1 ?_;refine q1 ?_;refine q1 ?_;refine q1 ?_;refine q1 ?_;refine qq rfl rfl (qr_buildArr (out:= [iv h.evs[j].t,iv h.evs[j].o]) rfl (by rfl)) ?_
     refine rn ?_;refine za2 rfl (oe_mapUpdT (g:=iv) (enc:=int2K) (k:=(h.evs[j].t,h.evs[j].o)) (v:=(j:Int)) rfl rfl rfl ?_)
     refine rn ?_;first|exact ⟨hj,trivial,by rw [wlM_t hj hw];exact eA⟩|exact ⟨hj,trivial,by rw [wlM_f hj hw];exact eA⟩
    ·have hw:(h.evs[j].kind==2)=false:=by simpa using hc48
     refine rn ?_;first|exact ⟨hj,trivial,by rw [wlM_t hj hw];exact eA⟩|exact ⟨hj,trivial,by rw [wlM_f hj hw];exact eA⟩
   ·have qj:=geMap hc42 lj
    refine aw_exit ?_;refine thn_e ?_;refine thn_e ?_;refine inBlk_hit ?_;refine zd8 ?_;refine zb4 (za9 ?_)
    refine aops_ent (ent_freeze_box [] [mpv b17]) ?_
    refine rn ?_;exact retq (.cons _ _ _ _ (.agg _ _ _ _ _ _ _ rfl inferInstance inferInstance inferInstance rfl) (.cons _ _ _ _ (.tmp _ _ rfl) .nil)) (.trans (.perm (.cons _ ((pt1 _ _ _).trans (.cons _ (pt1 _ _ _)))) _) (.drop [_,_,_] _ _)) (.inl ⟨hc,b17,by rw [qj],rfl⟩)
theorem wwConf0 (h:Hist) (rm:Nat) (x:Int) (W:List Res):za6 Tryz.prog 68 [.agg (pastC h rm),iv x] W (fun r h'=>∃bo bp,h'= .box bo 3 [iv x]:: .box bp 92 (pastC h rm)::W∧r= .fn (.func 125) [] [pZ bp,pZ bo]):=by
 refine za1 Tryz.func68 rfl rfl rfl ?_
 refine rn ?_;refine za2 rfl (zb5 rfl rfl rfl fun b2=> ?_)
 refine za2 rfl (zb5 rfl rfl rfl fun b3=> ?_)
 refine rn ?_;exact retT rfl (.refl _ _) ⟨_,_,rfl,rfl⟩
theorem wwAt (h:Hist) (rm:Nat) (x t:Int) (bp bo:Nat) (W:List Res):za6 Tryz.prog 126 [iv t,pZ bp,pZ bo] (.box bo 3 [iv x]:: .box bp 92 (pastC h rm)::lastR h rm::W) (fun r h'=>h'= .box bo 3 [iv x]:: .box bp 92 (pastC h rm)::lastR h rm::W∧r=iv (lastAt h t x)):=by
 refine za1 Tryz.func126 rfl rfl rfl ?_
 refine zb4 (za9 ?_)
 refine q1 ?_;refine zd5 (zd8 ?_)
 refine zb4 (za9 ?_)
 refine q1 ?_;refine q1 ?_;refine q1 ?_;refine q1 ?_;refine qq rfl rfl (qr_buildArr (out:= [iv t,iv x]) rfl (by rfl)) ?_
 refine qq rfl rfl (qr_lookT (enc:=int2K) (k:=(t,x)) 0 rfl rfl) ?_
 refine rn ?_;refine rq 0 ?_
 exact ⟨rfl,congrArg iv (wlM_last h t x)⟩
theorem max_pred (n:Nat):max ((n:Int) - 1) 0=((n - 1:Nat):Int):=by omega
theorem wwL_len (h:Hist) (x:Int) (l:List Int):(wwL h x l).length=l.length - 1:=by simp [wwL]
theorem wwL_at {h:Hist} {x:Int} {l:List Int} {k:Nat} (hk:k+1 < l.length):(wwL h x l)[k]'(by rw [wwL_len];omega)=wwC h x l[k] l[k+1]:=by
 simp only [wwL,List.getElem_map,List.getElem_range,wwN]
 rw [List.getElem?_eq_getElem (by omega),List.getElem?_eq_getElem hk];rfl
theorem wwL_split {h:Hist} {x:Int} {l:List Int} {k:Nat} (hk:k+1 < l.length):wwL h x l=(wwL h x l).take k++wwC h x l[k] l[k+1]::(wwL h x l).drop (k+1):=by
 rw [←wwL_at hk,←List.drop_eq_getElem_cons,List.take_append_drop]
theorem wwL_take {h:Hist} {x:Int} {l:List Int} {k:Nat} (hk:k+1 < l.length):(wwL h x l).take (k+1)=(wwL h x l).take k++ [wwC h x l[k] l[k+1]]:=by
 rw [List.take_succ_eq_append_getElem (by rw [wwL_len];omega),wwL_at hk]
theorem ins_le {h:Hist} (hc:zd0 h=0) {x:Int} (h0:0≤x) (h1:x < h.os.length):(insP h x).length≤3000:=by
 rw [(ins_writers (checkI_0.1 hc) h0 h1).2.1]
 exact Nat.le_trans (writers_le h.evs x) (chk_lim hc).evs
set_option maxHeartbeats 4000000 in
theorem wwTell {σ:Type} (h:Hist) (x:Int) (h0:0≤x) (h1:x < h.os.length) (hb:(insP h x).length≤3000) (y:AV) (bo bp rm:Nat) (I:List Conf→σ→List Res) (x0:σ) (hy:∀pre d rest (s:σ),wwP h x=pre++d::rest→za3 Tryz.prog y [.agg (zb3 d)] (.box bo 3 [iv x]:: .box bp 92 (pastC h rm)::lastR h rm::I pre s) (fun r h'=>∃s',r=bv true∧h'= .box bo 3 [iv x]:: .box bp 92 (pastC h rm)::lastR h rm::I (pre++ [d]) s')):za6 Tryz.prog 125 [y,pZ bp,pZ bo] (.box bo 3 [iv x]:: .box bp 92 (pastC h rm)::lastR h rm::I [] x0) (fun r h'=>∃z,h'= .box bo 3 [iv x]:: .box bp 92 (pastC h rm)::lastR h rm::I (wwP h x) z):=by
 refine za1 Tryz.func125 rfl rfl rfl ?_
 refine zb4 (za9 ?_)
 refine q1 ?_;refine q1 ?_;refine q1 ?_;refine qq rfl rfl (qr_index_int rfl rfl h0 (insts_at h h0 h1)) ?_
 refine q1 ?_;refine q1 ?_;refine zd5 (zd8 ?_)
 refine zb4 (za9 ?_)
 refine q1 ?_;refine q1 ?_;refine zd5 (zd8 ?_)
 refine zb4 (za9 ?_)
 refine q1 ?_;refine q1 ?_;refine qq rfl rfl (qr_ari rfl rfl rfl (by rw [List.length_map];omega)) ?_
 refine qq rfl rfl (qr_as (qr_max2 rfl rfl) (show AV.v (.int .i64 (max ((((insP h x).map intR).length:Nat) - 1:Int) 0))=iv (((insP h x).length - 1):Nat) from congrArg iv (by rw [List.length_map,max_pred]))) ?_
 refine rn ?_;refine aw_rngX ((insP h x).length - 1) (fun _ _=>True) (fun k z=>⟨[(17,iv k),(0,y),(2,pZ bo),(4,zf0 (insP h x)),(5,.fn (.func 126) [] [pZ bp,pZ bo]),(16,iv (((insP h x).length - 1):Nat))],.box bo 3 [iv x]:: .box bp 92 (pastC h rm)::lastR h rm::I ((wwP h x).take k) z,[]⟩) x0 trivial es ?_
 intro k z lk _
 refine rn ?_;refine za0 rfl (fun hc18=> ?_) (fun hc18=> ?_)
 ·have hk:k < ((insP h x).length - 1):=by have q:=of_decide_eq_true hc18;omega
  have hk1:k+1 < (insP h x).length:=by omega
  have rk:((insP h x).map intR)[k]? =some (intR ((insP h x)[k]'(by omega))):=ze2 (by omega)
  have rk1:((insP h x).map intR)[k+1]? =some (intR (insP h x)[k+1]):=ze2 hk1
  have hkl:k < ((insP h x).map intR).length:=by rw [List.length_map];omega
  have hkl1:k+1 < ((insP h x).map intR).length:=by rw [List.length_map];omega
  refine rn ?_;refine zd2 25 rfl ?_
  refine dq rfl rfl qrA ?_;refine dq rfl rfl qrA ?_;refine dq rfl rfl qrA ?_;refine dq rfl rfl (qr_index_list rfl rfl rk) ?_
  refine dq rfl rfl qrA ?_;refine dq rfl rfl qrA ?_;refine dq rfl rfl qrA ?_;refine dq rfl rfl (qr_ari rfl rfl rfl (by omega)) ?_
  refine dq rfl rfl (qr_index_list rfl rfl rk1) ?_
  refine dq rfl rfl qrA ?_;refine dq rfl rfl qrA ?_;refine dq rfl rfl qrA ?_;refine dq rfl rfl qrA ?_;refine dq rfl rfl (qr_index_list rfl rfl rk) ?_
  refine rn ?_;refine dv rfl rfl (by exact za4 rfl rfl (za3.of_acall (fs:= []) (cs:= [pZ bp,pZ bo]) (wwAt h rm x ((insP h x)[k]'(by omega)) bp bo (I ((wwP h x).take k) z)))) ?_
  refine dq rfl rfl qrA ?_;refine dq rfl rfl qrA ?_;refine dq rfl rfl qrA ?_;refine dq rfl rfl (qr_ari rfl rfl rfl (by omega)) ?_
  refine dq rfl rfl (qr_index_list rfl rfl rk1) ?_
  refine rn ?_;refine dv rfl rfl (by exact za4 rfl rfl (za3.of_acall (fs:= []) (cs:= [pZ bp,pZ bo]) (wwAt h rm x (insP h x)[k+1] bp bo (I ((wwP h x).take k) z)))) ?_
  refine dq rfl rfl qrA ?_;refine dq rfl rfl (qr_build (out:=zb3 (wwC h x ((insP h x)[k]'(by omega)) (insP h x)[k+1])) rfl (by rfl)) ?_
  refine rn ?_;refine za2 rfl (zc3 rfl rfl (hy ((wwP h x).take k) (wwC h x ((insP h x)[k]'(by omega)) (insP h x)[k+1]) _ z (wwL_split hk1)) rfl ?_)
  rintro _ _ ⟨z',rfl,rfl⟩
  refine rn ?_;refine za0 rfl (fun hc46=> ?_) (fun hc46=> ?_)
  ·exact absurd hc46 (by decide)
  ·refine zf2 ?_;refine inBlk_n ?_;refine zd8 ?_;refine za9 ?_;refine qq rfl rfl (qr_ari rfl rfl rfl (by omega)) ?_
   refine rn ?_;exact ⟨hk,z',trivial,by rw [show (wwP h x).take (k+1)=(wwP h x).take k++ [_] from wwL_take hk1];exact eA⟩
 ·have qk:k=((insP h x).length - 1):=by have q:=of_decide_eq_false hc18;omega
  refine rn ?_;exact retq_n .nil (.refl _ _) ⟨z,by rw [qk,List.take_of_length_le (by rw [wwP,wwL_len];exact Nat.le_refl _)]⟩
set_option maxHeartbeats 4000000 in
theorem appSeqConf {μ:Type} (f:FuncId) [Go.Ab.Enters Tryz.prog f] (cs:List AV) (w1 w2 w3:Res)  (K:μ→Prop) (m0:μ) (L:List (Conf)) (hL:L.length≤1000000) (W:List Res) (hseq:∀(y:AV) (I:List (Conf)→SV→List Res) (x0:SV),(∀pre d rest (s:SV) m,L=pre++d::rest→K m→za3 Tryz.prog y [.agg (zb3 d)] (w1::w2::w3::I pre s) (fun r h'=>∃s':SV,r=bv true∧h'=w1::w2::w3::I (pre++ [d]) s'))→za6 Tryz.prog f (y::cs) (w1::w2::w3::I [] x0) (fun _ h'=>∃x m,K m∧h'=w1::w2::w3::I L x)):za6 Tryz.prog 127 [.v (.slice none 0 0),.fn (.func f) [] cs] (w1::w2::w3::W) (fun r h'=>∃(s:SV) (m:μ),K m∧h'= .row s.v 7 41 (L.map zb3)::w1::w2::w3::W∧r= .v s.v):=by
 refine za1 Tryz.func127 rfl rfl rfl ?_
 refine rn ?_;refine za2 rfl (zb5 rfl rfl rfl fun b2=> ?_)
 refine rn ?_;refine aw_ent (s':=⟨[(6,.fn (.func f) [] cs),(2,pZ b2)],w1::w2::w3:: .box b2 35 [.v (⟨none,0,0⟩:SV).v]:: .row (⟨none,0,0⟩:SV).v 7 41 ((([]:List (Conf))).map zb3)::W,[]⟩) (zc5 (zc5 (ze5 7 41) (ent_perm ((pt2 _ _ _ _).trans (.cons _ ((pt2 _ _ _ _).trans (.cons _ ((pt2 _ _ _ _).trans (.cons _ (pt1 _ _ _))))))))) es) ?_
 refine aw_rf (fun pend h''=>pend=none∧∃(s:SV) (m:μ),K m∧h''=w1::w2::w3:: .box b2 35 [.v s.v]:: .row s.v 7 41 ((L).map zb3)::W) rfl (fun fn l q lp hlp=> ?_) (fun q h'' hK=> ?_) (fun q h'' c hK=> ?_)
 ·suffices hy:∀pre d rest (s:SV) m,L=pre++d::rest→K m→za3 Tryz.prog (yv l) [.agg (zb3 d)] (w1::w2::w3::lp .ready none:: .defs q:: .box b2 35 [.v s.v]:: .row s.v 7 41 ((pre).map zb3)::W) (fun r h'=>∃s':SV,r=bv true∧h'=w1::w2::w3::lp .ready none:: .defs q:: .box b2 35 [.v s'.v]:: .row s'.v 7 41 (((pre++ [d])).map zb3)::W) by
   refine za6.mono (za6.perm ((pt2 _ _ _ _).trans (.cons _ ((pt2 _ _ _ _).trans (.cons _ (pt2 _ _ _ _))))) (hseq (yv l) (fun pre (s:SV)=>lp .ready none:: .defs q:: .box b2 35 [.v s.v]:: .row s.v 7 41 ((pre).map zb3)::W) ⟨none,0,0⟩ hy)) ?_
   rintro _ _ ⟨s,m,hK,rfl⟩
   exact ⟨none,.ready,_,((pt3 _ _ _ _ _).trans (.cons _ (pt3 _ _ _ _ _))),by simp,rfl,s,m,hK,rfl⟩
  intro pre d rest s m hpre hK
  have hlen:pre.length < L.length:=by rw [hpre,List.length_append,List.length_cons];omega
  refine za3.perm (pt3 _ _ _ _ _) (za3.ventE ?_)
  refine fcall_yl2 hlp rfl rfl ?_
  refine rn ?_;refine za2 rfl (zb1 rfl fun b5=> ?_)
  refine rn ?_;refine ⟨[(5,pZ b5),(2,pZ b2)],.box b5 41 (zb3 d)::w1::w2::w3:: .defs q:: .box b2 35 [.v s.v]:: .row s.v 7 41 ((pre).map zb3)::W,zc5 (ent_perm (pt1 _ _ _)) es,?_⟩
  refine rn ?_;refine qv rfl rfl (zc2 rfl rfl) ?_
  refine za2 rfl (zb7 rfl rfl (by simp only [List.length_map,List.length_cons,List.length_nil];have:=hlen;omega) rfl (fun s11=> ?_) (ze7 [d]))
  refine zc7 s11 fun sv hsv=> ?_
  subst hsv
  refine rn ?_;exact round_n (.refl _) ⟨_,_,.trans (.perm ((pt1 _ _ _).trans (.cons _ ((pt1 _ _ _).trans (.cons _ ((pt1 _ _ _).trans (.cons _ (pt1 _ _ _))))))) _) (.drop [_] _ _),sv,rfl,by rw [List.map_append];rfl⟩
 ·obtain ⟨_,s,m,hK,rfl⟩:=hK
  refine rn ?_;exact retqd (.refl _) (.cons _ _ _ _ (.tmp _ _ rfl) .nil) (.trans (.perm ((pt3 _ _ _ _ _).trans (.cons _ (pt3 _ _ _ _ _))) _) (.drop1 _ _ _)) ⟨s,m,hK,rfl,rfl⟩
 ·obtain ⟨hc,_⟩:=hK
  exact absurd hc (by simp)
theorem collectConf {μ:Type} (f:FuncId) [Go.Ab.Enters Tryz.prog f] (cs:List AV) (w1 w2 w3:Res)  (K:μ→Prop) (m0:μ) (L:List (Conf)) (hL:L.length≤1000000) (W:List Res) (hseq:∀(y:AV) (I:List (Conf)→SV→List Res) (x0:SV),(∀pre d rest (s:SV) m,L=pre++d::rest→K m→za3 Tryz.prog y [.agg (zb3 d)] (w1::w2::w3::I pre s) (fun r h'=>∃s':SV,r=bv true∧h'=w1::w2::w3::I (pre++ [d]) s'))→za6 Tryz.prog f (y::cs) (w1::w2::w3::I [] x0) (fun _ h'=>∃x m,K m∧h'=w1::w2::w3::I L x)):za6 Tryz.prog 69 [.fn (.func f) [] cs] (w1::w2::w3::W) (fun r h'=>∃(s:SV) (m:μ),K m∧h'= .row s.v 7 41 (L.map zb3)::w1::w2::w3::W∧r= .v s.v):=by
 refine za1 Tryz.func69 rfl rfl rfl ?_
 refine rn ?_;refine za2 rfl (zc3 rfl rfl (za3.of_fun (appSeqConf f cs w1 w2 w3  K m0 L hL W hseq)) rfl ?_)
 rintro _ _ ⟨s,m,hK,rfl,rfl⟩
 refine rn ?_;exact retT rfl (.refl _ _) ⟨s,m,hK,rfl,rfl⟩
theorem wwRow (h:Hist) (x:Int) (h0:0≤x) (h1:x < h.os.length) (hb:(insP h x).length≤3000) (bo bp rm:Nat) (W:List Res):za6 Tryz.prog 69 [.fn (.func 125) [] [pZ bp,pZ bo]] (.box bo 3 [iv x]:: .box bp 92 (pastC h rm)::lastR h rm::W) (fun r h'=>h'= .box bo 3 [iv x]:: .box bp 92 (pastC h rm)::lastR h rm::W∧r=confsA (wwP h x)):=
 (collectConf (μ:=Unit) 125 [pZ bp,pZ bo] (.box bo 3 [iv x]) (.box bp 92 (pastC h rm)) (lastR h rm) (fun _=>True) () (wwP h x) (by rw [wwP,wwL_len];omega) W (fun y I x0 hy=>(wwTell h x h0 h1 hb y bo bp rm I x0 (fun pre d rest s e=>(hy pre d rest s () e trivial))).mono (fun _ _ ⟨z,e⟩=>⟨z,(),trivial,e⟩))).ventR
  (by rintro _ _ ⟨s,_,_,rfl,rfl⟩;exact ⟨_,_,vent_freeze,rfl,rfl⟩)
def wwO (h:Hist) (x:Int):List Conf:=if askE h x h.os.length=0 then wwP h x else []
theorem wwO_y {h:Hist} {x:Int} (he:askE h x h.os.length=0):wwO h x=wwP h x:=by rw [wwO,if_pos he]
theorem wwO_n {h:Hist} {x:Int} (he:askE h x h.os.length≠0):wwO h x= []:=by rw [wwO,if_neg he]
theorem ask_c {h:Hist} {x n:Int} (hc:zd0 h≠0):askE h x n=zd0 h:=by rw [askE,if_neg hc]
theorem ask_r {h:Hist} {x n:Int} (hc:zd0 h=0) (hn:¬(0≤x∧x < n)):askE h x n=2:=by rw [askE,if_pos hc,if_neg hn]
def wwA (h:Hist):List Conf:=if zd0 h=0 then wwAll h else []
theorem wwA_y {h:Hist} (he:zd0 h=0):wwA h=wwAll h:=by rw [wwA,if_pos he]
theorem wwA_n {h:Hist} (he:zd0 h≠0):wwA h= []:=by rw [wwA,if_neg he]
theorem rows_len (h:Hist):(wwRows h).length=h.os.length:=by rw [wwRows,List.length_map,upR,List.length_map,List.length_range]
theorem rows_flat {h:Hist} (hc:zd0 h=0):(wwRows h).flatten.length≤9000000:=by
 have hO:=(chk_lim hc).os
 have hk:∀k:Nat,k≤h.os.length→((upR k).map (wwP h)).flatten.length≤k * 3000:=by
  intro k
  induction k with
  |zero=>intro _;exact Nat.zero_le _
  | succ k ih=>
    intro hk
    have h1:=ih (by omega)
    have h2:=ins_le hc (x:=k) (by omega) (by omega)
    have h3:(wwP h k).length≤3000:=by rw [wwP,wwL_len];omega
    rw [upR_s,List.map_append,List.flatten_append,List.length_append,Nat.succ_mul]
    simp only [List.map_cons,List.map_nil,List.flatten_cons,List.flatten_nil,List.append_nil]
    omega
 have:=hk h.os.length (Nat.le_refl _)
 rw [wwRows];omega
theorem confLL_s (h:Hist) (k:Nat):confLL ((upR (k+1)).map (wwP h))=confLL ((upR k).map (wwP h))++ [[confsA (wwP h k)]]:=by rw [upR_s,List.map_append,confLL,List.map_append];rfl
def AhI (l:List Int) (f t:Int) (k:Nat) (w:Bool):Prop:=w=(l.take k).contains f∧(f≠t→t ∉ l.take k)
def AhE (l:List Int) (f t:Int) (w:Bool):Prop:=f≠t→w=(l.takeWhile fun z=> !(z==t)).contains f
theorem ahI_0 (l:List Int) (f t:Int):AhI l f t 0 false:=⟨by simp,fun _=>by simp⟩
theorem ahI_f {l:List Int} {f t:Int} {k:Nat} {w:Bool} (hk:k < l.length) (h:l[k]=f) (hw:AhI l f t k w):AhI l f t (k+1) true:=by
 refine ⟨?_,fun hn=> ?_⟩
 ·rw [List.take_succ_eq_append_getElem hk,h];simp
 ·rw [List.take_succ_eq_append_getElem hk,List.mem_append,List.mem_singleton,h]
  rintro (q|q)
  ·exact hw.2 hn q
  ·exact hn q.symm
theorem ahI_o {l:List Int} {f t:Int} {k:Nat} {w:Bool} (hk:k < l.length) (hf:l[k]≠f) (ht:l[k]≠t) (hw:AhI l f t k w):AhI l f t (k+1) w:=by
 refine ⟨?_,fun hn=> ?_⟩
 ·rw [List.take_succ_eq_append_getElem hk,hw.1,Bool.eq_iff_iff,List.contains_iff_mem,List.contains_iff_mem,List.mem_append,List.mem_singleton]
  exact ⟨.inl,fun q=>q.elim id fun e=>absurd e.symm hf⟩
 ·rw [List.take_succ_eq_append_getElem hk,List.mem_append,List.mem_singleton]
  rintro (q|q)
  ·exact hw.2 hn q
  ·exact ht q.symm
theorem tw_take {l:List Int} {t:Int} {k:Nat} (h:t ∉ l.take k) (he:l.drop k= []∨∃r,l.drop k=t::r):(l.takeWhile fun z=> !(z==t))=l.take k:=by
 conv=>lhs;rw [←List.take_append_drop k l]
 rw [List.takeWhile_append_of_pos]
 ·rcases he with e|⟨r,e⟩ <;> rw [e] <;> simp
 ·intro a ha
  have:a≠t:=fun e=>h (e ▸ ha)
  simpa using this
theorem ahE_x {l:List Int} {f t:Int} {k:Nat} {w:Bool} (hk:k < l.length) (ht:l[k]=t) (hw:AhI l f t k w):AhE l f t w:=fun hn=>by
 rw [tw_take (hw.2 hn) (.inr ⟨l.drop (k+1),by rw [List.drop_eq_getElem_cons hk,ht]⟩)];exact hw.1
theorem ahE_n {l:List Int} {f t:Int} {k:Nat} {w:Bool} (hk:k=l.length) (hw:AhI l f t k w):AhE l f t w:=fun hn=>by
 rw [tw_take (hw.2 hn) (.inl (by rw [hk,List.drop_length]))];exact hw.1
theorem ahead_of {l:List Int} {f t:Int} {w:Bool} (hw:AhE l f t w):(w && !(f==t) && l.contains t)=aheadP l f t:=by
 rw [aheadP]
 by_cases e:f=t
 ·subst e;simp
 ·rw [hw e]
def chC (h:Hist) (f t:Int):Int:=if zd0 h=0 then (if (0≤f∧0≤t)∧(f < h.ts.length∧t < h.ts.length) then (if (chainP h f t).length=0 then 4 else 0) else 2) else zd0 h
def chO (h:Hist) (f t:Int):List Int:=if chC h f t=0 then chainP h f t else []
theorem chC_1 {h:Hist} {f t:Int} (hc:zd0 h≠0):chC h f t=zd0 h∧chO h f t= []:=by
 have e:chC h f t=zd0 h:=by rw [chC,if_neg hc]
 exact ⟨e,by rw [chO,e,if_neg hc]⟩
theorem chC_2 {h:Hist} {f t:Int} (hc:zd0 h=0) (hn:¬((0≤f∧0≤t)∧(f < h.ts.length∧t < h.ts.length))):chC h f t=2∧chO h f t= []:=by
 have e:chC h f t=2:=by rw [chC,if_pos hc,if_neg hn]
 exact ⟨e,by rw [chO,e];rfl⟩
theorem chC_4 {h:Hist} {f t:Int} (hc:zd0 h=0) (hn:(0≤f∧0≤t)∧(f < h.ts.length∧t < h.ts.length)) (h0:(chainP h f t).length=0):chC h f t=4∧chO h f t= []:=by
 have e:chC h f t=4:=by rw [chC,if_pos hc,if_pos hn,if_pos h0]
 exact ⟨e,by rw [chO,e];rfl⟩
theorem chC_0 {h:Hist} {f t:Int} (hc:zd0 h=0) (hn:(0≤f∧0≤t)∧(f < h.ts.length∧t < h.ts.length)) (h0:(chainP h f t).length≠0):chC h f t=0∧chO h f t=chainP h f t:=by
 have e:chC h f t=0:=by rw [chC,if_pos hc,if_pos hn,if_neg h0]
 exact ⟨e,by rw [chO,if_pos e]⟩
def chK (h:Hist) (f t:Int) (k:Nat):List Int:=(upR k).filter fun x=>aheadP (insP h x) f t
theorem chK_t {h:Hist} {f t:Int} {k:Nat} (ha:aheadP (insP h k) f t=true):(chK h f t (k+1)).map intR=(chK h f t k).map intR++ [[iv k]]:=by
 rw [chK,upR_s,List.filter_append,List.map_append];simp [chK,ha,intR]
theorem chK_f {h:Hist} {f t:Int} {k:Nat} (ha:aheadP (insP h k) f t=false):chK h f t (k+1)=chK h f t k:=by
 rw [chK,upR_s,List.filter_append];simp [chK,ha]
theorem chK_len (h:Hist) (f t:Int) (k:Nat):(chK h f t k).length≤k:=by
 refine Nat.le_trans (List.length_filter_le _ _) ?_
 rw [upR,List.length_map,List.length_range];exact Nat.le_refl _
set_option maxHeartbeats 4000000 in
theorem wwOfR (h:Hist) (la:Lim 4611686018427387904 h) (x:Int):za6 Tryz.prog 20 [.agg (zb0 h),iv x] (.glob 2 156 zc1:: .glob 4 305 zb6:: .glob 5 308 zb2:: .glob 3 246 ze0:: []) (fun r h'=>h'= .glob 2 156 zc1:: .glob 4 305 zb6:: .glob 5 308 zb2:: .glob 3 246 ze0:: []∧∃a,r= .tup [a,iv (askE h x h.os.length)]∧(a=confsA (wwO h x)∨(a= .v (.slice none 0 0)∧wwO h x= []))):=by
 refine za1 Tryz.func20 rfl rfl rfl ?_
 refine rn ?_;refine za2 rfl (zb5 rfl rfl rfl fun b2=> ?_)
 refine q1 ?_;refine q1 ?_;refine zd5 (zd8 ?_)
 refine zb4 (za9 ?_)
 refine q1 ?_;refine za2 rfl (zc3 rfl rfl (za3.fr1 (za3.of_fun (wwOf h la))) rfl ?_)
 rintro _ _ ⟨_,rfl,⟨hd,rm,rfl,rfl⟩|⟨hd,rfl,rfl⟩⟩
 ·refine rn ?_;refine za2 rfl (zb1 rfl fun b6=> ?_)
  refine rn ?_;refine za0 rfl (fun hc14=> ?_) (fun hc14=> ?_)
  ·first|cases hc14|exact absurd hc14 (by decide)|(exfalso;simp_all;done)
  ·refine rn ?_;refine za8 (fun hg4_2=> ?_) (fun hg4_2=> ?_)
   ·refine rn ?_;refine za0 rfl (fun hc24=> ?_) (fun hc24=> ?_)
    ·have hn:¬(0≤x∧x < h.os.length):=by first|(have q:=of_decide_eq_true hg4_2;omega)|(have q:=of_decide_eq_true hc24;rw [List.length_map] at q;omega)
     refine rn ?_;exact retU rfl rfl (.drop [_,_,_] _ _) ⟨rfl,_,by rw [ask_r hd hn];rfl,.inr ⟨rfl,wwO_n (by rw [ask_r hd hn];decide)⟩⟩
    ·first|cases hc24|exact absurd hc24 (by decide)|(exfalso;simp_all;done)
   ·refine rn ?_;refine za0 rfl (fun hc24=> ?_) (fun hc24=> ?_)
    ·have hn:¬(0≤x∧x < h.os.length):=by first|(have q:=of_decide_eq_true hg4_2;omega)|(have q:=of_decide_eq_true hc24;rw [List.length_map] at q;omega)
     refine rn ?_;exact retU rfl rfl (.drop [_,_,_] _ _) ⟨rfl,_,by rw [ask_r hd hn];rfl,.inr ⟨rfl,wwO_n (by rw [ask_r hd hn];decide)⟩⟩
    ·have h0:0≤x:=by have q:=of_decide_eq_false hg4_2;omega
     have h1:x < h.os.length:=by have q:=of_decide_eq_false hc24;rw [List.length_map] at q;omega
     refine rn ?_;refine za2 rfl (zc3 rfl rfl (za3.of_fun (wwConf0 h rm x _)) rfl ?_)
     rintro _ _ ⟨bo,bp,rfl,rfl⟩
     refine qv rfl rfl (za4 rfl rfl (za3.qt (za3.of_fun (wwRow h x h0 h1 (ins_le hd h0 h1) bo bp rm [])) (.cons _ (.cons _ (pt2 _ _ _ _))))) ?_
     refine rn ?_;exact retU rfl rfl (.drop [_,_,_,_,_] _ _) ⟨rfl,_,by rw [ask_y hd ⟨h0,h1⟩];rfl,.inl (by rw [wwO_y (ask_y hd ⟨h0,h1⟩)])⟩
 ·refine rn ?_;refine za2 rfl (zb1 rfl fun b6=> ?_)
  refine rn ?_;refine za0 rfl (fun hc14=> ?_) (fun hc14=> ?_)
  ·refine rn ?_;exact retU rfl rfl (.drop [_,_] _ _) ⟨rfl,_,by rw [ask_c hd];rfl,.inr ⟨rfl,wwO_n (by rw [ask_c hd];exact hd)⟩⟩
  ·first|cases hc14|exact absurd hc14 (by decide)|(exfalso;simp_all;done)
theorem wwOfA (h:Hist) (la:Lim 4611686018427387904 h) (x:Int):za6 Tryz.prog 20 [.agg (zb0 h),iv x] (.glob 2 156 zc1:: .glob 4 305 zb6:: .glob 5 308 zb2:: .glob 3 246 ze0:: []) (fun r h'=>h'= .glob 2 156 zc1:: .glob 4 305 zb6:: .glob 5 308 zb2:: .glob 3 246 ze0:: []∧r= .tup [confsA (wwO h x),iv (askE h x h.os.length)]):=(wwOfR h la x).ventR (by rintro _ _ ⟨rfl,a,rfl,rfl|⟨rfl,e⟩⟩;exact ⟨_,_,.refl _ _,rfl,rfl⟩;exact ⟨_,_,.trans (vent_nilrow 7 41 _) (vent_freeze_tup [] [_]),rfl,by rw [e];rfl⟩)
set_option maxHeartbeats 4000000 in
theorem wwAllR (h:Hist) (la:Lim 4611686018427387904 h):za6 Tryz.prog 17 [.agg (zb0 h)] (.glob 2 156 zc1:: .glob 4 305 zb6:: .glob 5 308 zb2:: .glob 3 246 ze0:: []) (fun r h'=>∃s:SV,h'= .row s.v 7 41 ((wwA h).map zb3):: .glob 2 156 zc1:: .glob 4 305 zb6:: .glob 5 308 zb2:: .glob 3 246 ze0:: []∧r= .tup [.v s.v,iv (zd0 h)]):=by
 refine za1 Tryz.func17 rfl rfl rfl ?_
 have hO0:=la.os
 refine rn ?_;refine za2 rfl (zb5 rfl rfl rfl fun b1=> ?_)
 refine q1 ?_;refine q1 ?_;refine zd5 (zd8 ?_)
 refine zb4 (za9 ?_)
 refine q1 ?_;refine za2 rfl (zc3 rfl rfl (za3.fr1 (za3.of_fun (wwOf h la))) rfl ?_)
 rintro _ _ ⟨_,rfl,⟨hd,rm,rfl,rfl⟩|⟨hd,rfl,rfl⟩⟩
 ·refine rn ?_;refine za2 rfl (zb1 rfl fun b4=> ?_)
  refine rn ?_;refine za0 rfl (fun hc15=> ?_) (fun hc15=> ?_)
  ·first|cases hc15|exact absurd hc15 (by decide)|(exfalso;simp_all;done)
  ·refine rn ?_;have lO:=(chk_lim hd).os
   refine aw_rng1 h.os.length (fun k s=>⟨[(22,iv k),(7,.v s.v),(6,.fn (.func 68) [.agg (pastC h rm)] []),(21,iv (h.os.map strR).length)],.row s.v 1 35 (confLL ((upR k).map (wwP h))):: .box b4 92 (pastC h rm):: .box b1 28 (zb0 h)::lastR h rm:: .glob 2 156 zc1:: .glob 4 305 zb6:: .glob 5 308 zb2:: .glob 3 246 ze0:: [],[]⟩) ⟨none,0,0⟩ (zc5 (ze5 1 35) es) ?_
   intro k s lk
   refine rn ?_;refine za0 rfl (fun hc23=> ?_) (fun hc23=> ?_)
   ·have hk:k < h.os.length:=by have q:=of_decide_eq_true hc23;rw [List.length_map] at q;omega
    refine rn ?_;refine za2 rfl (zc3 rfl rfl (za3.of_acall (fs:= [.agg (pastC h rm)]) (cs:= []) (wwConf0 h rm k _)) rfl ?_)
    rintro _ _ ⟨bo,bp,rfl,rfl⟩
    refine qv rfl rfl (za4 rfl rfl (za3.qt (za3.of_fun (wwRow h k (by omega) (by omega) (ins_le hd (by omega) (by omega)) bo bp rm [])) (.cons _ (.cons _ (pt3 _ _ _ _ _))))) ?_
    refine qv rfl rfl (zc2 rfl rfl) ?_
    refine za2 rfl (zb7 rfl rfl (by simp only [List.length_map,upR,List.length_range,List.length_cons,List.length_nil];omega) rfl (fun s31=> ?_) (fun r hr=>by rw [List.mem_singleton.1 hr];rfl))
    refine zc7 s31 fun sv hsv=> ?_
    subst hsv
    refine rn ?_;exact ⟨hk,sv,by rw [confLL_s];exact eA⟩
   ·have qk:k=h.os.length:=by have q:=of_decide_eq_false hc23;rw [List.length_map] at q;omega
    refine aw_exit ?_;refine thn_e ?_;refine thn_e ?_;refine inBlk_hit ?_;refine zd8 ?_;refine zb4 (za9 ?_)
    rw [qk]
    show aops _ _ _ _ _ _ ⟨_,.row s.v 1 35 (confLL (wwRows h))::_,_⟩
    refine rn ?_;refine za2 rfl (zc3 rfl rfl (za3.lendG (za3.of_fun (wwJoined (wwRows h) (Nat.le_trans (rows_flat hd) (by decide)) (by rw [rows_len];omega))) (by rintro _ _ ⟨s,rfl,rfl⟩;exact ⟨.v _,fun x hx=>by rw [List.mem_singleton.1 hx];exact scal_row (scalConf _)⟩) (BLe.refl _ _) (by exact ⟨ble_row,trivial⟩)) rfl ?_)
    rintro _ _ ⟨_,rfl,s2,rfl,rfl⟩
    refine za2 rfl (zc3 rfl rfl (za3.fr (za3.of_fun (compactConf (sortL cmpC (wwRows h).flatten) s2 _ sameFT (fun a b=>za3.of_fun (wwSame a b)) (by rw [(sortL_perm cmpC _).length_eq];exact Nat.le_trans (rows_flat hd) (by decide)))) (.refl _)) rfl ?_)
    rintro _ _ ⟨_,rfl,s3,rfl,rfl⟩
    refine rn ?_;exact retU rfl rfl (.trans (.perm ((pt1 _ _ _).trans (.cons _ ((pt1 _ _ _).trans (.cons _ ((pt1 _ _ _).trans (.cons _ (pt1 _ _ _))))))) _) (.drop [_,_,_,_] _ _)) ⟨s3,by rw [wwA_y hd,wwAll],by rw [hd];rfl⟩
 ·refine rn ?_;refine za2 rfl (zb1 rfl fun b4=> ?_)
  refine rn ?_;refine za0 rfl (fun hc15=> ?_) (fun hc15=> ?_)
  ·refine rn ?_;exact retU rfl rfl (.trans (.drop [_,_] _ _) (vent_nilrow 7 41 _)) ⟨⟨none,0,0⟩,by rw [wwA_n hd];rfl,rfl⟩
  ·first|cases hc15|exact absurd hc15 (by decide)|(exfalso;simp_all;done)
theorem wwAllA (h:Hist) (la:Lim 4611686018427387904 h):za6 Tryz.prog 17 [.agg (zb0 h)] (.glob 2 156 zc1:: .glob 4 305 zb6:: .glob 5 308 zb2:: .glob 3 246 ze0:: []) (fun r h'=>h'= .glob 2 156 zc1:: .glob 4 305 zb6:: .glob 5 308 zb2:: .glob 3 246 ze0:: []∧r= .tup [confsA (wwA h),iv (zd0 h)]):=(wwAllR h la).ventR (by rintro _ _ ⟨s,rfl,rfl⟩;exact ⟨_,_,vent_freeze_tup [] [_],rfl,rfl⟩)
set_option maxHeartbeats 4000000 in
theorem wwAhead (h:Hist) (x f t:Int) (h0:0≤x) (h1:x < h.os.length) (hb:(insP h x).length≤3000) (rm:Nat) (W:List Res):za6 Tryz.prog 76 [.agg (pastC h rm),iv x,iv f,iv t] W (fun r h'=>h'=W∧r=bv (aheadP (insP h x) f t)):=by
 refine za1 Tryz.func76 rfl rfl rfl ?_
 refine rn ?_;refine za2 rfl (zb5 rfl rfl rfl fun b4=> ?_)
 refine rn ?_;refine aw_scope ?_;refine zb4 (za9 ?_)
 refine rn0 ?_;refine zb4 ?_;refine aw_label ?_;refine rn0 ?_;refine aw_cutE (fun w:Bool=>AhE (insP h x) f t w) (fun w=>⟨[(9,bv w),(1,iv x),(2,iv f),(3,iv t),(4,pZ b4)],.box b4 92 (pastC h rm)::W,[]⟩) ?_ ?_
 ·refine zb4 (za9 ?_)
  refine q1 ?_;refine q1 ?_;refine q1 ?_;refine qq rfl rfl (qr_index_int rfl rfl h0 (insts_at h h0 h1)) ?_
  refine rn ?_;refine aw_rngS (insP h x).length (fun k w=>AhI (insP h x) f t k w) (fun k w=> [(18,iv k),(9,bv w)]) [(1,iv x),(2,iv f),(3,iv t),(4,pZ b4),(16,zf0 (insP h x)),(17,iv ((insP h x).map intR).length)] false (ahI_0 _ _ _) ?_
  intro k w lk hw
  refine rn ?_;refine za0 rfl (fun hc19=> ?_) (fun hc19=> ?_)
  ·have hk:k < (insP h x).length:=by have q:=of_decide_eq_true hc19;rw [List.length_map] at q;omega
   have rk:((insP h x).map intR)[k]? =some (intR (insP h x)[k]):=ze2 hk
   have hkl:k < ((insP h x).map intR).length:=by rw [List.length_map];exact hk
   refine rn ?_;refine za0 rfl (fun hc23=> ?_) (fun hc23=> ?_)
   ·have hf:(insP h x)[k]=f:=by simpa using hc23
    refine rn ?_;first|exact ⟨hk,true,ahI_f hk hf hw,eA⟩|exact ⟨hk,w,ahI_o hk hf ht hw,eA⟩
   ·have hf:(insP h x)[k]≠f:=by simpa using hc23
    refine rn ?_;refine za0 rfl (fun hc26=> ?_) (fun hc26=> ?_)
    ·have ht:(insP h x)[k]=t:=by simpa using hc26
     refine rn ?_;first|exact ⟨w,ahE_x hk ht hw,eA⟩|exact ⟨w,ahE_n qk hw,eA⟩
    ·have ht:(insP h x)[k]≠t:=by simpa using hc26
     refine rn ?_;first|exact ⟨hk,true,ahI_f hk hf hw,eA⟩|exact ⟨hk,w,ahI_o hk hf ht hw,eA⟩
  ·have qk:k=(insP h x).length:=by have q:=of_decide_eq_false hc19;rw [List.length_map] at q;omega
   refine rn ?_;first|exact ⟨w,ahE_x hk ht hw,eA⟩|exact ⟨w,ahE_n qk hw,eA⟩
 ·intro w hw
  refine rn ?_;refine za8 (fun hg10_1=> ?_) (fun hg10_1=> ?_)
  ·refine rn ?_;refine za8 (fun hg10_6=> ?_) (fun hg10_6=> ?_)
   ·refine q1 ?_;refine q1 ?_;refine q1 ?_;refine qq rfl rfl (qr_index_int rfl rfl h0 (insts_at h h0 h1)) ?_
    refine rn ?_;refine qv rfl rfl (za4 rfl rfl (zc0 (containsI (insP h x) t (by omega)) (Sbs.refl _))) ?_
    refine rn ?_;refine ⟨fun l h=>(by cases h),?_⟩
    refine rq 1 ?_
    exact ⟨rfl,congrArg bv (by rw [←ahead_of hw];first|rfl|(simp_all;done))⟩
   ·refine rn ?_;refine ⟨fun l h=>(by cases h),?_⟩
    refine rq 1 ?_
    exact ⟨rfl,congrArg bv (by rw [←ahead_of hw];first|rfl|(simp_all;done))⟩
  ·refine rn ?_;refine ⟨fun l h=>(by cases h),?_⟩
   refine rq 1 ?_
   exact ⟨rfl,congrArg bv (by rw [←ahead_of hw];first|rfl|(simp_all;done))⟩
set_option maxHeartbeats 4000000 in
theorem wwChainR (h:Hist) (la:Lim 4611686018427387904 h) (f t:Int):za6 Tryz.prog 23 [.agg (zb0 h),iv f,iv t] (.glob 2 156 zc1:: .glob 4 305 zb6:: .glob 5 308 zb2:: .glob 3 246 ze0:: []) (fun r h'=>∃s:SV,h'= .row s.v 1 3 ((chO h f t).map intR):: .glob 2 156 zc1:: .glob 4 305 zb6:: .glob 5 308 zb2:: .glob 3 246 ze0:: []∧r= .tup [.v s.v,iv (chC h f t)]):=by
 refine za1 Tryz.func23 rfl rfl rfl ?_
 refine rn ?_;refine za2 rfl (zb5 rfl rfl rfl fun b3=> ?_)
 refine q1 ?_;refine q1 ?_;refine zd5 (zd8 ?_)
 refine zb4 (za9 ?_)
 refine q1 ?_;refine za2 rfl (zc3 rfl rfl (za3.fr1 (za3.of_fun (wwOf h la))) rfl ?_)
 rintro _ _ ⟨_,rfl,⟨hd,rm,rfl,rfl⟩|⟨hd,rfl,rfl⟩⟩
 ·refine rn ?_;refine za2 rfl (zb1 rfl fun b8=> ?_)
  refine rn ?_;refine za0 rfl (fun hc19=> ?_) (fun hc19=> ?_)
  ·first|cases hc19|exact absurd hc19 (by decide)|(exfalso;simp_all;done)
  ·refine rn ?_;refine za8 (fun hg5_4=> ?_) (fun hg5_4=> ?_)
   ·refine rn ?_;refine za0 rfl (fun hc34=> ?_) (fun hc34=> ?_)
    ·have hn:¬((0≤f∧0≤t)∧(f < h.ts.length∧t < h.ts.length)):=by first|(have q:=of_decide_eq_true hg5_4;omega)|(have q:=of_decide_eq_true hc34;rw [List.length_map] at q;omega)
     refine rn ?_;exact retU rfl rfl (.trans (.drop [_,_,_] _ _) (vent_nilrow 1 3 _)) ⟨⟨none,0,0⟩,by rw [(chC_2 hd hn).2];rfl,by rw [(chC_2 hd hn).1];rfl⟩
    ·first|cases hc34|exact absurd hc34 (by decide)|(exfalso;simp_all;done)
   ·refine rn ?_;refine za0 rfl (fun hc34=> ?_) (fun hc34=> ?_)
    ·have hn:¬((0≤f∧0≤t)∧(f < h.ts.length∧t < h.ts.length)):=by first|(have q:=of_decide_eq_true hg5_4;omega)|(have q:=of_decide_eq_true hc34;rw [List.length_map] at q;omega)
     refine rn ?_;exact retU rfl rfl (.trans (.drop [_,_,_] _ _) (vent_nilrow 1 3 _)) ⟨⟨none,0,0⟩,by rw [(chC_2 hd hn).2];rfl,by rw [(chC_2 hd hn).1];rfl⟩
    ·have hn:((0≤f∧0≤t)∧(f < h.ts.length∧t < h.ts.length)):=by have q:=of_decide_eq_false hg5_4;have q2:=of_decide_eq_false hc34;rw [List.length_map] at q2;omega
     refine rn ?_;have lO:=(chk_lim hd).os
     refine aw_rng1 h.os.length (fun k s=>⟨[(38,iv k),(11,.v s.v),(1,iv f),(2,iv t),(8,pZ b8),(37,iv (h.os.map strR).length)],.row s.v 1 3 ((chK h f t k).map intR):: .box b8 92 (pastC h rm):: .box b3 28 (zb0 h)::lastR h rm:: .glob 2 156 zc1:: .glob 4 305 zb6:: .glob 5 308 zb2:: .glob 3 246 ze0:: [],[]⟩) ⟨none,0,0⟩ (zc5 (ze5 1 3) es) ?_
     intro k s lk
     refine rn ?_;refine za0 rfl (fun hc39=> ?_) (fun hc39=> ?_)
     ·have hk:k < h.os.length:=by have q:=of_decide_eq_true hc39;rw [List.length_map] at q;omega
      have bk:=chK_len h f t k
      refine rn ?_;refine qv rfl rfl (za4 rfl rfl (za3.of_fun (wwAhead h k f t (by omega) (by omega) (ins_le hd (by omega) (by omega)) rm _))) ?_
      refine rn ?_;refine za0 rfl (fun hc45=> ?_) (fun hc45=> ?_)
      ·refine rn ?_;refine qv rfl rfl (zc2 rfl rfl) ?_
       refine za2 rfl (zb7 rfl rfl (by simp only [List.length_map,List.length_cons,List.length_nil];omega) rfl (fun s49=> ?_) (one_int [(k:Int)]))
       refine zc7 s49 fun sv hsv=> ?_
       subst hsv
       refine rn ?_;first|exact ⟨hk,sv,by rw [chK_t (by first|exact hc45)];exact eA⟩|exact ⟨hk,s,by rw [chK_f (by exact hc45)];exact eA⟩
      ·refine rn ?_;first|exact ⟨hk,sv,by rw [chK_t (by first|exact hc45)];exact eA⟩|exact ⟨hk,s,by rw [chK_f (by exact hc45)];exact eA⟩
     ·have qk:k=h.os.length:=by have q:=of_decide_eq_false hc39;rw [List.length_map] at q;omega
      subst qk
      refine rn ?_;refine za0 rfl (fun hc53=> ?_) (fun hc53=> ?_)
      ·have h0:(chainP h f t).length=0:=by have q:((((chainP h f t).map intR).length:Int)==0)=true:=hc53;rw [List.length_map] at q;simpa using q
       refine rn ?_;exact retU rfl rfl (.trans (.drop [_,_,_,_] _ _) (vent_nilrow 1 3 _)) ⟨⟨none,0,0⟩,by rw [(chC_4 hd hn h0).2];rfl,by rw [(chC_4 hd hn h0).1];rfl⟩
      ·have h0:(chainP h f t).length≠0:=by have q:((((chainP h f t).map intR).length:Int)==0)=false:=hc53;rw [List.length_map] at q;simpa using q
       refine rn ?_;exact retU rfl rfl (.trans (.perm ((pt1 _ _ _).trans (.cons _ ((pt1 _ _ _).trans (.cons _ (pt1 _ _ _))))) _) (.drop [_,_,_] _ _)) ⟨s,by rw [(chC_0 hd hn h0).2];rfl,by rw [(chC_0 hd hn h0).1];rfl⟩
 ·refine rn ?_;refine za2 rfl (zb1 rfl fun b8=> ?_)
  refine rn ?_;refine za0 rfl (fun hc19=> ?_) (fun hc19=> ?_)
  ·refine rn ?_;exact retU rfl rfl (.trans (.drop [_,_] _ _) (vent_nilrow 1 3 _)) ⟨⟨none,0,0⟩,by rw [(chC_1 hd).2];rfl,by rw [(chC_1 hd).1];rfl⟩
  ·first|cases hc19|exact absurd hc19 (by decide)|(exfalso;simp_all;done)
theorem wwChainA (h:Hist) (la:Lim 4611686018427387904 h) (f t:Int):za6 Tryz.prog 23 [.agg (zb0 h),iv f,iv t] (.glob 2 156 zc1:: .glob 4 305 zb6:: .glob 5 308 zb2:: .glob 3 246 ze0:: []) (fun r h'=>h'= .glob 2 156 zc1:: .glob 4 305 zb6:: .glob 5 308 zb2:: .glob 3 246 ze0:: []∧r= .tup [zf0 (chO h f t),iv (chC h f t)]):=(wwChainR h la f t).ventR (by rintro _ _ ⟨s,rfl,rfl⟩;exact ⟨_,_,vent_freeze_tup [] [_],rfl,rfl⟩)
theorem refNamesD {f g:Bool} (l m:List ByteArray) (hl:l.length≤4611686018427387904) (hm:m.length≤4611686018427387904):za6 Tryz.prog 78 [.list f 1 (l.map strR),.list g 1 (m.map strR)] [] (fun r h'=>h'= []∧r=bv (decide (l=m))):=
 (refNames l m hl hm).mono (fun r h' q=>⟨q.1,by rw [q.2,eqF_eq strEq_eq]⟩)
theorem refNumbersD {f g:Bool} (l m:List Int) (hl:l.length≤4611686018427387904) (hm:m.length≤4611686018427387904):za6 Tryz.prog 80 [.list f 1 (l.map intR),.list g 1 (m.map intR)] [] (fun r h'=>h'= []∧r=bv (decide (l=m))):=
 (refNumbers l m hl hm).mono (fun r h' q=>⟨q.1,by rw [q.2,eqF_eq intEq_eq]⟩)
theorem refEventD (a b:Ev) (ha:a.scan.length≤4611686018427387904) (hb:b.scan.length≤4611686018427387904):za6 Tryz.prog 79 [.agg (evR a),.agg (evR b)] [] (fun r h'=>h'= []∧r=bv (decide (a=b))):=
 (refEvent a b ha hb).mono (fun r h' q=>⟨q.1,by rw [q.2,evEq_eq]⟩)
theorem sameB_f {a b:Hist} (h:a≠b):sameB a b=false:=by
 cases q:sameB a b with
 |false=>rfl
 |true=>exact absurd ((sameB_iff a b).1 q) h
theorem sameB_t {a b:Hist} (h:a=b):sameB a b=true:=(sameB_iff a b).2 h
set_option maxHeartbeats 4000000 in
theorem refSame (a b:Hist) (la:Lim 4611686018427387904 a) (lb:Lim 4611686018427387904 b):za6 Tryz.prog 26 [.agg (zb0 a),.agg (zb0 b)] [] (fun r h'=>h'= []∧r=bv (sameB a b)):=by
 refine za1 Tryz.func26 rfl rfl rfl ?_
 refine rn ?_;refine za2 rfl (zb5 rfl rfl rfl fun b2=> ?_)
 refine za2 rfl (zb5 rfl rfl rfl fun b3=> ?_)
 refine rn ?_;refine qv rfl rfl (za4 rfl rfl (zc0 (refNamesD a.ts b.ts la.ts lb.ts) (Sbs.refl _))) ?_
 refine rn ?_;refine za8 (fun hg1_6=> ?_) (fun hg1_6=> ?_)
 ·refine rn ?_;refine aw_ct rfl ?_;refine rn ?_;exact retT rfl (.drop [_,_] _ _) ⟨rfl,congrArg bv (Eq.symm (sameB_f fun q=>by subst q;simp_all))⟩
 ·refine rn ?_;refine qv rfl rfl (za4 rfl rfl (zc0 (refNamesD a.ss b.ss la.ss lb.ss) (Sbs.refl _))) ?_
  refine rn ?_;refine za8 (fun hg1_14=> ?_) (fun hg1_14=> ?_)
  ·refine rn ?_;refine aw_ct rfl ?_;refine rn ?_;exact retT rfl (.drop [_,_] _ _) ⟨rfl,congrArg bv (Eq.symm (sameB_f fun q=>by subst q;simp_all))⟩
  ·refine rn ?_;refine qv rfl rfl (za4 rfl rfl (zc0 (refNamesD a.os b.os la.os lb.os) (Sbs.refl _))) ?_
   refine rn ?_;refine za8 (fun hg1_22=> ?_) (fun hg1_22=> ?_)
   ·refine rn ?_;refine aw_ct rfl ?_;refine rn ?_;exact retT rfl (.drop [_,_] _ _) ⟨rfl,congrArg bv (Eq.symm (sameB_f fun q=>by subst q;simp_all))⟩
   ·refine rn ?_;refine qv rfl rfl (za4 rfl rfl (zc0 (refNamesD a.ps b.ps la.ps lb.ps) (Sbs.refl _))) ?_
    refine rn ?_;refine za8 (fun hg1_30=> ?_) (fun hg1_30=> ?_)
    ·refine rn ?_;refine aw_ct rfl ?_;refine rn ?_;exact retT rfl (.drop [_,_] _ _) ⟨rfl,congrArg bv (Eq.symm (sameB_f fun q=>by subst q;simp_all))⟩
    ·refine rn ?_;refine za8 (fun hg1_39=> ?_) (fun hg1_39=> ?_)
     ·refine rn ?_;refine aw_ct rfl ?_;refine rn ?_;exact retT rfl (.drop [_,_] _ _) ⟨rfl,congrArg bv (Eq.symm (sameB_f fun q=>by subst q;simp_all))⟩
     ·refine rn ?_;refine za8 (fun hg1_48=> ?_) (fun hg1_48=> ?_)
      ·refine rn ?_;refine aw_ct rfl ?_;refine rn ?_;exact retT rfl (.drop [_,_] _ _) ⟨rfl,congrArg bv (Eq.symm (sameB_f fun q=>by subst q;simp_all))⟩
      ·refine rn ?_;refine za8 (fun hg1_57=> ?_) (fun hg1_57=> ?_)
       ·refine rn ?_;refine aw_ct rfl ?_;refine rn ?_;exact retT rfl (.drop [_,_] _ _) ⟨rfl,congrArg bv (Eq.symm (sameB_f fun q=>by subst q;simp_all))⟩
       ·refine rn ?_;refine za0 rfl (fun hc78=> ?_) (fun hc78=> ?_)
        ·refine rn ?_;exact retT rfl (.drop [_,_] _ _) ⟨rfl,congrArg bv (Eq.symm (sameB_f fun q=>by subst q;simp_all))⟩
        ·have Ets:a.ts=b.ts:=by simp_all
         have Ess:a.ss=b.ss:=by simp_all
         have Eos:a.os=b.os:=by simp_all
         have Eps:a.ps=b.ps:=by simp_all
         have Levs:a.evs.length=b.evs.length:=by simp at *;omega
         have Lords:a.ords.length=b.ords.length:=by simp at *;omega
         have Lmats:a.mats.length=b.mats.length:=by simp at *;omega
         have Lwants:a.wants.length=b.wants.length:=by simp at *;omega
         refine rn ?_;refine zd4 (fun k:Nat=>k≤a.evs.length∧a.evs.take k=b.evs.take k) (fun k=>⟨[(82,iv k),(81,iv (a.evs.map evR).length),(2,pZ b2),(3,pZ b3)],[.box b3 28 (zb0 b),.box b2 28 (zb0 a)],[]⟩) (fun k=>a.evs.length - k) 0 ⟨Nat.zero_le _,by simp⟩
          (zb8 (.cons _ _ _ rfl (.cons _ _ _ rfl (.cons _ _ _ rfl (.cons _ _ _ rfl (.nil)))))) ?_
         rintro k ⟨hk,ht⟩
         refine rn ?_;refine za0 rfl (fun hc83=> ?_) (fun hc83=> ?_)
         ·have hbig:=la.evs
          have hk2:k < a.evs.length:=by simpa using hc83
          have hk3:k < b.evs.length:=by omega
          obtain ⟨x,hx0⟩:∃x,x=a.evs[k]:=⟨_,rfl⟩
          obtain ⟨y,hy0⟩:∃y,y=b.evs[k]:=⟨_,rfl⟩
          have hrow1:(a.evs.map evR)[k]? =some (evR x):=by rw [hx0];simp [hk2]
          have hrow2:(b.evs.map evR)[k]? =some (evR y):=by rw [hy0];simp [hk3]
          refine rn ?_;refine zd2 10 rfl ?_
          refine rn ?_;refine qv rfl rfl (za4 rfl rfl (zc0 (refEventD x y (la.scans _ (by rw [hx0];exact List.getElem_mem _)) (lb.scans _ (by rw [hy0];exact List.getElem_mem _))) (Sbs.refl _))) ?_
          refine rn ?_;refine za0 rfl (fun hc96=> ?_) (fun hc96=> ?_)
          ·have hne:x≠y:=by clear hx0 hy0 hrow1 hrow2 ht;intro q;subst q;simp_all
           refine rn ?_;exact retT rfl (.drop [_,_] _ _) ⟨rfl,congrArg bv (Eq.symm (sameB_f fun q=>by subst q;exact hne (hx0.trans hy0.symm)))⟩
          ·have hxy:x=y:=by simpa using hc96
           refine rn ?_;exact ⟨k+1,⟨by omega,by rw [List.take_succ_eq_append_getElem hk2,List.take_succ_eq_append_getElem hk3,ht,←hx0,←hy0,hxy]⟩,(zb8 (.cons _ _ _ rfl (.cons _ _ _ rfl (.cons _ _ _ rfl (.cons _ _ _ rfl (.nil)))))),by omega⟩
         ·have hk2:¬k < a.evs.length:=by simpa using hc83
          have Eevs:a.evs=b.evs:=by
           have hk3:k=a.evs.length:=by omega
           rw [hk3,List.take_length] at ht
           rw [ht,Levs,List.take_length]
          clear ht hk
          refine rn ?_;refine zd4 (fun k:Nat=>k≤a.ords.length∧a.ords.take k=b.ords.take k) (fun k=>⟨[(101,iv k),(100,iv (a.ords.map ordR).length),(99,ordsA a.ords),(2,pZ b2),(3,pZ b3)],[.box b3 28 (zb0 b),.box b2 28 (zb0 a)],[]⟩) (fun k=>a.ords.length - k) 0 ⟨Nat.zero_le _,by simp⟩
           (zb8 (.cons _ _ _ rfl (.cons _ _ _ rfl (.cons _ _ _ rfl (.cons _ _ _ rfl (.cons _ _ _ rfl (.nil))))))) ?_
          rintro k ⟨hk,ht⟩
          refine rn ?_;refine za0 rfl (fun hc102=> ?_) (fun hc102=> ?_)
          ·have hbig:=la.ords
           have hk2:k < a.ords.length:=by simpa using hc102
           have hk3:k < b.ords.length:=by omega
           obtain ⟨x,hx0⟩:∃x,x=a.ords[k]:=⟨_,rfl⟩
           obtain ⟨y,hy0⟩:∃y,y=b.ords[k]:=⟨_,rfl⟩
           have hrow1:(a.ords.map ordR)[k]? =some (ordR x):=by rw [hx0];simp [hk2]
           have hrow2:(b.ords.map ordR)[k]? =some (ordR y):=by rw [hy0];simp [hk3]
           refine rn ?_;refine za2 rfl (zb1 rfl fun b7=> ?_)
           refine rn ?_;refine za2 rfl (zb1 rfl fun b8=> ?_)
           refine rn ?_;refine za8 (fun hg13_5=> ?_) (fun hg13_5=> ?_)
           ·refine rn ?_;refine aw_ct rfl ?_;have hne:x≠y:=by clear hx0 hy0 hrow1 hrow2 ht;intro q;subst q;simp_all
            refine rn ?_;exact retT rfl (.drop [_,_,_,_] _ _) ⟨rfl,congrArg bv (Eq.symm (sameB_f fun q=>by subst q;exact hne (hx0.trans hy0.symm)))⟩
           ·refine rn ?_;refine qv rfl rfl (za4 rfl rfl (zc0 (refNumbersD x.ts y.ts (la.ordts _ (by rw [hx0];exact List.getElem_mem _)) (lb.ordts _ (by rw [hy0];exact List.getElem_mem _))) (Sbs.refl _))) ?_
            refine rn ?_;refine za0 rfl (fun hc123=> ?_) (fun hc123=> ?_)
            ·have hne:x≠y:=by clear hx0 hy0 hrow1 hrow2 ht;intro q;subst q;simp_all
             refine rn ?_;exact retT rfl (.drop [_,_,_,_] _ _) ⟨rfl,congrArg bv (Eq.symm (sameB_f fun q=>by subst q;exact hne (hx0.trans hy0.symm)))⟩
            ·have hxy:x=y:=by clear hx0 hy0 hrow1 hrow2 ht;cases x;cases y;simp_all
             refine rn ?_;exact ⟨k+1,⟨by omega,by rw [List.take_succ_eq_append_getElem hk2,List.take_succ_eq_append_getElem hk3,ht,←hx0,←hy0,hxy]⟩,(zc5 (ent_drop (h1:= [_,_])) (zb8 (.cons _ _ _ rfl (.cons _ _ _ rfl (.cons _ _ _ rfl (.cons _ _ _ rfl (.cons _ _ _ rfl (.nil)))))))),by omega⟩
          ·have hk2:¬k < a.ords.length:=by simpa using hc102
           have Eords:a.ords=b.ords:=by
            have hk3:k=a.ords.length:=by omega
            rw [hk3,List.take_length] at ht
            rw [ht,Lords,List.take_length]
           clear ht hk
           refine rn ?_;refine zd4 (fun k:Nat=>k≤a.mats.length∧a.mats.take k=b.mats.take k) (fun k=>⟨[(128,iv k),(127,iv (a.mats.map matR).length),(126,matsA a.mats),(2,pZ b2),(3,pZ b3)],[.box b3 28 (zb0 b),.box b2 28 (zb0 a)],[]⟩) (fun k=>a.mats.length - k) 0 ⟨Nat.zero_le _,by simp⟩
            (zb8 (.cons _ _ _ rfl (.cons _ _ _ rfl (.cons _ _ _ rfl (.cons _ _ _ rfl (.cons _ _ _ rfl (.nil))))))) ?_
           rintro k ⟨hk,ht⟩
           refine rn ?_;refine za0 rfl (fun hc129=> ?_) (fun hc129=> ?_)
           ·have hbig:=la.mats
            have hk2:k < a.mats.length:=by simpa using hc129
            have hk3:k < b.mats.length:=by omega
            obtain ⟨x,hx0⟩:∃x,x=a.mats[k]:=⟨_,rfl⟩
            obtain ⟨y,hy0⟩:∃y,y=b.mats[k]:=⟨_,rfl⟩
            have hrow1:(a.mats.map matR)[k]? =some (matR x):=by rw [hx0];simp [hk2]
            have hrow2:(b.mats.map matR)[k]? =some (matR y):=by rw [hy0];simp [hk3]
            refine rn ?_;refine za2 rfl (zb1 rfl fun b10=> ?_)
            refine rn ?_;refine za2 rfl (zb1 rfl fun b11=> ?_)
            refine rn ?_;refine za8 (fun hg20_5=> ?_) (fun hg20_5=> ?_)
            ·refine rn ?_;refine aw_ct rfl ?_;have hne:x≠y:=by clear hx0 hy0 hrow1 hrow2 ht;intro q;subst q;simp_all
             refine rn ?_;exact retT rfl (.drop [_,_,_,_] _ _) ⟨rfl,congrArg bv (Eq.symm (sameB_f fun q=>by subst q;exact hne (hx0.trans hy0.symm)))⟩
            ·refine rn ?_;refine za8 (fun hg20_12=> ?_) (fun hg20_12=> ?_)
             ·refine rn ?_;refine aw_ct rfl ?_;have hne:x≠y:=by clear hx0 hy0 hrow1 hrow2 ht;intro q;subst q;simp_all
              refine rn ?_;exact retT rfl (.drop [_,_,_,_] _ _) ⟨rfl,congrArg bv (Eq.symm (sameB_f fun q=>by subst q;exact hne (hx0.trans hy0.symm)))⟩
             ·refine rn ?_;refine za8 (fun hg20_19=> ?_) (fun hg20_19=> ?_)
              ·refine rn ?_;refine aw_ct rfl ?_;have hne:x≠y:=by clear hx0 hy0 hrow1 hrow2 ht;intro q;subst q;simp_all
               refine rn ?_;exact retT rfl (.drop [_,_,_,_] _ _) ⟨rfl,congrArg bv (Eq.symm (sameB_f fun q=>by subst q;exact hne (hx0.trans hy0.symm)))⟩
              ·refine rn ?_;refine qv rfl rfl (za4 rfl rfl (zc0 (refNumbersD x.ts y.ts (la.matts _ (by rw [hx0];exact List.getElem_mem _)) (lb.matts _ (by rw [hy0];exact List.getElem_mem _))) (Sbs.refl _))) ?_
               refine rn ?_;refine za0 rfl (fun hc164=> ?_) (fun hc164=> ?_)
               ·have hne:x≠y:=by clear hx0 hy0 hrow1 hrow2 ht;intro q;subst q;simp_all
                refine rn ?_;exact retT rfl (.drop [_,_,_,_] _ _) ⟨rfl,congrArg bv (Eq.symm (sameB_f fun q=>by subst q;exact hne (hx0.trans hy0.symm)))⟩
               ·have hxy:x=y:=by clear hx0 hy0 hrow1 hrow2 ht;cases x;cases y;simp_all
                refine rn ?_;exact ⟨k+1,⟨by omega,by rw [List.take_succ_eq_append_getElem hk2,List.take_succ_eq_append_getElem hk3,ht,←hx0,←hy0,hxy]⟩,(zc5 (ent_drop (h1:= [_,_])) (zb8 (.cons _ _ _ rfl (.cons _ _ _ rfl (.cons _ _ _ rfl (.cons _ _ _ rfl (.cons _ _ _ rfl (.nil)))))))),by omega⟩
           ·have hk2:¬k < a.mats.length:=by simpa using hc129
            have Emats:a.mats=b.mats:=by
             have hk3:k=a.mats.length:=by omega
             rw [hk3,List.take_length] at ht
             rw [ht,Lmats,List.take_length]
            clear ht hk
            refine rn ?_;refine zd4 (fun k:Nat=>k≤a.wants.length∧a.wants.take k=b.wants.take k) (fun k=>⟨[(169,iv k),(168,iv (a.wants.map wanR).length),(2,pZ b2),(3,pZ b3)],[.box b3 28 (zb0 b),.box b2 28 (zb0 a)],[]⟩) (fun k=>a.wants.length - k) 0 ⟨Nat.zero_le _,by simp⟩
             (zb8 (.cons _ _ _ rfl (.cons _ _ _ rfl (.cons _ _ _ rfl (.cons _ _ _ rfl (.nil)))))) ?_
            rintro k ⟨hk,ht⟩
            refine rn ?_;refine za0 rfl (fun hc170=> ?_) (fun hc170=> ?_)
            ·have hbig:=la.wants
             have hk2:k < a.wants.length:=by simpa using hc170
             have hk3:k < b.wants.length:=by omega
             obtain ⟨x,hx0⟩:∃x,x=a.wants[k]:=⟨_,rfl⟩
             obtain ⟨y,hy0⟩:∃y,y=b.wants[k]:=⟨_,rfl⟩
             have hrow1:(a.wants.map wanR)[k]? =some (wanR x):=by rw [hx0];simp [hk2]
             have hrow2:(b.wants.map wanR)[k]? =some (wanR y):=by rw [hy0];simp [hk3]
             refine rn ?_;refine zd2 10 rfl ?_
             refine rn ?_;refine za0 rfl (fun hc182=> ?_) (fun hc182=> ?_)
             ·have hne:x≠y:=by clear hx0 hy0 hrow1 hrow2 ht;intro q;subst q;simp_all
              refine rn ?_;exact retT rfl (.drop [_,_] _ _) ⟨rfl,congrArg bv (Eq.symm (sameB_f fun q=>by subst q;exact hne (hx0.trans hy0.symm)))⟩
             ·have hxy:x=y:=by clear hx0 hy0 hrow1 hrow2 ht;cases x;cases y;simp_all
              refine rn ?_;exact ⟨k+1,⟨by omega,by rw [List.take_succ_eq_append_getElem hk2,List.take_succ_eq_append_getElem hk3,ht,←hx0,←hy0,hxy]⟩,(zb8 (.cons _ _ _ rfl (.cons _ _ _ rfl (.cons _ _ _ rfl (.cons _ _ _ rfl (.nil)))))),by omega⟩
            ·have hk2:¬k < a.wants.length:=by simpa using hc170
             have Ewants:a.wants=b.wants:=by
              have hk3:k=a.wants.length:=by omega
              rw [hk3,List.take_length] at ht
              rw [ht,Lwants,List.take_length]
             clear ht hk
             refine rn ?_;exact retT rfl (.drop [_,_] _ _) ⟨rfl,congrArg bv (Eq.symm (sameB_t (by cases a;cases b;simp_all)))⟩
theorem equalConf {f g:Bool} (l m:List Conf) (hl:l.length≤4611686018427387904) (hm:m.length≤4611686018427387904):za6 Tryz.prog 19 [.list f 7 (l.map zb3),.list g 7 (m.map zb3)] [] (fun r h'=>h'= []∧r=bv (eqF confEq l m)):=by
 refine za1 Tryz.func19 rfl rfl rfl ?_
 refine rn ?_;refine za0 rfl (fun hc10=> ?_) (fun hc10=> ?_)
 ·refine rn ?_;have hne:(l.length==m.length)=false:=beq_eq_false_iff_ne.2 fun q=>by simp [q] at hc10
  exact retT rfl (.refl _ _) ⟨rfl,by rw [eqF,hne,Bool.false_and];rfl⟩
 ·have hlm:l.length=m.length:=by simp at hc10;omega
  refine rn ?_;refine zd4 (fun k:Nat=>k≤l.length∧zall confEq l m=zall confEq (l.drop k) (m.drop k)) (fun k=>⟨[(13,iv k),(0,.list f 7 (l.map zb3)),(1,.list g 7 (m.map zb3)),(12,iv (l.map zb3).length)],[],[]⟩) (fun k=>l.length - k) 0 ⟨Nat.zero_le _,by simp⟩
   (zb8 (.cons _ _ _ rfl (.cons _ _ _ rfl (.cons _ _ _ rfl (.cons _ _ _ rfl (.nil)))))) ?_
  rintro k ⟨hk,hz⟩
  refine rn ?_;refine za0 rfl (fun hc14=> ?_) (fun hc14=> ?_)
  ·have hk2:k < l.length:=by simpa using hc14
   have hk3:k < m.length:=by omega
   have hrow1:(l.map zb3)[k]? =some (zb3 l[k]):=by simp [hk2]
   have hrow2:(m.map zb3)[k]? =some (zb3 m[k]):=by simp [hk3]
   have hd1:=List.drop_eq_getElem_cons hk2
   have hd2:=List.drop_eq_getElem_cons hk3
   refine rn ?_;refine zd2 8 rfl ?_
   refine rn ?_;refine za0 rfl (fun hc24=> ?_) (fun hc24=> ?_)
   ·refine rn ?_;exact retT rfl (.refl _ _) ⟨rfl,by rw [eqF,hz,hd1,hd2,zall,show confEq l[k] m[k]=false from not_t hc24,Bool.false_and,Bool.and_false];rfl⟩
   ·refine rn ?_;exact ⟨k+1,⟨by omega,by rw [hz,hd1,hd2,zall,show confEq l[k] m[k]=true from not_f hc24,Bool.true_and]⟩,(zb8 (.cons _ _ _ rfl (.cons _ _ _ rfl (.cons _ _ _ rfl (.cons _ _ _ rfl (.nil)))))),by omega⟩
  ·have hk3:k=l.length:=by
    have:l.length≤k:=by simpa using hc14
    omega
   refine rn ?_;exact retT rfl (.refl _ _) ⟨rfl,by rw [eqF,hz,hk3,List.drop_length,zall_nil,hlm,beq_self_eq_true];rfl⟩
theorem eqConf {f g:Bool} (l:List Conf) (hl:l.length≤4611686018427387904):za6 Tryz.prog 19 [.list f 7 (l.map zb3),.list g 7 (l.map zb3)] [] (fun r h'=>h'= []∧r=bv true):=(equalConf l l hl hl).mono fun _ _ q=>⟨q.1,by rw [q.2,eqF_eq confEq_eq];simp⟩
theorem wwP_len {h:Hist} {x:Int} (he:askE h x h.os.length=0):(wwP h x).length≤3000:=by
 obtain ⟨hs,h0,h1⟩:=ask_0 he
 have:=ins_le (checkI_0.2 hs) h0 h1
 rw [wwP,wwL_len];omega
theorem wwO_len (h:Hist) (x:Int):(wwO h x).length≤3000:=by
 by_cases he:askE h x h.os.length=0
 ·rw [wwO_y he];exact wwP_len he
 ·rw [wwO_n he];exact Nat.zero_le _
end Go.Proofs
