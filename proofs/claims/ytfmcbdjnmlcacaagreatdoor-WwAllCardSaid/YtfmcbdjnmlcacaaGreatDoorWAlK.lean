/- The walks of law 18's own, small, wakes. Conditions: none. -/
import Derived.Test.YtfmcbdjnmlcacaaGreatDoorWAlJ
set_option linter.unusedSectionVars false
set_option linter.unusedSimpArgs false
set_option linter.unusedVariables false
set_option maxRecDepth 10000
namespace Go.Proofs
open Go Go.Ab
attribute [local irreducible] QR QV OE aops aw dsoup dsoupM dalloc zf9 thn inBlk jsoup jch lsoup
open Go.H
theorem own_take18 (l:List Ev):(l.map evR).take (min (l.map evR).length 80)=(l.take 80).map evR:=by
 rw [List.length_map,←List.map_take,Nat.min_comm,←List.take_take,List.take_length]
set_option maxHeartbeats 4000000 in
theorem own18R (h:Hist) (la:Big h):za6 Tryz.prog 15 [.agg (zb0 h)] [] (fun r h'=>∃(sE sO:SV) (O:List (SV×H.Ord)),O.map (·.2)=h.ords∧h'= .row sE.v 9 60 ((h.evs.take 80).map evR):: .row sO.v 2 87 (O.map ordRw)::otR 3 O∧r= .agg [strsA h.ts,strsA h.ss,strsA h.os,strsA h.ps,.v sE.v,.v sO.v,matsA h.mats,wansA h.wants]):=by
 refine za1 Tryz.func15 rfl rfl rfl ?_
 refine rn ?_;refine za2 rfl (zb5 rfl rfl rfl fun b1=> ?_)
 refine za2 rfl (zb1 rfl fun b2=> ?_)
 refine zd5 (zd8 ?_)
 refine zb4 (za9 ?_)
 refine q1 ?_;refine q1 ?_;refine q1 ?_;refine q1 ?_;refine q1 ?_;refine qq rfl rfl (qr_minN (h.evs.map evR).length 80 rfl rfl) ?_
 refine qq rfl rfl (qr_slice_hE (rows':=(h.evs.take 80).map evR) rfl rfl (Nat.min_le_left _ _) (own_take18 h.evs)) ?_
 refine za2 rfl (zc3 rfl rfl (za3.fr2 (za3.rowS (za3.of_fun (cloneRowEv ((h.evs.take 80).map evR) (by rw [List.length_map,List.length_take];omega) (one_ev _))))) rfl ?_)
 rintro _ _ ⟨_,rfl,s11,rfl,rfl⟩
 refine rn ?_;refine za2 rfl (zc3 rfl rfl (za3.fr3 (za3.rowS (za3.of_fun (cloneRowOrdB (h.ords.map ordR) (by rw [List.length_map];have:=la.ords;omega) (one_ord _))))) rfl ?_)
 rintro _ _ ⟨_,rfl,s15,rfl,rfl⟩
 refine rn ?_;refine zd4 (fun x:Nat×List (SV×H.Ord)=>x.1≤h.ords.length∧x.2.map (·.2)=h.ords.take x.1) (fun x=>⟨[(20,iv x.1),(19,iv (h.ords.map ordR).length),(1,pZ b1),(2,pZ b2)],.box b2 28 histZ:: .box b1 28 [strsA h.ts,strsA h.ss,strsA h.os,strsA h.ps,.v s11.v,.v s15.v,matsA h.mats,wansA h.wants]:: .row s11.v 9 60 ((h.evs.take 80).map evR):: .row s15.v 2 87 (x.2.map ordRw++(h.ords.drop x.1).map ordR)::otR 3 x.2,[]⟩) (fun x=>h.ords.length - x.1) (0,[]) ⟨by omega,rfl⟩
  (zb8 (.cons _ _ _ rfl (.cons _ _ _ rfl (.cons _ _ _ rfl (.cons _ _ _ rfl (.nil)))))) ?_
 rintro ⟨k,x⟩ ⟨hk,hx⟩
 simp only at hk hx
 have hxl:=mid_len2 hx hk
 refine rn ?_;refine za0 rfl (fun hc21=> ?_) (fun hc21=> ?_)
 ·have hk2:k < h.ords.length:=by have q:=of_decide_eq_true hc21;rw [List.length_map] at q;omega
  obtain ⟨e,he⟩:∃e,e=h.ords[k]:=⟨_,rfl⟩
  have hd:=List.drop_eq_getElem_cons hk2
  rw [←he] at hd
  have hrow:(x.map ordRw++(h.ords.drop k).map ordR)[k]? =some (ordR e):=mid_get hxl hd
  have hmem:e∈h.ords:=by rw [he];exact List.getElem_mem hk2
  have hle:=la.lim.ords
  have hk3:k < (x.map ordRw++(h.ords.drop k).map ordR).length:=by rw [mid_len hxl hk];exact hk2
  refine rn ?_;refine aw_drawM 10 rfl ?_
  refine mq rfl rfl qrA ?_;refine mq rfl rfl qrA ?_;refine mq rfl rfl qrA ?_;refine mq rfl rfl qrA ?_;refine mq rfl rfl qrA ?_;refine mq rfl rfl qrA ?_;refine mq rfl rfl (zf3 rfl rfl hk3) ?_
  refine mq rfl rfl qrA ?_;refine mq rfl rfl (qr_load_rp_one rfl hrow rfl) ?_
  refine mcall (mrow 1 3 (e.ts.map intR)) rfl rfl rfl (mk_row (za3.of_fun (cloneRowIntB _ (by rw [List.length_map];have:=(la.ordts e hmem);omega) (one_int _)))) ?_
  refine mnil ⟨.refl _,?_⟩
  refine rn ?_;refine mal_row fun s32=> ?_
  refine rn2 ?_;refine qq rfl rfl (zf3 rfl rfl hk3) ?_
  refine rn ?_;refine za2 rfl (oe_store_rp rfl rfl rfl hrow rfl (Nat.le_of_ble_eq_true rfl) ?_)
  refine rn ?_;have hset:=mid_set (f:=ordRw) (g:=ordR) (a:=(s32,e)) (r:=(ordR e).take 1++ [.v s32.v]++(ordR e).drop (1+1)) hxl hd rfl
  have htl:otR 3 (x++ [(s32,e)])=otR 3 x++ [.row s32.v 1 3 (e.ts.map intR)]:=by simp [otR]
  exact ⟨(k+1,x++ [(s32,e)]),⟨by omega,mid_snoc hx hk2 he⟩,by simp only [htl];exact zc5 (ent_perm (perm_swap [_] _)) (by rw [←hset];exact (zb8 (.cons _ _ _ rfl (.cons _ _ _ rfl (.cons _ _ _ rfl (.cons _ _ _ rfl (.nil))))))),by simp only;omega⟩
 ·obtain rfl:k=h.ords.length:=by
   have q:=of_decide_eq_false hc21
   rw [List.length_map] at q
   omega
  rw [List.take_length] at hx
  rw [List.drop_length,List.map_nil,List.append_nil]
  refine rn ?_;exact retq (.cons _ _ _ _ (.agg _ _ _ _ _ _ _ rfl inferInstance inferInstance inferInstance rfl) .nil) (.drop [_,_] _ _) ⟨s11,s15,x,hx,rfl,rfl⟩
theorem own18 (h:Hist) (la:Big h):za6 Tryz.prog 15 [.agg (zb0 h)] [] (fun r h'=>h'= []∧r= .agg (zb0 (ownX h))):=
 (own18R h la).ventR (by
  rintro _ _ ⟨sE,sO,O,hO,rfl,rfl⟩
  exact ⟨_,_,own_freeze [] sE.v sO.v (ownX h) O 60 87 3 _ hO (by simp [ownX]) (by simp) (fun r hr=>by simp [hr]),rfl,rfl⟩)
def evRz (e:Ev):List AV:= [iv e.kind,iv e.t,iv e.s,iv e.l,iv e.o,iv e.v.t,iv e.v.k,iv e.p,.v (.slice none 0 0)]
theorem one_evz (l:List Ev):∀r∈l.map evRz,r.all AV.one=true:=by
 intro r hr;obtain ⟨a,_,rfl⟩:=List.mem_map.1 hr;rfl
set_option maxHeartbeats 4000000 in
theorem small18R  :za6 Tryz.prog 61 [] [] (fun r h'=>∃s:SV,h'= [.row s.v 9 60 ((smE 3).map evRz)]∧r= .agg [.list true 1 [[sv (wT 48)],[sv (wT 49)],[sv (wT 50)]],.list true 1 [[sv bsmall]],.list true 1 [[sv bxx],[sv byy]],.v (.slice none 0 0),.v s.v,.list true 2 [[iv 0,.list true 1 [[iv 1],[iv 0],[iv 2]]],[iv 1,.list true 1 [[iv 2],[iv 0]]]],.v (.slice none 0 0),.v (.slice none 0 0)]):=by
 refine za1 Tryz.func61 rfl rfl rfl ?_
 refine rn ?_;refine za2 rfl (zb1 rfl fun b0=> ?_)
 refine rn ?_;refine qv rfl rfl (zc2 rfl rfl) ?_
 refine qv rfl rfl (zc2 rfl rfl) ?_
 refine qv rfl rfl (zc2 rfl rfl) ?_
 refine rn ?_;refine za2 rfl (zb1 rfl fun b1=> ?_)
 refine rn ?_;refine aw_rng1 3 (fun k s=>⟨[(7,iv k),(0,pZ b0),(1,pZ b1)],.row s.v 9 60 ((smE k).map evRz):: .box b1 28 [.list true 1 [[sv (wT 48)],[sv (wT 49)],[sv (wT 50)]],.list true 1 [[sv bsmall]],.list true 1 [[sv bxx],[sv byy]],.v (.slice none 0 0),.v s.v,.v (.slice none 0 0),.v (.slice none 0 0),.v (.slice none 0 0)]:: .box b0 28 histZ:: [],[]⟩) ⟨none,0,0⟩ (zc5 (ze5 9 60) es) ?_
 intro k s lk
 refine rn ?_;refine za0 rfl (fun hc8=> ?_) (fun hc8=> ?_)
 ·have hk:k < 3:=by have q:=of_decide_eq_true hc8;omega
  have hb:=smE_len k
  refine zf2 ?_;refine zd8 ?_;refine zb4 ?_;refine aw_block ?_;refine zb4 (za9 ?_)
  refine q1 ?_;refine q1 ?_;refine zd5 (zd8 ?_)
  refine zb4 (za9 ?_)
  refine q1 ?_;refine q1 ?_;refine q1 ?_;refine qq rfl rfl (qr_build (out:=evRz (evBg k)) rfl (by rfl)) ?_
  refine q1 ?_;refine q1 ?_;refine qq rfl rfl (qr_build (out:= [iv k,iv 1]) rfl (by rfl)) ?_
  refine qq rfl rfl (qr_build (out:=evRz (evWr k 0)) rfl (by rfl)) ?_
  refine qv rfl rfl (zc2 rfl rfl) ?_
  refine za2 rfl (zb7 rfl rfl (by simp only [List.length_map,List.length_append,List.length_cons,List.length_nil];omega) rfl (fun s19=> ?_) (one_evz [evBg k,evWr k 0]))
  refine zc7 s19 fun sw hsw=> ?_
  subst hsw
  refine rn ?_;refine za0 rfl (fun hc22=> ?_) (fun hc22=> ?_)
  ·have hk1:k≠1:=by have q:=hc22;simp at q;omega
   refine za9 ?_;refine q1 ?_;refine q1 ?_;refine q1 ?_;refine q1 ?_;refine qq rfl rfl (qr_build (out:= [iv k,iv 1]) rfl (by rfl)) ?_
   refine qq rfl rfl (qr_build (out:=evRz (evWr k 1)) rfl (by rfl)) ?_
   refine qv rfl rfl (zc2 rfl rfl) ?_
   refine za2 rfl (zb7 rfl rfl (by simp only [List.length_map,List.length_append,List.length_cons,List.length_nil];omega) rfl (fun s30=> ?_) (one_evz [evWr k 1]))
   refine zc7 s30 fun sw hsw=> ?_
   subst hsw
   refine q1 ?_;first|refine za2 rfl (oe_store_all rfl rfl rfl ?_)|refine za2 rfl (oe_store rfl rfl rfl rfl (Nat.le_of_ble_eq_true rfl) ?_)
   refine zd5 (zd8 ?_)
   refine za9 ?_;refine q1 ?_;refine q1 ?_;refine q1 ?_;refine qq rfl rfl (qr_build (out:=evRz (evCm k)) rfl (by rfl)) ?_
   refine qv rfl rfl (zc2 rfl rfl) ?_
   refine za2 rfl (zb7 rfl rfl (by simp only [List.length_map,List.length_append,List.length_cons,List.length_nil];omega) rfl (fun s37=> ?_) (one_evz [evCm k]))
   refine zc7 s37 fun sw hsw=> ?_
   subst hsw
   refine rn ?_;first|exact ⟨hk,sw,by rw [smE_n hk1,List.map_append,List.map_append,List.map_append];exact eA⟩|exact ⟨hk,sw,by rw [smE_1 hk1,List.map_append,List.map_append];exact eA⟩
  ·have hk1:k=1:=by have q:=hc22;simp at q;omega
   refine zf2 ?_;refine zd8 ?_;refine za9 ?_;refine q1 ?_;refine q1 ?_;refine q1 ?_;refine qq rfl rfl (qr_build (out:=evRz (evCm k)) rfl (by rfl)) ?_
   refine qv rfl rfl (zc2 rfl rfl) ?_
   refine za2 rfl (zb7 rfl rfl (by simp only [List.length_map,List.length_append,List.length_cons,List.length_nil];omega) rfl (fun s37=> ?_) (one_evz [evCm k]))
   refine zc7 s37 fun sw hsw=> ?_
   subst hsw
   refine rn ?_;first|exact ⟨hk,sw,by rw [smE_n hk1,List.map_append,List.map_append,List.map_append];exact eA⟩|exact ⟨hk,sw,by rw [smE_1 hk1,List.map_append,List.map_append];exact eA⟩
 ·have qk:k=3:=by have q:=of_decide_eq_false hc8;omega
  refine rn ?_;refine qv rfl rfl (zc2 rfl rfl) ?_
  refine rn ?_;refine qv rfl rfl (zc2 rfl rfl) ?_
  refine rn ?_;refine qv rfl rfl (zc2 rfl rfl) ?_
  refine rn ?_;exact retq (.cons _ _ _ _ (.agg _ _ _ _ _ _ _ rfl inferInstance inferInstance inferInstance rfl) .nil) (.trans (.perm ((pt1 _ _ _).trans (.cons _ (pt1 _ _ _))) _) (.drop [_,_] _ _)) ⟨s,by rw [qk],rfl⟩
theorem small18:za6 Tryz.prog 61 [] [] (fun r h'=>h'= []∧r= .agg (zb0 wwH)):=
 small18R.ventR (by
  rintro _ _ ⟨s,rfl,rfl⟩
  exact ⟨_,_,.trans (vent_freeze_cell [.list true 1 [[sv (wT 48)],[sv (wT 49)],[sv (wT 50)]],.list true 1 [[sv bsmall]],.list true 1 [[sv bxx],[sv byy]],.v (.slice none 0 0)] [.list true 2 [[iv 0,.list true 1 [[iv 1],[iv 0],[iv 2]]],[iv 1,.list true 1 [[iv 2],[iv 0]]]],.v (.slice none 0 0),.v (.slice none 0 0)]) (.le (Sb.aggs (bs:=zb0 wwH) (by exact ⟨.unfull,.unfull,.unfull,.nil _ _,(.lists (by simp) ⟨⟨.refl _,.refl _,.refl _,.refl _,.refl _,.refl _,.refl _,.refl _,.nil _ _,trivial⟩,⟨.refl _,.refl _,.refl _,.refl _,.refl _,.refl _,.refl _,.refl _,.nil _ _,trivial⟩,⟨.refl _,.refl _,.refl _,.refl _,.refl _,.refl _,.refl _,.refl _,.nil _ _,trivial⟩,⟨.refl _,.refl _,.refl _,.refl _,.refl _,.refl _,.refl _,.refl _,.nil _ _,trivial⟩,⟨.refl _,.refl _,.refl _,.refl _,.refl _,.refl _,.refl _,.refl _,.nil _ _,trivial⟩,⟨.refl _,.refl _,.refl _,.refl _,.refl _,.refl _,.refl _,.refl _,.nil _ _,trivial⟩,⟨.refl _,.refl _,.refl _,.refl _,.refl _,.refl _,.refl _,.refl _,.nil _ _,trivial⟩,⟨.refl _,.refl _,.refl _,.refl _,.refl _,.refl _,.refl _,.refl _,.nil _ _,trivial⟩,⟨.refl _,.refl _,.refl _,.refl _,.refl _,.refl _,.refl _,.refl _,.nil _ _,trivial⟩,⟨.refl _,.refl _,.refl _,.refl _,.refl _,.refl _,.refl _,.refl _,.nil _ _,trivial⟩,⟨.refl _,.refl _,.refl _,.refl _,.refl _,.refl _,.refl _,.refl _,.nil _ _,trivial⟩,trivial⟩),(.lists (by simp) ⟨⟨.refl _,.unfull,trivial⟩,⟨.refl _,.unfull,trivial⟩,trivial⟩),.nil _ _,.nil _ _,trivial⟩)).le),rfl,rfl⟩)
theorem limW:Lim 4611686018427387904 wwH:=⟨by decide,by decide,by decide,by decide,by decide,by decide,by decide,by decide,by decide,by decide,by decide⟩
theorem ww20:chC wwH 2 0=0∧chO wwH 2 0= [1]:=by
 obtain ⟨a,b⟩:=chC_0 (h:=wwH) (f:=2) (t:=0) ww_check (by decide) (by rw [ww_ch20];decide)
 exact ⟨a,by rw [b,ww_ch20]⟩
theorem ww21:chC wwH 2 1=4∧chO wwH 2 1= []:=chC_4 ww_check (by decide) (by rw [ww_ch21];rfl)
theorem wA1:za6 Tryz.prog 17 [.agg (zb0 wwH)] (.glob 2 156 zc1:: .glob 4 305 zb6:: .glob 5 308 zb2:: .glob 3 246 ze0:: []) (fun r h'=>h'= .glob 2 156 zc1:: .glob 4 305 zb6:: .glob 5 308 zb2:: .glob 3 246 ze0:: []∧r= .tup [confsA [⟨0,2,0,1,8,0,0⟩,⟨1,0,0,5,1,0,0⟩,⟨2,0,0,9,2,1,0⟩],iv 0]):=(wwAllA wwH limW).mono fun _ _ q=>⟨q.1,by rw [q.2,wwA_y ww_check,ww_allS,ww_check]⟩
theorem wA2:za6 Tryz.prog 23 [.agg (zb0 wwH),iv 2,iv 0] (.glob 2 156 zc1:: .glob 4 305 zb6:: .glob 5 308 zb2:: .glob 3 246 ze0:: []) (fun r h'=>h'= .glob 2 156 zc1:: .glob 4 305 zb6:: .glob 5 308 zb2:: .glob 3 246 ze0:: []∧r= .tup [zf0 [1],iv 0]):=(wwChainA wwH limW 2 0).mono fun _ _ q=>⟨q.1,by rw [q.2,ww20.1,ww20.2]⟩
theorem wA3:za6 Tryz.prog 23 [.agg (zb0 wwH),iv 2,iv 1] (.glob 2 156 zc1:: .glob 4 305 zb6:: .glob 5 308 zb2:: .glob 3 246 ze0:: []) (fun r h'=>h'= .glob 2 156 zc1:: .glob 4 305 zb6:: .glob 5 308 zb2:: .glob 3 246 ze0:: []∧r= .tup [zf0 [],iv 4]):=(wwChainA wwH limW 2 1).mono fun _ _ q=>⟨q.1,by rw [q.2,ww21.1,ww21.2]⟩
theorem equalLit18 {g:Bool}:za6 Tryz.prog 25 [zf0 [1],.list g 1 [[iv 1]]] [] (fun r h'=>h'= []∧r=bv true):=(equalInt [1] [1] (by decide) (by decide)).mono fun _ _ q=>⟨q.1,by rw [q.2,eqF_eq intEq_eq];simp⟩
set_option maxHeartbeats 4000000 in
theorem wakes18  :za6 Tryz.prog 14 [] (.glob 2 156 zc1:: .glob 4 305 zb6:: .glob 5 308 zb2:: .glob 3 246 ze0:: []) (fun r h'=>h'= .glob 2 156 zc1:: .glob 4 305 zb6:: .glob 5 308 zb2:: .glob 3 246 ze0:: []∧r=bv true):=by
 refine za1 Tryz.func14 rfl rfl rfl ?_
 refine rn ?_;refine qv rfl rfl (za4 rfl rfl (za3.pure (R:=fun r=>r= .agg (zb0 wwH)) (za3.of_fun small18))) ?_
 refine qv rfl rfl (za4 rfl rfl (za3.of_fun wA1)) ?_
 refine rn ?_;refine qv rfl rfl (za4 rfl rfl (za3.pure (R:=fun r=>r= .agg (zb0 wwH)) (za3.of_fun small18))) ?_
 refine qv rfl rfl (za4 rfl rfl (za3.of_fun wA2)) ?_
 refine rn ?_;refine qv rfl rfl (za4 rfl rfl (za3.pure (R:=fun r=>r= .agg (zb0 wwH)) (za3.of_fun small18))) ?_
 refine qv rfl rfl (za4 rfl rfl (za3.of_fun wA3)) ?_
 refine rn ?_;refine qv rfl rfl (zc2 rfl rfl) ?_
 refine qv rfl rfl (za4 rfl rfl (za3.pure (R:=fun r=>r=bv true) (za3.of_fun (equalLit18)))) ?_
 refine q1 ?_;refine q1 ?_;refine q1 ?_;refine q1 ?_;refine q1 ?_;refine q1 ?_;refine q1 ?_;refine q1 ?_;refine qq rfl rfl (qr_index_int rfl rfl (by decide) rfl) ?_
 refine q1 ?_;refine q1 ?_;refine q1 ?_;refine q1 ?_;refine q1 ?_;refine q1 ?_;refine qq rfl rfl (qr_index_int rfl rfl (by decide) rfl) ?_
 refine q1 ?_;refine q1 ?_;refine q1 ?_;refine q1 ?_;refine q1 ?_;refine q1 ?_;refine qq rfl rfl (qr_index_int rfl rfl (by decide) rfl) ?_
 refine rn ?_;refine rq 0 ?_
 exact ⟨rfl,rfl⟩
theorem keepG_snoc {α:Type} {q:α→α→Bool} (c:α):∀(l:List α) (k:α),keepG q k (l++ [c])=keepG q k l++if q c (((keepG q k l).getLast?).getD k)=true then [] else [c]
 | [],k=>by
   simp only [List.nil_append,keepG,List.getLast?_nil,Option.getD_none]
   by_cases h:q c k=true <;> simp [h]
 | y::l,k=>by
   rw [List.cons_append,keepG,keepG]
   split
   ·exact keepG_snoc c l k
   ·rw [keepG_snoc c l y,List.cons_append]
    congr 3
    cases keepG q y l with
    |nil=>rfl
    |cons a r=>simp [List.getLast?_cons]
theorem keepF_snoc {α:Type} {q:α→α→Bool} (l:List α) (c:α):keepF q (l++ [c])=keepF q l++match (keepF q l).getLast? with
 |some p=>if q c p=true then [] else [c]
 |none=> [c]:=by
 cases l with
 |nil=>rfl
 | cons x r=>
   rw [List.cons_append,keepF,keepF,keepG_snoc,List.cons_append]
   cases h:keepG q x r with
   |nil=>rfl
   |cons a t=>rw [List.getLast?_cons_cons];simp [List.getLast?_cons]
theorem keep_0 {l:List Conf} {c:Conf} (h:(keepF ze8 l).length=0):keepF ze8 (l++ [c])=keepF ze8 l++ [c]:=by
 rw [keepF_snoc,List.length_eq_zero_iff.1 h];rfl
theorem keep_n {l:List Conf} {c p:Conf} (hp:(keepF ze8 l).getLast? =some p) (h:ze8 c p=false):keepF ze8 (l++ [c])=keepF ze8 l++ [c]:=by
 rw [keepF_snoc,hp];simp [h]
theorem keep_y {l:List Conf} {c p:Conf} (hp:(keepF ze8 l).getLast? =some p) (h:ze8 c p=true):keepF ze8 (l++ [c])=keepF ze8 l:=by
 rw [keepF_snoc,hp];simp [h]
theorem keepG_len {α:Type} {q:α→α→Bool}:∀(l:List α) (k:α),(keepG q k l).length≤l.length
 | [],_=>Nat.le_refl _
 | y::l,k=>by
   rw [keepG];split
   ·exact Nat.le_succ_of_le (keepG_len l k)
   ·exact Nat.succ_le_succ (keepG_len l y)
theorem keepF_len {α:Type} {q:α→α→Bool}:∀l:List α,(keepF q l).length≤l.length
 | []=>Nat.le_refl _
 |x::r=>Nat.succ_le_succ (keepG_len r x)
theorem same_sw (a b:Conf):ze8 a b=(b.f==a.f && b.t==a.t && b.k==a.k):=by rw [ze8,Bool.beq_comm (a:=a.f),Bool.beq_comm (a:=a.t),Bool.beq_comm (a:=a.k)]
theorem last_at {L:List Conf} (h:L.length≠0):∃p,L.getLast? =some p∧(L.map zb3)[(((L.map zb3).length:Int) - 1).toNat]? =some (zb3 p):=by
 have hl:L.length - 1 < L.length:=by omega
 refine ⟨L[L.length - 1],by rw [List.getLast?_eq_getElem?,List.getElem?_eq_getElem hl],?_⟩
 rw [show (((L.map zb3).length:Int) - 1).toNat=L.length - 1 by rw [List.length_map];omega,List.getElem?_map,List.getElem?_eq_getElem hl];rfl
theorem last_of {L:List Conf} (hq:(((L.map zb3).length:Int)==0)=false):∃p,L.getLast? =some p∧(L.map zb3)[(((L.map zb3).length:Int) - 1).toNat]? =some (zb3 p)∧0≤(((L.map zb3).length:Int) - 1)∧(((L.map zb3).length:Int) - 1).toNat < (L.map zb3).length:=by
 have hz:L.length≠0:=by rw [List.length_map] at hq;simpa using hq
 obtain ⟨p,h1,h2⟩:=last_at hz
 exact ⟨p,h1,h2,by rw [List.length_map];omega,by rw [List.length_map];omega⟩
theorem insR3 {h:Hist} (hc:zd0 h=0) {x:Int} (h0:0≤x) (h1:x < h.os.length):(insR h x).length≤3000:=by
 rw [←ins_eq (checkI_0.1 hc) h0 h1];exact ins_le hc h0 h1
theorem wwR_le {h:Hist} (hc:zd0 h=0) {x:Int} (h0:0≤x) (h1:x < h.os.length):(wwR h x).length≤3000:=by
 have:=insR3 hc h0 h1
 rw [wwR,wwL_len];omega
theorem putAll_len (l:List Conf):∀out:List Conf,(putAll out l).length≤out.length+l.length:=by
 induction l with
 |nil=>intro out;exact Nat.le_refl _
 | cons c r ih=>
   intro out
   have h1:=ih (putC cmpC out c)
   have h2:=putC_len out c
   rw [show putAll out (c::r)=putAll (putC cmpC out c) r from rfl,List.length_cons];omega
theorem eachN_len {h:Hist} (hc:zd0 h=0):∀k:Nat,k≤h.os.length→(eachN h k).length≤k * 3000
 |0,_=>Nat.zero_le _
 | k+1,hk=>by
   have h1:=eachN_len hc k (by omega)
   have h2:=wwR_le hc (x:=k) (by omega) (by omega)
   have h3:=putAll_len (wwR h k) (eachN h k)
   rw [eachN_s,Nat.succ_mul];omega
theorem eachN_le {h:Hist} (hc:zd0 h=0) {k:Nat} (hk:k≤h.os.length):(eachN h k).length≤9000000:=by
 have h1:=eachN_len hc k hk
 have:=(chk_lim hc).os
 omega
def chR (h:Hist) (f t:Int) (k:Nat):List Int:=(upR k).filter fun x=>decide (atI f 0 (insR h x) ≥ 0) && decide (atI t 0 (insR h x) > atI f 0 (insR h x))
theorem chR_t {h:Hist} {f t:Int} {k:Nat} (ha:(decide (atI f 0 (insR h k) ≥ 0) && decide (atI t 0 (insR h k) > atI f 0 (insR h k)))=true):(chR h f t (k+1)).map intR=(chR h f t k).map intR++ [[iv k]]:=by
 rw [chR,upR_s,List.filter_append,List.map_append];simp [chR,intR,(show ((k:Int))=k from rfl),by simpa using ha]
theorem chR_f {h:Hist} {f t:Int} {k:Nat} (ha:(decide (atI f 0 (insR h k) ≥ 0) && decide (atI t 0 (insR h k) > atI f 0 (insR h k)))=false):chR h f t (k+1)=chR h f t k:=by
 rw [chR,upR_s,List.filter_append,List.filter_cons,ha];simp [chR]
theorem chR_len (h:Hist) (f t:Int) (k:Nat):(chR h f t k).length≤k:=by
 refine Nat.le_trans (List.length_filter_le _ _) ?_
 rw [upR,List.length_map,List.length_range];exact Nat.le_refl _
set_option maxHeartbeats 4000000 in
theorem refOf18 (h:Hist) (la:Lim 1000000 h) (x:Int) (hb:(insR h x).length≤3000):za6 Tryz.prog 22 [.agg (zb0 h),iv x] [] (fun r h'=>h'= []∧r=confsA (wwR h x)):=by
 refine za1 Tryz.func22 rfl rfl rfl ?_
 refine rn ?_;refine za2 rfl (zb5 rfl rfl rfl fun b2=> ?_)
 refine rn ?_;refine qv rfl rfl (za4 rfl rfl (zc0 (refInst16 h la x) (Sbs.refl _))) ?_
 refine rn ?_;refine aw_while (fun z:Nat×SV=>z.1≤(insR h x).length - 1) (fun z=>⟨[(5,.v z.2.v),(7,iv (z.1+1:Nat)),(1,iv x),(2,pZ b2),(6,zf0 (insR h x))],.row z.2.v 7 41 (((wwR h x).take z.1).map zb3):: .box b2 28 (zb0 h):: [],[]⟩) (fun z=>(insR h x).length - z.1) (0,⟨none,0,0⟩) (Nat.zero_le _) (zc5 (ze5 7 41) es) ?_
 rintro ⟨k,s⟩ lk
 simp only at lk
 show aw _ _ _ _ _ ⟨[(5,.v s.v),(7,iv (k+1:Nat)),(1,iv x),(2,pZ b2),(6,zf0 (insR h x))],.row s.v 7 41 (((wwR h x).take k).map zb3):: .box b2 28 (zb0 h):: [],[]⟩
 refine rn ?_;refine za0 rfl (fun hc20=> ?_) (fun hc20=> ?_)
 ·have hk:k+1 < (insR h x).length:=by have q:=of_decide_eq_true hc20;rw [List.length_map] at q;omega
  have rk:((insR h x).map intR)[k]? =some (intR ((insR h x)[k]'(by omega))):=ze2 (by omega)
  have rk1:((insR h x).map intR)[k+1]? =some (intR (insR h x)[k+1]):=ze2 hk
  have hkl:k < ((insR h x).map intR).length:=by rw [List.length_map];omega
  have hkl1:k+1 < ((insR h x).map intR).length:=by rw [List.length_map];omega
  refine zf2 ?_;refine rn0 ?_;refine zb4 ?_;refine aw_block ?_;refine zb4 ?_;refine aw_drawX 15 [12,13] [14] (fun he=>he= .row s.v 7 41 (((wwR h x).take k).map zb3):: .box b2 28 (zb0 h):: []∨∃b c,he= .box b 57 c:: .row s.v 7 41 (((wwR h x).take k).map zb3):: .box b2 28 (zb0 h):: []) rfl rfl (.inl rfl) ?_
  refine jq rfl (fun he hC=>by rcases hC with rfl|⟨b,c,rfl⟩ <;> exact qrA) ?_
  refine jq rfl (fun he hC=>by rcases hC with rfl|⟨b,c,rfl⟩ <;> exact qrA) ?_
  refine jq rfl (fun he hC=>by rcases hC with rfl|⟨b,c,rfl⟩ <;> exact qrA) ?_
  refine jq rfl (fun he hC=>by rcases hC with rfl|⟨b,c,rfl⟩ <;> exact (by exact qr_as (qr_ari rfl rfl rfl (by omega)) (show AV.v (.int .i64 (((k+1:Nat):Int) - 1))=iv (k:Nat) by rw [Int.natCast_add];simp))) ?_
  refine jq rfl (fun he hC=>by rcases hC with rfl|⟨b,c,rfl⟩ <;> exact (by exact qr_index_list rfl rfl rk)) ?_
  refine jq rfl (fun he hC=>by rcases hC with rfl|⟨b,c,rfl⟩ <;> exact qrA) ?_
  refine jq rfl (fun he hC=>by rcases hC with rfl|⟨b,c,rfl⟩ <;> exact qrA) ?_
  refine jv rfl (fun he hC=>by rcases hC with rfl|⟨b,c,rfl⟩ <;> exact (by exact za4 rfl rfl (zc0 (refFinal16 h la.evs ((insR h x)[k]'(by omega)) x) (Sbs.refl _)))) ?_
  refine jq rfl (fun he hC=>by rcases hC with rfl|⟨b,c,rfl⟩ <;> exact qrA) ?_
  refine jq rfl (fun he hC=>by rcases hC with rfl|⟨b,c,rfl⟩ <;> exact qrA) ?_
  refine jq rfl (fun he hC=>by rcases hC with rfl|⟨b,c,rfl⟩ <;> exact qrA) ?_
  refine jq rfl (fun he hC=>by rcases hC with rfl|⟨b,c,rfl⟩ <;> exact qrA) ?_
  refine je rfl ?_;refine je rfl ?_;refine je rfl ?_;refine jnil ?_;refine jce rfl fun u=> ?_
  refine zb1 rfl fun b8=>⟨_,_,rfl,.inr ⟨_,_,rfl⟩,?_⟩
  refine jce rfl fun u=> ?_
  refine oe_store_all rfl rfl rfl ⟨.any,_,rfl,.inr ⟨_,_,rfl⟩,?_⟩
  refine jcn ?_;refine lq rfl rfl (by exact qrA) ?_
  refine ln ?_;refine rn0 ?_;refine zb4 ?_;refine aw_drawX 14 [11,12] [13] (fun he=>he= .box b8 57 (verR (verO (finW h.evs ((insR h x)[k]'(by omega)) x))):: .row s.v 7 41 (((wwR h x).take k).map zb3):: .box b2 28 (zb0 h):: []∨∃b c,he= .box b 57 c:: .box b8 57 (verR (verO (finW h.evs ((insR h x)[k]'(by omega)) x))):: .row s.v 7 41 (((wwR h x).take k).map zb3):: .box b2 28 (zb0 h):: []) rfl rfl (.inl rfl) ?_
  refine jq rfl (fun he hC=>by rcases hC with rfl|⟨b,c,rfl⟩ <;> exact qrA) ?_
  refine jq rfl (fun he hC=>by rcases hC with rfl|⟨b,c,rfl⟩ <;> exact qrA) ?_
  refine jq rfl (fun he hC=>by rcases hC with rfl|⟨b,c,rfl⟩ <;> exact qrA) ?_
  refine jq rfl (fun he hC=>by rcases hC with rfl|⟨b,c,rfl⟩ <;> exact (by exact qr_index_list rfl rfl rk1)) ?_
  refine jq rfl (fun he hC=>by rcases hC with rfl|⟨b,c,rfl⟩ <;> exact qrA) ?_
  refine jq rfl (fun he hC=>by rcases hC with rfl|⟨b,c,rfl⟩ <;> exact qrA) ?_
  refine jv rfl (fun he hC=>by rcases hC with rfl|⟨b,c,rfl⟩ <;> exact (by exact za4 rfl rfl (zc0 (refFinal16 h la.evs (insR h x)[k+1] x) (Sbs.refl _)))) ?_
  refine jq rfl (fun he hC=>by rcases hC with rfl|⟨b,c,rfl⟩ <;> exact qrA) ?_
  refine jq rfl (fun he hC=>by rcases hC with rfl|⟨b,c,rfl⟩ <;> exact qrA) ?_
  refine jq rfl (fun he hC=>by rcases hC with rfl|⟨b,c,rfl⟩ <;> exact qrA) ?_
  refine jq rfl (fun he hC=>by rcases hC with rfl|⟨b,c,rfl⟩ <;> exact qrA) ?_
  refine je rfl ?_;refine je rfl ?_;refine je rfl ?_;refine jnil ?_;refine jce rfl fun u=> ?_
  refine zb1 rfl fun b11=>⟨_,_,rfl,.inr ⟨_,_,rfl⟩,?_⟩
  refine jce rfl fun u=> ?_
  refine oe_store_all rfl rfl rfl ⟨.any,_,rfl,.inr ⟨_,_,rfl⟩,?_⟩
  refine jcn ?_;refine lq rfl rfl (by exact qrA) ?_
  refine ln ?_;refine rn ?_;refine zd2 15 rfl ?_
  refine dq rfl rfl qrA ?_;refine dq rfl rfl qrA ?_;refine dq rfl rfl qrA ?_;refine dq rfl rfl (qr_as (qr_ari rfl rfl rfl (by omega)) (show AV.v (.int .i64 (((k+1:Nat):Int) - 1))=iv (k:Nat) by rw [Int.natCast_add];simp)) ?_
  refine dq rfl rfl (qr_index_list rfl rfl rk) ?_
  refine dq rfl rfl qrA ?_;refine dq rfl rfl qrA ?_;refine dq rfl rfl qrA ?_;refine dq rfl rfl (qr_index_list rfl rfl rk1) ?_
  refine dq rfl rfl qrA ?_;refine dq rfl rfl qrA ?_;refine dq rfl rfl qrA ?_;refine dq rfl rfl qrA ?_;refine dq rfl rfl (qr_build (out:=zb3 (wwC h x ((insR h x)[k]'(by omega)) (insR h x)[k+1])) rfl (by rfl)) ?_
  refine dv rfl rfl (zc2 rfl rfl) ?_
  refine rn ?_;refine za2 rfl (zb7 rfl rfl (by simp only [List.length_map,List.length_take,wwR,wwL_len,List.length_cons,List.length_nil];omega) rfl (fun s61=> ?_) (ze7 [wwC h x ((insR h x)[k]'(by omega)) (insR h x)[k+1]]))
  refine zc7 s61 fun sv hsv=> ?_
  subst hsv
  refine rn ?_;exact ⟨(k+1,sv),by simp only;omega,by simp only;rw [show (wwR h x).take (k+1)=(wwR h x).take k++ [_] from wwL_take hk,List.map_append];exact eA,by simp only;omega⟩
 ·have qk:(insR h x).length≤k+1:=by have q:=of_decide_eq_false hc20;rw [List.length_map] at q;omega
  refine rn ?_;exact retT rfl (.trans vent_freeze (.drop [_] _ _)) ⟨rfl,by rw [List.take_of_length_le (by rw [wwR,wwL_len];omega)];rfl⟩
set_option maxHeartbeats 4000000 in
theorem refFirst18 {f:Bool} (l:List Conf) (hl:l.length≤1000000000):za6 Tryz.prog 73 [.list f 7 (l.map zb3)] [] (fun r h'=>h'= []∧r=confsA (firC l)):=by
 refine za1 Tryz.func73 rfl rfl rfl ?_
 refine rn ?_;refine aw_rng1 l.length (fun k s=>⟨[(9,iv k),(3,.v s.v),(7,.list f 7 (l.map zb3)),(8,iv (l.map zb3).length)],.row s.v 7 41 ((keepF ze8 (l.take k)).map zb3):: [],[]⟩) ⟨none,0,0⟩ (zc5 (ze5 7 41) es) ?_
 intro k s lk
 refine rn ?_;refine za0 rfl (fun hc10=> ?_) (fun hc10=> ?_)
 ·have hk:=ltMap hc10
  have rk:=ze2 (f:=zb3) hk
  have bK:(keepF ze8 (l.take k)).length≤k:=Nat.le_trans (keepF_len _) (List.length_take_le _ _)
  refine rn ?_;refine za2 rfl (zb1 rfl fun b5=> ?_)
  refine rn ?_;refine zd2 33 rfl ?_
  refine rn ?_;refine dsplit (fun hg6_2=> ?_) (fun hg6_2=> ?_)
  ·first|(obtain ⟨p,hp1,hp2,hp0,hpi⟩:=last_of hg6_2)|skip
   refine rn ?_;refine aw_ct rfl ?_;have hw:keepF ze8 (l.take k++ [l[k]])=(keepF ze8 (l.take k))++ [l[k]]:=by first|exact keep_0 (by have q:((((keepF ze8 (l.take k)).map zb3).length:Int)==0)=true:=hg6_2;rw [List.length_map] at q;simpa using q)|exact keep_n hp1 (by rw [same_sw];simp_all)
   refine rn ?_;refine qv rfl rfl (zc2 rfl rfl) ?_
   refine za2 rfl (zb7 rfl rfl (by simp only [List.length_map,List.length_cons,List.length_nil];omega) rfl (fun s53=> ?_) (ze7 [l[k]]))
   refine zc7 s53 fun sv hsv=> ?_
   subst hsv
   refine rn ?_;first|exact ⟨hk,sv,by rw [List.take_succ_eq_append_getElem hk,hw,List.map_append];exact eA⟩|exact ⟨hk,s,by rw [List.take_succ_eq_append_getElem hk,hw];exact eA⟩
  ·first|(obtain ⟨p,hp1,hp2,hp0,hpi⟩:=last_of hg6_2)|skip
   refine dq rfl rfl qrA ?_;refine dq rfl rfl qrA ?_;refine dq rfl rfl (qr_ari rfl rfl rfl (by rw [List.length_map];omega)) ?_
   refine dq rfl rfl (qr_index_rowI rfl rfl hp0 hpi) ?_
   refine dq rfl rfl (qr_fieldAddr_row rfl (by decide)) ?_
   refine dq rfl rfl (qr_load_rp_one rfl hp2 rfl) ?_
   refine rn ?_;refine dsplit (fun hg6_13=> ?_) (fun hg6_13=> ?_)
   ·refine rn ?_;refine aw_ct rfl ?_;have hw:keepF ze8 (l.take k++ [l[k]])=(keepF ze8 (l.take k))++ [l[k]]:=by first|exact keep_0 (by have q:((((keepF ze8 (l.take k)).map zb3).length:Int)==0)=true:=hg6_2;rw [List.length_map] at q;simpa using q)|exact keep_n hp1 (by rw [same_sw];simp_all)
    refine rn ?_;refine qv rfl rfl (zc2 rfl rfl) ?_
    refine za2 rfl (zb7 rfl rfl (by simp only [List.length_map,List.length_cons,List.length_nil];omega) rfl (fun s53=> ?_) (ze7 [l[k]]))
    refine zc7 s53 fun sv hsv=> ?_
    subst hsv
    refine rn ?_;first|exact ⟨hk,sv,by rw [List.take_succ_eq_append_getElem hk,hw,List.map_append];exact eA⟩|exact ⟨hk,s,by rw [List.take_succ_eq_append_getElem hk,hw];exact eA⟩
   ·refine dq rfl rfl qrA ?_;refine dq rfl rfl qrA ?_;refine dq rfl rfl (qr_ari rfl rfl rfl (by rw [List.length_map];omega)) ?_
    refine dq rfl rfl (qr_index_rowI rfl rfl hp0 hpi) ?_
    refine dq rfl rfl (qr_fieldAddr_row rfl (by decide)) ?_
    refine dq rfl rfl (qr_load_rp_one rfl hp2 rfl) ?_
    refine rn ?_;refine dsplit (fun hg6_24=> ?_) (fun hg6_24=> ?_)
    ·refine rn ?_;refine aw_ct rfl ?_;have hw:keepF ze8 (l.take k++ [l[k]])=(keepF ze8 (l.take k))++ [l[k]]:=by first|exact keep_0 (by have q:((((keepF ze8 (l.take k)).map zb3).length:Int)==0)=true:=hg6_2;rw [List.length_map] at q;simpa using q)|exact keep_n hp1 (by rw [same_sw];simp_all)
     refine rn ?_;refine qv rfl rfl (zc2 rfl rfl) ?_
     refine za2 rfl (zb7 rfl rfl (by simp only [List.length_map,List.length_cons,List.length_nil];omega) rfl (fun s53=> ?_) (ze7 [l[k]]))
     refine zc7 s53 fun sv hsv=> ?_
     subst hsv
     refine rn ?_;first|exact ⟨hk,sv,by rw [List.take_succ_eq_append_getElem hk,hw,List.map_append];exact eA⟩|exact ⟨hk,s,by rw [List.take_succ_eq_append_getElem hk,hw];exact eA⟩
    ·refine dq rfl rfl qrA ?_;refine dq rfl rfl qrA ?_;refine dq rfl rfl (qr_ari rfl rfl rfl (by rw [List.length_map];omega)) ?_
     refine dq rfl rfl (qr_index_rowI rfl rfl hp0 hpi) ?_
     refine dq rfl rfl (qr_fieldAddr_row rfl (by decide)) ?_
     refine dq rfl rfl (qr_load_rp_one rfl hp2 rfl) ?_
     refine rn ?_;refine za0 rfl (fun hc49=> ?_) (fun hc49=> ?_)
     ·have hw:keepF ze8 (l.take k++ [l[k]])=(keepF ze8 (l.take k))++ [l[k]]:=by first|exact keep_0 (by have q:((((keepF ze8 (l.take k)).map zb3).length:Int)==0)=true:=hg6_2;rw [List.length_map] at q;simpa using q)|exact keep_n hp1 (by rw [same_sw];simp_all)
      refine rn ?_;refine qv rfl rfl (zc2 rfl rfl) ?_
      refine za2 rfl (zb7 rfl rfl (by simp only [List.length_map,List.length_cons,List.length_nil];omega) rfl (fun s53=> ?_) (ze7 [l[k]]))
      refine zc7 s53 fun sv hsv=> ?_
      subst hsv
      refine rn ?_;first|exact ⟨hk,sv,by rw [List.take_succ_eq_append_getElem hk,hw,List.map_append];exact eA⟩|exact ⟨hk,s,by rw [List.take_succ_eq_append_getElem hk,hw];exact eA⟩
     ·have hw:keepF ze8 (l.take k++ [l[k]])=(keepF ze8 (l.take k)):=keep_y hp1 (by rw [same_sw];simp_all)
      refine rn ?_;first|exact ⟨hk,sv,by rw [List.take_succ_eq_append_getElem hk,hw,List.map_append];exact eA⟩|exact ⟨hk,s,by rw [List.take_succ_eq_append_getElem hk,hw];exact eA⟩
 ·have qk:=geMap hc10 lk
  refine rn ?_;exact retT rfl vent_freeze ⟨rfl,by rw [qk,List.take_length];rfl⟩
theorem putAll_take {out l:List Conf} {j:Nat} (qj:j=l.length):putAll out l=putAll out (l.take j):=by rw [qj,List.take_length]
set_option maxHeartbeats 4000000 in
theorem refEachR (h:Hist) (la:Lim 1000000 h) (hc:zd0 h=0):za6 Tryz.prog 27 [.agg (zb0 h)] [] (fun r h'=>∃s:SV,h'= [.row s.v 7 41 ((eachR h).map zb3)]∧r= .v s.v):=by
 refine za1 Tryz.func27 rfl rfl rfl ?_
 refine rn ?_;refine za2 rfl (zb5 rfl rfl rfl fun b1=> ?_)
 refine rn ?_;have lO:=(chk_lim hc).os
 refine aw_rng1 h.os.length (fun k s=>⟨[(10,iv k),(3,.v s.v),(1,pZ b1),(9,iv (h.os.map strR).length)],.row s.v 7 41 ((eachN h k).map zb3):: .box b1 28 (zb0 h):: [],[]⟩) ⟨none,0,0⟩ (zc5 (ze5 7 41) es) ?_
 intro k s lk
 refine rn ?_;refine za0 rfl (fun hc11=> ?_) (fun hc11=> ?_)
 ·have hk:k < h.os.length:=by have q:=of_decide_eq_true hc11;rw [List.length_map] at q;omega
  have h3:=insR3 hc (x:=k) (by omega) (by omega)
  have h4:=wwR_le hc (x:=k) (by omega) (by omega)
  have h5:=eachN_le hc (k:=k) (by omega)
  refine rn ?_;refine qv rfl rfl (za4 rfl rfl (za3.pure (R:=fun r=>r=confsA (wwR h k)) (za3.of_fun (refOf18 h la k h3)))) ?_
  refine rn ?_;refine aw_rng1 (wwR h k).length (fun j s=>⟨[(17,iv j),(3,.v s.v),(1,pZ b1),(9,iv (h.os.map strR).length),(10,iv k),(15,confsA (wwR h k)),(16,iv ((wwR h k).map zb3).length)],.row s.v 7 41 ((putAll (eachN h k) ((wwR h k).take j)).map zb3):: .box b1 28 (zb0 h):: [],[]⟩) s es ?_
  intro j s lj
  refine rn ?_;refine za0 rfl (fun hc18=> ?_) (fun hc18=> ?_)
  ·have hj:j < (wwR h k).length:=by have q:=of_decide_eq_true hc18;rw [List.length_map] at q;omega
   have rj:((wwR h k).map zb3)[j]? =some (zb3 (wwR h k)[j]):=ze2 hj
   have hjl:j < ((wwR h k).map zb3).length:=by rw [List.length_map];exact hj
   have h6:=putAll_len ((wwR h k).take j) (eachN h k)
   have h7:=List.length_take_le j (wwR h k)
   refine zf2 ?_;refine zd8 ?_;refine zb4 ?_;refine aw_block ?_;refine zb4 (za9 ?_)
   refine qq rfl rfl (qr_index_list rfl rfl rj) ?_
   refine rn ?_;refine za2 rfl (zb1 rfl fun b6=> ?_)
   refine rn ?_;refine za2 rfl (zc3 rfl rfl (za3.fr (za3.of_fun (refPut (putAll (eachN h k) ((wwR h k).take j)) s (wwR h k)[j] (by omega))) (pt1 _ _ _)) rfl ?_)
   rintro _ _ ⟨_,rfl,s2,rfl,rfl⟩
   refine rn ?_;exact ⟨hj,s2,by rw [putAll_s _ _ hj];exact zc5 (ent_perm (pt1 _ _ _)) (zc5 (ent_drop (h1:= [_])) es)⟩
  ·have qj:j=(wwR h k).length:=by have q:=of_decide_eq_false hc18;rw [List.length_map] at q;omega
   refine rn ?_;exact ⟨hk,s,by rw [eachN_s,putAll_take qj];exact eA⟩
 ·have qk:k=h.os.length:=by have q:=of_decide_eq_false hc11;rw [List.length_map] at q;omega
  refine rn ?_;exact retT rfl (.trans (.perm (perm_swap [_] [_]) _) (.drop [_] _ _)) ⟨s,by rw [qk];rfl,rfl⟩
theorem refEach18 (h:Hist) (la:Lim 1000000 h) (hc:zd0 h=0):za6 Tryz.prog 27 [.agg (zb0 h)] [] (fun r h'=>h'= []∧r=confsA (eachR h)):=(refEachR h la hc).ventR (by rintro _ _ ⟨s,rfl,rfl⟩;exact ⟨_,_,vent_freeze,rfl,rfl⟩)
theorem eachR_le {h:Hist} (hc:zd0 h=0):(eachR h).length≤9000000:=eachN_le hc (Nat.le_refl _)
theorem refAll18 (h:Hist) (la:Lim 1000000 h) (hc:zd0 h=0):za6 Tryz.prog 18 [.agg (zb0 h)] [] (fun r h'=>h'= []∧r=confsA (firC (eachR h))):=by
 refine za1 Tryz.func18 rfl rfl rfl ?_
 refine rn ?_;refine za2 rfl (zb5 rfl rfl rfl fun b1=> ?_)
 refine rn ?_;refine qv rfl rfl (za4 rfl rfl (zc0 (refEach18 h la hc) (Sbs.refl _))) ?_
 refine qv rfl rfl (za4 rfl rfl (zc0 (refFirst18 (eachR h) (Nat.le_trans (eachR_le hc) (by decide))) (Sbs.refl _))) ?_
 refine rn ?_;refine rq 1 ?_
 exact ⟨rfl,rfl⟩
set_option maxHeartbeats 4000000 in
theorem refChain18 (h:Hist) (la:Lim 1000000 h) (hc:zd0 h=0) (f t:Int):za6 Tryz.prog 24 [.agg (zb0 h),iv f,iv t] [] (fun r h'=>h'= []∧r=zf0 (chainR h f t)):=by
 refine za1 Tryz.func24 rfl rfl rfl ?_
 refine rn ?_;refine za2 rfl (zb5 rfl rfl rfl fun b3=> ?_)
 refine rn ?_;have lO:=(chk_lim hc).os
 refine aw_rng1 h.os.length (fun k s=>⟨[(15,iv k),(7,.v s.v),(1,iv f),(2,iv t),(3,pZ b3),(14,iv (h.os.map strR).length)],.row s.v 1 3 ((chR h f t k).map intR):: .box b3 28 (zb0 h):: [],[]⟩) ⟨none,0,0⟩ (zc5 (ze5 1 3) es) ?_
 intro k s lk
 refine rn ?_;refine za0 rfl (fun hc16=> ?_) (fun hc16=> ?_)
 ·have hk:k < h.os.length:=by have q:=of_decide_eq_true hc16;rw [List.length_map] at q;omega
  have h3:=insR3 hc (x:=k) (by omega) (by omega)
  have bk:=chR_len h f t k
  refine rn ?_;refine qv rfl rfl (za4 rfl rfl (za3.pure (R:=fun r=>r=zf0 (insR h k)) (za3.of_fun (refInst16 h la k)))) ?_
  refine rn ?_;refine qv rfl rfl (za4 rfl rfl (za3.pure (R:=fun r=>r=iv (atI f 0 (insR h k))) (za3.of_fun (refAt (insR h k) f (Nat.le_trans h3 (by decide)))))) ?_
  refine rn ?_;refine qv rfl rfl (za4 rfl rfl (za3.pure (R:=fun r=>r=iv (atI t 0 (insR h k))) (za3.of_fun (refAt (insR h k) t (Nat.le_trans h3 (by decide)))))) ?_
  refine rn ?_;refine za8 (fun hg7_2=> ?_) (fun hg7_2=> ?_)
  ·refine rn ?_;refine za0 rfl (fun hc33=> ?_) (fun hc33=> ?_)
   ·have hw:(decide ((atI f 0 (insR h k)) ≥ 0) && decide ((atI t 0 (insR h k)) > (atI f 0 (insR h k))))=true:=by first|(rw [hg7_2,hc33];rfl)|(rw [show decide ((atI f 0 (insR h k)) ≥ 0)=true from hg7_2,show decide ((atI t 0 (insR h k)) > (atI f 0 (insR h k)))=true from hc33];rfl)
    refine rn ?_;refine qv rfl rfl (zc2 rfl rfl) ?_
    refine za2 rfl (zb7 rfl rfl (by simp only [List.length_map,List.length_cons,List.length_nil];omega) rfl (fun s37=> ?_) (one_int [(k:Int)]))
    refine zc7 s37 fun sv hsv=> ?_
    subst hsv
    refine rn ?_;first|exact ⟨hk,sv,by rw [chR_t hw];exact eA⟩|exact ⟨hk,s,by rw [chR_f hw];exact eA⟩
   ·have hw:(decide ((atI f 0 (insR h k)) ≥ 0) && decide ((atI t 0 (insR h k)) > (atI f 0 (insR h k))))=false:=by first|(rw [show decide ((atI f 0 (insR h k)) ≥ 0)=false from hg7_2];rfl)|(rw [show decide ((atI t 0 (insR h k)) > (atI f 0 (insR h k)))=false from hc33,Bool.and_false])
    refine rn ?_;first|exact ⟨hk,sv,by rw [chR_t hw];exact eA⟩|exact ⟨hk,s,by rw [chR_f hw];exact eA⟩
  ·refine rn ?_;refine aw_cf rfl ?_;have hw:(decide ((atI f 0 (insR h k)) ≥ 0) && decide ((atI t 0 (insR h k)) > (atI f 0 (insR h k))))=false:=by first|(rw [show decide ((atI f 0 (insR h k)) ≥ 0)=false from hg7_2];rfl)|(rw [show decide ((atI t 0 (insR h k)) > (atI f 0 (insR h k)))=false from hc33,Bool.and_false])
   refine rn ?_;first|exact ⟨hk,sv,by rw [chR_t hw];exact eA⟩|exact ⟨hk,s,by rw [chR_f hw];exact eA⟩
 ·have qk:k=h.os.length:=by have q:=of_decide_eq_false hc16;rw [List.length_map] at q;omega
  refine rn ?_;exact retT rfl (.trans vent_freeze (.drop [_] _ _)) ⟨rfl,by rw [qk];rfl⟩
theorem wA_eq {h:Hist} (hc:zd0 h=0):wwA h=firC (eachR h):=by rw [wwA_y hc,all_eq (checkI_0.1 hc)]
theorem wwA_len (h:Hist):(wwA h).length≤9000000:=by
 by_cases hc:zd0 h=0
 ·rw [wwA_y hc,wwAll]
  refine Nat.le_trans (compF_sub _ _).length_le ?_
  rw [(sortL_perm cmpC _).length_eq];exact rows_flat hc
 ·rw [wwA_n hc];exact Nat.zero_le _
theorem isB_t18 {n m:Int} (h:isB n m=true):0≤n∧n < m:=by rw [isB,Bool.and_eq_true,decide_eq_true_eq,decide_eq_true_eq] at h;exact h
theorem isB_f18 {n m:Int} (h:isB n m=false):¬(0≤n∧n < m):=fun q=>by rw [isB,decide_eq_true q.1,decide_eq_true q.2] at h;cases h
theorem of_a {h:Hist} {n:Int} (hc:zd0 h=0) (hn:0≤n∧n < h.os.length):wwO h n=wwR h n∧askE h n h.os.length=0:=⟨by rw [wwO_y (ask_y hc hn),ww_eq (checkI_0.1 hc) hn.1 hn.2],ask_y hc hn⟩
theorem of_b {h:Hist} {n:Int} (hc:zd0 h=0) (hn:¬(0≤n∧n < h.os.length)):wwO h n= []∧askE h n h.os.length=2:=⟨wwO_n (by rw [ask_r hc hn];decide),ask_r hc hn⟩
theorem of_c {h:Hist} {n:Int} (hc:zd0 h≠0):wwO h n= []∧askE h n h.os.length=zd0 h:=⟨wwO_n (by rw [ask_c hc];exact hc),ask_c hc⟩
theorem ch_a {h:Hist} {f t:Int} (hc:zd0 h=0) (hn:(0≤f∧0≤t)∧(f < h.ts.length∧t < h.ts.length)) (h0:((((chainR h f t).map intR).length:Int)==0)=false):chO h f t=chainR h f t∧chC h f t=0:=by
 have e:=chain_eq (checkI_0.1 hc) f t
 rw [List.length_map,←e] at h0
 obtain ⟨a,b⟩:=chC_0 hc hn (by simpa using h0)
 exact ⟨by rw [b,e],a⟩
theorem ch_4 {h:Hist} {f t:Int} (hc:zd0 h=0) (hn:(0≤f∧0≤t)∧(f < h.ts.length∧t < h.ts.length)) (h0:((((chainR h f t).map intR).length:Int)==0)=true):chO h f t=chainR h f t∧chC h f t=4:=by
 have e:=chain_eq (checkI_0.1 hc) f t
 rw [List.length_map,←e] at h0
 have hz:(chainP h f t).length=0:=by simpa using h0
 obtain ⟨a,b⟩:=chC_4 hc hn hz
 exact ⟨by rw [b,←e,List.length_eq_zero_iff.1 hz],a⟩
theorem ch_b {h:Hist} {f t:Int} (hc:zd0 h=0) (hn:¬((0≤f∧0≤t)∧(f < h.ts.length∧t < h.ts.length))):chO h f t= []∧chC h f t=2:=⟨(chC_2 hc hn).2,(chC_2 hc hn).1⟩
theorem ch_c {h:Hist} {f t:Int} (hc:zd0 h≠0):chO h f t= []∧chC h f t=zd0 h:=⟨(chC_1 hc).2,(chC_1 hc).1⟩
theorem chO_len (h:Hist) (f t:Int):(chO h f t).length≤4611686018427387904:=by
 rw [chO]
 split
 ·rename_i he
  rw [chC] at he
  split at he
  ·rename_i hc;exact Nat.le_trans (chK_len h f t _) (Nat.le_trans (chk_lim hc).os (by decide))
  ·exact absurd he ‹_›
 ·exact Nat.zero_le _
theorem same18 (h:Hist) (la:Lim 4611686018427387904 h):za6 Tryz.prog 26 [.agg (zb0 h),.agg (zb0 h)] [] (fun r h'=>h'= []∧r=bv true):=(refSame h h la la).mono fun _ _ q=>⟨q.1,by rw [q.2,sameB_self]⟩
theorem eqI18 (l:List Int) (hl:l.length≤4611686018427387904):za6 Tryz.prog 25 [zf0 l,zf0 l] [] (fun r h'=>h'= []∧r=bv true):=(equalInt l l hl hl).mono fun _ _ q=>⟨q.1,by rw [q.2,eqF_eq intEq_eq];simp⟩
set_option maxHeartbeats 4000000 in
theorem wwAllL (x:Hist) (os:List Int) (ps:List (Int×Int)) (lb:Big x) (ho:os.length≤4611686018427387904) (hp:ps.length≤4611686018427387904):za6 Tryz.prog 3 [.agg (zb0 x),zf0 os,parsA ps] (.glob 2 156 zc1:: .glob 4 305 zb6:: .glob 5 308 zb2:: .glob 3 246 ze0:: []) (fun r h'=>h'= .glob 2 156 zc1:: .glob 4 305 zb6:: .glob 5 308 zb2:: .glob 3 246 ze0:: []∧r=bv true):=by
 refine za1 Tryz.func3 rfl rfl rfl ?_
 refine rn ?_;refine za2 rfl (zb5 rfl rfl rfl fun b3=> ?_)
 refine rn ?_;refine qv rfl rfl (za4 rfl rfl (za3.qt (za3.of_fun wakes18) ((pt1 _ _ _).trans (.cons _ ((pt1 _ _ _).trans (.cons _ ((pt1 _ _ _).trans (.cons _ (pt1 _ _ _))))))))) ?_
 refine rn ?_;refine za0 rfl (fun hc26=> ?_) (fun hc26=> ?_)
 ·exact absurd hc26 (by decide)
 ·refine rn ?_;refine qv rfl rfl (za4 rfl rfl (zc0 (own18 x lb) (Sbs.refl _))) ?_
  refine za2 rfl (zb1 rfl fun b7=> ?_)
  refine rn ?_;refine qv rfl rfl (za4 rfl rfl (zc0 (refCheck16 (ownX x) (ownX_lim lb.lim)) (Sbs.refl _))) ?_
  refine rn ?_;refine qv rfl rfl (za4 rfl rfl (za3.qt (za3.of_fun (wwAllA (ownX x) (ownX_lim lb.lim))) ((pt2 _ _ _ _).trans (.cons _ ((pt2 _ _ _ _).trans (.cons _ ((pt2 _ _ _ _).trans (.cons _ (pt2 _ _ _ _))))))))) ?_
  refine q1 ?_;refine q1 ?_;refine q1 ?_;refine q1 ?_;refine q1 ?_;refine zd5 (zd8 ?_)
  refine zb4 (za9 ?_)
  refine qq rfl rfl (qr_weak (fun w O v hr=>Sb.rel (Sb.nil false 7) hr) (qr_assign rfl)) ?_
  refine rn0 ?_;refine aw_cut (⟨[(11,confsA (wwA (ownX x))),(1,zf0 os),(2,parsA ps),(3,pZ b3),(7,pZ b7),(8,iv (zd0 (ownX x))),(9,confsA (wwA (ownX x))),(10,iv (zd0 (ownX x)))],.box b7 28 (zb0 (ownX x)):: .box b3 28 (zb0 x):: .glob 2 156 zc1:: .glob 4 305 zb6:: .glob 5 308 zb2:: .glob 3 246 ze0:: [],[]⟩) ?_ ?_
  ·refine rn ?_;refine za0 rfl (fun hc37=> ?_) (fun hc37=> ?_)
   ·have hc:=eq_of_beq hc37
    refine rn ?_;refine qv rfl rfl (za4 rfl rfl (za3.pure (R:=fun r=>r=confsA (firC (eachR (ownX x)))) (za3.of_fun (refAll18 (ownX x) ((chk_lim hc).mono (by decide):Lim 1000000 (ownX x)) hc)))) ?_
    refine rn ?_;first|(rw [wwA_n hc];exact eA)|(rw [wA_eq hc];exact eA)
   ·have hc:zd0 (ownX x)≠0:=by simpa using hc37
    refine rn ?_;first|(rw [wwA_n hc];exact eA)|(rw [wA_eq hc];exact eA)
  ·refine zb4 ?_;refine zb4 (za9 ?_)
   refine q1 ?_;refine q1 ?_;refine qq rfl rfl (qr_cmp (c:=false) rfl rfl (congrArg some (bne_self_eq_false _))) ?_
   refine rn ?_;refine qv rfl rfl (za4 rfl rfl (zc0 (eqConf (wwA (ownX x)) (Nat.le_trans (wwA_len _) (by decide))) (Sbs.refl _))) ?_
   refine rn ?_;refine za0 rfl (fun hc48=> ?_) (fun hc48=> ?_)
   ·exact absurd hc48 (by decide)
   ·refine rn ?_;refine aw_rng (os.length) (fun j:Nat=>True) (fun j=> [(51,iv j)]) [(2,_),(3,_),(7,_),(8,_),(49,_),(50,_)] trivial ?_
    intro j lj _
    refine rn ?_;refine za0 rfl (fun hc52=> ?_) (fun hc52=> ?_)
    ·have hj :=ltMap hc52
     have rj:=ze2 (f:=intR) hj
     refine rn ?_;refine za0 rfl (fun hc57=> ?_) (fun hc57=> ?_)
     ·refine rn ?_;refine aw_rng (ps.length) (fun k:Nat=>True) (fun k=> [(90,iv k)]) [(3,_),(7,_),(8,_),(18,_),(88,_),(89,_)] trivial ?_
      intro k lk _
      refine rn ?_;refine za0 rfl (fun hc91=> ?_) (fun hc91=> ?_)
      ·have hk:=ltMap hc91
       have rk:=ze2 (f:=parR) hk
       refine rn ?_;refine za2 rfl (zb1 rfl fun b20=> ?_)
       refine rn ?_;refine za0 rfl (fun hc96=> ?_) (fun hc96=> ?_)
       ·refine rn ?_;refine zd2 3 rfl ?_
        refine rn ?_;refine dv rfl rfl (by exact za4 rfl rfl (zc0 (own18 x lb) (Sbs.refl _))) ?_
        refine rn ?_;refine qv rfl rfl (za4 rfl rfl (zc0 (same18 (ownX x) (ownX_lim lb.lim)) (Sbs.refl _))) ?_
        refine rn ?_;first|(refine rq 2 ?_;exact ⟨rfl,rfl⟩)|(refine rq 3 ?_;exact ⟨rfl,rfl⟩)
       ·refine rn ?_;refine qq rfl rfl (za5 rfl rfl (by decide) (by decide)) ?_
        refine rn ?_;refine qq rfl rfl (za5 rfl rfl (by decide) (by decide)) ?_
        refine rn ?_;refine qv rfl rfl (za4 rfl rfl (za3.qt (za3.of_fun (wwChainA (ownX x) (ownX_lim lb.lim) ps[k].1 ps[k].2)) ((pt3 _ _ _ _ _).trans (.cons _ ((pt3 _ _ _ _ _).trans (.cons _ ((pt3 _ _ _ _ _).trans (.cons _ (pt3 _ _ _ _ _))))))))) ?_
        refine q1 ?_;refine q1 ?_;refine q1 ?_;refine q1 ?_;refine q1 ?_;refine zd5 (zd8 ?_)
        refine zb4 (za9 ?_)
        refine qq rfl rfl (qr_weak (fun w O v hr=>Sb.rel (Sb.nil false 1) hr) (qr_assign rfl)) ?_
        refine rn0 ?_;refine zb4 (za9 ?_)
        refine rn0 ?_;refine aw_cut (⟨[(23,zf0 (chO (ownX x) ps[k].1 ps[k].2)),(24,iv (chC (ownX x) ps[k].1 ps[k].2)),(21,zf0 (chO (ownX x) ps[k].1 ps[k].2)),(22,iv (chC (ownX x) ps[k].1 ps[k].2)),(3,pZ b3),(7,pZ b7),(8,iv (zd0 (ownX x))),(18,iv ((ownX x).ts.map strR).length),(88,parsA ps),(89,iv (ps.map parR).length),(90,iv k)],.box b20 45 (parR ps[k]):: .box b7 28 (zb0 (ownX x)):: .box b3 28 (zb0 x):: .glob 2 156 zc1:: .glob 4 305 zb6:: .glob 5 308 zb2:: .glob 3 246 ze0:: [],[]⟩) ?_ ?_
        ·refine rn ?_;refine za0 rfl (fun hc108=> ?_) (fun hc108=> ?_)
         ·have hc:=eq_of_beq hc108
          refine rn ?_;refine qq rfl rfl (za5 rfl rfl (by decide) (by decide)) ?_
          refine rn ?_;refine qv rfl rfl (za4 rfl rfl (zc0 (refIs ps[k].1 ((ownX x).ts.map strR).length) (Sbs.refl _))) ?_
          refine rn ?_;refine za8 (fun hg35_4=> ?_) (fun hg35_4=> ?_)
          ·refine qq rfl rfl (za5 rfl rfl (by decide) (by decide)) ?_
           refine rn ?_;refine qv rfl rfl (za4 rfl rfl (zc0 (refIs ps[k].2 ((ownX x).ts.map strR).length) (Sbs.refl _))) ?_
           refine rn ?_;refine za0 rfl (fun hc118=> ?_) (fun hc118=> ?_)
           ·have hn:((0≤ps[k].1∧0≤ps[k].2)∧(ps[k].1 < (ownX x).ts.length∧ps[k].2 < (ownX x).ts.length)):=by have q1:=isB_t18 hg35_4;have q2:=isB_t18 hc118;rw [List.length_map] at q1 q2;exact ⟨⟨q1.1,q2.1⟩,q1.2,q2.2⟩
            refine rn ?_;refine qq rfl rfl (za5 rfl rfl (by decide) (by decide)) ?_
            refine rn ?_;refine qq rfl rfl (za5 rfl rfl (by decide) (by decide)) ?_
            refine rn ?_;refine qv rfl rfl (za4 rfl rfl (za3.pure (R:=fun r=>r=zf0 (chainR (ownX x) ps[k].1 ps[k].2)) (za3.of_fun (refChain18 (ownX x) ((chk_lim hc).mono (by decide):Lim 1000000 (ownX x)) hc ps[k].1 ps[k].2)))) ?_
            refine rn ?_;refine za0 rfl (fun hc127=> ?_) (fun hc127=> ?_)
            ·have hq:=ch_4 hc hn hc127
             refine rn ?_;rw [hq.1,hq.2]
             exact eA
            ·have hq:=ch_a hc hn hc127
             refine rn ?_;rw [hq.1,hq.2]
             exact eA
           ·have hn:¬((0≤ps[k].1∧0≤ps[k].2)∧(ps[k].1 < (ownX x).ts.length∧ps[k].2 < (ownX x).ts.length)):=by first|(have q1:=isB_f18 hg35_4;rw [List.length_map] at q1;exact fun q=>q1 ⟨q.1.1,q.2.1⟩)|(have q2:=isB_f18 hc118;rw [List.length_map] at q2;exact fun q=>q2 ⟨q.1.2,q.2.2⟩)
            have hq:=ch_b hc hn
            refine rn ?_;rw [hq.1,hq.2]
            exact eA
          ·refine rn ?_;refine za0 rfl (fun hc118=> ?_) (fun hc118=> ?_)
           ·first|cases hc118|exact absurd hc118 (by decide)|(exfalso;simp_all;done)
           ·have hn:¬((0≤ps[k].1∧0≤ps[k].2)∧(ps[k].1 < (ownX x).ts.length∧ps[k].2 < (ownX x).ts.length)):=by first|(have q1:=isB_f18 hg35_4;rw [List.length_map] at q1;exact fun q=>q1 ⟨q.1.1,q.2.1⟩)|(have q2:=isB_f18 hc118;rw [List.length_map] at q2;exact fun q=>q2 ⟨q.1.2,q.2.2⟩)
            have hq:=ch_b hc hn
            refine rn ?_;rw [hq.1,hq.2]
            exact eA
         ·have hc:zd0 (ownX x)≠0:=by simpa using hc108
          have hq:=ch_c (f:=ps[k].1) (t:=ps[k].2) hc
          refine rn ?_;rw [hq.1,hq.2]
          exact eA
        ·refine zb4 (za9 ?_)
         refine q1 ?_;refine q1 ?_;refine qq rfl rfl (qr_cmp (c:=false) rfl rfl (congrArg some (bne_self_eq_false _))) ?_
         refine rn ?_;refine qv rfl rfl (za4 rfl rfl (zc0 (eqI18 (chO (ownX x) ps[k].1 ps[k].2) (chO_len _ _ _)) (Sbs.refl _))) ?_
         refine rn ?_;refine za0 rfl (fun hc136=> ?_) (fun hc136=> ?_)
         ·exact absurd hc136 (by decide)
         ·refine rn ?_;exact ⟨hk,trivial,eA⟩
      ·have qk:=geMap hc91 lk
       refine rn ?_;refine zd2 3 rfl ?_
       refine rn ?_;refine dv rfl rfl (by exact za4 rfl rfl (zc0 (own18 x lb) (Sbs.refl _))) ?_
       refine rn ?_;refine qv rfl rfl (za4 rfl rfl (zc0 (same18 (ownX x) (ownX_lim lb.lim)) (Sbs.refl _))) ?_
       refine rn ?_;first|(refine rq 2 ?_;exact ⟨rfl,rfl⟩)|(refine rq 3 ?_;exact ⟨rfl,rfl⟩)
     ·refine rn ?_;refine qv rfl rfl (za4 rfl rfl (za3.qt (za3.of_fun (wwOfA (ownX x) (ownX_lim lb.lim) os[j])) ((pt2 _ _ _ _).trans (.cons _ ((pt2 _ _ _ _).trans (.cons _ ((pt2 _ _ _ _).trans (.cons _ (pt2 _ _ _ _))))))))) ?_
      refine q1 ?_;refine q1 ?_;refine q1 ?_;refine q1 ?_;refine q1 ?_;refine zd5 (zd8 ?_)
      refine zb4 (za9 ?_)
      refine qq rfl rfl (qr_weak (fun w O v hr=>Sb.rel (Sb.nil false 7) hr) (qr_assign rfl)) ?_
      refine rn0 ?_;refine zb4 (za9 ?_)
      refine rn0 ?_;refine aw_cut (⟨[(16,confsA (wwO (ownX x) os[j])),(17,iv (askE (ownX x) os[j] (ownX x).os.length)),(14,confsA (wwO (ownX x) os[j])),(15,iv (askE (ownX x) os[j] (ownX x).os.length)),(2,parsA ps),(3,pZ b3),(7,pZ b7),(8,iv (zd0 (ownX x))),(49,zf0 os),(50,iv (os.map intR).length),(51,iv j)],.box b7 28 (zb0 (ownX x)):: .box b3 28 (zb0 x):: .glob 2 156 zc1:: .glob 4 305 zb6:: .glob 5 308 zb2:: .glob 3 246 ze0:: [],[]⟩) ?_ ?_
      ·refine rn ?_;refine za0 rfl (fun hc66=> ?_) (fun hc66=> ?_)
       ·have hc:=eq_of_beq hc66
        refine rn ?_;refine qv rfl rfl (za4 rfl rfl (zc0 (refIs os[j] ((ownX x).os.map strR).length) (Sbs.refl _))) ?_
        refine rn ?_;refine za0 rfl (fun hc71=> ?_) (fun hc71=> ?_)
        ·have hn:=isB_t18 hc71
         rw [List.length_map] at hn
         have hq:=of_a hc hn
         refine rn ?_;refine qv rfl rfl (za4 rfl rfl (zc0 (refOf18 (ownX x) ((chk_lim hc).mono (by decide):Lim 1000000 (ownX x)) os[j] (insR3 hc hn.1 hn.2)) (Sbs.refl _))) ?_
         refine rn ?_;rw [hq.1,hq.2]
         exact eA
        ·have hn:=isB_f18 hc71
         rw [List.length_map] at hn
         have hq:=of_b hc hn
         refine rn ?_;rw [hq.1,hq.2]
         exact eA
       ·have hc:zd0 (ownX x)≠0:=by simpa using hc66
        have hq:=of_c (n:=os[j]) hc
        refine rn ?_;rw [hq.1,hq.2]
        exact eA
      ·refine zb4 (za9 ?_)
       refine q1 ?_;refine q1 ?_;refine qq rfl rfl (qr_cmp (c:=false) rfl rfl (congrArg some (bne_self_eq_false _))) ?_
       refine rn ?_;refine qv rfl rfl (za4 rfl rfl (zc0 (eqConf (wwO (ownX x) os[j]) (Nat.le_trans (wwO_len _ _) (by decide))) (Sbs.refl _))) ?_
       refine rn ?_;refine za0 rfl (fun hc83=> ?_) (fun hc83=> ?_)
       ·exact absurd hc83 (by decide)
       ·refine rn ?_;exact ⟨hj,trivial,eA⟩
    ·have qj:=geMap hc52 lj
     refine rn ?_;refine aw_rng (ps.length) (fun k:Nat=>True) (fun k=> [(90,iv k)]) [(3,_),(7,_),(8,_),(18,_),(88,_),(89,_)] trivial ?_
     intro k lk _
     refine rn ?_;refine za0 rfl (fun hc91=> ?_) (fun hc91=> ?_)
     ·have hk:=ltMap hc91
      have rk:=ze2 (f:=parR) hk
      refine rn ?_;refine za2 rfl (zb1 rfl fun b20=> ?_)
      refine rn ?_;refine za0 rfl (fun hc96=> ?_) (fun hc96=> ?_)
      ·refine rn ?_;refine zd2 3 rfl ?_
       refine rn ?_;refine dv rfl rfl (by exact za4 rfl rfl (zc0 (own18 x lb) (Sbs.refl _))) ?_
       refine rn ?_;refine qv rfl rfl (za4 rfl rfl (zc0 (same18 (ownX x) (ownX_lim lb.lim)) (Sbs.refl _))) ?_
       refine rn ?_;first|(refine rq 2 ?_;exact ⟨rfl,rfl⟩)|(refine rq 3 ?_;exact ⟨rfl,rfl⟩)
      ·refine rn ?_;refine qq rfl rfl (za5 rfl rfl (by decide) (by decide)) ?_
       refine rn ?_;refine qq rfl rfl (za5 rfl rfl (by decide) (by decide)) ?_
       refine rn ?_;refine qv rfl rfl (za4 rfl rfl (za3.qt (za3.of_fun (wwChainA (ownX x) (ownX_lim lb.lim) ps[k].1 ps[k].2)) ((pt3 _ _ _ _ _).trans (.cons _ ((pt3 _ _ _ _ _).trans (.cons _ ((pt3 _ _ _ _ _).trans (.cons _ (pt3 _ _ _ _ _))))))))) ?_
       refine q1 ?_;refine q1 ?_;refine q1 ?_;refine q1 ?_;refine q1 ?_;refine zd5 (zd8 ?_)
       refine zb4 (za9 ?_)
       refine qq rfl rfl (qr_weak (fun w O v hr=>Sb.rel (Sb.nil false 1) hr) (qr_assign rfl)) ?_
       refine rn0 ?_;refine zb4 (za9 ?_)
       refine rn0 ?_;refine aw_cut (⟨[(23,zf0 (chO (ownX x) ps[k].1 ps[k].2)),(24,iv (chC (ownX x) ps[k].1 ps[k].2)),(21,zf0 (chO (ownX x) ps[k].1 ps[k].2)),(22,iv (chC (ownX x) ps[k].1 ps[k].2)),(3,pZ b3),(7,pZ b7),(8,iv (zd0 (ownX x))),(18,iv ((ownX x).ts.map strR).length),(88,parsA ps),(89,iv (ps.map parR).length),(90,iv k)],.box b20 45 (parR ps[k]):: .box b7 28 (zb0 (ownX x)):: .box b3 28 (zb0 x):: .glob 2 156 zc1:: .glob 4 305 zb6:: .glob 5 308 zb2:: .glob 3 246 ze0:: [],[]⟩) ?_ ?_
       ·refine rn ?_;refine za0 rfl (fun hc108=> ?_) (fun hc108=> ?_)
        ·have hc:=eq_of_beq hc108
         refine rn ?_;refine qq rfl rfl (za5 rfl rfl (by decide) (by decide)) ?_
         refine rn ?_;refine qv rfl rfl (za4 rfl rfl (zc0 (refIs ps[k].1 ((ownX x).ts.map strR).length) (Sbs.refl _))) ?_
         refine rn ?_;refine za8 (fun hg35_4=> ?_) (fun hg35_4=> ?_)
         ·refine qq rfl rfl (za5 rfl rfl (by decide) (by decide)) ?_
          refine rn ?_;refine qv rfl rfl (za4 rfl rfl (zc0 (refIs ps[k].2 ((ownX x).ts.map strR).length) (Sbs.refl _))) ?_
          refine rn ?_;refine za0 rfl (fun hc118=> ?_) (fun hc118=> ?_)
          ·have hn:((0≤ps[k].1∧0≤ps[k].2)∧(ps[k].1 < (ownX x).ts.length∧ps[k].2 < (ownX x).ts.length)):=by have q1:=isB_t18 hg35_4;have q2:=isB_t18 hc118;rw [List.length_map] at q1 q2;exact ⟨⟨q1.1,q2.1⟩,q1.2,q2.2⟩
           refine rn ?_;refine qq rfl rfl (za5 rfl rfl (by decide) (by decide)) ?_
           refine rn ?_;refine qq rfl rfl (za5 rfl rfl (by decide) (by decide)) ?_
           refine rn ?_;refine qv rfl rfl (za4 rfl rfl (za3.pure (R:=fun r=>r=zf0 (chainR (ownX x) ps[k].1 ps[k].2)) (za3.of_fun (refChain18 (ownX x) ((chk_lim hc).mono (by decide):Lim 1000000 (ownX x)) hc ps[k].1 ps[k].2)))) ?_
           refine rn ?_;refine za0 rfl (fun hc127=> ?_) (fun hc127=> ?_)
           ·have hq:=ch_4 hc hn hc127
            refine rn ?_;rw [hq.1,hq.2]
            exact eA
           ·have hq:=ch_a hc hn hc127
            refine rn ?_;rw [hq.1,hq.2]
            exact eA
          ·have hn:¬((0≤ps[k].1∧0≤ps[k].2)∧(ps[k].1 < (ownX x).ts.length∧ps[k].2 < (ownX x).ts.length)):=by first|(have q1:=isB_f18 hg35_4;rw [List.length_map] at q1;exact fun q=>q1 ⟨q.1.1,q.2.1⟩)|(have q2:=isB_f18 hc118;rw [List.length_map] at q2;exact fun q=>q2 ⟨q.1.2,q.2.2⟩)
           have hq:=ch_b hc hn
           refine rn ?_;rw [hq.1,hq.2]
           exact eA
         ·refine rn ?_;refine za0 rfl (fun hc118=> ?_) (fun hc118=> ?_)
          ·first|cases hc118|exact absurd hc118 (by decide)|(exfalso;simp_all;done)
          ·have hn:¬((0≤ps[k].1∧0≤ps[k].2)∧(ps[k].1 < (ownX x).ts.length∧ps[k].2 < (ownX x).ts.length)):=by first|(have q1:=isB_f18 hg35_4;rw [List.length_map] at q1;exact fun q=>q1 ⟨q.1.1,q.2.1⟩)|(have q2:=isB_f18 hc118;rw [List.length_map] at q2;exact fun q=>q2 ⟨q.1.2,q.2.2⟩)
           have hq:=ch_b hc hn
           refine rn ?_;rw [hq.1,hq.2]
           exact eA
        ·have hc:zd0 (ownX x)≠0:=by simpa using hc108
         have hq:=ch_c (f:=ps[k].1) (t:=ps[k].2) hc
         refine rn ?_;rw [hq.1,hq.2]
         exact eA
       ·refine zb4 (za9 ?_)
        refine q1 ?_;refine q1 ?_;refine qq rfl rfl (qr_cmp (c:=false) rfl rfl (congrArg some (bne_self_eq_false _))) ?_
        refine rn ?_;refine qv rfl rfl (za4 rfl rfl (zc0 (eqI18 (chO (ownX x) ps[k].1 ps[k].2) (chO_len _ _ _)) (Sbs.refl _))) ?_
        refine rn ?_;refine za0 rfl (fun hc136=> ?_) (fun hc136=> ?_)
        ·exact absurd hc136 (by decide)
        ·refine rn ?_;exact ⟨hk,trivial,eA⟩
     ·have qk:=geMap hc91 lk
      refine rn ?_;refine zd2 3 rfl ?_
      refine rn ?_;refine dv rfl rfl (by exact za4 rfl rfl (zc0 (own18 x lb) (Sbs.refl _))) ?_
      refine rn ?_;refine qv rfl rfl (za4 rfl rfl (zc0 (same18 (ownX x) (ownX_lim lb.lim)) (Sbs.refl _))) ?_
      refine rn ?_;first|(refine rq 2 ?_;exact ⟨rfl,rfl⟩)|(refine rq 3 ?_;exact ⟨rfl,rfl⟩)
end Go.Proofs
