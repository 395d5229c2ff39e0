/- The entry for the six laid variables that package rw looks at: its table of functions and its map too. Conditions: none. -/
import Derived.Test.YtfmcbdjnmlcacaaGreatDoorRItI
set_option maxHeartbeats 4000000
set_option linter.unusedSectionVars false
set_option linter.unusedSimpArgs false
set_option linter.unusedVariables false
set_option maxRecDepth 100000
namespace Go.Proofs.YtfmcbdjnmlcacaaGreatDoor
open Go Go.Ab Go.H Go.ChangeShapes Go.WideShapes Go.ChangeAt Go.RowKit
inductive Solid:AV→Prop
 |any:Solid .any
 |v (x:Value):Solid (.v x)
 |fn (f:Fn):Solid (.fn f [] [])
 |list (full:Bool) (sz:Nat) (rows:List (List AV)):0 < sz→(∀r∈rows,∀a∈r,Solid a)→Solid (.list full sz rows)
 |agg (cells:List AV):(∀a∈cells,Solid a)→Solid (.agg cells)
theorem zpo {w:World} {O:Nat→Prop} {a:AV} {v:Value} (h:Rel w noX a v) (hs:Solid a) (hO:∀b,O b→∀c T fr,w.heap[b]? ≠some (.cells c T fr)):Rel w O a v:=by
 induction h with
 |any x=>exact .any x
 |v x=>exact .v x
 |lnil full sz a cap h=>exact .lnil full sz a cap h
 |list full sz rows b off cap g h1 h2 h3 h4 h5 h6 h7 ih=>
  cases hs with
  |list _ _ _ hsz hr=>
   cases rows with
   |nil=>exact .lnil _ _ _ _ (fun q=>by simpa using h1 q)
   |cons r0 rs=>
    have hb:¬O b:=fun hb=>by
     have h0:=h6 0 (by simp) 0 (by rw [h5 0 (by simp)];exact hsz)
     unfold World.cell? at h0
     split at h0
     ·rename_i hh;exact hO b hb _ _ _ hh
     ·cases h0
    exact .list full sz _ b off cap g h1 h2 hb h4 h5 h6 (fun i hi j hj=>ih i hi j hj (hr _ (List.getElem_mem hi) _ (List.getElem_mem hj)))
 |pp cells b off g h3 h4 h6 _ ih=>cases hs
 |rp a len cap sz i off=>cases hs
 |agg cells cs h1 h2 ih=>cases hs with|agg _ hc=>exact .agg _ _ h1 fun j a b=>ih j a b (hc _ (List.getElem_mem a))
 |tup cells cs h1 h2 ih=>cases hs
 |fn f fs cs fa ca h1 h2 h3 h4 ih1 ih2=>cases hs;exact .fn f [] [] fa ca h1 h2 (fun j h=>absurd h (Nat.not_lt_zero _)) (fun j h=>absurd h (Nat.not_lt_zero _))
theorem zdb {α:Type} {R:α→List AV} {f:Bool} {sz:Nat} (hsz:0 < sz) (h:∀x,∀a∈R x,Solid a) (l:List α):Solid (.list f sz (l.map R)):= .list _ _ _ hsz fun r hr a ha=>by
 obtain ⟨x,_,rfl⟩:=List.mem_map.1 hr
 exact h x a ha
theorem zwz:∀x,∀a∈zbo x,Solid a:=by
 intro x a ha
 simp only [zbo,List.mem_cons,List.not_mem_nil,or_false] at ha
 rcases ha with rfl
 ·exact .v _
theorem znu:∀x,∀a∈zmc x,Solid a:=by
 intro x a ha
 simp only [zmc,List.mem_cons,List.not_mem_nil,or_false] at ha
 rcases ha with rfl
 ·exact .v _
theorem yba:∀x,∀a∈za2 x,Solid a:=by
 intro x a ha
 simp only [za2,List.mem_cons,List.not_mem_nil,or_false] at ha
 rcases ha with rfl|rfl|rfl
 ·exact .v _
 ·exact .v _
 ·exact .v _
theorem yjo:∀x,∀a∈evR x,Solid a:=by
 intro x a ha
 simp only [evR,List.mem_cons,List.not_mem_nil,or_false] at ha
 rcases ha with rfl|rfl|rfl|rfl|rfl|rfl|rfl|rfl|rfl
 ·exact .v _
 ·exact .v _
 ·exact .v _
 ·exact .v _
 ·exact .v _
 ·exact .v _
 ·exact .v _
 ·exact .v _
 ·exact zdb (by decide) yba _
theorem yfv:∀x,∀a∈zew x,Solid a:=by
 intro x a ha
 simp only [zew,List.mem_cons,List.not_mem_nil,or_false] at ha
 rcases ha with rfl|rfl
 ·exact .v _
 ·exact zdb (by decide) zwz _
theorem yfw:∀x,∀a∈zei x,Solid a:=by
 intro x a ha
 simp only [zei,List.mem_cons,List.not_mem_nil,or_false] at ha
 rcases ha with rfl|rfl|rfl|rfl
 ·exact .v _
 ·exact .v _
 ·exact .v _
 ·exact zdb (by decide) zwz _
theorem yfu:∀x,∀a∈zgk x,Solid a:=by
 intro x a ha
 simp only [zgk,List.mem_cons,List.not_mem_nil,or_false] at ha
 rcases ha with rfl|rfl
 ·exact .v _
 ·exact .v _
theorem ybb (x:Hist):Solid (.agg (y9 x)):= .agg _ fun a ha=>by
 simp only [y9,List.mem_cons,List.not_mem_nil,or_false] at ha
 rcases ha with rfl|rfl|rfl|rfl|rfl|rfl|rfl|rfl
 ·exact zdb (by decide) znu _
 ·exact zdb (by decide) znu _
 ·exact zdb (by decide) znu _
 ·exact zdb (by decide) znu _
 ·exact zdb (by decide) yjo _
 ·exact zdb (by decide) yfv _
 ·exact zdb (by decide) yfw _
 ·exact zdb (by decide) yfu _
def zn9:List (String×DataW Unit):= [("unicode/utf8.acceptRanges",Rows.laid_unicode_utf8_acceptRanges),("yardarm/history.limits",Rows.laid_yardarm_history_limits),("yardarm/rules.asks",Rows.laid_yardarm_rules_asks),("yardarm/rw.sees",Rows.laid_yardarm_rw_sees),("yardarm/rw.kinds",Rows.laid_yardarm_rw_kinds),("unicode/utf8.first",Rows.laid_unicode_utf8_first)]
def yc9:List (String×DataW Unit):= [("unicode/utf8.acceptRanges",Rows.laid_unicode_utf8_acceptRanges),("yardarm/history.limits",Rows.laid_yardarm_history_limits),("yardarm/rw.kinds",Rows.laid_yardarm_rw_kinds),("unicode/utf8.first",Rows.laid_unicode_utf8_first)]
theorem ztx:(zn9.filter fun x=>x.2.handleName?.isNone)=yc9:=by kernel_rfl
theorem yc8 {W:World} (h:laidMetH Tryz.prog zn9 W):laidMet Tryz.prog yc9 W:=by
 have:=(laidMetH_iff.1 h).1
 rw [ztx] at this
 exact this
theorem ylu {w:World} (h:laidMetH Tryz.prog zn9 w):(Res.glob 3 246 w9).holds w noX:=by
 obtain ⟨g,t,cs,fuel,p,hg,ht,hv,hd⟩:=h.funcs (n:= "yardarm/rules.asks") (d:=yis) (.tail _ (.tail _ (.head _)))
 obtain rfl:=Option.some.inj ((show Tryz.prog.globalNamed "yardarm/rules.asks" =some 3 by kernel_rfl).symm.trans hg)
 obtain rfl:=Option.some.inj ((show (Tryz.prog.globals[3]?).map (·.type)=some 246 by kernel_rfl).symm.trans ht)
 rw [zz5] at hd
 have c1:Tryz.prog.cellsOf 245=1:=by kernel_rfl
 have c11:Tryz.prog.cellsOf 246=11:=by kernel_rfl
 have hlen:cs.toList.length=11:=by
  obtain ⟨_,_,_,_,hl,_⟩:=DataW.trod_array Tryz.underlying246 hd
  rw [hl,c11]
 unfold World.var? at hv
 rw [hg] at hv
 simp only [Option.bind_some] at hv
 split at hv
 ·rename_i c T0 fr hh
  cases hv
  refine zoh hh (by rw [show w9.length=11 from rfl];simpa using hlen.symm) fun j h1 h2=> ?_
  cases j with
  |zero=>exact .any _
  |succ k=>
   have hk:k < 10:=by have:w9.length=11:=rfl;omega
   obtain ⟨b,r,hn,hone,ha⟩:=ydz k hk
   obtain ⟨f',d,q,e1,e2⟩:=Lib.array_elem Tryz.underlying246 hd (k+1) (by omega)
   have e1':d= .held (b::r):=by
    rw [List.getElem?_cons_succ,List.getElem?_map,List.getElem?_drop,Nat.add_comm 1 k,hn] at e1
    exact (Option.some.inj e1).symm
   subst e1'
   rw [c1,Nat.mul_one,List.drop_eq_getElem_cons (by simpa using h2),List.take_succ_cons,List.take_zero] at e2
   have:=func_of_trod (f0:=fnA.getD k 0) Tryz.underlying245 hone e2
   rw [Array.getElem_toList] at this
   rw [this,show w9[k+1]= .fn (.func (fnA.getD k 0)) [] [] from Option.some.inj ((List.getElem?_eq_getElem h1).symm.trans ha)]
   exact yez _ _
 ·cases hv
def yf2:DataW Unit:=match (Rows.laid_yardarm_rw_sees:DataW Unit) with| .iface _ d=>d|d=>d
def zyd:List (List UInt8):=match yf2 with| .agg ds=>ds.map (fun d=>match d with| .iface _ (.lit (.string b))=>b|_=> [])|_=> []
def nmS (k:Nat):List UInt8:=zyd.getD (k+1) []
theorem zw6:yf2.funcsOut= .agg (.nil::(zyd.drop 1).map .held):=by kernel_rfl
def fnS:List Nat:= [302,302,303,304,302,302]
theorem ybe (k:Nat) (hk:k < 6):∃b r,zyd[k+1]? =some (b::r)∧((List.range Tryz.prog.funcs.size).filter fun f=>(Tryz.prog.funcs[f]?).any (·.name.toUTF8.data.toList==b::r))= [fnS.getD k 0]∧k8[k+1]? =some (.fn (.func (fnS.getD k 0)) [] []):=by
 match k,hk with
 |0,_=>exact ⟨(nmS 0).headD 0,(nmS 0).tail,by kernel_rfl,by kernel_rfl,by kernel_rfl⟩
 |1,_=>exact ⟨(nmS 1).headD 0,(nmS 1).tail,by kernel_rfl,by kernel_rfl,by kernel_rfl⟩
 |2,_=>exact ⟨(nmS 2).headD 0,(nmS 2).tail,by kernel_rfl,by kernel_rfl,by kernel_rfl⟩
 |3,_=>exact ⟨(nmS 3).headD 0,(nmS 3).tail,by kernel_rfl,by kernel_rfl,by kernel_rfl⟩
 |4,_=>exact ⟨(nmS 4).headD 0,(nmS 4).tail,by kernel_rfl,by kernel_rfl,by kernel_rfl⟩
 |5,_=>exact ⟨(nmS 5).headD 0,(nmS 5).tail,by kernel_rfl,by kernel_rfl,by kernel_rfl⟩
theorem yod {w:World} (h:laidMetH Tryz.prog zn9 w):(Res.glob 1 175 k8).holds w noX:=by
 obtain ⟨g,t,cs,fuel,p,hg,ht,hv,hd⟩:=h.funcs (n:= "yardarm/rw.sees") (d:=yf2) (.tail _ (.tail _ (.tail _ (.head _))))
 obtain rfl:=Option.some.inj ((show Tryz.prog.globalNamed "yardarm/rw.sees" =some 1 by kernel_rfl).symm.trans hg)
 obtain rfl:=Option.some.inj ((show (Tryz.prog.globals[1]?).map (·.type)=some 175 by kernel_rfl).symm.trans ht)
 rw [zw6] at hd
 have c1:Tryz.prog.cellsOf 174=1:=by kernel_rfl
 have c7:Tryz.prog.cellsOf 175=7:=by kernel_rfl
 have hlen:cs.toList.length=7:=by
  obtain ⟨_,_,_,_,hl,_⟩:=DataW.trod_array Tryz.underlying175 hd
  rw [hl,c7]
 unfold World.var? at hv
 rw [hg] at hv
 simp only [Option.bind_some] at hv
 split at hv
 ·rename_i c T0 fr hh
  cases hv
  refine zoh hh (by rw [show k8.length=7 from rfl];simpa using hlen.symm) fun j h1 h2=> ?_
  cases j with
  |zero=>exact .any _
  |succ k=>
   have hk:k < 6:=by have:k8.length=7:=rfl;omega
   obtain ⟨b,r,hn,hone,ha⟩:=ybe k hk
   obtain ⟨f',d,q,e1,e2⟩:=Lib.array_elem Tryz.underlying175 hd (k+1) (by omega)
   have e1':d= .held (b::r):=by
    rw [List.getElem?_cons_succ,List.getElem?_map,List.getElem?_drop,Nat.add_comm 1 k,hn] at e1
    exact (Option.some.inj e1).symm
   subst e1'
   rw [c1,Nat.mul_one,List.drop_eq_getElem_cons (by simpa using h2),List.take_succ_cons,List.take_zero] at e2
   have:=func_of_trod (f0:=fnS.getD k 0) Tryz.underlying174 hone e2
   rw [Array.getElem_toList] at this
   rw [this,show k8[k+1]= .fn (.func (fnS.getD k 0)) [] [] from Option.some.inj ((List.getElem?_eq_getElem h1).symm.trans ha)]
   exact yez _ _
 ·cases hv
theorem zt0 {H:Type} (x:Lit×DataW H):∀l:List (Lit×DataW H),(DataW.insert x l).Perm (x::l)
 | []=> .refl _
 |y::l=>by
  rw [DataW.insert]
  split
  ·exact .refl _
  ·exact ((zt0 x l).cons y).trans (.swap x y l)
theorem zpe {H:Type}:∀l:List (Lit×DataW H),(l.foldr DataW.insert []).Perm l
 | []=> .refl _
 |x::l=>(zt0 x _).trans ((zpe l).cons x)
theorem zua {x:MapEntry} {n:Int} {F:∀y∈ [x],∃z,WideMaps.rd (H:=Unit) Tryz.prog 3 .i64 y=some z} (h:WideMaps.rg Unit Tryz.prog 3 .i64 x=(.int .i64 n,.lit (.int .i64 n))):x.key= .int .i64 n∧x.val= .int .i64 n:=by
 obtain ⟨y,hy⟩:=F x (by simp)
 rw [WideMaps.rg_of hy] at h
 subst h
 have hk:=WideMaps.rd_key hy
 obtain ⟨m,e1,e2,_⟩:=WideMaps.rd_val hy
 refine ⟨?_,?_⟩
 ·unfold keyOf mapKey at hk
  rw [Tryz.underlying3] at hk
  simp only at hk
  split at hk <;> simp_all
 ·rw [e1];simp at e2;rw [e2]
theorem yda {w:World} (h:Lib.VarReads Tryz.prog w "yardarm/rw.kinds" Rows.laid_yardarm_rw_kinds):∃rO oK,KO oK∧w.heap[rO]? =some oK∧(∃ents clock,oK= .map ents clock)∧(Res.glob 0 171 [mpv rO]).holds w noX:=by
 obtain ⟨g',t',cs,fuel,p,h1,h2,h3,h4⟩:=h
 obtain rfl:=Option.some.inj ((show Tryz.prog.globalNamed "yardarm/rw.kinds" =some 0 by kernel_rfl).symm.trans h1)
 obtain rfl:=Option.some.inj ((show (Tryz.prog.globals[0]?).map (·.type)=some 171 by kernel_rfl).symm.trans h2)
 rcases WideMaps.open_map Tryz.underlying171 Tryz.underlying3 h4 with ⟨_,e⟩|⟨b,es,clock,hcs,hb,_,F,e⟩
 ·cases e
 ·have hE:(es.toList.map (WideMaps.rg Unit Tryz.prog 3 .i64)).foldr DataW.insert []= [(.int .i64 3,.lit (.int .i64 3)),(.int .i64 4,.lit (.int .i64 4))]:=by
   have e1:=congrArg Prod.fst e
   have e2:(Rows.laid_yardarm_rw_kinds:DataW Unit)= .map [(.int .i64 3,.lit (.int .i64 3)),(.int .i64 4,.lit (.int .i64 4))]:=rfl
   rw [e2] at e1
   exact (DataW.map.inj e1).symm
  have hp:=zpe (es.toList.map (WideMaps.rg Unit Tryz.prog 3 .i64))
  rw [hE] at hp
  have hlen:=hp.length_eq
  simp only [List.length_cons,List.length_nil,oM,Array.length_toList] at hlen
  obtain ⟨x1,x2,rfl⟩:∃x1 x2,es= #[x1,x2]:=by
   obtain ⟨l⟩:=es
   match l,hlen with
   | [a,b],_=>exact ⟨a,b,rfl⟩
  have hF:∀x∈ [x1,x2],∀y∈ [x],∃z,WideMaps.rd (H:=Unit) Tryz.prog 3 .i64 y=some z:=fun x hx y hy=>by
   rw [List.mem_singleton] at hy;subst hy;exact F.reads y hx
  have hko:KO (.map #[x1,x2] clock):=by
   have hp': [(Lit.int .i64 3,DataW.lit (H:=Unit) (.int .i64 3)),(.int .i64 4,.lit (.int .i64 4))].Perm [WideMaps.rg Unit Tryz.prog 3 .i64 x1,WideMaps.rg Unit Tryz.prog 3 .i64 x2]:=hp
   have hc:(WideMaps.rg Unit Tryz.prog 3 .i64 x1=(.int .i64 3,.lit (.int .i64 3))∧WideMaps.rg Unit Tryz.prog 3 .i64 x2=(.int .i64 4,.lit (.int .i64 4)))∨(WideMaps.rg Unit Tryz.prog 3 .i64 x1=(.int .i64 4,.lit (.int .i64 4))∧WideMaps.rg Unit Tryz.prog 3 .i64 x2=(.int .i64 3,.lit (.int .i64 3))):=by
    have m1:=hp'.mem_iff (a:=WideMaps.rg Unit Tryz.prog 3 .i64 x1)
    have m2:=hp'.mem_iff (a:=WideMaps.rg Unit Tryz.prog 3 .i64 x2)
    have m3:=hp'.mem_iff (a:=(Lit.int .i64 3,DataW.lit (H:=Unit) (.int .i64 3)))
    have m4:=hp'.mem_iff (a:=(Lit.int .i64 4,DataW.lit (H:=Unit) (.int .i64 4)))
    simp only [List.mem_cons,List.not_mem_nil,or_false,true_or,or_true,iff_true,true_iff] at m1 m2 m3 m4
    have hne:(Lit.int .i64 3,DataW.lit (H:=Unit) (.int .i64 3))≠(Lit.int .i64 4,DataW.lit (H:=Unit) (.int .i64 4)):=fun q=>by cases congrArg Prod.fst q
    rcases m1 with q1|q1 <;> rcases m2 with q2|q2
    ·rw [q1,q2] at m4;rcases m4 with q|q <;> exact absurd q.symm hne
    ·exact .inl ⟨q1,q2⟩
    ·exact .inr ⟨q1,q2⟩
    ·rw [q1,q2] at m3;rcases m3 with q|q <;> exact absurd q hne
   rcases hc with ⟨q1,q2⟩|⟨q1,q2⟩
   ·obtain ⟨k1,v1⟩:=zua (F:=hF x1 (by simp)) q1
    obtain ⟨k2,v2⟩:=zua (F:=hF x2 (by simp)) q2
    refine ⟨#[x1,x2],clock,[(3,3),(4,4)],rfl,by simp [k1,k2,intK],fun i h1 h2=> ?_,rfl,fun k=> ?_⟩
    ·match i,h1 with
     |0,_=>exact v1
     |1,_=>exact v2
    ·simp only [za7,zsf]
     by_cases a:(3:Int)=k
     ·subst a;rfl
     ·by_cases b:(4:Int)=k
      ·subst b;rfl
      ·rw [if_neg a,if_neg b,if_neg (fun q=>a q.symm),if_neg (fun q=>b q.symm)];rfl
   ·obtain ⟨k1,v1⟩:=zua (F:=hF x1 (by simp)) q1
    obtain ⟨k2,v2⟩:=zua (F:=hF x2 (by simp)) q2
    refine ⟨#[x1,x2],clock,[(4,4),(3,3)],rfl,by simp [k1,k2,intK],fun i h1 h2=> ?_,rfl,fun k=> ?_⟩
    ·match i,h1 with
     |0,_=>exact v1
     |1,_=>exact v2
    ·simp only [za7,zsf]
     by_cases b:(4:Int)=k
     ·subst b;rfl
     ·by_cases a:(3:Int)=k
      ·subst a;rfl
      ·rw [if_neg b,if_neg a,if_neg (fun q=>a q.symm),if_neg (fun q=>b q.symm)];rfl
  refine ⟨b,_,hko,hb,⟨_,_,rfl⟩,?_⟩
  unfold World.var? at h3
  rw [h1] at h3
  simp only [Option.bind_some] at h3
  split at h3
  ·rename_i c T0 fr hh
   cases h3
   have hcl:cs= #[Value.map (some b)]:=Array.toList_inj.1 hcs
   subst hcl
   refine zoh hh rfl fun j j1 j2=> ?_
   match j,j1 with
   |0,_=>exact .v _
  ·cases h3
theorem zgq {w:World} {g:Nat} {T:TypeId} {vs:List AV} {O:Nat→Prop} (h:(Res.glob g T vs).holds w noX) (hs:∀a∈vs,Solid a) (hO:∀b,O b→∀c T fr,w.heap[b]? ≠some (.cells c T fr)):(Res.glob g T vs).holds w O:=by
 obtain ⟨_,hlt,c,T0,fr,hh,hl,hr⟩:=h
 exact ⟨fun hb=>hO g hb _ _ _ hh,hlt,c,T0,fr,hh,hl,fun j j1 j2=>zpo (hr j j1 j2) (hs _ (List.getElem_mem j1)) hO⟩
theorem yph (rO:Nat) (oK:Obj):OO [.glob 2 156 y2,.glob 4 305 y3,.glob 5 308 y1,.glob 3 246 w9,.glob 1 175 k8,.glob 0 171 [mpv rO],.obj rO oK] noX=fun b=>b=rO:=by funext b;simp [OO,u9,noX,Res.own]
theorem zir {vs:List AV} (h:(vs.all fun a=>match a with| .any=>true| .v _=>true| .fn _ [] []=>true|_=>false)=true):∀a∈vs,Solid a:=fun a ha=>by
 have:=List.all_eq_true.1 h a ha
 split at this
 ·exact .any
 ·exact .v _
 ·exact .fn _
 ·cases this
theorem zvs {W:World} (h:laidMetH Tryz.prog zn9 W):∃rO oK,KO oK∧HRel noX W [.glob 2 156 y2,.glob 4 305 y3,.glob 5 308 y1,.glob 3 246 w9,.glob 1 175 k8,.glob 0 171 [mpv rO],.obj rO oK]∧∀b,b=rO→∀c T fr,W.heap[b]? ≠some (.cells c T fr):=by
 have hm:=yc8 h
 obtain ⟨rO,oK,hK,hb,⟨ents,clock,rfl⟩,hgk⟩:=yda (Lib.laidMet.reads hm (.tail _ (.tail _ (.head _))))
 have hO:∀b,b=rO→∀c T fr,W.heap[b]? ≠some (.cells c T fr):=fun b e c T fr q=>by subst e;rw [hb] at q;cases q
 have k1:=yog (Lib.laidMet.reads hm (.tail _ (.head _)))
 have k2:=yof (Lib.laidMet.reads hm (.tail _ (.tail _ (.tail _ (.head _)))))
 have k3:=yoe (Lib.laidMet.reads hm (.head _))
 refine ⟨rO,_,hK,⟨by simp [u9,Res.own],fun b hb'=> ?_,fun b hb=>hb.elim,fun r hr=> ?_⟩,hO⟩
 ·simp [u9,Res.own] at hb'
  subst hb'
  exact ⟨(Array.getElem?_eq_some_iff.1 hb).1,fun q=>q⟩
 ·rw [yph]
  simp only [List.mem_cons,List.not_mem_nil,or_false] at hr
  rcases hr with rfl|rfl|rfl|rfl|rfl|rfl|rfl
  ·exact zgq k1 (zir (by rfl)) hO
  ·exact zgq k2 (zir (by kernel_rfl)) hO
  ·exact zgq k3 (zir (by kernel_rfl)) hO
  ·exact zgq (ylu h) (zir (by rfl)) hO
  ·exact zgq (yod h) (zir (by rfl)) hO
  ·exact zgq hgk (zir (by rfl)) hO
  ·exact ⟨hb,fun c T f q=>by cases q⟩
theorem ydb {W W':World} {rO:Nat} {oK:Obj} (h1:HRel noX W [.glob 2 156 y2,.glob 4 305 y3,.glob 5 308 y1,.glob 3 246 w9,.glob 1 175 k8,.glob 0 171 [mpv rO],.obj rO oK]) (h2:HRel noX W' [.glob 2 156 y2,.glob 4 305 y3,.glob 5 308 y1,.glob 3 246 w9,.glob 1 175 k8,.glob 0 171 [mpv rO],.obj rO oK]) (hk:Keep (u9 [.glob 2 156 y2,.glob 4 305 y3,.glob 5 308 y1,.glob 3 246 w9,.glob 1 175 k8,.glob 0 171 [mpv rO],.obj rO oK]) W (u9 [.glob 2 156 y2,.glob 4 305 y3,.glob 5 308 y1,.glob 3 246 w9,.glob 1 175 k8,.glob 0 171 [mpv rO],.obj rO oK]) W'):Keep [] W [] W':=by
 have a1:=(h1.holds (.obj rO oK) (by simp)).1
 have a2:=(h2.holds (.obj rO oK) (by simp)).1
 refine ⟨hk.size,fun b hb _=>⟨?_,by simp⟩,hk.env⟩
 by_cases e:b=rO
 ·subst e;rw [a1,a2]
 ·exact (hk.same b hb (by simpa [u9,Res.own] using e)).1
def yhs:List (String×DataW Unit):= [("unicode/utf8.acceptRanges",Rows.laid_unicode_utf8_acceptRanges),("yardarm/history.limits",Rows.laid_yardarm_history_limits),("unicode/utf8.first",Rows.laid_unicode_utf8_first)]
def ynm:List Value:= .nilFunc::fnS.map fun f=> .func (.func f) #[] #[]
noncomputable def wit60 (os:Os):World:={World.holding Tryz.prog os ⟨#[], #[],[]⟩ with heap:=((((World.holding Tryz.prog os ⟨#[], #[],[]⟩).heap.modify 3 (Lay.setRow yox)).modify 1 (Lay.setRow ynm)).modify 0 (Lay.setRow [.map (some 11)])).push (.map #[⟨.int .i64 3,.int .i64 3,0⟩,⟨.int .i64 4,.int .i64 4,1⟩] 2)}
noncomputable def wit6 (os:Os):World:=(wit60 os).layVars Tryz.prog yhs
theorem yfh (os:Os):(wit6 os).os=os:=World.layVars_os _ _ _
theorem yau (os:Os) (args:Array Value):laidMetH Tryz.prog zn9 ((wit6 os).forCall (fun _ _=>0) ⟨#[],args,[]⟩).memory:=by
 refine laidMetH_of_parts3 (fuel:=8) ?_ (by kernel_rfl) (by kernel_rfl)
 rw [ztx]
 have h:laidMet Tryz.prog yc9 (wit6 os):=laidMet_layVars (w0:=wit60 os) (yhs.map (·.1)) [0,11] (by kernel_rfl) (by kernel_rfl) (by kernel_rfl) (by
  rw [show (yc9.filter fun x=> !(yhs.map (·.1)).contains x.1)= [("yardarm/rw.kinds",Rows.laid_yardarm_rw_kinds)] by kernel_rfl];exact LaidIn.of_run [0,11] 8 (by kernel_rfl) (by kernel_rfl) (by kernel_rfl) (by kernel_rfl))
 exact h.of_heap (by simp [World.memory,World.forCall,Input.heap])
end Go.Proofs.YtfmcbdjnmlcacaaGreatDoor
set_option maxRecDepth 10000
namespace Go.Proofs
open Go Go.Ab
attribute [local irreducible] QR QV OE zb7 aw zcp zb6 zbf zat thn zey zc1 jch zeo
open Go.H
theorem ztn {α:Type} (x1 x2 x3 x4 x5 x6 x7 x8 x9 x10 x11 x12 x13 x:α) (l:List α):(x1::x2::x3::x4::x5::x6::x7::x8::x9::x10::x11::x12::x13::x::l).Perm (x::x1::x2::x3::x4::x5::x6::x7::x8::x9::x10::x11::x12::x13::l):=(List.Perm.cons x1 (yi4 x2 x3 x4 x5 x6 x7 x8 x9 x10 x11 x12 x13 x l)).trans (.swap x x1 _)
def cfz:Conf:=⟨0,0,0,0,0,0,0⟩
abbrev gC (c:Conf):AV:= .agg (j5 c)
instance:ZV (.agg #[.int .i64 0,.int .i64 0,.int .i64 0,.int .i64 0,.int .i64 0,.int .i64 0,.int .i64 0]) (gC cfz):=⟨fun w O u h=>by
 rw [h.v_eq]
 refine .agg _ _ rfl fun j h1 h2=> ?_
 match j,h1,h2 with
 |0,_,_=>exact .v _
 |1,_,_=>exact .v _
 |2,_,_=>exact .v _
 |3,_,_=>exact .v _
 |4,_,_=>exact .v _
 |5,_,_=>exact .v _
 |6,_,_=>exact .v _
 |j+7,h1,_=>exact absurd h1 (by show ¬j+7 < 7;omega)⟩
theorem yo2 {n:Int} (h:n≠0):bv (n !=0)=bv true:=congrArg bv (by simpa using h)
theorem yo3:bv ((0:Int) !=0)=bv false:=rfl
theorem zuk {m:List ((Int×Int)×Conf)} {c:Conf} (h:(!(za7 (c.f,c.t) m).isSome)=true∨decide (zet c ((za7 (c.f,c.t) m).getD cfz) < 0)=true):zg1 m c=zdr (c.f,c.t) c m:=by
 unfold zg1
 rw [show zd3 c=(c.f,c.t) from rfl]
 cases hq:za7 (c.f,c.t) m with
 |none=>rfl
 |some b=>
  rw [hq] at h
  simp only
  rcases h with h|h
  ·simp at h
  ·rw [if_pos (by simpa using h)]
theorem ymp {m:List ((Int×Int)×Conf)} {c:Conf} (h1:(!(za7 (c.f,c.t) m).isSome)=false) (h2:decide (zet c ((za7 (c.f,c.t) m).getD cfz) < 0)=false):zg1 m c=m:=by
 unfold zg1
 rw [show zd3 c=(c.f,c.t) from rfl]
 cases hq:za7 (c.f,c.t) m with
 |none=>rw [hq] at h1;simp at h1
 |some b=>
  rw [hq] at h2
  simp only
  rw [if_neg (by simpa using h2)]
theorem ygb {h:Hist} {kd:Int} {j:Nat} (hj:j < h.evs.length) (hk:h.evs[j].kind=kd):za3 h kd (j+1)=za3 h kd j++zbh h h.evs[j] j:=by
 rw [za3,List.getElem?_eq_getElem hj];simp only;rw [if_pos (by simpa using hk)]
theorem ygc {h:Hist} {kd:Int} {j:Nat} (hj:j < h.evs.length) (hk:h.evs[j].kind≠kd):za3 h kd (j+1)=za3 h kd j:=by
 rw [za3,List.getElem?_eq_getElem hj];simp only;rw [if_neg (by simpa using hk),List.append_nil]
theorem yg0 {a b n:Nat} (ha:a < n) (hb:b < n):a * n+b < n * n:=by
 have:(a+1) * n≤n * n:=Nat.mul_le_mul_right n ha
 rw [Nat.succ_mul] at this;omega
theorem ycb {a b c d n:Nat} (hb:b < n) (hd:d < n) (e:a * n+b=c * n+d):a=c∧b=d:=by
 have hn:0 < n:=by omega
 have h1:(a * n+b) / n=a:=by rw [Nat.add_comm,Nat.add_mul_div_right _ _ hn,Nat.div_eq_of_lt hb,Nat.zero_add]
 have h2:(c * n+d) / n=c:=by rw [Nat.add_comm,Nat.add_mul_div_right _ _ hn,Nat.div_eq_of_lt hd,Nat.zero_add]
 have:a=c:=by rw [←h1,←h2,e]
 subst this
 exact ⟨rfl,by omega⟩
theorem zxz {l:List (Int×Int)} {n:Nat} (hn:l.Nodup) (hb:∀p∈l,(0≤p.1∧p.1 < n)∧(0≤p.2∧p.2 < n)):l.length≤n * n:=by
 have h1:(l.map fun p=>p.1.toNat * n+p.2.toNat).Nodup:=by
  rw [List.Nodup,List.pairwise_map]
  refine List.Pairwise.imp_of_mem (fun {p q} hp hq hne e=>hne ?_) hn
  obtain ⟨⟨a0,a1⟩,b0,b1⟩:=hb p hp
  obtain ⟨⟨c0,c1⟩,d0,d1⟩:=hb q hq
  obtain ⟨e1,e2⟩:=ycb (by omega) (by omega) e
  exact Prod.ext (by omega) (by omega)
 have h2:=zkc (N:=n * n) h1 fun m hm=>by
  obtain ⟨p,hp,rfl⟩:=List.mem_map.1 hm
  obtain ⟨⟨a0,a1⟩,b0,b1⟩:=hb p hp
  exact yg0 (by omega) (by omega)
 rw [oM] at h2;exact h2
theorem yl2 {h:Hist} (hs:zaq h=true) {i:Nat} (hi:i < h.evs.length) {z:Conf} (hz:z∈zbh h h.evs[i] i):z.f=h.evs[i].t:=by
 by_cases h3:h.evs[i].kind=3
 ·obtain ⟨_,_,_,_,_,e,_⟩:=zfy hs hi h3 hz;exact e
 ·by_cases h4:h.evs[i].kind=4
  ·obtain ⟨_,_,_,_,e,_⟩:=zph hs hi h4 hz;exact e
  ·rw [zjm h3 h4] at hz;cases hz
theorem zv9 (l:List Conf):∀p∈zbi l,∃c∈l,p.1=zd3 c:=fun p hp=>by
 have hg:=(zgr (k:=p.1) (v:=p.2) (zc2 l)).2 hp
 have:=znk l p.1
 rw [hg] at this
 exact ⟨p.2,this.2.1,this.1.symm⟩
theorem zul {h:Hist} (hc:u3 h=0) (kd:Int):(zbi (za3 h kd h.evs.length)).length≤9000000:=by
 have hs:=zaw.1 hc
 have hT:=(zgg hc).ts
 have h1:=zxz (n:=h.ts.length) (zc2 (za3 h kd h.evs.length)) fun p hp=>by
  obtain ⟨q,hq,rfl⟩:=List.mem_map.1 hp
  obtain ⟨c,hc',e⟩:=zv9 _ q hq
  obtain ⟨j,hj,_,_,hf⟩:=(zfv (Nat.le_refl _)).1 hc'
  rw [e]
  have ht:=(za1 _ _).1 (zb3 (zdt hs _ (List.getElem_mem hj))).2.2.1
  exact ⟨by show 0≤c.f∧c.f < _;rw [yl2 hs hj hf];exact ht,yl1 hs hj hf⟩
 rw [oM] at h1
 exact Nat.le_trans h1 (Nat.mul_le_mul hT hT)
theorem zm8 {α β:Type} (f:α→List β) (c:Nat):∀l:List α,(∀a∈l,(f a).length≤c)→(l.flatMap f).length≤l.length * c
 | [],_=>by simp
 |a::l,hf=>by
  have:=zm8 f c l fun x hx=>hf x (List.mem_cons_of_mem _ hx)
  have:=hf a (by simp)
  rw [List.flatMap_cons,List.length_append,List.length_cons,Nat.succ_mul];omega
theorem zoj {h:Hist} (hc:u3 h=0) {a:Nat} (ha:a < h.evs.length):(zbh h h.evs[a] a).length≤16000000:=by
 obtain ⟨h1,h2⟩:=seen_ok hc (List.getElem_mem ha) a
 rw [zbh]
 split
 ·refine Nat.le_trans (zm8 _ 4000 _ fun p hp=>Nat.le_trans (List.length_filterMap_le _ _) (h2 p hp).2.1) ?_
  omega
 ·exact Nat.zero_le _
def yan (L:List ((Int×Int)×Conf)) (sn:List Nat):List Conf:=sn.reverse.map fun i=>((L[i]?).map Prod.snd).getD cfz
theorem ztp (L:List ((Int×Int)×Conf)) (sn:List Nat):(yan L sn).length=sn.length:=by simp [yan]
theorem ykt {L:List ((Int×Int)×Conf)} {i:Nat} {sn:List Nat} (hi:i < L.length):yan L (i::sn)=yan L sn++ [L[i].2]:=by
 simp [yan,List.getElem?_eq_getElem hi]
theorem zvc (L:List ((Int×Int)×Conf)):(List.range L.length).map (fun i=>((L[i]?).map Prod.snd).getD cfz)=L.map Prod.snd:=by
 refine List.ext_getElem (by simp) fun i h1 h2=> ?_
 simp at h1
 simp [List.getElem?_eq_getElem h1]
theorem zx5 {L:List ((Int×Int)×Conf)} {sn:List Nat} (hn:sn.Nodup) (hl:∀i∈sn,i < L.length) (ha:∀i,i < L.length→i∈sn):(yan L sn).Perm (L.map Prod.snd):=by
 rw [←zvc,yan]
 refine List.Perm.map _ ((List.reverse_perm sn).trans ?_)
 exact (List.perm_ext_iff_of_nodup hn List.nodup_range).2 fun i=>by rw [List.mem_range];exact ⟨hl i,ha i⟩
def zg5 (h:Hist) (kd:Int):List Conf:=if u3 h=0 then zfb h kd else []
theorem zji {h:Hist} {kd:Int} (hc:u3 h=0):zg5 h kd=zfb h kd:=by rw [zg5,if_pos hc]
theorem zxh {h:Hist} {kd:Int} (hc:u3 h≠0):zg5 h kd= []:=by rw [zg5,if_neg hc]
theorem yid {h:Hist} (hc:u3 h=0) {kd:Int} (hk:kd=3∨kd=4) {sn:List Nat} (hn:sn.Nodup) (hl:∀i∈sn,i < (zbi (za3 h kd h.evs.length)).length) (ha:∀i,i < (zbi (za3 h kd h.evs.length)).length→i∈sn):
 zhy zet (yan (zbi (za3 h kd h.evs.length)) sn)=zg5 h kd:=by
 rw [zji hc]
 exact (zk2 (zaw.1 hc) hk (zx5 hn hl ha)).trans (zk2 (zaw.1 hc) hk (.refl _)).symm
theorem yf7 (h:Hist) (la:Lim 4611686018427387904 h) (rO:Nat) (oK:Obj):y8 Tryz.prog 87 [.agg (y9 h)] (.glob 2 156 y2:: .glob 4 305 y3:: .glob 5 308 y1:: .glob 3 246 w9:: .glob 1 175 k8:: .glob 0 171 [mpv rO]:: .obj rO oK:: []) (fun r h'=>(u3 h=0∧∃rc rl rk rg,h'=rgR rg []::rkS h rk::zau h rl::rcR h rc:: .glob 2 156 y2:: .glob 4 305 y3:: .glob 5 308 y1:: .glob 3 246 w9:: .glob 1 175 k8:: .glob 0 171 [mpv rO]:: .obj rO oK:: []∧r= .tup [.agg (rwP h rc rl rk rg),iv 0])∨(u3 h≠0∧h'= .glob 2 156 y2:: .glob 4 305 y3:: .glob 5 308 y1:: .glob 3 246 w9:: .glob 1 175 k8:: .glob 0 171 [mpv rO]:: .obj rO oK:: []∧r= .tup [.agg (zqb++ [nmp,.v (.slice none 0 0),nmp,nmp,nmp]),iv (u3 h)])):=
 ((ypr h la).frame [.glob 1 175 k8,.glob 0 171 [mpv rO],.obj rO oK]).mono (by
   rintro _ _ ⟨_,rfl,⟨hc,rc,rl,rk,rg,rfl,rfl⟩|⟨hc,rfl,rfl⟩⟩
   ·exact .inl ⟨hc,rc,rl,rk,rg,rfl,rfl⟩
   ·exact .inr ⟨hc,rfl,rfl⟩)
theorem zpj (h:Hist) (la:Lim 4611686018427387904 h) (rO:Nat) (oK:Obj) (hK:KO oK) (kd:Int) (hkk:kd=3∨kd=4):y8 Tryz.prog 86 [.agg (y9 h),iv kd] (.glob 2 156 y2:: .glob 4 305 y3:: .glob 5 308 y1:: .glob 3 246 w9:: .glob 1 175 k8:: .glob 0 171 [mpv rO]:: .obj rO oK:: []) (fun r h'=>∃s:SV,h'= .row s.v 7 41 ((zg5 h kd).map j5):: .glob 2 156 y2:: .glob 4 305 y3:: .glob 5 308 y1:: .glob 3 246 w9:: .glob 1 175 k8:: .glob 0 171 [mpv rO]:: .obj rO oK:: []∧r= .tup [.v s.v,iv (u3 h)]):=by
 refine z6 Tryz.func86 rfl rfl rfl ?_
 have be:=la.evs
 refine rn ?_;refine z7 rfl (w7 rfl rfl rfl fun b2=> ?_)
 refine q1 ?_;refine q1 ?_;refine j6 (zan ?_)
 refine w8 (y7 ?_)
 refine q1 ?_;refine z7 rfl (v6 rfl rfl (y0.fr1 (y0.of_fun (yf7 h la rO oK))) rfl ?_)
 rintro _ _ ⟨_,rfl,⟨hc,rc,rl,rk,rg,rfl,rfl⟩|⟨hc,rfl,rfl⟩⟩
 ·refine rn ?_;refine z7 rfl (y6 rfl fun b6=> ?_)
  refine rn ?_;refine z8 rfl (fun hc24=> ?_) (fun hc24=> ?_)
  ·first|cases hc24|exact absurd hc24 (by decide)|(exfalso;simp_all;done)
  ·refine rn ?_;refine z7 rfl (zas (enc:=zav) rfl fun bm=> ?_)
   refine z7 rfl (y6 rfl fun b8=> ?_)
   first|refine z7 rfl (j8 rfl rfl rfl ?_)|refine z7 rfl (zap rfl rfl rfl rfl (Nat.le_of_ble_eq_true rfl) ?_)
   refine j6 (zan ?_)
   refine w8 ?_;refine w8 (y7 ?_)
   show zb7 _ _ _ _ _ _ ⟨_,_:: .map bm (zag zav (zbc gC (zbi (za3 h kd 0))))::_,_⟩
   refine rn ?_;refine zgi h.evs.length (fun _ (z:List ((Int×Int)×List Int)×List Nat)=>zmb h z.1) (fun j z=>⟨[(31,iv j),(1,iv kd),(6,pZ b6),(8,pZ b8),(29,zwj h.evs),(30,iv (h.evs.map evR).length)],.map bm (zag zav (zbc gC (zbi (za3 h kd j)))):: .box b8 166 [mpv bm]:: .box b6 119 (rwP h rc rl rk rg):: .box b2 28 (y9 h)::rgR rg z.1::rkS h rk::zau h rl::rcR h rc:: .glob 2 156 y2:: .glob 4 305 y3:: .glob 5 308 y1:: .glob 3 246 w9:: .glob 1 175 k8:: .glob 0 171 [mpv rO]:: .obj rO oK::(z.2.map Res.defs),z.2⟩) ([],[]) (zko h) (v8 (zah (pt1 _ _ _)) es) ?_
   rintro j ⟨M,dfs⟩ lj hM
   have hM:zmb h M:=hM
   show aw _ _ _ _ _ ⟨[(31,iv j),(1,iv kd),(6,pZ b6),(8,pZ b8),(29,zwj h.evs),(30,iv (h.evs.map evR).length)],.map bm (zag zav (zbc gC (zbi (za3 h kd j)))):: .box b8 166 [mpv bm]:: .box b6 119 (rwP h rc rl rk rg):: .box b2 28 (y9 h)::rgR rg M::rkS h rk::zau h rl::rcR h rc:: .glob 2 156 y2:: .glob 4 305 y3:: .glob 5 308 y1:: .glob 3 246 w9:: .glob 1 175 k8:: .glob 0 171 [mpv rO]:: .obj rO oK::(dfs.map Res.defs),dfs⟩
   refine rn ?_;refine z8 rfl (fun hc32=> ?_) (fun hc32=> ?_)
   ·have hj:=zd2 hc32
    have rj:=zcb (f:=evR) hj
    refine rn ?_;refine z7 rfl (y6 rfl fun b10=> ?_)
    refine rn ?_;refine z8 rfl (fun hc39=> ?_) (fun hc39=> ?_)
    ·have hw:za3 h kd (j+1)=za3 h kd j:=ygc hj (by simpa using hc39)
     refine rn ?_;exact ⟨hj,(M,dfs),hM,by simp only;rw [hw];exact eA⟩
    ·have hkd:h.evs[j].kind=kd:=by simpa using hc39
     have hw:=ygb hj hkd
     refine rn ?_;refine z7 rfl (v6 rfl rfl (y0.of_fun (zti h j rc rl rk rg _)) rfl ?_)
     rintro _ _ ⟨ba,bp,rfl,rfl⟩
     refine rn ?_;refine zl7 (fun pend h''=>pend=none∧∃M,zmb h M∧h''= .box ba 3 [iv (j:Nat)]:: .box bp 119 (rwP h rc rl rk rg)::rgR rg M::rkS h rk::zau h rl::rcR h rc:: .glob 2 156 y2:: .glob 4 305 y3:: .glob 5 308 y1:: .glob 3 246 w9:: .glob 1 175 k8:: .glob 0 171 [mpv rO]:: .obj rO oK:: .box b10 60 (evR h.evs[j]):: .map bm (zag zav (zbc gC (zbi ((za3 h kd j)++zbh h h.evs[j] j)))):: .box b8 166 [mpv bm]:: .box b6 119 (rwP h rc rl rk rg):: .box b2 28 (y9 h)::(dfs.map Res.defs)) rfl (fun fn l q lp hlp=> ?_) (fun q h'' hK=> ?_) (fun q h'' c hK=> ?_)
     ·suffices hy:∀pre d rest (x:Unit) M,zbh h h.evs[j] j=pre++d::rest→True→zmb h M→y0 Tryz.prog (yv l) [.agg (j5 d)] (.box ba 3 [iv (j:Nat)]:: .box bp 119 (rwP h rc rl rk rg)::rgR rg M::rkS h rk::zau h rl::rcR h rc:: .glob 2 156 y2:: .glob 4 305 y3:: .glob 5 308 y1:: .glob 3 246 w9:: .glob 1 175 k8:: .glob 0 171 [mpv rO]:: .obj rO oK::lp .ready none:: .defs q:: .box b10 60 (evR h.evs[j]):: .map bm (zag zav (zbc gC (zbi ((za3 h kd j)++pre)))):: .box b8 166 [mpv bm]:: .box b6 119 (rwP h rc rl rk rg):: .box b2 28 (y9 h)::(dfs.map Res.defs)) (fun r h'=>∃x':Unit,(r=bv true∧True∧h'= .box ba 3 [iv (j:Nat)]:: .box bp 119 (rwP h rc rl rk rg)::rgR rg M::rkS h rk::zau h rl::rcR h rc:: .glob 2 156 y2:: .glob 4 305 y3:: .glob 5 308 y1:: .glob 3 246 w9:: .glob 1 175 k8:: .glob 0 171 [mpv rO]:: .obj rO oK::lp .ready none:: .defs q:: .box b10 60 (evR h.evs[j]):: .map bm (zag zav (zbc gC (zbi ((za3 h kd j)++(pre++ [d]))))):: .box b8 166 [mpv bm]:: .box b6 119 (rwP h rc rl rk rg):: .box b2 28 (y9 h)::(dfs.map Res.defs))∨(r=bv false∧False∧h'= .box ba 3 [iv (j:Nat)]:: .box bp 119 (rwP h rc rl rk rg)::rgR rg M::rkS h rk::zau h rl::rcR h rc:: .glob 2 156 y2:: .glob 4 305 y3:: .glob 5 308 y1:: .glob 3 246 w9:: .glob 1 175 k8:: .glob 0 171 [mpv rO]:: .obj rO oK:: [])) by
       have hq:=zth h la hc j hj (yv l) bp ba rc rl rk rg M hM rO oK hK (fun _ (_:Unit)=>True) (fun _=>False) (fun pre _=>lp .ready none:: .defs q:: .box b10 60 (evR h.evs[j]):: .map bm (zag zav (zbc gC (zbi ((za3 h kd j)++pre)))):: .box b8 166 [mpv bm]:: .box b6 119 (rwP h rc rl rk rg):: .box b2 28 (y9 h)::(dfs.map Res.defs)) (fun _=> []) () trivial hy
       simp only [List.append_nil] at hq
       refine y8.mono (y8.perm ((pt2 _ _ _ _).trans (.cons _ ((pt2 _ _ _ _).trans (.cons _ ((pt7 _ _ _ _ _ _ _ _ _).trans (.cons _ ((pt7 _ _ _ _ _ _ _ _ _).trans (.cons _ ((pt7 _ _ _ _ _ _ _ _ _).trans (.cons _ ((pt7 _ _ _ _ _ _ _ _ _).trans (.cons _ ((pt7 _ _ _ _ _ _ _ _ _).trans (.cons _ ((pt7 _ _ _ _ _ _ _ _ _).trans (.cons _ ((pt7 _ _ _ _ _ _ _ _ _).trans (.cons _ ((pt7 _ _ _ _ _ _ _ _ _).trans (.cons _ ((pt7 _ _ _ _ _ _ _ _ _).trans (.cons _ ((pt7 _ _ _ _ _ _ _ _ _).trans (.cons _ (pt7 _ _ _ _ _ _ _ _ _))))))))))))))))))))))))) hq) ?_
       rintro _ _ ⟨x,M',hM',⟨-,rfl⟩|⟨hF,_⟩⟩
       ·exact ⟨none,.ready,_,((ztn _ _ _ _ _ _ _ _ _ _ _ _ _ _ _).trans (.cons _ (ztn _ _ _ _ _ _ _ _ _ _ _ _ _ _ _))),by simp,rfl,M',hM',rfl⟩
       ·exact hF.elim
      intro pre d rest x M hL _ hM
      refine y0.perm (ztn _ _ _ _ _ _ _ _ _ _ _ _ _ _ _) (y0.ventE ?_)
      refine zdj hlp rfl rfl ?_
      refine rn ?_;refine z7 rfl (y6 rfl fun b11=> ?_)
      refine rn ?_;refine ⟨[(11,pZ b11),(8,pZ b8)],.box b11 41 (j5 d):: .box ba 3 [iv (j:Nat)]:: .box bp 119 (rwP h rc rl rk rg)::rgR rg M::rkS h rk::zau h rl::rcR h rc:: .glob 2 156 y2:: .glob 4 305 y3:: .glob 5 308 y1:: .glob 3 246 w9:: .glob 1 175 k8:: .glob 0 171 [mpv rO]:: .obj rO oK:: .defs q:: .box b10 60 (evR h.evs[j]):: .map bm (zag zav (zbc gC (zbi ((za3 h kd j)++pre)))):: .box b8 166 [mpv bm]:: .box b6 119 (rwP h rc rl rk rg):: .box b2 28 (y9 h)::(dfs.map Res.defs),v8 (zah (pt1 _ _ _)) es,?_⟩
      refine zdl ?_;refine w8 (y7 ?_)
      refine q1 ?_;refine q1 ?_;refine q1 ?_;refine q1 ?_;refine qq rfl rfl (zcz (out:= [iv d.f,iv d.t]) rfl (by rfl)) ?_
      refine z7 rfl (y6 rfl fun b12=> ?_)
      first|refine z7 rfl (j8 rfl rfl rfl ?_)|refine z7 rfl (zap rfl rfl rfl rfl (Nat.le_of_ble_eq_true rfl) ?_)
      refine j6 (zan ?_)
      refine w8 (y7 ?_)
      refine q1 ?_;refine q1 ?_;refine qq rfl rfl (zfz (g:=gC) (enc:=zav) (k:=(d.f,d.t)) cfz rfl rfl rfl) ?_
      refine rn ?_;refine z7 rfl (y6 rfl fun b13=> ?_)
      refine rn ?_;refine u4 (fun hg13_2=> ?_) (fun hg13_2=> ?_)
      ·refine rn ?_;refine z8 rfl (fun hc62=> ?_) (fun hc62=> ?_)
       ·have hb:zg1 (zbi ((za3 h kd j)++pre)) d=zdr (d.f,d.t) d (zbi ((za3 h kd j)++pre)):=by first|exact zuk (.inl hg13_2)|exact zuk (.inr hc62)
        refine rn ?_;refine z7 rfl (zar (g:=gC) (enc:=zav) (k:=(d.f,d.t)) (v:=d) rfl rfl rfl ?_)
        refine rn ?_;exact zcy (pt2 _ _ _ _) ⟨_,_,.trans (.perm ((pt1 _ _ _).trans (.cons _ ((pt1 _ _ _).trans (.cons _ ((pt1 _ _ _).trans (.cons _ ((pt1 _ _ _).trans (.cons _ ((pt1 _ _ _).trans (.cons _ ((pt1 _ _ _).trans (.cons _ ((pt1 _ _ _).trans (.cons _ ((pt1 _ _ _).trans (.cons _ ((pt1 _ _ _).trans (.cons _ ((pt1 _ _ _).trans (.cons _ ((pt1 _ _ _).trans (.cons _ ((pt1 _ _ _).trans (.cons _ ((pt1 _ _ _).trans (.cons _ ((pt1 _ _ _).trans (.cons _ ((pt1 _ _ _).trans (.cons _ (pt1 _ _ _))))))))))))))))))))))))))))))) _) (.drop [_,_,_] _ _),(),.inl ⟨rfl,trivial,by rw [←List.append_assoc,zsx,hb]⟩⟩
       ·first|cases hc62|exact absurd hc62 (by decide)|(exfalso;simp_all;done)
      ·refine rn ?_;refine qv rfl rfl (y4 rfl rfl (zbl (zht _ _) (Sbs.refl _))) ?_
       refine rn ?_;refine z8 rfl (fun hc62=> ?_) (fun hc62=> ?_)
       ·have hb:zg1 (zbi ((za3 h kd j)++pre)) d=zdr (d.f,d.t) d (zbi ((za3 h kd j)++pre)):=by first|exact zuk (.inl hg13_2)|exact zuk (.inr hc62)
        refine rn ?_;refine z7 rfl (zar (g:=gC) (enc:=zav) (k:=(d.f,d.t)) (v:=d) rfl rfl rfl ?_)
        refine rn ?_;exact zcy (pt2 _ _ _ _) ⟨_,_,.trans (.perm ((pt1 _ _ _).trans (.cons _ ((pt1 _ _ _).trans (.cons _ ((pt1 _ _ _).trans (.cons _ ((pt1 _ _ _).trans (.cons _ ((pt1 _ _ _).trans (.cons _ ((pt1 _ _ _).trans (.cons _ ((pt1 _ _ _).trans (.cons _ ((pt1 _ _ _).trans (.cons _ ((pt1 _ _ _).trans (.cons _ ((pt1 _ _ _).trans (.cons _ ((pt1 _ _ _).trans (.cons _ ((pt1 _ _ _).trans (.cons _ ((pt1 _ _ _).trans (.cons _ ((pt1 _ _ _).trans (.cons _ ((pt1 _ _ _).trans (.cons _ (pt1 _ _ _))))))))))))))))))))))))))))))) _) (.drop [_,_,_] _ _),(),.inl ⟨rfl,trivial,by rw [←List.append_assoc,zsx,hb]⟩⟩
       ·have hb:zg1 (zbi ((za3 h kd j)++pre)) d=(zbi ((za3 h kd j)++pre)):=ymp hg13_2 hc62
        refine rn ?_;exact zcy (pt2 _ _ _ _) ⟨_,_,.trans (.perm ((pt1 _ _ _).trans (.cons _ ((pt1 _ _ _).trans (.cons _ ((pt1 _ _ _).trans (.cons _ ((pt1 _ _ _).trans (.cons _ ((pt1 _ _ _).trans (.cons _ ((pt1 _ _ _).trans (.cons _ ((pt1 _ _ _).trans (.cons _ ((pt1 _ _ _).trans (.cons _ ((pt1 _ _ _).trans (.cons _ ((pt1 _ _ _).trans (.cons _ ((pt1 _ _ _).trans (.cons _ ((pt1 _ _ _).trans (.cons _ ((pt1 _ _ _).trans (.cons _ ((pt1 _ _ _).trans (.cons _ ((pt1 _ _ _).trans (.cons _ (pt1 _ _ _))))))))))))))))))))))))))))))) _) (.drop [_,_,_] _ _),(),.inl ⟨rfl,trivial,by rw [←List.append_assoc,zsx,hb]⟩⟩
     ·obtain ⟨_,M',hM',rfl⟩:=hK
      refine rn ?_;exact ⟨hj,(M',q::dfs),hM',by simp only;rw [hw];exact v8 (zah ((pt1 _ _ _).trans (.cons _ ((pt1 _ _ _).trans (.cons _ ((yi4 _ _ _ _ _ _ _ _ _ _ _ _ _ _).trans (.cons _ ((yi4 _ _ _ _ _ _ _ _ _ _ _ _ _ _).trans (.cons _ ((yi4 _ _ _ _ _ _ _ _ _ _ _ _ _ _).trans (.cons _ ((yi4 _ _ _ _ _ _ _ _ _ _ _ _ _ _).trans (.cons _ ((yi4 _ _ _ _ _ _ _ _ _ _ _ _ _ _).trans (.cons _ ((pt1 _ _ _).trans (.cons _ ((pt1 _ _ _).trans (.cons _ ((pt1 _ _ _).trans (.cons _ ((pt1 _ _ _).trans (.cons _ ((pt1 _ _ _).trans (.cons _ ((pt1 _ _ _).trans (.cons _ ((pt1 _ _ _).trans (.cons _ ((pt1 _ _ _).trans (.cons _ ((pt1 _ _ _).trans (.cons _ ((pt1 _ _ _).trans (.cons _ (pt1 _ _ _)))))))))))))))))))))))))))))))))))) (v8 (zed (h1:= [_,_,_])) es)⟩
     ·obtain ⟨hc',_⟩:=hK
      exact absurd hc' (by simp)
   ·have qj:=zd4 hc32 lj
    subst qj
    refine rn ?_;have hbl:=zul hc kd
    refine rn ?_;refine z7 rfl (zpz rfl rfl fun b68=> ?_)
    refine rn ?_;refine zaj (fun x:List Nat×SV=>x.1.Nodup∧∀i∈x.1,i < (zbi (za3 h kd h.evs.length)).length) (fun x=>⟨[(68,pZ b68),(15,.v x.2.v)],.mapr bm (zag zav (zbc gC (zbi (za3 h kd h.evs.length)))) b68 x.1:: .row x.2.v 7 41 ((yan (zbi (za3 h kd h.evs.length)) x.1).map j5):: .box b8 166 [mpv bm]:: .box b6 119 (rwP h rc rl rk rg):: .box b2 28 (y9 h)::rgR rg M::rkS h rk::zau h rl::rcR h rc:: .glob 2 156 y2:: .glob 4 305 y3:: .glob 5 308 y1:: .glob 3 246 w9:: .glob 1 175 k8:: .glob 0 171 [mpv rO]:: .obj rO oK::(dfs.map Res.defs),dfs⟩) (fun x=>(zbi (za3 h kd h.evs.length)).length - x.1.length) ([],⟨none,0,0⟩) ⟨.nil,fun i hi=>(by cases hi)⟩ (v8 (zbk 7 41) (v8 (zah (pt1 _ _ _)) es)) ?_
    rintro ⟨sn,s⟩ ⟨hsn,hsl⟩
    simp only at hsn hsl
    refine w8 (y7 ?_)
    refine z7 rfl (zr7 rfl rfl (fun hall=> ?_) (fun i hi hni=> ?_))
    ·refine rn ?_;refine z8 rfl (fun hc70=> ?_) (fun hc70=> ?_)
     ·first|cases hc70|exact absurd hc70 (by decide)|(exfalso;simp_all;done)
     ·refine rn ?_;have hsb:=znv hsn hsl
      refine rn ?_;refine z7 rfl (v6 rfl rfl (y0.lendG (y0.of_fun (ya9 (yan (zbi (za3 h kd h.evs.length)) sn) (.fn (.func 39) [] []) rfl zet (fun x y=>y0.of_fun (zht x y)) (by rw [ztp];omega))) (by rintro _ _ ⟨s,rfl,rfl⟩;exact ⟨.v _,fun x hx=>by rw [List.mem_singleton.1 hx];exact ztf (ztg _)⟩) (BLe.refl _ _) (by exact ⟨zl3,BLe.refl _ _,trivial⟩)) rfl ?_)
      rintro _ _ ⟨_,rfl,s2,rfl,rfl⟩
      refine rn ?_;exact zgx (List.perm_append_comm (l₁:= [_,_,_,_,_,_,_,_,_,_,_,_,_,_,_,_,_]) (l₂:=(dfs.map Res.defs))) (.cons _ _ _ _ (.tmp _ _ rfl) (.cons _ _ _ _ (.tmp _ _ rfl) .nil)) (.trans (.perm ((pt1 _ _ _).trans (.cons _ ((pt1 _ _ _).trans (.cons _ ((pt1 _ _ _).trans (.cons _ ((pt1 _ _ _).trans (.cons _ ((pt1 _ _ _).trans (.cons _ ((pt1 _ _ _).trans (.cons _ ((pt1 _ _ _).trans (.cons _ ((pt1 _ _ _).trans (.cons _ (pt1 _ _ _))))))))))))))))) _) (.drop [_,_,_,_,_,_,_,_,_] _ _)) ⟨s2,by rw [yid hc hkk hsn hsl (fun i hi=>hall i (by simpa [zag,zbc] using hi))],by rw [hc];rfl⟩
    ·refine rn ?_;refine z8 rfl (fun hc70=> ?_) (fun hc70=> ?_)
     ·refine za0 ?_;refine zan ?_;refine zdl ?_;refine w8 (y7 ?_)
      have hi2:i < (zbi (za3 h kd h.evs.length)).length:=by simpa [zag,zbc] using hi
      refine qq rfl rfl (zxv (k:=zav (zbi (za3 h kd h.evs.length))[i].1) (a:=gC (zbi (za3 h kd h.evs.length))[i].2) hi (by simp [zag,zbc]) (by simp [zag,zbc]) rfl) ?_
      refine rn ?_;refine z7 rfl (y6 rfl fun b17=> ?_)
      refine rn ?_;refine qv rfl rfl (q6 rfl rfl) ?_
      refine z7 rfl (j4 rfl rfl (by have:=znv hsn hsl;simp only [oM,ztp,List.length_cons,List.length_nil];omega) rfl (fun s76=> ?_) (zer [(zbi (za3 h kd h.evs.length))[i].2]))
      refine j9 s76 fun sv hsv=> ?_
      subst hsv
      refine rn ?_;have hnd:(i::sn).Nodup:=List.nodup_cons.2 ⟨hni,hsn⟩
      have hal:∀j∈i::sn,j < (zbi (za3 h kd h.evs.length)).length:=fun j hj=>(List.mem_cons.1 hj).elim (fun q=>q ▸ hi2) (hsl j)
      have hlen:=znv hnd hal
      exact ⟨(i::sn,sv),⟨hnd,hal⟩,by simp only;rw [ykt hi2,List.map_append];exact eA,by simp only [List.length_cons] at hlen ⊢;omega⟩
     ·first|cases hc70|exact absurd hc70 (by decide)|(exfalso;simp_all;done)
 ·refine rn ?_;refine z7 rfl (y6 rfl fun b6=> ?_)
  refine rn ?_;refine z8 rfl (fun hc24=> ?_) (fun hc24=> ?_)
  ·refine rn ?_;exact zbs rfl rfl (.trans (.drop [_,_] _ _) (zaa 7 41 _)) ⟨⟨none,0,0⟩,by rw [zxh hc];rfl,rfl⟩
  ·first|cases hc24|exact absurd hc24 (by decide)|(exfalso;simp_all;done)
theorem ypt (h:Hist) (la:Lim 4611686018427387904 h) (rO:Nat) (oK:Obj) (hK:KO oK):y8 Tryz.prog 86 [.agg (y9 h),iv 3] (.glob 2 156 y2:: .glob 4 305 y3:: .glob 5 308 y1:: .glob 3 246 w9:: .glob 1 175 k8:: .glob 0 171 [mpv rO]:: .obj rO oK:: []) (fun r h'=>h'= .glob 2 156 y2:: .glob 4 305 y3:: .glob 5 308 y1:: .glob 3 246 w9:: .glob 1 175 k8:: .glob 0 171 [mpv rO]:: .obj rO oK:: []∧r= .tup [zif (zg5 h 3),iv (u3 h)]):=(zpj h la rO oK hK 3 (by decide)).ventR (by rintro _ _ ⟨s,rfl,rfl⟩;exact ⟨_,_,zay [] [_],rfl,rfl⟩)
theorem yeg (h:Hist) (la:Lim 4611686018427387904 h) (rO:Nat) (oK:Obj) (hK:KO oK):y8 Tryz.prog 32 [.agg (y9 h)] (.glob 2 156 y2:: .glob 4 305 y3:: .glob 5 308 y1:: .glob 3 246 w9:: .glob 1 175 k8:: .glob 0 171 [mpv rO]:: .obj rO oK:: []) (fun r h'=>h'= .glob 2 156 y2:: .glob 4 305 y3:: .glob 5 308 y1:: .glob 3 246 w9:: .glob 1 175 k8:: .glob 0 171 [mpv rO]:: .obj rO oK:: []∧r= .tup [zif (zg5 h 3),iv (u3 h)]):=by
 refine z6 Tryz.func32 rfl rfl rfl ?_
 refine rn ?_;refine z7 rfl (w7 rfl rfl rfl fun b1=> ?_)
 refine rn ?_;refine qv rfl rfl (y4 rfl rfl (y0.qt (y0.of_fun (ypt h la rO oK hK)) ((pt1 _ _ _).trans (.cons _ ((pt1 _ _ _).trans (.cons _ ((pt1 _ _ _).trans (.cons _ ((pt1 _ _ _).trans (.cons _ ((pt1 _ _ _).trans (.cons _ ((pt1 _ _ _).trans (.cons _ (pt1 _ _ _))))))))))))))) ?_
 refine rn ?_;exact zbs rfl rfl (.drop [_] _ _) ⟨rfl,rfl⟩
theorem yps (h:Hist) (la:Lim 4611686018427387904 h) (rO:Nat) (oK:Obj) (hK:KO oK):y8 Tryz.prog 86 [.agg (y9 h),iv 4] (.glob 2 156 y2:: .glob 4 305 y3:: .glob 5 308 y1:: .glob 3 246 w9:: .glob 1 175 k8:: .glob 0 171 [mpv rO]:: .obj rO oK:: []) (fun r h'=>h'= .glob 2 156 y2:: .glob 4 305 y3:: .glob 5 308 y1:: .glob 3 246 w9:: .glob 1 175 k8:: .glob 0 171 [mpv rO]:: .obj rO oK:: []∧r= .tup [zif (zg5 h 4),iv (u3 h)]):=(zpj h la rO oK hK 4 (by decide)).ventR (by rintro _ _ ⟨s,rfl,rfl⟩;exact ⟨_,_,zay [] [_],rfl,rfl⟩)
theorem yf4 (h:Hist) (la:Lim 4611686018427387904 h) (rO:Nat) (oK:Obj) (hK:KO oK):y8 Tryz.prog 33 [.agg (y9 h)] (.glob 2 156 y2:: .glob 4 305 y3:: .glob 5 308 y1:: .glob 3 246 w9:: .glob 1 175 k8:: .glob 0 171 [mpv rO]:: .obj rO oK:: []) (fun r h'=>h'= .glob 2 156 y2:: .glob 4 305 y3:: .glob 5 308 y1:: .glob 3 246 w9:: .glob 1 175 k8:: .glob 0 171 [mpv rO]:: .obj rO oK:: []∧r= .tup [zif (zg5 h 4),iv (u3 h)]):=by
 refine z6 Tryz.func33 rfl rfl rfl ?_
 refine rn ?_;refine z7 rfl (w7 rfl rfl rfl fun b1=> ?_)
 refine rn ?_;refine qv rfl rfl (y4 rfl rfl (y0.qt (y0.of_fun (yps h la rO oK hK)) ((pt1 _ _ _).trans (.cons _ ((pt1 _ _ _).trans (.cons _ ((pt1 _ _ _).trans (.cons _ ((pt1 _ _ _).trans (.cons _ ((pt1 _ _ _).trans (.cons _ ((pt1 _ _ _).trans (.cons _ (pt1 _ _ _))))))))))))))) ?_
 refine rn ?_;exact zbs rfl rfl (.drop [_] _ _) ⟨rfl,rfl⟩
theorem ask_c {h:Hist} {x n:Int} (hc:u3 h≠0):zd6 h x n=u3 h:=by rw [zd6,if_neg hc]
theorem zzj {f g:Bool} (l m:List Conf) (hl:l.length≤4611686018427387904) (hm:m.length≤4611686018427387904):y8 Tryz.prog 19 [.list f 7 (l.map j5),.list g 7 (m.map j5)] [] (fun r h'=>h'= []∧r=bv (eqF zih l m)):=by
 refine z6 Tryz.func19 rfl rfl rfl ?_
 refine rn ?_;refine z8 rfl (fun hc10=> ?_) (fun hc10=> ?_)
 ·refine rn ?_;have hne:(l.length==m.length)=false:=beq_eq_false_iff_ne.2 fun q=>by simp [q] at hc10
  exact zal rfl (.refl _ _) ⟨rfl,by rw [eqF,hne,Bool.false_and];rfl⟩
 ·have hlm:l.length=m.length:=by simp at hc10;omega
  refine rn ?_;refine zaj (fun k:Nat=>k≤l.length∧zuu zih l m=zuu zih (l.drop k) (m.drop k)) (fun k=>⟨[(13,iv k),(0,.list f 7 (l.map j5)),(1,.list g 7 (m.map j5)),(12,iv (l.map j5).length)],[],[]⟩) (fun k=>l.length - k) 0 ⟨Nat.zero_le _,by simp⟩
   (u0 (.cons _ _ _ rfl (.cons _ _ _ rfl (.cons _ _ _ rfl (.cons _ _ _ rfl (.nil)))))) ?_
  rintro k ⟨hk,hz⟩
  refine rn ?_;refine z8 rfl (fun hc14=> ?_) (fun hc14=> ?_)
  ·have hk2:k < l.length:=by simpa using hc14
   have hk3:k < m.length:=by omega
   have hrow1:(l.map j5)[k]? =some (j5 l[k]):=by simp [hk2]
   have hrow2:(m.map j5)[k]? =some (j5 m[k]):=by simp [hk3]
   have hd1:=List.drop_eq_getElem_cons hk2
   have hd2:=List.drop_eq_getElem_cons hk3
   refine rn ?_;refine zaf 8 rfl ?_
   refine rn ?_;refine z8 rfl (fun hc24=> ?_) (fun hc24=> ?_)
   ·refine rn ?_;exact zal rfl (.refl _ _) ⟨rfl,by rw [eqF,hz,hd1,hd2,zuu,show zih l[k] m[k]=false from ycm hc24,Bool.false_and,Bool.and_false];rfl⟩
   ·refine rn ?_;exact ⟨k+1,⟨by omega,by rw [hz,hd1,hd2,zuu,show zih l[k] m[k]=true from ycn hc24,Bool.true_and]⟩,(u0 (.cons _ _ _ rfl (.cons _ _ _ rfl (.cons _ _ _ rfl (.cons _ _ _ rfl (.nil)))))),by omega⟩
  ·have hk3:k=l.length:=by
    have:l.length≤k:=by simpa using hc14
    omega
   refine rn ?_;exact zal rfl (.refl _ _) ⟨rfl,by rw [eqF,hz,hk3,List.drop_length,zs1,hlm,beq_self_eq_true];rfl⟩
theorem ymf {f g:Bool} (l:List Conf) (hl:l.length≤4611686018427387904):y8 Tryz.prog 19 [.list f 7 (l.map j5),.list g 7 (l.map j5)] [] (fun r h'=>h'= []∧r=bv true):=(zzj l l hl hl).mono fun _ _ q=>⟨q.1,by rw [q.2,zzk zig];simp⟩
def RwJ (h:Hist) (c:Conf):Prop:=u3 h=0∧∃a:Nat,c.a=(a:Int)∧∃ha:a < h.evs.length,c∈zbh h h.evs[a] a
theorem yga {h:Hist} {c:Conf} (hc:u3 h≠0):¬RwJ h c:=fun q=>hc q.1
theorem zu7 {h:Hist} {c:Conf} (hn:c.a < 0∨(h.evs.length:Int)≤c.a):¬RwJ h c:=fun ⟨_,a,e,ha,_⟩=>by omega
theorem ynn {h:Hist} {c:Conf} {a:Nat} (e:c.a=(a:Int)) (ha:a < h.evs.length) (hm:¬c∈zbh h h.evs[a] a):¬RwJ h c:=fun ⟨_,b,e2,hb,hq⟩=>by
 have:b=a:=by omega
 subst this;exact hm hq
theorem yf8 {h:Hist} {c:Conf} {a:Nat} (hc:u3 h=0) (e:c.a=(a:Int)) (ha:a < h.evs.length) (hm:c∈zbh h h.evs[a] a):RwJ h c:=⟨hc,a,e,ha,hm⟩
def rwJ (h:Hist) (c:Conf):Bool:=decide (u3 h=0) && (decide (0≤c.a) && match h.evs[c.a.toNat]? with
 |some e=>decide (c∈zbh h e c.a.toNat)
 |none=>false)
theorem zxg {h:Hist} {c:Conf}:rwJ h c=true ↔ RwJ h c:=by
 rw [rwJ,Bool.and_eq_true,Bool.and_eq_true,decide_eq_true_iff,decide_eq_true_iff]
 constructor
 ·rintro ⟨h1,h2,h3⟩
  split at h3
  ·rename_i e he
   obtain ⟨hl,rfl⟩:=List.getElem?_eq_some_iff.1 he
   exact ⟨h1,c.a.toNat,by omega,hl,oT h3⟩
  ·cases h3
 ·rintro ⟨h1,a,e,ha,hm⟩
  refine ⟨h1,by omega,?_⟩
  rw [show c.a.toNat=a by omega,List.getElem?_eq_getElem ha]
  exact decide_eq_true hm
theorem yf9 {h:Hist} {c:Conf} (q:RwJ h c):rwJ h c=true:=zxg.2 q
theorem zmd {h:Hist} {c:Conf} (q:¬RwJ h c):rwJ h c=false:=Bool.eq_false_iff.2 fun e=>q (zxg.1 e)
def OvB (h:Hist) (n:Int):Prop:=∃a:Nat,n=(a:Int)∧∃ha:a < h.evs.length,zhs h.evs h.evs[a].t 5=true∧(h.evs[a].kind=3∨h.evs[a].kind=4)
theorem ycg {h:Hist} {n:Int} (q:n < 0):¬OvB h n:=fun ⟨a,e,_⟩=>by omega
theorem ycf {h:Hist} {n:Int} (q:(h.evs.length:Int)≤n):¬OvB h n:=fun ⟨a,e,ha,_⟩=>by omega
theorem yce {h:Hist} {a:Nat} (ha:a < h.evs.length) (q:zhs h.evs h.evs[a].t 5=false):¬OvB h (a:Int):=fun ⟨b,e,hb,q1,_⟩=>by
 have:b=a:=by omega
 subst this;rw [q] at q1;cases q1
theorem ycd {h:Hist} {a:Nat} (ha:a < h.evs.length) (q3:h.evs[a].kind≠3) (q4:h.evs[a].kind≠4):¬OvB h (a:Int):=fun ⟨b,e,hb,_,q1⟩=>by
 have:b=a:=by omega
 subst this;exact q1.elim q3 q4
def ovB (h:Hist) (n:Int):Bool:=decide (0≤n) && match h.evs[n.toNat]? with
 |some e=>zhs h.evs e.t 5 && (e.kind==3||e.kind==4)
 |none=>false
theorem zx4 {h:Hist} {n:Int}:ovB h n=true ↔ OvB h n:=by
 rw [ovB,Bool.and_eq_true,decide_eq_true_iff]
 constructor
 ·rintro ⟨h2,h3⟩
  split at h3
  ·rename_i e he
   obtain ⟨hl,rfl⟩:=List.getElem?_eq_some_iff.1 he
   rw [Bool.and_eq_true,Bool.or_eq_true,beq_iff_eq,beq_iff_eq] at h3
   exact ⟨n.toNat,by omega,hl,h3.1,h3.2⟩
  ·cases h3
 ·rintro ⟨a,e,ha,hm,hk⟩
  refine ⟨by omega,?_⟩
  rw [show n.toNat=a by omega,List.getElem?_eq_getElem ha]
  simp only
  rw [hm,Bool.true_and,Bool.or_eq_true,beq_iff_eq,beq_iff_eq];exact hk
def ovC (h:Hist) (n:Int):Int:=if u3 h=0 then (if ovB h n=true then 0 else 2) else u3 h
def ovO (h:Hist) (n:Int):List Int:=if ovC h n=0 then (match h.evs[n.toNat]? with|some e=>zn3 h e n.toNat|none=> []) else []
theorem yn1 {h:Hist} {n:Int} (hc:u3 h≠0):ovC h n=u3 h∧ovO h n= []:=by
 have e:ovC h n=u3 h:=by rw [ovC,if_neg hc]
 exact ⟨e,by rw [ovO,e,if_neg hc]⟩
theorem ych {h:Hist} {n:Int} (hc:u3 h=0) (hn:¬OvB h n):ovC h n=2∧ovO h n= []:=by
 have e:ovC h n=2:=by rw [ovC,if_pos hc,if_neg fun q=>hn (zx4.1 q)]
 exact ⟨e,by rw [ovO,e];rfl⟩
theorem yks {h:Hist} {a:Nat} (hc:u3 h=0) (ha:a < h.evs.length) (hn:OvB h (a:Int)):ovC h (a:Int)=0∧ovO h (a:Int)=zn3 h h.evs[a] a:=by
 have e:ovC h (a:Int)=0:=by rw [ovC,if_pos hc,if_pos (zx4.2 hn)]
 refine ⟨e,?_⟩
 rw [ovO,if_pos e,show ((a:Nat):Int).toNat=a from rfl,List.getElem?_eq_getElem ha]
theorem yov {d c:Conf} (q:zih d c=true):d=c:=by rw [zig] at q;exact oT q
theorem you {d c:Conf} (q:zih d c=false):¬d=c:=by rw [zig] at q;exact oF q
theorem yef (h:Hist) (la:Lim 4611686018427387904 h) (rO:Nat) (oK:Obj) (hK:KO oK) (c:Conf):y8 Tryz.prog 40 [.agg (y9 h),.agg (j5 c)] (.glob 2 156 y2:: .glob 4 305 y3:: .glob 5 308 y1:: .glob 3 246 w9:: .glob 1 175 k8:: .glob 0 171 [mpv rO]:: .obj rO oK:: []) (fun r h'=>h'= .glob 2 156 y2:: .glob 4 305 y3:: .glob 5 308 y1:: .glob 3 246 w9:: .glob 1 175 k8:: .glob 0 171 [mpv rO]:: .obj rO oK:: []∧r=bv (rwJ h c)):=by
 refine z6 Tryz.func40 rfl rfl rfl ?_
 refine rn ?_;refine z7 rfl (w7 rfl rfl rfl fun b2=> ?_)
 refine z7 rfl (w7 rfl rfl rfl fun b3=> ?_)
 refine z7 rfl (y6 rfl fun b4=> ?_)
 refine j6 (zan ?_)
 refine w8 (y7 ?_)
 refine q1 ?_;refine z7 rfl (v6 rfl rfl (y0.fr3 (y0.of_fun (yf7 h la rO oK))) rfl ?_)
 rintro _ _ ⟨_,rfl,⟨hc,rc,rl,rk,rg,rfl,rfl⟩|⟨hc,rfl,rfl⟩⟩
 ·refine rn ?_;refine z7 rfl (y6 rfl fun b5=> ?_)
  first|refine z7 rfl (j8 rfl rfl rfl ?_)|refine z7 rfl (zap rfl rfl rfl rfl (Nat.le_of_ble_eq_true rfl) ?_)
  refine q1 ?_;refine j6 (zan ?_)
  refine w8 ?_;refine w8 (y7 ?_)
  refine q1 ?_;first|refine qq rfl rfl (zgy (zak rfl rfl rfl) (yo2 hc)) ?_|refine qq rfl rfl (zgy (zak rfl rfl rfl) yo3) ?_
  refine rn ?_;refine u4 (fun hg2_7=> ?_) (fun hg2_7=> ?_)
  ·refine rn ?_;refine z8 rfl (fun hc27=> ?_) (fun hc27=> ?_)
   ·try have hge:(h.evs.length:Int)≤c.a:=by have q:=oT hc27;rw [oM] at q;omega
    refine rn ?_;first|exact zd0 (.cons _ _ _ _ (.one _ _ _ _ _ _ _ rfl inferInstance inferInstance rfl) .nil) (.drop [_,_,_,_] _ _) ⟨rfl,congrArg bv (zmd (yga hc)).symm⟩|exact zd0 (.cons _ _ _ _ (.one _ _ _ _ _ _ _ rfl inferInstance inferInstance rfl) .nil) (.drop [_,_,_,_,_,_,_,_] _ _) ⟨rfl,congrArg bv (zmd (zu7 (.inl (oT hg2_7)))).symm⟩|exact zd0 (.cons _ _ _ _ (.one _ _ _ _ _ _ _ rfl inferInstance inferInstance rfl) .nil) (.drop [_,_,_,_,_,_,_,_] _ _) ⟨rfl,congrArg bv (zmd (zu7 (.inr hge))).symm⟩
   ·first|cases hc27|exact absurd hc27 (by decide)|(exfalso;simp_all;done)
  ·refine rn ?_;refine z8 rfl (fun hc27=> ?_) (fun hc27=> ?_)
   ·try have hge:(h.evs.length:Int)≤c.a:=by have q:=oT hc27;rw [oM] at q;omega
    refine rn ?_;first|exact zd0 (.cons _ _ _ _ (.one _ _ _ _ _ _ _ rfl inferInstance inferInstance rfl) .nil) (.drop [_,_,_,_] _ _) ⟨rfl,congrArg bv (zmd (yga hc)).symm⟩|exact zd0 (.cons _ _ _ _ (.one _ _ _ _ _ _ _ rfl inferInstance inferInstance rfl) .nil) (.drop [_,_,_,_,_,_,_,_] _ _) ⟨rfl,congrArg bv (zmd (zu7 (.inl (oT hg2_7)))).symm⟩|exact zd0 (.cons _ _ _ _ (.one _ _ _ _ _ _ _ rfl inferInstance inferInstance rfl) .nil) (.drop [_,_,_,_,_,_,_,_] _ _) ⟨rfl,congrArg bv (zmd (zu7 (.inr hge))).symm⟩
   ·have h0:0≤c.a:=by have q:=oF hg2_7;omega
    have h1:c.a < h.evs.length:=by have q:=oF hc27;rw [oM] at q;omega
    obtain ⟨a,hca⟩:∃a:Nat,c.a=(a:Int):=⟨c.a.toNat,by omega⟩
    have ha:a < h.evs.length:=by omega
    refine za0 ?_;refine zan ?_;refine w8 ?_;refine w8 (y7 ?_)
    refine q1 ?_;refine q1 ?_;refine qq rfl rfl (zgy (zae rfl rfl) (show iv _=iv (a:Nat) from congrArg iv hca)) ?_
    refine z7 rfl (v6 rfl rfl (y0.of_fun (zti h a rc rl rk rg _)) rfl ?_)
    rintro _ _ ⟨ba,bp,rfl,rfl⟩
    refine rn ?_;refine zl7 (fun pend h''=>(pend=none∧(¬c∈(zbh h h.evs[a] a))∧∃M,h''= .box ba 3 [iv (a:Nat)]:: .box bp 119 (rwP h rc rl rk rg)::rgR rg M::rkS h rk::zau h rl::rcR h rc:: .glob 2 156 y2:: .glob 4 305 y3:: .glob 5 308 y1:: .glob 3 246 w9:: .glob 1 175 k8:: .glob 0 171 [mpv rO]:: .obj rO oK:: .box b5 119 (rwP h rc rl rk rg):: .box b4 4 [bv false]:: .box b3 41 (j5 c):: .box b2 28 (y9 h):: [])∨(pend=some .ret∧c∈(zbh h h.evs[a] a)∧∃M,h''= .box ba 3 [iv (a:Nat)]:: .box bp 119 (rwP h rc rl rk rg)::rgR rg M::rkS h rk::zau h rl::rcR h rc:: .glob 2 156 y2:: .glob 4 305 y3:: .glob 5 308 y1:: .glob 3 246 w9:: .glob 1 175 k8:: .glob 0 171 [mpv rO]:: .obj rO oK:: .box b5 119 (rwP h rc rl rk rg):: .box b4 4 [bv true]:: .box b3 41 (j5 c):: .box b2 28 (y9 h):: [])) rfl (fun fn l q lp hlp=> ?_) (fun q h'' hK'=> ?_) (fun q h'' cc hK'=> ?_)
    ·suffices hy:∀pre d rest (x:Unit) M,zbh h h.evs[a] a=pre++d::rest→(¬c∈pre)→zmb h M→y0 Tryz.prog (yv l) [.agg (j5 d)] (.box ba 3 [iv (a:Nat)]:: .box bp 119 (rwP h rc rl rk rg)::rgR rg M::rkS h rk::zau h rl::rcR h rc:: .glob 2 156 y2:: .glob 4 305 y3:: .glob 5 308 y1:: .glob 3 246 w9:: .glob 1 175 k8:: .glob 0 171 [mpv rO]:: .obj rO oK::lp .ready none:: .defs q:: .box b5 119 (rwP h rc rl rk rg):: .box b4 4 [bv false]:: .box b3 41 (j5 c):: .box b2 28 (y9 h):: []) (fun r h'=>∃x':Unit,(r=bv true∧(¬c∈pre++ [d])∧h'= .box ba 3 [iv (a:Nat)]:: .box bp 119 (rwP h rc rl rk rg)::rgR rg M::rkS h rk::zau h rl::rcR h rc:: .glob 2 156 y2:: .glob 4 305 y3:: .glob 5 308 y1:: .glob 3 246 w9:: .glob 1 175 k8:: .glob 0 171 [mpv rO]:: .obj rO oK::lp .ready none:: .defs q:: .box b5 119 (rwP h rc rl rk rg):: .box b4 4 [bv false]:: .box b3 41 (j5 c):: .box b2 28 (y9 h):: [])∨(r=bv false∧c∈(zbh h h.evs[a] a)∧h'= .box ba 3 [iv (a:Nat)]:: .box bp 119 (rwP h rc rl rk rg)::rgR rg M::rkS h rk::zau h rl::rcR h rc:: .glob 2 156 y2:: .glob 4 305 y3:: .glob 5 308 y1:: .glob 3 246 w9:: .glob 1 175 k8:: .glob 0 171 [mpv rO]:: .obj rO oK::lp .done (some .ret):: .defs q:: .box b5 119 (rwP h rc rl rk rg):: .box b4 4 [bv true]:: .box b3 41 (j5 c):: .box b2 28 (y9 h):: [])) by
      refine y8.mono (y8.perm ((pt2 _ _ _ _).trans (.cons _ ((pt2 _ _ _ _).trans (.cons _ ((pt6 _ _ _ _ _ _ _ _).trans (.cons _ ((pt6 _ _ _ _ _ _ _ _).trans (.cons _ ((pt6 _ _ _ _ _ _ _ _).trans (.cons _ ((pt6 _ _ _ _ _ _ _ _).trans (.cons _ ((pt6 _ _ _ _ _ _ _ _).trans (.cons _ ((pt6 _ _ _ _ _ _ _ _).trans (.cons _ ((pt6 _ _ _ _ _ _ _ _).trans (.cons _ ((pt6 _ _ _ _ _ _ _ _).trans (.cons _ ((pt6 _ _ _ _ _ _ _ _).trans (.cons _ ((pt6 _ _ _ _ _ _ _ _).trans (.cons _ (pt6 _ _ _ _ _ _ _ _))))))))))))))))))))))))) (zth h la hc a ha (yv l) bp ba rc rl rk rg [] (zko h) rO oK hK (fun pre (_:Unit)=>¬c∈pre) (fun _=>c∈(zbh h h.evs[a] a)) (fun _ _=>lp .ready none:: .defs q:: .box b5 119 (rwP h rc rl rk rg):: .box b4 4 [bv false]:: .box b3 41 (j5 c):: .box b2 28 (y9 h):: []) (fun _=>lp .done (some .ret):: .defs q:: .box b5 119 (rwP h rc rl rk rg):: .box b4 4 [bv true]:: .box b3 41 (j5 c):: .box b2 28 (y9 h):: []) () (by simp) hy)) ?_
      rintro _ _ ⟨x,M,hM,⟨hn,rfl⟩|⟨hn,rfl⟩⟩
      ·exact ⟨none,.ready,_,((ztn _ _ _ _ _ _ _ _ _ _ _ _ _ _ _).trans (.cons _ (ztn _ _ _ _ _ _ _ _ _ _ _ _ _ _ _))),by simp,.inl ⟨rfl,hn,M,rfl⟩⟩
      ·exact ⟨some .ret,.done,_,((ztn _ _ _ _ _ _ _ _ _ _ _ _ _ _ _).trans (.cons _ (ztn _ _ _ _ _ _ _ _ _ _ _ _ _ _ _))),by simp,.inr ⟨rfl,hn,M,rfl⟩⟩
     intro pre d rest x M hL hpre hM
     refine y0.perm (ztn _ _ _ _ _ _ _ _ _ _ _ _ _ _ _) (y0.ventE ?_)
     refine zdj hlp rfl rfl ?_
     refine rn ?_;refine z7 rfl (y6 rfl fun b7=> ?_)
     refine rn ?_;refine ⟨[(7,pZ b7),(3,pZ b3),(4,pZ b4)],.box b7 41 (j5 d):: .box ba 3 [iv (a:Nat)]:: .box bp 119 (rwP h rc rl rk rg)::rgR rg M::rkS h rk::zau h rl::rcR h rc:: .glob 2 156 y2:: .glob 4 305 y3:: .glob 5 308 y1:: .glob 3 246 w9:: .glob 1 175 k8:: .glob 0 171 [mpv rO]:: .obj rO oK:: .defs q:: .box b5 119 (rwP h rc rl rk rg):: .box b4 4 [bv false]:: .box b3 41 (j5 c):: .box b2 28 (y9 h):: [],v8 (zah (pt1 _ _ _)) es,?_⟩
     refine rn ?_;refine z8 rfl (fun hc35=> ?_) (fun hc35=> ?_)
     ·have hz:d=c:=yov hc35
      refine rn ?_;exact zrs (.refl _) ⟨_,_,.trans (.perm ((pt1 _ _ _).trans (.cons _ ((pt1 _ _ _).trans (.cons _ ((pt1 _ _ _).trans (.cons _ ((pt1 _ _ _).trans (.cons _ ((pt1 _ _ _).trans (.cons _ ((pt1 _ _ _).trans (.cons _ ((pt1 _ _ _).trans (.cons _ ((pt1 _ _ _).trans (.cons _ ((pt1 _ _ _).trans (.cons _ ((pt1 _ _ _).trans (.cons _ ((pt1 _ _ _).trans (.cons _ ((pt1 _ _ _).trans (.cons _ ((pt1 _ _ _).trans (.cons _ (pt1 _ _ _))))))))))))))))))))))))))) _) (.drop [_] _ _),(),.inr ⟨rfl,by rw [hL,←hz];simp,rfl⟩⟩
     ·have hz:¬d=c:=you hc35
      refine rn ?_;exact zcy (.refl _) ⟨_,_,.trans (.perm ((pt1 _ _ _).trans (.cons _ ((pt1 _ _ _).trans (.cons _ ((pt1 _ _ _).trans (.cons _ ((pt1 _ _ _).trans (.cons _ ((pt1 _ _ _).trans (.cons _ ((pt1 _ _ _).trans (.cons _ ((pt1 _ _ _).trans (.cons _ ((pt1 _ _ _).trans (.cons _ ((pt1 _ _ _).trans (.cons _ ((pt1 _ _ _).trans (.cons _ ((pt1 _ _ _).trans (.cons _ ((pt1 _ _ _).trans (.cons _ ((pt1 _ _ _).trans (.cons _ (pt1 _ _ _))))))))))))))))))))))))))) _) (.drop [_] _ _),(),.inl ⟨rfl,by simp [hpre,Ne.symm hz],rfl⟩⟩
    ·obtain ⟨_,hn,M,rfl⟩|⟨hc',_⟩:=hK'
     rotate_left
     ·cases hc'
     refine rn ?_;exact zgx (.refl _) (.cons _ _ _ _ (.one _ _ _ _ _ _ _ rfl inferInstance inferInstance rfl) .nil) (.trans (.perm (.cons _ (.cons _ (.cons _ (.cons _ (.cons _ (.cons _ ((pt7 _ _ _ _ _ _ _ _ _).trans (.cons _ ((pt7 _ _ _ _ _ _ _ _ _).trans (.cons _ ((pt7 _ _ _ _ _ _ _ _ _).trans (.cons _ (pt7 _ _ _ _ _ _ _ _ _))))))))))))) _) (.drop [_,_,_,_,_,_,_,_,_,_] _ _)) ⟨rfl,congrArg bv (zmd (ynn hca ha hn)).symm⟩
    ·obtain ⟨hc',_⟩|⟨hc',hn,M,rfl⟩:=hK'
     ·cases hc'
     obtain rfl:cc= .ret:=by simpa using hc'
     refine rn ?_;exact zgx (.refl _) (.cons _ _ _ _ (.one _ _ _ _ _ _ _ rfl inferInstance inferInstance rfl) .nil) (.trans (.perm (.cons _ (.cons _ (.cons _ (.cons _ (.cons _ (.cons _ ((pt7 _ _ _ _ _ _ _ _ _).trans (.cons _ ((pt7 _ _ _ _ _ _ _ _ _).trans (.cons _ ((pt7 _ _ _ _ _ _ _ _ _).trans (.cons _ (pt7 _ _ _ _ _ _ _ _ _))))))))))))) _) (.drop [_,_,_,_,_,_,_,_,_,_] _ _)) ⟨rfl,congrArg bv (yf9 (yf8 hc hca ha hn)).symm⟩
 ·refine rn ?_;refine z7 rfl (y6 rfl fun b5=> ?_)
  first|refine z7 rfl (j8 rfl rfl rfl ?_)|refine z7 rfl (zap rfl rfl rfl rfl (Nat.le_of_ble_eq_true rfl) ?_)
  refine q1 ?_;refine j6 (zan ?_)
  refine w8 ?_;refine w8 (y7 ?_)
  refine q1 ?_;first|refine qq rfl rfl (zgy (zak rfl rfl rfl) (yo2 hc)) ?_|refine qq rfl rfl (zgy (zak rfl rfl rfl) yo3) ?_
  refine rn ?_;refine z8 rfl (fun hc27=> ?_) (fun hc27=> ?_)
  ·try have hge:(h.evs.length:Int)≤c.a:=by have q:=oT hc27;rw [oM] at q;omega
   refine rn ?_;first|exact zd0 (.cons _ _ _ _ (.one _ _ _ _ _ _ _ rfl inferInstance inferInstance rfl) .nil) (.drop [_,_,_,_] _ _) ⟨rfl,congrArg bv (zmd (yga hc)).symm⟩|exact zd0 (.cons _ _ _ _ (.one _ _ _ _ _ _ _ rfl inferInstance inferInstance rfl) .nil) (.drop [_,_,_,_,_,_,_,_] _ _) ⟨rfl,congrArg bv (zmd (zu7 (.inl (oT hg2_7)))).symm⟩|exact zd0 (.cons _ _ _ _ (.one _ _ _ _ _ _ _ rfl inferInstance inferInstance rfl) .nil) (.drop [_,_,_,_,_,_,_,_] _ _) ⟨rfl,congrArg bv (zmd (zu7 (.inr hge))).symm⟩
  ·first|cases hc27|exact absurd hc27 (by decide)|(exfalso;simp_all;done)
theorem yf6 (h:Hist) (la:Lim 4611686018427387904 h) (rO:Nat) (oK:Obj) (hK:KO oK) (n:Int):y8 Tryz.prog 35 [.agg (y9 h),iv n] (.glob 2 156 y2:: .glob 4 305 y3:: .glob 5 308 y1:: .glob 3 246 w9:: .glob 1 175 k8:: .glob 0 171 [mpv rO]:: .obj rO oK:: []) (fun r h'=>∃s:SV,h'= .row s.v 1 3 ((ovO h n).map zbo):: .glob 2 156 y2:: .glob 4 305 y3:: .glob 5 308 y1:: .glob 3 246 w9:: .glob 1 175 k8:: .glob 0 171 [mpv rO]:: .obj rO oK:: []∧r= .tup [.v s.v,iv (ovC h n)]):=by
 refine z6 Tryz.func35 rfl rfl rfl ?_
 refine rn ?_;refine z7 rfl (w7 rfl rfl rfl fun b2=> ?_)
 refine q1 ?_;refine q1 ?_;refine j6 (zan ?_)
 refine w8 (y7 ?_)
 refine q1 ?_;refine z7 rfl (v6 rfl rfl (y0.fr1 (y0.of_fun (yf7 h la rO oK))) rfl ?_)
 rintro _ _ ⟨_,rfl,⟨hc,rc,rl,rk,rg,rfl,rfl⟩|⟨hc,rfl,rfl⟩⟩
 ·refine rn ?_;refine z7 rfl (y6 rfl fun b6=> ?_)
  refine rn ?_;refine z8 rfl (fun hc16=> ?_) (fun hc16=> ?_)
  ·first|cases hc16|exact absurd hc16 (by decide)|(exfalso;simp_all;done)
  ·refine rn ?_;refine zaf 33 rfl ?_
   refine rn ?_;refine zco (fun hg4_2=> ?_) (fun hg4_2=> ?_)
   ·refine rn ?_;refine z8 rfl (fun hc56=> ?_) (fun hc56=> ?_)
    ·first
     |have hn:=ycg (h:=h) (oT hg4_2)
     |(have q:=oT hg4_9;rw [oM] at q;have hn:=ycf (h:=h) q)
     |(have q:zhs h.evs h.evs[a].t 5=false:=(by rw [←zgb];simpa using hg4_21);have hn:=yce ha q)
     |(have q3:h.evs[a].kind≠3:=(by simpa using hg4_29);have q4:h.evs[a].kind≠4:=(by simpa using hc56);have hn:=ycd ha q3 q4)
     refine rn ?_;exact zbs rfl rfl (.trans (.drop [_,_,_,_,_,_] _ _) (zaa 1 3 _)) ⟨⟨none,0,0⟩,by rw [(ych hc hn).2];rfl,by rw [(ych hc hn).1];rfl⟩
    ·first|cases hc56|exact absurd hc56 (by decide)|(exfalso;simp_all;done)
   ·refine rn ?_;refine zco (fun hg4_9=> ?_) (fun hg4_9=> ?_)
    ·refine rn ?_;refine z8 rfl (fun hc56=> ?_) (fun hc56=> ?_)
     ·first
      |have hn:=ycg (h:=h) (oT hg4_2)
      |(have q:=oT hg4_9;rw [oM] at q;have hn:=ycf (h:=h) q)
      |(have q:zhs h.evs h.evs[a].t 5=false:=(by rw [←zgb];simpa using hg4_21);have hn:=yce ha q)
      |(have q3:h.evs[a].kind≠3:=(by simpa using hg4_29);have q4:h.evs[a].kind≠4:=(by simpa using hc56);have hn:=ycd ha q3 q4)
      refine rn ?_;exact zbs rfl rfl (.trans (.drop [_,_,_,_,_,_] _ _) (zaa 1 3 _)) ⟨⟨none,0,0⟩,by rw [(ych hc hn).2];rfl,by rw [(ych hc hn).1];rfl⟩
     ·first|cases hc56|exact absurd hc56 (by decide)|(exfalso;simp_all;done)
    ·have h0:0≤n:=by have q:=oF hg4_2;omega
     have h1:n < h.evs.length:=by have q:=oF hg4_9;rw [oM] at q;omega
     obtain ⟨a,rfl⟩:∃a:Nat,n=(a:Int):=⟨n.toNat,by omega⟩
     have ha:a < h.evs.length:=by omega
     have ra:=zcb (f:=evR) ha
     refine dq rfl rfl qrA ?_;refine dq rfl rfl qrA ?_;refine dq rfl rfl qrA ?_;refine dq rfl rfl qrA ?_;refine dq rfl rfl qrA ?_;refine dq rfl rfl qrA ?_;refine dq rfl rfl qrA ?_;refine dq rfl rfl qrA ?_;refine dq rfl rfl (zbt (enc:=intK) (k:=h.evs[a].t) false rfl rfl) ?_
     refine rn ?_;refine zco (fun hg4_21=> ?_) (fun hg4_21=> ?_)
     ·refine rn ?_;refine z8 rfl (fun hc56=> ?_) (fun hc56=> ?_)
      ·first
       |have hn:=ycg (h:=h) (oT hg4_2)
       |(have q:=oT hg4_9;rw [oM] at q;have hn:=ycf (h:=h) q)
       |(have q:zhs h.evs h.evs[a].t 5=false:=(by rw [←zgb];simpa using hg4_21);have hn:=yce ha q)
       |(have q3:h.evs[a].kind≠3:=(by simpa using hg4_29);have q4:h.evs[a].kind≠4:=(by simpa using hc56);have hn:=ycd ha q3 q4)
       refine rn ?_;exact zbs rfl rfl (.trans (.drop [_,_,_,_,_,_] _ _) (zaa 1 3 _)) ⟨⟨none,0,0⟩,by rw [(ych hc hn).2];rfl,by rw [(ych hc hn).1];rfl⟩
      ·first|cases hc56|exact absurd hc56 (by decide)|(exfalso;simp_all;done)
     ·refine rn ?_;refine zco (fun hg4_29=> ?_) (fun hg4_29=> ?_)
      ·refine rn ?_;refine z8 rfl (fun hc56=> ?_) (fun hc56=> ?_)
       ·first
        |have hn:=ycg (h:=h) (oT hg4_2)
        |(have q:=oT hg4_9;rw [oM] at q;have hn:=ycf (h:=h) q)
        |(have q:zhs h.evs h.evs[a].t 5=false:=(by rw [←zgb];simpa using hg4_21);have hn:=yce ha q)
        |(have q3:h.evs[a].kind≠3:=(by simpa using hg4_29);have q4:h.evs[a].kind≠4:=(by simpa using hc56);have hn:=ycd ha q3 q4)
        refine rn ?_;exact zbs rfl rfl (.trans (.drop [_,_,_,_,_,_] _ _) (zaa 1 3 _)) ⟨⟨none,0,0⟩,by rw [(ych hc hn).2];rfl,by rw [(ych hc hn).1];rfl⟩
       ·have hm:zhs h.evs h.evs[a].t 5=true:=by rw [←zgb];simpa using hg4_21
        have hkd:h.evs[a].kind=3∨h.evs[a].kind=4:=by
         first
         |(have q:h.evs[a].kind=3:=(by simpa using hg4_29);exact .inl q)
         |(have q:h.evs[a].kind=4:=(by simpa using hc56);exact .inr q)
        have hn:OvB h (a:Int):=⟨a,rfl,ha,hm,hkd⟩
        have hfl:=zoj hc ha
        refine rn ?_;refine z7 rfl (y6 rfl fun b8=> ?_)
        refine rn ?_;refine z7 rfl (v6 rfl rfl (y0.of_fun (zti h a rc rl rk rg _)) rfl ?_)
        rintro _ _ ⟨ba,bp,rfl,rfl⟩
        refine rn ?_;refine zfo (s':=⟨[(59,.fn (.func 134) [] [pZ bp,pZ ba]),(8,pZ b8)],.box ba 3 [iv (a:Nat)]:: .box bp 119 (rwP h rc rl rk rg):: .box b8 29 [.v (⟨none,0,0⟩:SV).v]:: .row (⟨none,0,0⟩:SV).v 1 3 ((([]:List Conf).map Conf.t).map zbo):: .box b6 119 (rwP h rc rl rk rg):: .box b2 28 (y9 h)::rgR rg []::rkS h rk::zau h rl::rcR h rc:: .glob 2 156 y2:: .glob 4 305 y3:: .glob 5 308 y1:: .glob 3 246 w9:: .glob 1 175 k8:: .glob 0 171 [mpv rO]:: .obj rO oK:: [],[]⟩) (v8 (zbk 1 3) (v8 (zah ((pt1 _ _ _).trans (.cons _ ((pt1 _ _ _).trans (.cons _ (pt1 _ _ _)))))) es)) ?_
        refine zl7 (fun pend h''=>pend=none∧∃(s:SV) (M:List ((Int×Int)×List Int)),h''= .box ba 3 [iv (a:Nat)]:: .box bp 119 (rwP h rc rl rk rg)::rgR rg M::rkS h rk::zau h rl::rcR h rc:: .glob 2 156 y2:: .glob 4 305 y3:: .glob 5 308 y1:: .glob 3 246 w9:: .glob 1 175 k8:: .glob 0 171 [mpv rO]:: .obj rO oK:: .box b8 29 [.v s.v]:: .row s.v 1 3 (((zbh h h.evs[a] a).map Conf.t).map zbo):: .box b6 119 (rwP h rc rl rk rg):: .box b2 28 (y9 h):: []) rfl (fun fn l q lp hlp=> ?_) (fun q h'' hK'=> ?_) (fun q h'' cc hK'=> ?_)
        ·suffices hy:∀pre d rest (s:SV) M,zbh h h.evs[a] a=pre++d::rest→True→zmb h M→y0 Tryz.prog (yv l) [.agg (j5 d)] (.box ba 3 [iv (a:Nat)]:: .box bp 119 (rwP h rc rl rk rg)::rgR rg M::rkS h rk::zau h rl::rcR h rc:: .glob 2 156 y2:: .glob 4 305 y3:: .glob 5 308 y1:: .glob 3 246 w9:: .glob 1 175 k8:: .glob 0 171 [mpv rO]:: .obj rO oK::lp .ready none:: .defs q:: .box b8 29 [.v s.v]:: .row s.v 1 3 ((pre.map Conf.t).map zbo):: .box b6 119 (rwP h rc rl rk rg):: .box b2 28 (y9 h):: []) (fun r h'=>∃s':SV,(r=bv true∧True∧h'= .box ba 3 [iv (a:Nat)]:: .box bp 119 (rwP h rc rl rk rg)::rgR rg M::rkS h rk::zau h rl::rcR h rc:: .glob 2 156 y2:: .glob 4 305 y3:: .glob 5 308 y1:: .glob 3 246 w9:: .glob 1 175 k8:: .glob 0 171 [mpv rO]:: .obj rO oK::lp .ready none:: .defs q:: .box b8 29 [.v s'.v]:: .row s'.v 1 3 (((pre++ [d]).map Conf.t).map zbo):: .box b6 119 (rwP h rc rl rk rg):: .box b2 28 (y9 h):: [])∨(r=bv false∧False∧h'= .box ba 3 [iv (a:Nat)]:: .box bp 119 (rwP h rc rl rk rg)::rgR rg M::rkS h rk::zau h rl::rcR h rc:: .glob 2 156 y2:: .glob 4 305 y3:: .glob 5 308 y1:: .glob 3 246 w9:: .glob 1 175 k8:: .glob 0 171 [mpv rO]:: .obj rO oK:: [])) by
          refine y8.mono (y8.perm ((pt2 _ _ _ _).trans (.cons _ ((pt2 _ _ _ _).trans (.cons _ ((pt6 _ _ _ _ _ _ _ _).trans (.cons _ ((pt6 _ _ _ _ _ _ _ _).trans (.cons _ ((pt6 _ _ _ _ _ _ _ _).trans (.cons _ ((pt6 _ _ _ _ _ _ _ _).trans (.cons _ ((pt6 _ _ _ _ _ _ _ _).trans (.cons _ ((pt6 _ _ _ _ _ _ _ _).trans (.cons _ ((pt6 _ _ _ _ _ _ _ _).trans (.cons _ ((pt6 _ _ _ _ _ _ _ _).trans (.cons _ ((pt6 _ _ _ _ _ _ _ _).trans (.cons _ ((pt6 _ _ _ _ _ _ _ _).trans (.cons _ (pt6 _ _ _ _ _ _ _ _))))))))))))))))))))))))) (zth h la hc a ha (yv l) bp ba rc rl rk rg [] (zko h) rO oK hK (fun _ (_:SV)=>True) (fun _=>False) (fun pre (s:SV)=>lp .ready none:: .defs q:: .box b8 29 [.v s.v]:: .row s.v 1 3 ((pre.map Conf.t).map zbo):: .box b6 119 (rwP h rc rl rk rg):: .box b2 28 (y9 h):: []) (fun _=> []) ⟨none,0,0⟩ trivial hy)) ?_
          rintro _ _ ⟨s,M,hM,⟨-,rfl⟩|⟨hF,_⟩⟩
          ·exact ⟨none,.ready,_,((ztn _ _ _ _ _ _ _ _ _ _ _ _ _ _ _).trans (.cons _ (ztn _ _ _ _ _ _ _ _ _ _ _ _ _ _ _))),by simp,rfl,s,M,rfl⟩
          ·exact hF.elim
         intro pre d rest s M hL _ hM
         have hlen:pre.length < (zbh h h.evs[a] a).length:=by rw [hL,List.length_append,List.length_cons];omega
         refine y0.perm (ztn _ _ _ _ _ _ _ _ _ _ _ _ _ _ _) (y0.ventE ?_)
         refine zdj hlp rfl rfl ?_
         refine rn ?_;refine z7 rfl (y6 rfl fun b9=> ?_)
         refine rn ?_;refine ⟨[(9,pZ b9),(8,pZ b8)],.box b9 41 (j5 d):: .box ba 3 [iv (a:Nat)]:: .box bp 119 (rwP h rc rl rk rg)::rgR rg M::rkS h rk::zau h rl::rcR h rc:: .glob 2 156 y2:: .glob 4 305 y3:: .glob 5 308 y1:: .glob 3 246 w9:: .glob 1 175 k8:: .glob 0 171 [mpv rO]:: .obj rO oK:: .defs q:: .box b8 29 [.v s.v]:: .row s.v 1 3 ((pre.map Conf.t).map zbo):: .box b6 119 (rwP h rc rl rk rg):: .box b2 28 (y9 h):: [],v8 (zah (pt1 _ _ _)) es,?_⟩
         refine rn ?_;refine qv rfl rfl (q6 rfl rfl) ?_
         refine z7 rfl (j4 rfl rfl (by simp only [oM,List.length_cons,List.length_nil];omega) rfl (fun s65=> ?_) (ziy [d.t]))
         refine j9 s65 fun sv hsv=> ?_
         subst hsv
         refine rn ?_;exact zcy (.refl _) ⟨_,_,.trans (.perm ((pt1 _ _ _).trans (.cons _ ((pt1 _ _ _).trans (.cons _ ((pt1 _ _ _).trans (.cons _ ((pt1 _ _ _).trans (.cons _ ((pt1 _ _ _).trans (.cons _ ((pt1 _ _ _).trans (.cons _ ((pt1 _ _ _).trans (.cons _ ((pt1 _ _ _).trans (.cons _ ((pt1 _ _ _).trans (.cons _ ((pt1 _ _ _).trans (.cons _ ((pt1 _ _ _).trans (.cons _ ((pt1 _ _ _).trans (.cons _ ((pt1 _ _ _).trans (.cons _ (pt1 _ _ _))))))))))))))))))))))))))) _) (.drop [_] _ _),sv,.inl ⟨rfl,trivial,by rw [List.map_append,List.map_append];rfl⟩⟩
        ·obtain ⟨_,s,M,rfl⟩:=hK'
         refine rn ?_;refine z7 rfl (v6 rfl rfl (ze6 (y0.of_fun (zwy s _ (by rw [oM];omega)))) rfl ?_)
         rintro _ _ ⟨rfl,rfl⟩
         refine rn ?_;refine z7 rfl (v6 rfl rfl (zga (y0.of_fun (zzs s _ (by rw [(zbr _).length_eq,oM];omega)))) rfl ?_)
         rintro _ _ ⟨s',rfl,rfl⟩
         refine rn ?_;exact zgx (.refl _) (.cons _ _ _ _ (.tmp _ _ rfl) (.cons _ _ _ _ (.tmp _ _ rfl) .nil)) (.trans (.perm (.cons _ (.cons _ (.cons _ (.cons _ (.cons _ (.cons _ ((pt7 _ _ _ _ _ _ _ _ _).trans (.cons _ ((pt8 _ _ _ _ _ _ _ _ _ _).trans (.cons _ ((pt8 _ _ _ _ _ _ _ _ _ _).trans (.cons _ (pt7 _ _ _ _ _ _ _ _ _))))))))))))) _) (.drop [_,_,_,_,_,_,_,_,_] _ _)) ⟨s',by rw [(yks hc ha hn).2];rfl,by rw [(yks hc ha hn).1];rfl⟩
        ·obtain ⟨hc',_⟩:=hK'
         exact absurd hc' (by simp)
      ·refine rn ?_;refine z8 rfl (fun hc56=> ?_) (fun hc56=> ?_)
       ·first|cases hc56|exact absurd hc56 (by decide)|(exfalso;simp_all;done)
       ·have hm:zhs h.evs h.evs[a].t 5=true:=by rw [←zgb];simpa using hg4_21
        have hkd:h.evs[a].kind=3∨h.evs[a].kind=4:=by
         first
         |(have q:h.evs[a].kind=3:=(by simpa using hg4_29);exact .inl q)
         |(have q:h.evs[a].kind=4:=(by simpa using hc56);exact .inr q)
        have hn:OvB h (a:Int):=⟨a,rfl,ha,hm,hkd⟩
        have hfl:=zoj hc ha
        refine rn ?_;refine z7 rfl (y6 rfl fun b8=> ?_)
        refine rn ?_;refine z7 rfl (v6 rfl rfl (y0.of_fun (zti h a rc rl rk rg _)) rfl ?_)
        rintro _ _ ⟨ba,bp,rfl,rfl⟩
        refine rn ?_;refine zfo (s':=⟨[(59,.fn (.func 134) [] [pZ bp,pZ ba]),(8,pZ b8)],.box ba 3 [iv (a:Nat)]:: .box bp 119 (rwP h rc rl rk rg):: .box b8 29 [.v (⟨none,0,0⟩:SV).v]:: .row (⟨none,0,0⟩:SV).v 1 3 ((([]:List Conf).map Conf.t).map zbo):: .box b6 119 (rwP h rc rl rk rg):: .box b2 28 (y9 h)::rgR rg []::rkS h rk::zau h rl::rcR h rc:: .glob 2 156 y2:: .glob 4 305 y3:: .glob 5 308 y1:: .glob 3 246 w9:: .glob 1 175 k8:: .glob 0 171 [mpv rO]:: .obj rO oK:: [],[]⟩) (v8 (zbk 1 3) (v8 (zah ((pt1 _ _ _).trans (.cons _ ((pt1 _ _ _).trans (.cons _ (pt1 _ _ _)))))) es)) ?_
        refine zl7 (fun pend h''=>pend=none∧∃(s:SV) (M:List ((Int×Int)×List Int)),h''= .box ba 3 [iv (a:Nat)]:: .box bp 119 (rwP h rc rl rk rg)::rgR rg M::rkS h rk::zau h rl::rcR h rc:: .glob 2 156 y2:: .glob 4 305 y3:: .glob 5 308 y1:: .glob 3 246 w9:: .glob 1 175 k8:: .glob 0 171 [mpv rO]:: .obj rO oK:: .box b8 29 [.v s.v]:: .row s.v 1 3 (((zbh h h.evs[a] a).map Conf.t).map zbo):: .box b6 119 (rwP h rc rl rk rg):: .box b2 28 (y9 h):: []) rfl (fun fn l q lp hlp=> ?_) (fun q h'' hK'=> ?_) (fun q h'' cc hK'=> ?_)
        ·suffices hy:∀pre d rest (s:SV) M,zbh h h.evs[a] a=pre++d::rest→True→zmb h M→y0 Tryz.prog (yv l) [.agg (j5 d)] (.box ba 3 [iv (a:Nat)]:: .box bp 119 (rwP h rc rl rk rg)::rgR rg M::rkS h rk::zau h rl::rcR h rc:: .glob 2 156 y2:: .glob 4 305 y3:: .glob 5 308 y1:: .glob 3 246 w9:: .glob 1 175 k8:: .glob 0 171 [mpv rO]:: .obj rO oK::lp .ready none:: .defs q:: .box b8 29 [.v s.v]:: .row s.v 1 3 ((pre.map Conf.t).map zbo):: .box b6 119 (rwP h rc rl rk rg):: .box b2 28 (y9 h):: []) (fun r h'=>∃s':SV,(r=bv true∧True∧h'= .box ba 3 [iv (a:Nat)]:: .box bp 119 (rwP h rc rl rk rg)::rgR rg M::rkS h rk::zau h rl::rcR h rc:: .glob 2 156 y2:: .glob 4 305 y3:: .glob 5 308 y1:: .glob 3 246 w9:: .glob 1 175 k8:: .glob 0 171 [mpv rO]:: .obj rO oK::lp .ready none:: .defs q:: .box b8 29 [.v s'.v]:: .row s'.v 1 3 (((pre++ [d]).map Conf.t).map zbo):: .box b6 119 (rwP h rc rl rk rg):: .box b2 28 (y9 h):: [])∨(r=bv false∧False∧h'= .box ba 3 [iv (a:Nat)]:: .box bp 119 (rwP h rc rl rk rg)::rgR rg M::rkS h rk::zau h rl::rcR h rc:: .glob 2 156 y2:: .glob 4 305 y3:: .glob 5 308 y1:: .glob 3 246 w9:: .glob 1 175 k8:: .glob 0 171 [mpv rO]:: .obj rO oK:: [])) by
          refine y8.mono (y8.perm ((pt2 _ _ _ _).trans (.cons _ ((pt2 _ _ _ _).trans (.cons _ ((pt6 _ _ _ _ _ _ _ _).trans (.cons _ ((pt6 _ _ _ _ _ _ _ _).trans (.cons _ ((pt6 _ _ _ _ _ _ _ _).trans (.cons _ ((pt6 _ _ _ _ _ _ _ _).trans (.cons _ ((pt6 _ _ _ _ _ _ _ _).trans (.cons _ ((pt6 _ _ _ _ _ _ _ _).trans (.cons _ ((pt6 _ _ _ _ _ _ _ _).trans (.cons _ ((pt6 _ _ _ _ _ _ _ _).trans (.cons _ ((pt6 _ _ _ _ _ _ _ _).trans (.cons _ ((pt6 _ _ _ _ _ _ _ _).trans (.cons _ (pt6 _ _ _ _ _ _ _ _))))))))))))))))))))))))) (zth h la hc a ha (yv l) bp ba rc rl rk rg [] (zko h) rO oK hK (fun _ (_:SV)=>True) (fun _=>False) (fun pre (s:SV)=>lp .ready none:: .defs q:: .box b8 29 [.v s.v]:: .row s.v 1 3 ((pre.map Conf.t).map zbo):: .box b6 119 (rwP h rc rl rk rg):: .box b2 28 (y9 h):: []) (fun _=> []) ⟨none,0,0⟩ trivial hy)) ?_
          rintro _ _ ⟨s,M,hM,⟨-,rfl⟩|⟨hF,_⟩⟩
          ·exact ⟨none,.ready,_,((ztn _ _ _ _ _ _ _ _ _ _ _ _ _ _ _).trans (.cons _ (ztn _ _ _ _ _ _ _ _ _ _ _ _ _ _ _))),by simp,rfl,s,M,rfl⟩
          ·exact hF.elim
         intro pre d rest s M hL _ hM
         have hlen:pre.length < (zbh h h.evs[a] a).length:=by rw [hL,List.length_append,List.length_cons];omega
         refine y0.perm (ztn _ _ _ _ _ _ _ _ _ _ _ _ _ _ _) (y0.ventE ?_)
         refine zdj hlp rfl rfl ?_
         refine rn ?_;refine z7 rfl (y6 rfl fun b9=> ?_)
         refine rn ?_;refine ⟨[(9,pZ b9),(8,pZ b8)],.box b9 41 (j5 d):: .box ba 3 [iv (a:Nat)]:: .box bp 119 (rwP h rc rl rk rg)::rgR rg M::rkS h rk::zau h rl::rcR h rc:: .glob 2 156 y2:: .glob 4 305 y3:: .glob 5 308 y1:: .glob 3 246 w9:: .glob 1 175 k8:: .glob 0 171 [mpv rO]:: .obj rO oK:: .defs q:: .box b8 29 [.v s.v]:: .row s.v 1 3 ((pre.map Conf.t).map zbo):: .box b6 119 (rwP h rc rl rk rg):: .box b2 28 (y9 h):: [],v8 (zah (pt1 _ _ _)) es,?_⟩
         refine rn ?_;refine qv rfl rfl (q6 rfl rfl) ?_
         refine z7 rfl (j4 rfl rfl (by simp only [oM,List.length_cons,List.length_nil];omega) rfl (fun s65=> ?_) (ziy [d.t]))
         refine j9 s65 fun sv hsv=> ?_
         subst hsv
         refine rn ?_;exact zcy (.refl _) ⟨_,_,.trans (.perm ((pt1 _ _ _).trans (.cons _ ((pt1 _ _ _).trans (.cons _ ((pt1 _ _ _).trans (.cons _ ((pt1 _ _ _).trans (.cons _ ((pt1 _ _ _).trans (.cons _ ((pt1 _ _ _).trans (.cons _ ((pt1 _ _ _).trans (.cons _ ((pt1 _ _ _).trans (.cons _ ((pt1 _ _ _).trans (.cons _ ((pt1 _ _ _).trans (.cons _ ((pt1 _ _ _).trans (.cons _ ((pt1 _ _ _).trans (.cons _ ((pt1 _ _ _).trans (.cons _ (pt1 _ _ _))))))))))))))))))))))))))) _) (.drop [_] _ _),sv,.inl ⟨rfl,trivial,by rw [List.map_append,List.map_append];rfl⟩⟩
        ·obtain ⟨_,s,M,rfl⟩:=hK'
         refine rn ?_;refine z7 rfl (v6 rfl rfl (ze6 (y0.of_fun (zwy s _ (by rw [oM];omega)))) rfl ?_)
         rintro _ _ ⟨rfl,rfl⟩
         refine rn ?_;refine z7 rfl (v6 rfl rfl (zga (y0.of_fun (zzs s _ (by rw [(zbr _).length_eq,oM];omega)))) rfl ?_)
         rintro _ _ ⟨s',rfl,rfl⟩
         refine rn ?_;exact zgx (.refl _) (.cons _ _ _ _ (.tmp _ _ rfl) (.cons _ _ _ _ (.tmp _ _ rfl) .nil)) (.trans (.perm (.cons _ (.cons _ (.cons _ (.cons _ (.cons _ (.cons _ ((pt7 _ _ _ _ _ _ _ _ _).trans (.cons _ ((pt8 _ _ _ _ _ _ _ _ _ _).trans (.cons _ ((pt8 _ _ _ _ _ _ _ _ _ _).trans (.cons _ (pt7 _ _ _ _ _ _ _ _ _))))))))))))) _) (.drop [_,_,_,_,_,_,_,_,_] _ _)) ⟨s',by rw [(yks hc ha hn).2];rfl,by rw [(yks hc ha hn).1];rfl⟩
        ·obtain ⟨hc',_⟩:=hK'
         exact absurd hc' (by simp)
 ·refine rn ?_;refine z7 rfl (y6 rfl fun b6=> ?_)
  refine rn ?_;refine z8 rfl (fun hc16=> ?_) (fun hc16=> ?_)
  ·refine rn ?_;exact zbs rfl rfl (.trans (.drop [_,_] _ _) (zaa 1 3 _)) ⟨⟨none,0,0⟩,by rw [(yn1 hc).2];rfl,by rw [(yn1 hc).1];rfl⟩
  ·first|cases hc16|exact absurd hc16 (by decide)|(exfalso;simp_all;done)
theorem rwOver (h:Hist) (la:Lim 4611686018427387904 h) (rO:Nat) (oK:Obj) (hK:KO oK) (n:Int):y8 Tryz.prog 35 [.agg (y9 h),iv n] (.glob 2 156 y2:: .glob 4 305 y3:: .glob 5 308 y1:: .glob 3 246 w9:: .glob 1 175 k8:: .glob 0 171 [mpv rO]:: .obj rO oK:: []) (fun r h'=>h'= .glob 2 156 y2:: .glob 4 305 y3:: .glob 5 308 y1:: .glob 3 246 w9:: .glob 1 175 k8:: .glob 0 171 [mpv rO]:: .obj rO oK:: []∧r= .tup [zb5 (ovO h n),iv (ovC h n)]):=(yf6 h la rO oK hK n).ventR (by rintro _ _ ⟨s,rfl,rfl⟩;exact ⟨_,_,zay [] [_],rfl,rfl⟩)
def chR (h:Hist) (f t:Int) (k:Nat):List Int:=(upR k).filter fun x=>decide (atI f 0 (zli h x) ≥ 0) && decide (atI t 0 (zli h x) > atI f 0 (zli h x))
theorem zvk (l:List Ev):(l.map evR).take (min (l.map evR).length 60)=(l.take 60).map evR:=by
 rw [oM,←List.map_take,Nat.min_comm,←List.take_take,List.take_length]
theorem ykq (h:Hist) (la:Big h):y8 Tryz.prog 31 [.agg (y9 h)] [] (fun r h'=>∃(sE sO sM:SV) (E:List (SV×Ev)),E.map (·.2)=(h.evs.take 60)∧h'= .row sE.v 9 60 (E.map yi8):: .row sO.v 2 87 (h.ords.map zew):: .row sM.v 4 109 (h.mats.map zei)::scR 70 E∧r= .agg [zcv h.ts,zcv h.ss,zcv h.os,zcv h.ps,.v sE.v,.v sO.v,.v sM.v,zuy h.wants]):=by
 refine z6 Tryz.func31 rfl rfl rfl ?_
 refine rn ?_;refine z7 rfl (w7 rfl rfl rfl fun b1=> ?_)
 refine z7 rfl (y6 rfl fun b2=> ?_)
 refine rn ?_;refine zup 15 rfl ?_
 refine mq rfl rfl qrA ?_;refine mq rfl rfl qrA ?_;refine mq rfl rfl qrA ?_;refine mq rfl rfl qrA ?_;refine mq rfl rfl qrA ?_;refine mq rfl rfl (ygv (h.evs.map evR).length 60 rfl rfl) ?_
 refine mq rfl rfl (zrx (rows':=(h.evs.take 60).map evR) rfl rfl (Nat.min_le_left _ _) (zvk h.evs)) ?_
 refine yct (yhd 9 60 ((h.evs.take 60).map evR)) rfl rfl rfl (ztu (y0.of_fun (zv6 _ (by rw [oM,List.length_take];omega) (yky _)))) ?_
 refine rn ?_;refine yct (yhd 2 87 (h.ords.map zew)) rfl rfl rfl (ztu (y0.of_fun (zqu _ (by rw [oM];have:=la.ords;omega) (yg6 _)))) ?_
 refine rn ?_;refine yct (yhd 4 109 (h.mats.map zei)) rfl rfl rfl (ztu (y0.of_fun (zqv _ (by rw [oM];have:=la.mats;omega) (yg7 _)))) ?_
 refine rn ?_;refine ypb ⟨.refl _,?_⟩
 refine rn ?_;refine zn7 fun s11=> ?_
 refine rn ?_;refine zn7 fun s14=> ?_
 refine rn ?_;refine zn7 fun s17=> ?_
 refine rn0 ?_;refine w8 ?_;refine w8 ?_;refine zfo (zah ((pt3 _ _ _ _ _).trans (.cons _ ((pt3 _ _ _ _ _).trans (.cons _ ((pt2 _ _ _ _).trans (.cons _ (pt1 _ _ _)))))))) ?_
 refine rn ?_;refine zaj (fun x:Nat×List (SV×Ev)=>x.1≤(h.evs.take 60).length∧x.2.map (·.2)=(h.evs.take 60).take x.1) (fun x=>⟨[(24,iv x.1),(23,iv ((h.evs.take 60).map evR).length),(1,pZ b1),(2,pZ b2)],.box b2 28 zqb:: .box b1 28 [zcv h.ts,zcv h.ss,zcv h.os,zcv h.ps,.v s11.v,.v s14.v,.v s17.v,zuy h.wants]:: .row s11.v 9 60 (x.2.map yi8++((h.evs.take 60).drop x.1).map evR):: .row s14.v 2 87 (h.ords.map zew):: .row s17.v 4 109 (h.mats.map zei)::scR 70 x.2,[]⟩) (fun x=>(h.evs.take 60).length - x.1) (0,[]) ⟨by omega,rfl⟩
  (u0 (.cons _ _ _ rfl (.cons _ _ _ rfl (.cons _ _ _ rfl (.cons _ _ _ rfl (.nil)))))) ?_
 rintro ⟨k,x⟩ ⟨hk,hx⟩
 simp only at hk hx
 have hxl:=ycq hx hk
 refine rn ?_;refine z8 rfl (fun hc25=> ?_) (fun hc25=> ?_)
 ·have hk2:k < (h.evs.take 60).length:=by have q:=oT hc25;rw [oM] at q;omega
  obtain ⟨e,he⟩:∃e,e=(h.evs.take 60)[k]:=⟨_,rfl⟩
  have hd:=List.drop_eq_getElem_cons hk2
  rw [←he] at hd
  have hrow:(x.map yi8++((h.evs.take 60).drop k).map evR)[k]? =some (evR e):=yhj hxl hd
  have hmem:e∈(h.evs.take 60):=by rw [he];exact List.getElem_mem hk2
  have hle:(h.evs.take 60).length≤60:=by rw [List.length_take];omega
  have hk3:k < (x.map yi8++((h.evs.take 60).drop k).map evR).length:=by rw [yhi hxl hk];exact hk2
  refine rn ?_;refine zup 10 rfl ?_
  refine mq rfl rfl qrA ?_;refine mq rfl rfl qrA ?_;refine mq rfl rfl qrA ?_;refine mq rfl rfl qrA ?_;refine mq rfl rfl qrA ?_;refine mq rfl rfl qrA ?_;refine mq rfl rfl (zb2 rfl rfl hk3) ?_
  refine mq rfl rfl qrA ?_;refine mq rfl rfl (zb9 rfl hrow rfl) ?_
  refine yct (yhd 3 70 (e.scan.map za2)) rfl rfl rfl (ztu (y0.of_fun (zot _ (by rw [oM];have:=(la.scans e (List.mem_of_mem_take hmem));omega) (zh6 _)))) ?_
  refine ypb ⟨.refl _,?_⟩
  refine rn ?_;refine zn7 fun s36=> ?_
  refine rn2 ?_;refine qq rfl rfl (zb2 rfl rfl hk3) ?_
  refine rn ?_;refine z7 rfl (zr5 rfl rfl rfl hrow rfl (Nat.le_of_ble_eq_true rfl) ?_)
  refine rn ?_;have hset:=yhh (f:=yi8) (g:=evR) (a:=(s36,e)) (r:=(evR e).take 8++ [.v s36.v]++(evR e).drop (8+1)) hxl hd rfl
  have htl:scR 70 (x++ [(s36,e)])=scR 70 x++ [.row s36.v 3 70 (e.scan.map za2)]:=by simp [scR]
  exact ⟨(k+1,x++ [(s36,e)]),⟨by omega,ycp hx hk2 he⟩,by simp only [htl];exact v8 (zah (zcm [_] _)) (by rw [←hset];exact (u0 (.cons _ _ _ rfl (.cons _ _ _ rfl (.cons _ _ _ rfl (.cons _ _ _ rfl (.nil))))))),by simp only;omega⟩
 ·obtain rfl:k=(h.evs.take 60).length:=by
   have q:=oF hc25
   rw [oM] at q
   omega
  rw [List.take_length] at hx
  rw [List.drop_length,List.map_nil,List.append_nil]
  refine rn ?_;exact zd0 (.cons _ _ _ _ (.agg _ _ _ _ _ _ _ rfl inferInstance inferInstance inferInstance rfl) .nil) (.drop [_,_] _ _) ⟨s11,s14,s17,x,hx,rfl,rfl⟩
theorem ynz (h:Hist) (la:Big h):y8 Tryz.prog 31 [.agg (y9 h)] [] (fun r h'=>h'= []∧r= .agg (y9 (zab h))):=
 (ykq h la).ventR (by
  rintro _ _ ⟨sE,sO,sM,E,hE,rfl,rfl⟩
  exact ⟨_,_,zr2 [] sE.v sO.v sM.v (zab h) E 60 87 109 70 _ hE (by simp) (by simp [zab]) (by simp [zab]) (fun r hr=>by simp [hr]),rfl,rfl⟩)
def zzh (e:Ev):List AV:= [iv e.kind,iv e.t,iv e.s,iv e.l,iv e.o,iv e.v.t,iv e.v.k,iv e.p,.v (.slice none 0 0)]
theorem yg9 (l:List Ev):∀r∈l.map zzh,r.all AV.one=true:=by
 intro r hr;obtain ⟨a,_,rfl⟩:=List.mem_map.1 hr;rfl
theorem ybc  :y8 Tryz.prog 83 [] [] (fun r h'=>∃s:SV,h'= [.row s.v 9 60 ((srE 2).map zzh)]∧r= .agg [.list true 1 [[sv (wT 48)],[sv (wT 49)],[sv (wT 50)]],.list true 1 [[sv zuj]],.list true 1 [[sv bxx]],.list true 1 [[sv bPP]],.v s.v,.list true 2 [[iv 0,.list true 1 [[iv 1],[iv 2]]]],.list true 4 [[iv 0,iv 0,bv false,.list true 1 [[iv 2]]]],.v (.slice none 0 0)]):=by
 refine z6 Tryz.func83 rfl rfl rfl ?_
 refine rn ?_;refine z7 rfl (y6 rfl fun b0=> ?_)
 refine rn ?_;refine qv rfl rfl (q6 rfl rfl) ?_
 refine qv rfl rfl (q6 rfl rfl) ?_
 refine qv rfl rfl (q6 rfl rfl) ?_
 refine qv rfl rfl (q6 rfl rfl) ?_
 refine rn ?_;refine z7 rfl (y6 rfl fun b1=> ?_)
 first|refine z7 rfl (j8 rfl rfl rfl ?_)|refine z7 rfl (zap rfl rfl rfl rfl (Nat.le_of_ble_eq_true rfl) ?_)
 refine j6 (zan ?_)
 refine w8 (y7 ?_)
 refine qq rfl rfl (zac (out:=zzh (yja 0)) rfl (by rfl)) ?_
 refine qq rfl rfl (zac (out:=zzh (⟨3,0,0,0,0,⟨0,0⟩,0,[]⟩)) rfl (by rfl)) ?_
 refine qq rfl rfl (zac (out:=zzh (⟨4,0,0,0,0,⟨0,0⟩,0,[]⟩)) rfl (by rfl)) ?_
 refine qq rfl rfl (zac (out:=zzh (yi9 0)) rfl (by rfl)) ?_
 refine z7 rfl (zc0 (rows:=(srE 0).map zzh) rfl rfl rfl (fun s12=> ?_))
 refine j9 s12 fun sw hsw=> ?_
 subst hsw
 refine rn ?_;refine zl6 2 (fun k s=>⟨[(2,iv (k+1:Nat)),(0,pZ b0),(1,pZ b1)],.row s.v 9 60 ((srE k).map zzh):: .box b1 28 [.list true 1 [[sv (wT 48)],[sv (wT 49)],[sv (wT 50)]],.list true 1 [[sv zuj]],.list true 1 [[sv bxx]],.list true 1 [[sv bPP]],.v s.v,.v (.slice none 0 0),.v (.slice none 0 0),.v (.slice none 0 0)]:: .box b0 28 zqb:: [],[]⟩) sw es ?_
 intro k s lk
 refine rn ?_;refine z8 rfl (fun hc15=> ?_) (fun hc15=> ?_)
 ·have hk:k < 2:=by have q:=oT hc15;omega
  have hb:=yfr k
  refine za0 ?_;refine zan ?_;refine w8 ?_;refine zdl ?_;refine y7 ?_;refine q1 ?_;refine q1 ?_;refine q1 ?_;refine qq rfl rfl (zac (out:=zzh (yja (k+1:Nat))) rfl (by rfl)) ?_
  refine q1 ?_;refine q1 ?_;refine qq rfl rfl (zac (out:= [iv (k+1:Nat),iv 1]) rfl (by rfl)) ?_
  refine qq rfl rfl (zac (out:=zzh (ynd (k+1:Nat) 0)) rfl (by rfl)) ?_
  refine q1 ?_;refine qq rfl rfl (zac (out:=zzh (yi9 (k+1:Nat))) rfl (by rfl)) ?_
  refine qv rfl rfl (q6 rfl rfl) ?_
  refine z7 rfl (j4 rfl rfl (by simp only [oM,List.length_append,List.length_cons,List.length_nil];omega) rfl (fun s29=> ?_) (yg9 [yja (k+1:Nat),ynd (k+1:Nat) 0,yi9 (k+1:Nat)]))
  refine j9 s29 fun sw hsw=> ?_
  subst hsw
  refine rn ?_;exact ⟨hk,sw,by rw [yjm,List.map_append];exact eA⟩
 ·have qk:k=2:=by have q:=oF hc15;omega
  refine rn ?_;refine qv rfl rfl (q6 rfl rfl) ?_
  refine rn ?_;refine qv rfl rfl (q6 rfl rfl) ?_
  refine rn ?_;refine qv rfl rfl (q6 rfl rfl) ?_
  refine rn ?_;refine qv rfl rfl (q6 rfl rfl) ?_
  refine rn ?_;exact zd0 (.cons _ _ _ _ (.agg _ _ _ _ _ _ _ rfl inferInstance inferInstance inferInstance rfl) .nil) (.trans (.perm ((pt1 _ _ _).trans (.cons _ (pt1 _ _ _))) _) (.drop [_,_] _ _)) ⟨s,by rw [qk],rfl⟩
theorem zrl:y8 Tryz.prog 83 [] [] (fun r h'=>h'= []∧r= .agg (y9 rwH)):=
 ybc.ventR (by
  rintro _ _ ⟨s,rfl,rfl⟩
  exact ⟨_,_,.trans (zj3 [.list true 1 [[sv (wT 48)],[sv (wT 49)],[sv (wT 50)]],.list true 1 [[sv zuj]],.list true 1 [[sv bxx]],.list true 1 [[sv bPP]]] [.list true 2 [[iv 0,.list true 1 [[iv 1],[iv 2]]]],.list true 4 [[iv 0,iv 0,bv false,.list true 1 [[iv 2]]]],.v (.slice none 0 0)]) (.le (Sb.aggs (bs:=y9 rwH) (by exact ⟨.unfull,.unfull,.unfull,.unfull,(.lists (by simp) ⟨⟨.refl _,.refl _,.refl _,.refl _,.refl _,.refl _,.refl _,.refl _,.nil _ _,trivial⟩,⟨.refl _,.refl _,.refl _,.refl _,.refl _,.refl _,.refl _,.refl _,.nil _ _,trivial⟩,⟨.refl _,.refl _,.refl _,.refl _,.refl _,.refl _,.refl _,.refl _,.nil _ _,trivial⟩,⟨.refl _,.refl _,.refl _,.refl _,.refl _,.refl _,.refl _,.refl _,.nil _ _,trivial⟩,⟨.refl _,.refl _,.refl _,.refl _,.refl _,.refl _,.refl _,.refl _,.nil _ _,trivial⟩,⟨.refl _,.refl _,.refl _,.refl _,.refl _,.refl _,.refl _,.refl _,.nil _ _,trivial⟩,⟨.refl _,.refl _,.refl _,.refl _,.refl _,.refl _,.refl _,.refl _,.nil _ _,trivial⟩,⟨.refl _,.refl _,.refl _,.refl _,.refl _,.refl _,.refl _,.refl _,.nil _ _,trivial⟩,⟨.refl _,.refl _,.refl _,.refl _,.refl _,.refl _,.refl _,.refl _,.nil _ _,trivial⟩,⟨.refl _,.refl _,.refl _,.refl _,.refl _,.refl _,.refl _,.refl _,.nil _ _,trivial⟩,trivial⟩),(.lists (by simp) ⟨⟨.refl _,.unfull,trivial⟩,trivial⟩),(.lists (by simp) ⟨⟨.refl _,.refl _,.refl _,.unfull,trivial⟩,trivial⟩),.nil _ _,trivial⟩)).le),rfl,rfl⟩)
theorem yoa:Lim 4611686018427387904 rwH:=⟨by decide,by decide,by decide,by decide,by decide,by decide,by decide,by decide,by decide,by decide,by decide⟩
abbrev yjt:Conf:=⟨0,1,3,1,5,0,0⟩
abbrev yo6:Conf:=⟨0,2,4,2,8,0,0⟩
theorem ybi:rwJ rwH yjt=true:=yf9 (yf8 zfu rfl (by decide) ybj)
theorem rA1 (rO:Nat) (oK:Obj) (hK:KO oK):y8 Tryz.prog 32 [.agg (y9 rwH)] (.glob 2 156 y2:: .glob 4 305 y3:: .glob 5 308 y1:: .glob 3 246 w9:: .glob 1 175 k8:: .glob 0 171 [mpv rO]:: .obj rO oK:: []) (fun r h'=>h'= .glob 2 156 y2:: .glob 4 305 y3:: .glob 5 308 y1:: .glob 3 246 w9:: .glob 1 175 k8:: .glob 0 171 [mpv rO]:: .obj rO oK:: []∧r= .tup [zif [yjt],iv 0]):=(yeg rwH yoa rO oK hK).mono fun _ _ q=>⟨q.1,by rw [q.2,zji zfu,zxe,zfu]⟩
theorem rA2 (rO:Nat) (oK:Obj) (hK:KO oK):y8 Tryz.prog 33 [.agg (y9 rwH)] (.glob 2 156 y2:: .glob 4 305 y3:: .glob 5 308 y1:: .glob 3 246 w9:: .glob 1 175 k8:: .glob 0 171 [mpv rO]:: .obj rO oK:: []) (fun r h'=>h'= .glob 2 156 y2:: .glob 4 305 y3:: .glob 5 308 y1:: .glob 3 246 w9:: .glob 1 175 k8:: .glob 0 171 [mpv rO]:: .obj rO oK:: []∧r= .tup [zif [yo6],iv 0]):=(yf4 rwH yoa rO oK hK).mono fun _ _ q=>⟨q.1,by rw [q.2,zji zfu,zxc,zfu]⟩
theorem rA3 (rO:Nat) (oK:Obj) (hK:KO oK):y8 Tryz.prog 40 [.agg (y9 rwH),.agg (j5 yjt)] (.glob 2 156 y2:: .glob 4 305 y3:: .glob 5 308 y1:: .glob 3 246 w9:: .glob 1 175 k8:: .glob 0 171 [mpv rO]:: .obj rO oK:: []) (fun r h'=>h'= .glob 2 156 y2:: .glob 4 305 y3:: .glob 5 308 y1:: .glob 3 246 w9:: .glob 1 175 k8:: .glob 0 171 [mpv rO]:: .obj rO oK:: []∧r=bv true):=(yef rwH yoa rO oK hK yjt).mono fun _ _ q=>⟨q.1,by rw [q.2,ybi]⟩
theorem rEq {f g:Bool} (c:Conf):y8 Tryz.prog 19 [.list f 7 [j5 c],.list g 7 [j5 c]] [] (fun r h'=>h'= []∧r=bv true):=ymf [c] (by show 1≤_;decide)
theorem yfi (rO:Nat) (oK:Obj) (hK:KO oK):y8 Tryz.prog 30 [] (.glob 2 156 y2:: .glob 4 305 y3:: .glob 5 308 y1:: .glob 3 246 w9:: .glob 1 175 k8:: .glob 0 171 [mpv rO]:: .obj rO oK:: []) (fun r h'=>h'= .glob 2 156 y2:: .glob 4 305 y3:: .glob 5 308 y1:: .glob 3 246 w9:: .glob 1 175 k8:: .glob 0 171 [mpv rO]:: .obj rO oK:: []∧r=bv true):=by
 refine z6 Tryz.func30 rfl rfl rfl ?_
 refine rn ?_;refine qv rfl rfl (y4 rfl rfl (y0.pure (R:=fun r=>r= .agg (y9 rwH)) (y0.of_fun zrl))) ?_
 refine qv rfl rfl (y4 rfl rfl (y0.of_fun (rA1 rO oK hK))) ?_
 refine rn ?_;refine qv rfl rfl (y4 rfl rfl (y0.pure (R:=fun r=>r= .agg (y9 rwH)) (y0.of_fun zrl))) ?_
 refine qv rfl rfl (y4 rfl rfl (y0.of_fun (rA2 rO oK hK))) ?_
 refine q1 ?_;refine q1 ?_;refine q1 ?_;refine q1 ?_;refine q1 ?_;refine j6 (zan ?_)
 refine w8 (y7 ?_)
 refine qq rfl rfl (zac (out:=j5 yjt) rfl (by rfl)) ?_
 refine z7 rfl (y6 rfl fun b5=> ?_)
 refine rn ?_;refine zaf 21 rfl ?_
 refine rn ?_;refine dv rfl rfl (q6 rfl rfl) ?_
 refine dv rfl rfl (by exact y4 rfl rfl (y0.pure (R:=fun r=>r=bv true) (y0.of_fun (rEq _)))) ?_
 refine dq rfl rfl qrA ?_;refine dq rfl rfl qrA ?_;refine dq rfl rfl qrA ?_;refine dq rfl rfl (zac (out:=j5 yo6) rfl (by rfl)) ?_
 refine dv rfl rfl (q6 rfl rfl) ?_
 refine dv rfl rfl (by exact y4 rfl rfl (y0.pure (R:=fun r=>r=bv true) (y0.of_fun (rEq _)))) ?_
 refine rn ?_;refine dv rfl rfl (by exact y4 rfl rfl (y0.pure (R:=fun r=>r= .agg (y9 rwH)) (y0.of_fun zrl))) ?_
 refine rn ?_;refine qv rfl rfl (y4 rfl rfl (y0.qt (y0.of_fun (rA3 rO oK hK)) ((pt1 _ _ _).trans (.cons _ ((pt1 _ _ _).trans (.cons _ ((pt1 _ _ _).trans (.cons _ ((pt1 _ _ _).trans (.cons _ ((pt1 _ _ _).trans (.cons _ ((pt1 _ _ _).trans (.cons _ (pt1 _ _ _))))))))))))))) ?_
 refine rn ?_;refine rq 1 ?_
 exact ⟨rfl,rfl⟩
theorem ybm (h:Hist) (kd:Int):(zg5 h kd).length≤9000000:=by
 by_cases hc:u3 h=0
 ·rw [zji hc,zfb,(zee zet _).length_eq,oM];exact zul hc kd
 ·rw [zxh hc];exact Nat.zero_le _
theorem yg3 (h:Hist) (n:Int):(ovO h n).length≤4611686018427387904:=by
 rw [ovO]
 split
 ·rename_i he
  have hc:u3 h=0:=by
   by_cases hc:u3 h=0
   ·exact hc
   ·rw [ovC,if_neg hc] at he;exact he
  split
  ·rename_i e hq
   obtain ⟨hl,rfl⟩:=List.getElem?_eq_some_iff.1 hq
   refine Nat.le_trans (zgf _) ?_
   rw [(zbr _).length_eq,oM]
   exact Nat.le_trans (zoj hc hl) (by decide)
  ·exact Nat.zero_le _
 ·exact Nat.zero_le _
theorem zyy {h:Hist} {n many x:Int} (he:zd6 h n many=0) (h0:0≤x) (h1:x < h.os.length):(za4 h x).length≤4611686018427387904:=by
 obtain ⟨_,e,_⟩:=zfg (zwb he).1 h0 h1
 rw [e,zdq (zdw (zwb he).1).1];exact Nat.le_trans (zkr _ _) (Nat.le_trans (zsz he).ts (by decide))
theorem zze {α:Type} (p:α→Bool):∀(l:List α) (i:Nat), -1≤za9 p i l∧za9 p i l < (i+l.length:Nat)+1
 | [],i=>by simp only [za9];omega
 |a::r,i=>by
  have:=zze p r (i+1)
  simp only [za9,List.length_cons]
  split
  ·omega
  ·omega
theorem zyc {h:Hist} {x n:Int} (he:(zd6 h x h.os.length !=0)=true):zgz h x n=none:=by rw [zgz,if_neg (by simpa using he)]
theorem zyb {h:Hist} {x n:Int} (hn:decide (n < 0)=true):zgz h x n=none:=by
 have:=oT hn
 rw [zgz];split
 ·rw [if_neg (by omega)]
 ·rfl
theorem zya {h:Hist} {x n:Int} (he:(zd6 h x h.os.length !=0)=false) (hn:decide (n ≥ (((onE (zd6 h x h.os.length) (za4 h x)).map zbo).length:Int))=true):zgz h x n=none:=by
 have hn:=oT hn
 have he:zd6 h x h.os.length=0:=by simpa using he
 rw [oM,onE,if_pos he] at hn
 rw [zgz,if_pos he];split
 ·rw [List.getElem?_eq_none (by omega)]
 ·rfl
theorem yk2 {h:Hist} {x n:Int} (he:(zd6 h x h.os.length !=0)=false) (h2:decide (n < 0)=false) (hn:decide (n ≥ (((onE (zd6 h x h.os.length) (za4 h x)).map zbo).length:Int))=false):∃a,0≤n∧((onE (zd6 h x h.os.length) (za4 h x)).map zbo)[n.toNat]? =some (zbo a)∧zgz h x n=some a:=by
 have hn:=oF hn
 have h2:=oF h2
 have he:zd6 h x h.os.length=0:=by simpa using he
 rw [oM,onE,if_pos he] at hn
 refine ⟨(za4 h x)[n.toNat]'(by omega),by omega,?_,?_⟩
 ·rw [onE,if_pos he,List.getElem?_map,List.getElem?_eq_getElem (by omega)];rfl
 ·rw [zgz,if_pos he,if_pos (by omega),List.getElem?_eq_getElem (by omega)]
theorem yhx (h:Hist) (la:h.evs.length≤1000000) (x t:Int) (v:Ver) (b3 b4 b5:Nat):y8 Tryz.prog 103 [iv t,pZ b3,pZ b4,pZ b5] (.box b3 28 (y9 h):: .box b4 3 [iv x]:: .box b5 57 (yav v):: []) (fun r h'=>h'= .box b3 28 (y9 h):: .box b4 3 [iv x]:: .box b5 57 (yav v):: []∧r=bv (zwe (zol h.evs t x)==v)):=by
 refine z6 Tryz.func103 rfl rfl rfl ?_
 refine rn ?_;refine qv rfl rfl (y4 rfl rfl (y0.of_fun (yoc h la t x _))) ?_
 refine rn ?_;refine z7 rfl (y6 rfl fun b6=> ?_)
 refine rn ?_;refine rq 1 ?_
 exact ⟨rfl,by rw [←yl5,←zj8];rfl⟩
theorem ylj (h:Hist) (la:Lim 4611686018427387904 h) (x:Int) (v:Ver):y8 Tryz.prog 43 [.agg (y9 h),iv x,.agg (yav v)] (.glob 2 156 y2:: .glob 4 305 y3:: .glob 5 308 y1:: .glob 3 246 w9:: []) (fun r h'=>h'= .glob 2 156 y2:: .glob 4 305 y3:: .glob 5 308 y1:: .glob 3 246 w9:: []∧r= .tup [iv (zny h x v).1,bv (zny h x v).2]):=by
 refine z6 Tryz.func43 rfl rfl rfl ?_
 refine rn ?_;refine z7 rfl (w7 rfl rfl rfl fun b3=> ?_)
 refine z7 rfl (w7 rfl rfl rfl fun b4=> ?_)
 refine z7 rfl (w7 rfl rfl rfl fun b5=> ?_)
 refine rn ?_;refine qv rfl rfl (y4 rfl rfl (y0.qt (y0.of_fun (zty h la x)) ((pt3 _ _ _ _ _).trans (.cons _ ((pt3 _ _ _ _ _).trans (.cons _ ((pt3 _ _ _ _ _).trans (.cons _ (pt3 _ _ _ _ _))))))))) ?_
 refine rn ?_;refine z8 rfl (fun hc17=> ?_) (fun hc17=> ?_)
 ·have hc:zd6 h x h.os.length≠0:=by simpa using hc17
  refine rn ?_;refine rq 3 ?_
  exact ⟨rfl,by rw [zny,if_neg hc];rfl⟩
 ·have hc:zd6 h x h.os.length=0:=by simpa using hc17
  refine w8 (y7 ?_)
  refine q1 ?_;refine qq rfl rfl (zac (out:= [iv 0,iv 0]) rfl (by rfl)) ?_
  refine rn ?_;refine z8 rfl (fun hc20=> ?_) (fun hc20=> ?_)
  ·have hv:v=⟨0,0⟩:=eq_of_beq (by rw [←zj8];exact hc20)
   refine rn ?_;refine rq 3 ?_
   exact ⟨rfl,by rw [zny,if_pos hc,if_pos hv];rfl⟩
  ·have hv:v≠⟨0,0⟩:=beq_eq_false_iff_ne.1 (by rw [←zj8];exact hc20)
   have hn:=zwb hc
   refine za0 ?_;refine rn0 ?_;refine w8 ?_;rw [onE,if_pos hc]
   refine rn ?_;refine qv rfl rfl (y4 rfl rfl (y0.of_fun (zf7 (za4 h x) _ (fun t=>zwe (zol h.evs t x)==v) _ (fun t _=>y0.qt (y0.of_acall (fs:= []) (cs:= [pZ b3,pZ b4,pZ b5]) (yhx h (zz7 hc) x t v b3 b4 b5)) ((pt2 _ _ _ _).trans (.cons _ (pt1 _ _ _)))) (zyy hc hn.2.1 hn.2.2)))) ?_
   refine q1 ?_;refine j6 (zan ?_)
   refine w8 (y7 ?_)
   refine q1 ?_;refine qq rfl rfl (zc5 rfl rfl rfl (by have:=zze (fun t=>zwe (zol h.evs t x)==v) (za4 h x) 0;have:=zyy hc hn.2.1 hn.2.2;omega)) ?_
   refine rn ?_;refine rq 3 ?_
   exact ⟨rfl,by rw [zny,if_pos hc,if_neg hv];rfl⟩
theorem ylk (h:Hist) (la:Lim 4611686018427387904 h) (x n:Int):y8 Tryz.prog 48 [.agg (y9 h),iv x,iv n] (.glob 2 156 y2:: .glob 4 305 y3:: .glob 5 308 y1:: .glob 3 246 w9:: []) (fun r h'=>h'= .glob 2 156 y2:: .glob 4 305 y3:: .glob 5 308 y1:: .glob 3 246 w9:: []∧r= .tup [iv ((zgz h x n).getD 0),bv (zgz h x n).isSome]):=by
 refine z6 Tryz.func48 rfl rfl rfl ?_
 refine rn ?_;refine z7 rfl (w7 rfl rfl rfl fun b3=> ?_)
 refine rn ?_;refine qv rfl rfl (y4 rfl rfl (y0.qt (y0.of_fun (zty h la x)) ((pt1 _ _ _).trans (.cons _ ((pt1 _ _ _).trans (.cons _ ((pt1 _ _ _).trans (.cons _ (pt1 _ _ _))))))))) ?_
 refine rn ?_;refine u4 (fun hg2_2=> ?_) (fun hg2_2=> ?_)
 ·refine rn ?_;refine zq4 rfl ?_;have hn:zgz h x n=none:=by first|exact zyc hg2_2|exact zyb hg2_6|exact zya hg2_2 hc27
  refine rn ?_;refine rq 1 ?_
  exact ⟨rfl,by rw [hn];rfl⟩
 ·refine rn ?_;refine u4 (fun hg2_6=> ?_) (fun hg2_6=> ?_)
  ·refine rn ?_;refine zq4 rfl ?_;have hn:zgz h x n=none:=by first|exact zyc hg2_2|exact zyb hg2_6|exact zya hg2_2 hc27
   refine rn ?_;refine rq 1 ?_
   exact ⟨rfl,by rw [hn];rfl⟩
  ·refine rn ?_;refine z8 rfl (fun hc27=> ?_) (fun hc27=> ?_)
   ·have hn:zgz h x n=none:=by first|exact zyc hg2_2|exact zyb hg2_6|exact zya hg2_2 hc27
    refine rn ?_;refine rq 1 ?_
    exact ⟨rfl,by rw [hn];rfl⟩
   ·obtain ⟨a,h0,ha,hn⟩:=yk2 hg2_2 hg2_6 hc27
    refine za0 ?_;refine zan ?_;refine w8 (y7 ?_)
    refine q1 ?_;refine q1 ?_;refine qq rfl rfl (zbb rfl rfl h0 ha) ?_
    refine rn ?_;refine rq 1 ?_
    exact ⟨rfl,by rw [hn];rfl⟩
theorem yl3 {h:Hist} (hc:u3 h=0) {kd:Int} {c:Conf} (hm:c∈zg5 h kd):∃a,∃ha:a < h.evs.length,h.evs[a].kind=kd∧c∈zbh h h.evs[a] a:=by
 rw [zji hc,znw,zhf] at hm
 obtain ⟨a,ha,_,hk,hf⟩:=(zfv (Nat.le_refl _)).1 hm.1
 exact ⟨a,ha,hk,hf⟩
theorem yib {h:Hist} (hc:u3 h=0) {kd:Int} {i:Nat} (hi:i < (zg5 h kd).length) (h1:1≤i):(((zg5 h kd)[i - 1]'(by omega)).f==(zg5 h kd)[i].f)=true→(((zg5 h kd)[i - 1]'(by omega)).t==(zg5 h kd)[i].t)=false:=by
 intro e
 have hk:=zo6 (za3 h kd h.evs.length)
 rw [←znw,←zji hc] at hk
 have:=List.pairwise_iff_getElem.1 hk (i - 1) i (by omega) hi (by omega)
 refine beq_eq_false_iff_ne.2 fun e2=>this ?_
 rw [zd3,zd3,eq_of_beq e,e2]
theorem yol {h:Hist} (hc:u3 h=0) {kd:Int} {i:Nat} (hi:i < (zg5 h kd).length) (h1:1≤i):decide (zet ((zg5 h kd)[i - 1]'(by omega)) (zg5 h kd)[i] ≥ 0)=false:=by
 have hk:=zrf (za3 h kd h.evs.length)
 rw [←znw,←zji hc] at hk
 have:zet _ _ < 0:=List.pairwise_iff_getElem.1 hk (i - 1) i (by omega) hi (by omega)
 exact decide_eq_false (by omega)
theorem ybs {h:Hist} (hc:u3 h=0) {x:Int} (h0:0≤x) (h1:x < h.os.length) {v:Ver} {r:Int} (hr:zim h x v=some r):zny h x v=(r,true):=by
 rw [zny,if_pos (zoz hc ⟨h0,h1⟩)];exact ygg (zaw.1 hc) h0 h1 hr
theorem yh3 {h:Hist} (hc:u3 h=0) {c:Conf} (hm:c∈zg5 h 3):∃(f t o:Int) (a b k:Nat),c=⟨f,t,3,a,b,o,0⟩∧∃ha:a < h.evs.length,∃hb:b < h.evs.length,f≠t∧rwJ h ⟨f,t,3,a,b,o,0⟩=true∧(h.evs[a].kind=3∧h.evs[a].t=f∧h.evs[a].o=o)∧(h.evs[b].kind=2∧h.evs[b].t=t∧h.evs[b].o=o)∧zny h o h.evs[a].v=((k:Int),true)∧zgz h o k=some t:=by
 obtain ⟨a,ha,h3,hf⟩:=yl3 hc hm
 obtain ⟨⟨o0,o1⟩,k3,p0,hne,ea,ef,eo,_,k,hk,hr,ht,b,hb,eb,b2,bt,bo⟩:=zfy (zaw.1 hc) ha h3 hf
 have hcv:c=⟨c.f,c.t,3,a,b,c.o,0⟩:=by
  obtain ⟨f,t,kk,a',b',o,p⟩:=c
  simp only at k3 p0 ea eb ⊢
  rw [k3,p0,ea,eb]
 refine ⟨c.f,c.t,c.o,a,b,k,hcv,ha,hb,hne,?_,⟨h3,ef.symm,eo.symm⟩,⟨b2,bt,bo⟩,ybs hc o0 o1 hr,?_⟩
 ·rw [←hcv];exact yf9 (yf8 hc ea ha hf)
 ·rw [zgz,if_pos (zoz hc ⟨o0,o1⟩),if_pos (by omega),Int.toNat_natCast,List.getElem?_eq_getElem hk,ht]
theorem ykr {h:Hist} {j:Nat} (hj:j < h.evs.length) (h0:ovC h (j:Int)=0):u3 h=0∧ovO h (j:Int)=zn3 h h.evs[j] j:=by
 by_cases hc:u3 h=0
 ·by_cases hn:OvB h (j:Int)
  ·exact ⟨hc,(yks hc hj hn).2⟩
  ·rw [(ych hc hn).1] at h0;cases h0
 ·rw [(yn1 hc).1] at h0;exact absurd h0 hc
def isQ (e:Ev) (t j:Int) (c:Conf):Bool:=c.f==e.t && c.t==t && decide (c.a≤j)
theorem yh4 {h:Hist} (hc:u3 h=0) {j:Nat} (hj:j < h.evs.length) (h3:h.evs[j].kind=3) {t:Int} (ht:t∈zn3 h h.evs[j] j):(zg5 h 3).any (isQ h.evs[j] t j)=true:=by
 obtain ⟨z,hz,e1,e2,e3⟩:=zvu (zaw.1 hc) hj h3 ht
 rw [zji hc]
 refine List.any_eq_true.2 ⟨z,hz,?_⟩
 rw [isQ,e1,e2,beq_self_eq_true,beq_self_eq_true,decide_eq_true e3];rfl
theorem zog {full:Bool} (l:List Conf) (fv:AV) (p:Conf→Bool) (G:List Res) (hp:∀a∈l,y0 Tryz.prog fv [.agg (j5 a)] G (fun r h'=>h'=G∧r=bv (p a))) (hlen:l.length≤4611686018427387904):y8 Tryz.prog 107 [.list full 7 (l.map j5),fv] G (fun r h'=>h'=G∧r=iv (za9 p 0 l)):=by
 refine z6 Tryz.func107 rfl rfl rfl ?_
 refine rn ?_;refine zaj (fun k:Nat=>k≤l.length∧za9 p 0 l=za9 p k (l.drop k)) (fun k=>⟨[(8,iv k),(7,iv (l.map j5).length),(0,.list full 7 (l.map j5)),(1,fv)],G,[]⟩) (fun k=>l.length - k) 0 ⟨Nat.zero_le _,by simp⟩
  (u0 (.cons _ _ _ rfl (.cons _ _ _ rfl (.cons _ _ _ rfl (.cons _ _ _ rfl (.nil)))))) ?_
 rintro k ⟨hk,hnot⟩
 refine rn ?_;refine z8 rfl (fun hc9=> ?_) (fun hc9=> ?_)
 ·have hk2:k < l.length:=by simpa using hc9
  have hrow:(l.map j5)[k]? =some (j5 l[k]):=by simp [hk2]
  have hd:=List.drop_eq_getElem_cons hk2
  refine rn ?_;refine qv rfl rfl (y4 rfl rfl (hp l[k] (by simp))) ?_
  refine rn ?_;refine z8 rfl (fun hc16=> ?_) (fun hc16=> ?_)
  ·refine rn ?_;exact zal rfl (.refl _ _) ⟨rfl,by rw [hnot,hd,za9,if_pos hc16];rfl⟩
  ·refine rn ?_;exact ⟨k+1,⟨by omega,by rw [hnot,hd,za9,if_neg (by simp [hc16])]⟩,(u0 (.cons _ _ _ rfl (.cons _ _ _ rfl (.cons _ _ _ rfl (.cons _ _ _ rfl (.nil)))))),by omega⟩
 ·have hk3:k=l.length:=by
   have:l.length≤k:=by simpa using hc9
   omega
  refine rn ?_;exact zal rfl (.refl _ _) ⟨rfl,by rw [hnot,hk3,List.drop_length,za9];rfl⟩
theorem zj5 {full:Bool} (l:List Conf) (fv:AV) (p:Conf→Bool) (G:List Res) (hp:∀a∈l,y0 Tryz.prog fv [.agg (j5 a)] G (fun r h'=>h'=G∧r=bv (p a))) (hlen:l.length≤4611686018427387904):y8 Tryz.prog 49 [.list full 7 (l.map j5),fv] G (fun r h'=>h'=G∧r=bv (l.any p)):=by
 refine z6 Tryz.func49 rfl rfl rfl ?_
 refine rn ?_;refine qv rfl rfl (y4 rfl rfl (y0.of_fun (zog l _ p G hp hlen))) ?_
 refine rn ?_;exact zal rfl (.refl _ _) ⟨rfl,by simp only [←zds p l 0];rfl⟩
theorem ybl (c:Conf) (e:Ev) (t j:Int) (b15 b19 b14:Nat) (G:List Res):y8 Tryz.prog 50 [.agg (j5 c),pZ b15,pZ b19,pZ b14] (.box b15 60 (evR e):: .box b19 3 [iv t]:: .box b14 3 [iv j]::G) (fun r h'=>h'= .box b15 60 (evR e):: .box b19 3 [iv t]:: .box b14 3 [iv j]::G∧r=bv (isQ e t j c)):=by
 refine z6 Tryz.func50 rfl rfl rfl ?_
 refine rn ?_;refine z7 rfl (w7 rfl rfl rfl fun b4=> ?_)
 refine rn ?_;refine u4 (fun hg1_5=> ?_) (fun hg1_5=> ?_)
 ·refine rn ?_;refine u4 (fun hg1_11=> ?_) (fun hg1_11=> ?_)
  ·refine rn ?_;refine rq 1 ?_
   exact ⟨rfl,congrArg bv (by rw [isQ];first|rfl|(simp_all;done))⟩
  ·refine rn ?_;refine rq 1 ?_
   exact ⟨rfl,congrArg bv (by rw [isQ];first|rfl|(simp_all;done))⟩
 ·refine rn ?_;refine rq 1 ?_
  exact ⟨rfl,congrArg bv (by rw [isQ];first|rfl|(simp_all;done))⟩
theorem zro (h:Hist) (la:Lim 4611686018427387904 h) (rO:Nat) (oK:Obj) (hK:KO oK) (c:Conf) (hm:rwJ h c=true):y8 Tryz.prog 40 [.agg (y9 h),.agg (j5 c)] (.glob 2 156 y2:: .glob 4 305 y3:: .glob 5 308 y1:: .glob 3 246 w9:: .glob 1 175 k8:: .glob 0 171 [mpv rO]:: .obj rO oK:: []) (fun r h'=>h'= .glob 2 156 y2:: .glob 4 305 y3:: .glob 5 308 y1:: .glob 3 246 w9:: .glob 1 175 k8:: .glob 0 171 [mpv rO]:: .obj rO oK:: []∧r=bv true):=(yef h la rO oK hK c).mono fun _ _ q=>⟨q.1,by rw [q.2,hm]⟩
theorem yhw (h:Hist) (la:Lim 4611686018427387904 h) (x:Int) (v:Ver) {k:Int} (hr:zny h x v=(k,true)):y8 Tryz.prog 43 [.agg (y9 h),iv x,.agg (yav v)] (.glob 2 156 y2:: .glob 4 305 y3:: .glob 5 308 y1:: .glob 3 246 w9:: []) (fun r h'=>h'= .glob 2 156 y2:: .glob 4 305 y3:: .glob 5 308 y1:: .glob 3 246 w9:: []∧r= .tup [iv k,bv true]):=(ylj h la x v).mono fun _ _ q=>⟨q.1,by rw [q.2,hr]⟩
theorem yhy (h:Hist) (la:Lim 4611686018427387904 h) (x n:Int) {t:Int} (hn:zgz h x n=some t):y8 Tryz.prog 48 [.agg (y9 h),iv x,iv n] (.glob 2 156 y2:: .glob 4 305 y3:: .glob 5 308 y1:: .glob 3 246 w9:: []) (fun r h'=>h'= .glob 2 156 y2:: .glob 4 305 y3:: .glob 5 308 y1:: .glob 3 246 w9:: []∧r= .tup [iv t,bv true]):=(ylk h la x n).mono fun _ _ q=>⟨q.1,by rw [q.2,hn];rfl⟩
theorem zqq {full:Bool} (l:List Conf) (fv:AV) (p:Conf→Bool) (G:List Res) (hp:∀a∈l,y0 Tryz.prog fv [.agg (j5 a)] G (fun r h'=>h'=G∧r=bv (p a))) (hlen:l.length≤4611686018427387904) (ht:l.any p=true):y8 Tryz.prog 49 [.list full 7 (l.map j5),fv] G (fun r h'=>h'=G∧r=bv true):=(zj5 l fv p G hp hlen).mono fun _ _ q=>⟨q.1,by rw [q.2,ht]⟩
theorem ybk (x:Hist)  (lb:Big x)  (rO:Nat) (oK:Obj) (hK:KO oK):y8 Tryz.prog 9 [.agg (y9 x)] (.glob 2 156 y2:: .glob 4 305 y3:: .glob 5 308 y1:: .glob 3 246 w9:: .glob 1 175 k8:: .glob 0 171 [mpv rO]:: .obj rO oK:: []) (fun r h'=>h'= .glob 2 156 y2:: .glob 4 305 y3:: .glob 5 308 y1:: .glob 3 246 w9:: .glob 1 175 k8:: .glob 0 171 [mpv rO]:: .obj rO oK:: []∧r=bv true):=by
 refine z6 Tryz.func9 rfl rfl rfl ?_
 have hgE:=zvl x
 refine rn ?_;refine z7 rfl (w7 rfl rfl rfl fun b1=> ?_)
 refine rn ?_;refine qv rfl rfl (y4 rfl rfl (y0.qt (y0.of_fun (yfi rO oK hK)) ((pt1 _ _ _).trans (.cons _ ((pt1 _ _ _).trans (.cons _ ((pt1 _ _ _).trans (.cons _ ((pt1 _ _ _).trans (.cons _ ((pt1 _ _ _).trans (.cons _ ((pt1 _ _ _).trans (.cons _ (pt1 _ _ _))))))))))))))) ?_
 refine rn ?_;refine z8 rfl (fun hc21=> ?_) (fun hc21=> ?_)
 ·exact absurd hc21 (by decide)
 ·refine rn ?_;refine qv rfl rfl (y4 rfl rfl (zbl (ynz x lb) (Sbs.refl _))) ?_
  refine z7 rfl (y6 rfl fun b3=> ?_)
  refine rn ?_;refine qv rfl rfl (y4 rfl rfl (y0.qt (y0.of_fun (yeg (zab x) (zc6 lb.lim) rO oK hK)) ((pt2 _ _ _ _).trans (.cons _ ((pt2 _ _ _ _).trans (.cons _ ((pt2 _ _ _ _).trans (.cons _ ((pt2 _ _ _ _).trans (.cons _ ((pt2 _ _ _ _).trans (.cons _ ((pt2 _ _ _ _).trans (.cons _ (pt2 _ _ _ _))))))))))))))) ?_
  refine rn ?_;refine z8 rfl (fun hc30=> ?_) (fun hc30=> ?_)
  ·have hc:u3 (zab x)≠0:=nzT hc30
   refine w8 (y7 ?_)
   refine q1 ?_;refine q1 ?_;refine qq rfl rfl (zak (c:=true) rfl rfl (congrArg some (by rw [zxh hc];rfl))) ?_
   refine rn ?_;refine qv rfl rfl (y4 rfl rfl (y0.qt (y0.of_fun (zyx (zab x) (zc6 lb.lim))) ((pt2 _ _ _ _).trans (.cons _ ((pt2 _ _ _ _).trans (.cons _ ((pt2 _ _ _ _).trans (.cons _ (pt2 _ _ _ _))))))))) ?_
   refine q1 ?_;refine qq rfl rfl (zak (c:=true) rfl rfl (congrArg some (beq_self_eq_true _))) ?_
   refine rn ?_;first|(refine rq 2 ?_;exact ⟨rfl,rfl⟩)|(refine rq 3 ?_;exact ⟨rfl,rfl⟩)
  ·have hc:u3 (zab x)=0:=nzF hc30
   have hLL:=ybm (zab x) 3
   refine rn ?_;refine zq1 ((zg5 (zab x) 3).length) (fun i:Nat=>True) (fun i=> [(42,iv i)]) [(3,_),(4,_),(40,_),(41,_)] trivial ?_
   intro i li _
   refine rn ?_;refine z8 rfl (fun hc43=> ?_) (fun hc43=> ?_)
   ·have hi:=zd2 hc43
    have ri:=zcb (f:=j5) hi
    obtain ⟨f,t,o,a,b,k,hcv,ha,hb,hne,hJ,⟨ka,ta,oa⟩,⟨kb,tb,ob⟩,hrk,hnx⟩:=yh3 hc (List.getElem_mem hi)
    have rea:((zab x).evs.map evR)[a]? =some (evR (zab x).evs[a]):=zcb ha
    have reb:((zab x).evs.map evR)[b]? =some (evR (zab x).evs[b]):=zcb hb
    rw [hcv] at ri
    refine rn ?_;refine z7 rfl (y6 rfl fun b7=> ?_)
    refine rn0 ?_;refine w8 ?_;refine znl (⟨[(103,bv false),(7,pZ b7),(3,pZ b3),(4,zif (zg5 (zab x) 3)),(40,zif (zg5 (zab x) 3)),(41,iv ((zg5 (zab x) 3).map j5).length),(42,iv i)],.box b7 41 (j5 ⟨f,t,3,a,b,o,0⟩):: .box b3 28 (y9 (zab x)):: .box b1 28 (y9 x):: .glob 2 156 y2:: .glob 4 305 y3:: .glob 5 308 y1:: .glob 3 246 w9:: .glob 1 175 k8:: .glob 0 171 [mpv rO]:: .obj rO oK:: [],[]⟩) ?_ ?_
    ·refine zaf 54 rfl ?_
     refine rn ?_;refine zco (fun hg10_2=> ?_) (fun hg10_2=> ?_)
     ·have hi1:1≤i:=by have q:=oT hg10_2;omega
      have hpf:=yib hc hi hi1
      have hge:=yol hc hi hi1
      rw [hcv] at hpf hge
      have rp:((zg5 (zab x) 3).map j5)[i - 1]? =some (j5 ((zg5 (zab x) 3)[i - 1]'(by omega))):=zcb (by omega)
      refine dq rfl rfl qrA ?_;refine dq rfl rfl qrA ?_;refine dq rfl rfl (zgy (zc5 rfl rfl rfl (by omega)) (show AV.v (.int .i64 ((i:Int) - 1))=iv ((i - 1:Nat):Int) from congrArg iv (by omega))) ?_
      refine dq rfl rfl (zao rfl rfl rp) ?_
      refine rn ?_;refine zco (fun hg10_12=> ?_) (fun hg10_12=> ?_)
      ·refine dq rfl rfl qrA ?_;refine dq rfl rfl qrA ?_;refine dq rfl rfl (zgy (zc5 rfl rfl rfl (by omega)) (show AV.v (.int .i64 ((i:Int) - 1))=iv ((i - 1:Nat):Int) from congrArg iv (by omega))) ?_
       refine dq rfl rfl (zao rfl rfl rp) ?_
       refine dq rfl rfl qrA ?_;refine dq rfl rfl qrA ?_;refine dq rfl rfl qrA ?_;refine dq rfl rfl qrA ?_;refine dq rfl rfl (zak (c:=false) rfl rfl (congrArg some (hpf hg10_12))) ?_
       refine dq rfl rfl qrA ?_;refine dq rfl rfl qrA ?_;refine dq rfl rfl qrA ?_;refine dq rfl rfl qrA ?_;refine dq rfl rfl (zgy (zc5 rfl rfl rfl (by omega)) (show AV.v (.int .i64 ((i:Int) - 1))=iv ((i - 1:Nat):Int) from congrArg iv (by omega))) ?_
       refine dq rfl rfl (zao rfl rfl rp) ?_
       refine rn ?_;refine dv rfl rfl (by exact y4 rfl rfl (zbl (zht ((zg5 (zab x) 3)[i - 1]'(by omega)) ⟨f,t,3,a,b,o,0⟩) (Sbs.refl _))) ?_
       refine dq rfl rfl (zak (c:=false) rfl rfl (congrArg some (hge))) ?_
       refine dq rfl rfl qrA ?_;refine dq rfl rfl qrA ?_;refine dq rfl rfl qrA ?_;refine dq rfl rfl qrA ?_;refine dq rfl rfl qrA ?_;refine dq rfl rfl (zak (c:=false) rfl rfl (congrArg some (rfl))) ?_
       refine dq rfl rfl qrA ?_;refine dq rfl rfl qrA ?_;refine dq rfl rfl qrA ?_;refine dq rfl rfl qrA ?_;refine dq rfl rfl (zak (c:=false) rfl rfl (congrArg some (rfl))) ?_
       refine dq rfl rfl qrA ?_;refine dq rfl rfl qrA ?_;refine dq rfl rfl qrA ?_;refine dq rfl rfl qrA ?_;refine dq rfl rfl qrA ?_;refine dq rfl rfl qrA ?_;refine dq rfl rfl (zak (c:=false) rfl rfl (congrArg some (beq_eq_false_iff_ne.2 hne))) ?_
       refine rn ?_;refine qv rfl rfl (y4 rfl rfl (y0.qt (y0.of_fun (zro (zab x) (zc6 lb.lim) rO oK hK ⟨f,t,3,a,b,o,0⟩ hJ)) ((pt3 _ _ _ _ _).trans (.cons _ ((pt3 _ _ _ _ _).trans (.cons _ ((pt3 _ _ _ _ _).trans (.cons _ ((pt3 _ _ _ _ _).trans (.cons _ ((pt3 _ _ _ _ _).trans (.cons _ ((pt3 _ _ _ _ _).trans (.cons _ (pt3 _ _ _ _ _))))))))))))))) ?_
       refine rn ?_;exact es
      ·refine ds rfl rfl ?_;refine ds rfl rfl ?_;refine ds rfl rfl ?_;refine ds rfl rfl ?_;refine ds rfl rfl ?_;refine ds rfl rfl ?_;refine ds rfl rfl ?_;refine ds rfl rfl ?_;refine ds rfl rfl ?_;refine dq rfl rfl qrA ?_;refine dq rfl rfl qrA ?_;refine dq rfl rfl qrA ?_;refine dq rfl rfl qrA ?_;refine dq rfl rfl (zgy (zc5 rfl rfl rfl (by omega)) (show AV.v (.int .i64 ((i:Int) - 1))=iv ((i - 1:Nat):Int) from congrArg iv (by omega))) ?_
       refine dq rfl rfl (zao rfl rfl rp) ?_
       refine rn ?_;refine dv rfl rfl (by exact y4 rfl rfl (zbl (zht ((zg5 (zab x) 3)[i - 1]'(by omega)) ⟨f,t,3,a,b,o,0⟩) (Sbs.refl _))) ?_
       refine dq rfl rfl (zak (c:=false) rfl rfl (congrArg some (hge))) ?_
       refine dq rfl rfl qrA ?_;refine dq rfl rfl qrA ?_;refine dq rfl rfl qrA ?_;refine dq rfl rfl qrA ?_;refine dq rfl rfl qrA ?_;refine dq rfl rfl (zak (c:=false) rfl rfl (congrArg some (rfl))) ?_
       refine dq rfl rfl qrA ?_;refine dq rfl rfl qrA ?_;refine dq rfl rfl qrA ?_;refine dq rfl rfl qrA ?_;refine dq rfl rfl (zak (c:=false) rfl rfl (congrArg some (rfl))) ?_
       refine dq rfl rfl qrA ?_;refine dq rfl rfl qrA ?_;refine dq rfl rfl qrA ?_;refine dq rfl rfl qrA ?_;refine dq rfl rfl qrA ?_;refine dq rfl rfl qrA ?_;refine dq rfl rfl (zak (c:=false) rfl rfl (congrArg some (beq_eq_false_iff_ne.2 hne))) ?_
       refine rn ?_;refine qv rfl rfl (y4 rfl rfl (y0.qt (y0.of_fun (zro (zab x) (zc6 lb.lim) rO oK hK ⟨f,t,3,a,b,o,0⟩ hJ)) ((pt3 _ _ _ _ _).trans (.cons _ ((pt3 _ _ _ _ _).trans (.cons _ ((pt3 _ _ _ _ _).trans (.cons _ ((pt3 _ _ _ _ _).trans (.cons _ ((pt3 _ _ _ _ _).trans (.cons _ ((pt3 _ _ _ _ _).trans (.cons _ (pt3 _ _ _ _ _))))))))))))))) ?_
       refine rn ?_;exact es
     ·refine ds rfl rfl ?_;refine ds rfl rfl ?_;refine ds rfl rfl ?_;refine ds rfl rfl ?_;refine ds rfl rfl ?_;refine ds rfl rfl ?_;refine ds rfl rfl ?_;refine ds rfl rfl ?_;refine ds rfl rfl ?_;refine ds rfl rfl ?_;refine ds rfl rfl ?_;refine ds rfl rfl ?_;refine ds rfl rfl ?_;refine ds rfl rfl ?_;refine ds rfl rfl ?_;refine ds rfl rfl ?_;refine ds rfl rfl ?_;refine ds rfl rfl ?_;refine ds rfl rfl ?_;refine ds rfl rfl ?_;refine ds rfl rfl ?_;refine ds rfl rfl ?_;refine ds rfl rfl ?_;refine ds rfl rfl ?_;refine ds rfl rfl ?_;refine ds rfl rfl ?_;refine ds rfl rfl ?_;refine ds rfl rfl ?_;refine ds rfl rfl ?_;refine ds rfl rfl ?_;refine dq rfl rfl qrA ?_;refine dq rfl rfl qrA ?_;refine dq rfl rfl qrA ?_;refine dq rfl rfl qrA ?_;refine dq rfl rfl (zak (c:=false) rfl rfl (congrArg some (rfl))) ?_
      refine dq rfl rfl qrA ?_;refine dq rfl rfl qrA ?_;refine dq rfl rfl qrA ?_;refine dq rfl rfl qrA ?_;refine dq rfl rfl (zak (c:=false) rfl rfl (congrArg some (rfl))) ?_
      refine dq rfl rfl qrA ?_;refine dq rfl rfl qrA ?_;refine dq rfl rfl qrA ?_;refine dq rfl rfl qrA ?_;refine dq rfl rfl qrA ?_;refine dq rfl rfl qrA ?_;refine dq rfl rfl (zak (c:=false) rfl rfl (congrArg some (beq_eq_false_iff_ne.2 hne))) ?_
      refine rn ?_;refine qv rfl rfl (y4 rfl rfl (y0.qt (y0.of_fun (zro (zab x) (zc6 lb.lim) rO oK hK ⟨f,t,3,a,b,o,0⟩ hJ)) ((pt3 _ _ _ _ _).trans (.cons _ ((pt3 _ _ _ _ _).trans (.cons _ ((pt3 _ _ _ _ _).trans (.cons _ ((pt3 _ _ _ _ _).trans (.cons _ ((pt3 _ _ _ _ _).trans (.cons _ ((pt3 _ _ _ _ _).trans (.cons _ (pt3 _ _ _ _ _))))))))))))))) ?_
      refine rn ?_;exact es
    ·refine z8 rfl (fun hc103=> ?_) (fun hc103=> ?_)
     ·exact absurd hc103 (by decide)
     ·refine za0 ?_;refine rn0 ?_;refine w8 ?_;refine zz4 15 12 13 14 8 9 60 (evR (zab x).evs[a]) rfl rfl rfl rfl rfl rfl rfl rfl rfl rfl rfl rfl rfl rfl rfl ?_
      refine jq rfl (fun he hC=>by rcases hC with rfl|⟨b,c,rfl⟩|⟨b,c,b',c',rfl⟩ <;> exact qrA) ?_
      refine jq rfl (fun he hC=>by rcases hC with rfl|⟨b,c,rfl⟩|⟨b,c,b',c',rfl⟩ <;> exact qrA) ?_
      refine jq rfl (fun he hC=>by rcases hC with rfl|⟨b,c,rfl⟩|⟨b,c,b',c',rfl⟩ <;> exact qrA) ?_
      refine jq rfl (fun he hC=>by rcases hC with rfl|⟨b,c,rfl⟩|⟨b,c,b',c',rfl⟩ <;> exact qrA) ?_
      refine jq rfl (fun he hC=>by rcases hC with rfl|⟨b,c,rfl⟩|⟨b,c,b',c',rfl⟩ <;> exact (by exact zao rfl rfl rea)) ?_
      refine jq rfl (fun he hC=>by rcases hC with rfl|⟨b,c,rfl⟩|⟨b,c,b',c',rfl⟩ <;> exact qrA) ?_
      refine jq rfl (fun he hC=>by rcases hC with rfl|⟨b,c,rfl⟩|⟨b,c,b',c',rfl⟩ <;> exact qrA) ?_
      refine jq rfl (fun he hC=>by rcases hC with rfl|⟨b,c,rfl⟩|⟨b,c,b',c',rfl⟩ <;> exact qrA) ?_
      refine jq rfl (fun he hC=>by rcases hC with rfl|⟨b,c,rfl⟩|⟨b,c,b',c',rfl⟩ <;> exact qrA) ?_
      refine jq rfl (fun he hC=>by rcases hC with rfl|⟨b,c,rfl⟩|⟨b,c,b',c',rfl⟩ <;> exact qrA) ?_
      refine jq rfl (fun he hC=>by rcases hC with rfl|⟨b,c,rfl⟩|⟨b,c,b',c',rfl⟩ <;> exact (by exact zao rfl rfl reb)) ?_
      refine jq rfl (fun he hC=>by rcases hC with rfl|⟨b,c,rfl⟩|⟨b,c,b',c',rfl⟩ <;> exact qrA) ?_
      refine je rfl ?_;refine je rfl ?_;refine je rfl ?_;refine yaq ⟨?_,fun b8 b9=> ?_⟩
      ·rintro ee u (⟨b,rfl⟩|⟨b,c,rfl⟩|⟨b,c,rfl⟩) <;> exact ⟨rfl,rfl⟩
      refine rn ?_;refine qv rfl rfl (y4 rfl rfl (y0.qt (y0.of_fun (yhw (zab x) (zc6 lb.lim) o (zab x).evs[a].v hrk)) ((pt5 _ _ _ _ _ _ _).trans (.cons _ ((pt5 _ _ _ _ _ _ _).trans (.cons _ ((pt5 _ _ _ _ _ _ _).trans (.cons _ (pt5 _ _ _ _ _ _ _))))))))) ?_
      refine rn ?_;refine qv rfl rfl (y4 rfl rfl (y0.qt (y0.of_fun (yhy (zab x) (zc6 lb.lim) o k hnx)) ((pt5 _ _ _ _ _ _ _).trans (.cons _ ((pt5 _ _ _ _ _ _ _).trans (.cons _ ((pt5 _ _ _ _ _ _ _).trans (.cons _ (pt5 _ _ _ _ _ _ _))))))))) ?_
      refine q1 ?_;refine q1 ?_;refine q1 ?_;refine q1 ?_;refine q1 ?_;refine j6 (zan ?_)
      refine w8 (y7 ?_)
      refine q1 ?_;refine q1 ?_;refine qq rfl rfl (zak (c:=false) rfl rfl (congrArg some (by rw [ka];rfl))) ?_
      refine q1 ?_;refine q1 ?_;refine q1 ?_;refine q1 ?_;refine q1 ?_;refine qq rfl rfl (zak (c:=false) rfl rfl (congrArg some (by rw [ta];exact bne_self_eq_false _))) ?_
      refine q1 ?_;refine q1 ?_;refine q1 ?_;refine q1 ?_;refine q1 ?_;refine q1 ?_;refine qq rfl rfl (zak (c:=false) rfl rfl (congrArg some (by rw [oa];exact bne_self_eq_false _))) ?_
      refine q1 ?_;refine q1 ?_;refine q1 ?_;refine q1 ?_;refine qq rfl rfl (zak (c:=false) rfl rfl (congrArg some (by rw [kb];rfl))) ?_
      refine q1 ?_;refine q1 ?_;refine q1 ?_;refine q1 ?_;refine q1 ?_;refine q1 ?_;refine qq rfl rfl (zak (c:=false) rfl rfl (congrArg some (by rw [tb];exact bne_self_eq_false _))) ?_
      refine q1 ?_;refine q1 ?_;refine q1 ?_;refine q1 ?_;refine q1 ?_;refine q1 ?_;refine qq rfl rfl (zak (c:=false) rfl rfl (congrArg some (by rw [ob];exact bne_self_eq_false _))) ?_
      refine q1 ?_;refine q1 ?_;refine q1 ?_;refine q1 ?_;refine q1 ?_;refine q1 ?_;refine q1 ?_;refine q1 ?_;refine q1 ?_;refine q1 ?_;refine q1 ?_;refine q1 ?_;refine q1 ?_;refine qq rfl rfl (zak (c:=false) rfl rfl (congrArg some (bne_self_eq_false _))) ?_
      refine rn ?_;refine z8 rfl (fun hc182=> ?_) (fun hc182=> ?_)
      ·first|cases hc182|exact absurd hc182 (by decide)|(exfalso;simp_all;done)
      ·refine rn ?_;exact ⟨hi,trivial,eA⟩
   ·have qi:=zd4 hc43 li
    refine rn ?_;refine zq1 ((zab x).evs.length) (fun j:Nat=>True) (fun j=> [(187,iv j)]) [(3,_),(4,_),(185,_),(186,_)] trivial ?_
    intro j lj _
    refine rn ?_;refine z8 rfl (fun hc188=> ?_) (fun hc188=> ?_)
    ·have hj:=zd2 hc188
     have rj:=zcb (f:=evR) hj
     refine rn ?_;refine z7 rfl (y6 rfl fun b14=> ?_)
     refine z7 rfl (y6 rfl fun b15=> ?_)
     refine rn ?_;refine qv rfl rfl (y4 rfl rfl (y0.qt (y0.of_fun (rwOver (zab x) (zc6 lb.lim) rO oK hK (j:Int))) ((pt4 _ _ _ _ _ _).trans (.cons _ ((pt4 _ _ _ _ _ _).trans (.cons _ ((pt4 _ _ _ _ _ _).trans (.cons _ ((pt4 _ _ _ _ _ _).trans (.cons _ ((pt4 _ _ _ _ _ _).trans (.cons _ ((pt4 _ _ _ _ _ _).trans (.cons _ (pt4 _ _ _ _ _ _))))))))))))))) ?_
     refine rn ?_;refine z8 rfl (fun hc199=> ?_) (fun hc199=> ?_)
     ·refine rn ?_;exact ⟨hj,trivial,eA⟩
     ·obtain ⟨-,hov⟩:=ykr hj (nzF hc199)
      have hol:=yg3 (zab x) (j:Int)
      refine za0 ?_;refine rn0 ?_;refine w8 ?_;refine znl (⟨[(207,bv false),(16,zb5 (ovO (zab x) j)),(14,pZ b14),(15,pZ b15),(3,pZ b3),(4,zif (zg5 (zab x) 3)),(185,zwj (zab x).evs),(186,iv ((zab x).evs.map evR).length),(187,iv j)],.box b15 60 (evR (zab x).evs[j]):: .box b14 3 [iv (j:Nat)]:: .box b3 28 (y9 (zab x)):: .box b1 28 (y9 x):: .glob 2 156 y2:: .glob 4 305 y3:: .glob 5 308 y1:: .glob 3 246 w9:: .glob 1 175 k8:: .glob 0 171 [mpv rO]:: .obj rO oK:: [],[]⟩) ?_ ?_
      ·refine rn ?_;refine u4 (fun hg23_3=> ?_) (fun hg23_3=> ?_)
       ·refine q1 ?_;refine q1 ?_;refine qq rfl rfl (zak (c:=false) rfl rfl (congrArg some (decide_eq_false (by have q3:(zab x).evs[j].kind=3:=eq_of_beq hg23_3;have:=zu5 (h:=(zab x)) q3 j;rw [oM,hov];omega)))) ?_
        refine rn ?_;exact es
       ·refine rn ?_;exact es
      ·refine z8 rfl (fun hc207=> ?_) (fun hc207=> ?_)
       ·exact absurd hc207 (by decide)
       ·refine rn ?_;refine zq1 ((ovO (zab x) j).length) (fun m:Nat=>True) (fun m=> [(210,iv m)]) [(3,_),(4,_),(14,_),(15,_),(185,_),(186,_),(187,_),(208,_),(209,_)] trivial ?_
        intro m lm _
        refine rn ?_;refine z8 rfl (fun hc211=> ?_) (fun hc211=> ?_)
        ·have hm:=zd2 hc211
         have rm:=zcb (f:=zbo) hm
         have hmo:(ovO (zab x) j)[m]∈zn3 (zab x) (zab x).evs[j] j:=by rw [←hov];exact List.getElem_mem hm
         refine rn ?_;refine z7 rfl (y6 rfl fun b19=> ?_)
         refine rn ?_;refine u4 (fun hg28_3=> ?_) (fun hg28_3=> ?_)
         ·refine rn ?_;refine qv rfl rfl (y4 rfl rfl (y0.qt (y0.of_fun (zqq (zg5 (zab x) 3) _ (isQ (zab x).evs[j] (ovO (zab x) j)[m] j) [.box b15 60 (evR (zab x).evs[j]),.box b19 3 [iv (ovO (zab x) j)[m]],.box b14 3 [iv (j:Nat)]] (fun z _=>y0.of_acall (fs:= []) (cs:= [pZ b15,pZ b19,pZ b14]) (ybl z (zab x).evs[j] (ovO (zab x) j)[m] j b15 b19 b14 [])) (Nat.le_trans hLL (by decide)) (yh4 hc hj (eq_of_beq hg28_3) hmo))) (pt1 _ _ _))) ?_
          refine rn ?_;refine z8 rfl (fun hc222=> ?_) (fun hc222=> ?_)
          ·first|cases hc222|exact absurd hc222 (by decide)|(exfalso;simp_all;done)
          ·refine rn ?_;exact ⟨hm,trivial,eA⟩
         ·refine rn ?_;refine z8 rfl (fun hc222=> ?_) (fun hc222=> ?_)
          ·first|cases hc222|exact absurd hc222 (by decide)|(exfalso;simp_all;done)
          ·refine rn ?_;exact ⟨hm,trivial,eA⟩
        ·have qm:=zd4 hc211 lm
         refine rn ?_;exact ⟨hj,trivial,eA⟩
    ·have qj:=zd4 hc188 lj
     refine rn ?_;first|(refine rq 2 ?_;exact ⟨rfl,rfl⟩)|(refine rq 3 ?_;exact ⟨rfl,rfl⟩)
end Go.Proofs
