/- The entry for the six laid variables that package rw looks at: its table of functions and its map too. Conditions: none. -/
import Derived.Test.YtfmcbdjnmlcacaaGreatDoorRScI
set_option maxHeartbeats 4000000
set_option linter.unusedSectionVars false
set_option linter.unusedSimpArgs false
set_option linter.unusedVariables false
set_option maxRecDepth 100000
namespace Go.Proofs.YtfmcbdjnmlcacaaGreatDoor
open Go Go.Ab Go.H Go.ChangeShapes Go.WideShapes Go.ChangeAt Go.RowKit
inductive Solid:AV→Prop
 |any:Solid .any
 |v (x:Value):Solid (.v x)
 |fn (f:Fn):Solid (.fn f [] [])
 |list (full:Bool) (sz:Nat) (rows:List (List AV)):0 < sz→(∀r∈rows,∀a∈r,Solid a)→Solid (.list full sz rows)
 |agg (cells:List AV):(∀a∈cells,Solid a)→Solid (.agg cells)
theorem zpi {w:World} {O:Nat→Prop} {a:AV} {v:Value} (h:Rel w noX a v) (hs:Solid a) (hO:∀b,O b→∀c T fr,w.heap[b]? ≠some (.cells c T fr)):Rel w O a v:=by
 induction h with
 |any x=>exact .any x
 |v x=>exact .v x
 |lnil full sz a cap h=>exact .lnil full sz a cap h
 |list full sz rows b off cap g h1 h2 h3 h4 h5 h6 h7 ih=>
  cases hs with
  |list _ _ _ hsz hr=>
   cases rows with
   |nil=>exact .lnil _ _ _ _ (fun q=>by simpa using h1 q)
   |cons r0 rs=>
    have hb:¬O b:=fun hb=>by
     have h0:=h6 0 (by simp) 0 (by rw [h5 0 (by simp)];exact hsz)
     unfold World.cell? at h0
     split at h0
     ·rename_i hh;exact hO b hb _ _ _ hh
     ·cases h0
    exact .list full sz _ b off cap g h1 h2 hb h4 h5 h6 (fun i hi j hj=>ih i hi j hj (hr _ (List.getElem_mem hi) _ (List.getElem_mem hj)))
 |pp cells b off g h3 h4 h6 _ ih=>cases hs
 |rp a len cap sz i off=>cases hs
 |agg cells cs h1 h2 ih=>cases hs with|agg _ hc=>exact .agg _ _ h1 fun j a b=>ih j a b (hc _ (List.getElem_mem a))
 |tup cells cs h1 h2 ih=>cases hs
 |fn f fs cs fa ca h1 h2 h3 h4 ih1 ih2=>cases hs;exact .fn f [] [] fa ca h1 h2 (fun j h=>absurd h (Nat.not_lt_zero _)) (fun j h=>absurd h (Nat.not_lt_zero _))
theorem zda {α:Type} {R:α→List AV} {f:Bool} {sz:Nat} (hsz:0 < sz) (h:∀x,∀a∈R x,Solid a) (l:List α):Solid (.list f sz (l.map R)):= .list _ _ _ hsz fun r hr a ha=>by
 obtain ⟨x,_,rfl⟩:=List.mem_map.1 hr
 exact h x a ha
theorem zwt:∀x,∀a∈zbs x,Solid a:=by
 intro x a ha
 simp only [zbs,List.mem_cons,List.not_mem_nil,or_false] at ha
 rcases ha with rfl
 ·exact .v _
theorem znt:∀x,∀a∈zmd x,Solid a:=by
 intro x a ha
 simp only [zmd,List.mem_cons,List.not_mem_nil,or_false] at ha
 rcases ha with rfl
 ·exact .v _
theorem ya9:∀x,∀a∈zax x,Solid a:=by
 intro x a ha
 simp only [zax,List.mem_cons,List.not_mem_nil,or_false] at ha
 rcases ha with rfl|rfl|rfl
 ·exact .v _
 ·exact .v _
 ·exact .v _
theorem yjj:∀x,∀a∈evR x,Solid a:=by
 intro x a ha
 simp only [evR,List.mem_cons,List.not_mem_nil,or_false] at ha
 rcases ha with rfl|rfl|rfl|rfl|rfl|rfl|rfl|rfl|rfl
 ·exact .v _
 ·exact .v _
 ·exact .v _
 ·exact .v _
 ·exact .v _
 ·exact .v _
 ·exact .v _
 ·exact .v _
 ·exact zda (by decide) ya9 _
theorem yfr:∀x,∀a∈zet x,Solid a:=by
 intro x a ha
 simp only [zet,List.mem_cons,List.not_mem_nil,or_false] at ha
 rcases ha with rfl|rfl
 ·exact .v _
 ·exact zda (by decide) zwt _
theorem yfs:∀x,∀a∈zee x,Solid a:=by
 intro x a ha
 simp only [zee,List.mem_cons,List.not_mem_nil,or_false] at ha
 rcases ha with rfl|rfl|rfl|rfl
 ·exact .v _
 ·exact .v _
 ·exact .v _
 ·exact zda (by decide) zwt _
theorem yfq:∀x,∀a∈zgk x,Solid a:=by
 intro x a ha
 simp only [zgk,List.mem_cons,List.not_mem_nil,or_false] at ha
 rcases ha with rfl|rfl
 ·exact .v _
 ·exact .v _
theorem yba (x:Hist):Solid (.agg (y9 x)):= .agg _ fun a ha=>by
 simp only [y9,List.mem_cons,List.not_mem_nil,or_false] at ha
 rcases ha with rfl|rfl|rfl|rfl|rfl|rfl|rfl|rfl
 ·exact zda (by decide) znt _
 ·exact zda (by decide) znt _
 ·exact zda (by decide) znt _
 ·exact zda (by decide) znt _
 ·exact zda (by decide) yjj _
 ·exact zda (by decide) yfr _
 ·exact zda (by decide) yfs _
 ·exact zda (by decide) yfq _
def zn6:List (String×DataW Unit):= [("unicode/utf8.acceptRanges",Rows.laid_unicode_utf8_acceptRanges),("yardarm/history.limits",Rows.laid_yardarm_history_limits),("yardarm/rules.asks",Rows.laid_yardarm_rules_asks),("yardarm/rw.sees",Rows.laid_yardarm_rw_sees),("yardarm/rw.kinds",Rows.laid_yardarm_rw_kinds),("unicode/utf8.first",Rows.laid_unicode_utf8_first)]
def yc5:List (String×DataW Unit):= [("unicode/utf8.acceptRanges",Rows.laid_unicode_utf8_acceptRanges),("yardarm/history.limits",Rows.laid_yardarm_history_limits),("yardarm/rw.kinds",Rows.laid_yardarm_rw_kinds),("unicode/utf8.first",Rows.laid_unicode_utf8_first)]
theorem ztw:(zn6.filter fun x=>x.2.handleName?.isNone)=yc5:=by kernel_rfl
theorem yc4 {W:World} (h:laidMetH Tryz.prog zn6 W):laidMet Tryz.prog yc5 W:=by
 have:=(laidMetH_iff.1 h).1
 rw [ztw] at this
 exact this
theorem yll {w:World} (h:laidMetH Tryz.prog zn6 w):(Res.glob 3 246 w9).holds w noX:=by
 obtain ⟨g,t,cs,fuel,p,hg,ht,hv,hd⟩:=h.funcs (n:= "yardarm/rules.asks") (d:=yio) (.tail _ (.tail _ (.head _)))
 obtain rfl:=Option.some.inj ((show Tryz.prog.globalNamed "yardarm/rules.asks" =some 3 by kernel_rfl).symm.trans hg)
 obtain rfl:=Option.some.inj ((show (Tryz.prog.globals[3]?).map (·.type)=some 246 by kernel_rfl).symm.trans ht)
 rw [zz3] at hd
 have c1:Tryz.prog.cellsOf 245=1:=by kernel_rfl
 have c11:Tryz.prog.cellsOf 246=11:=by kernel_rfl
 have hlen:cs.toList.length=11:=by
  obtain ⟨_,_,_,_,hl,_⟩:=DataW.trod_array Tryz.underlying246 hd
  rw [hl,c11]
 unfold World.var? at hv
 rw [hg] at hv
 simp only [Option.bind_some] at hv
 split at hv
 ·rename_i c T0 fr hh
  cases hv
  refine zod hh (by rw [show w9.length=11 from rfl];simpa using hlen.symm) fun j h1 h2=> ?_
  cases j with
  |zero=>exact .any _
  |succ k=>
   have hk:k < 10:=by have:w9.length=11:=rfl;omega
   obtain ⟨b,r,hn,hone,ha⟩:=ydv k hk
   obtain ⟨f',d,q,e1,e2⟩:=Lib.array_elem Tryz.underlying246 hd (k+1) (by omega)
   have e1':d= .held (b::r):=by
    rw [List.getElem?_cons_succ,List.getElem?_map,List.getElem?_drop,Nat.add_comm 1 k,hn] at e1
    exact (Option.some.inj e1).symm
   subst e1'
   rw [c1,Nat.mul_one,List.drop_eq_getElem_cons (by simpa using h2),List.take_succ_cons,List.take_zero] at e2
   have:=func_of_trod (f0:=fnA.getD k 0) Tryz.underlying245 hone e2
   rw [Array.getElem_toList] at this
   rw [this,show w9[k+1]= .fn (.func (fnA.getD k 0)) [] [] from Option.some.inj ((List.getElem?_eq_getElem h1).symm.trans ha)]
   exact yew _ _
 ·cases hv
def yfy:DataW Unit:=match (Rows.laid_yardarm_rw_sees:DataW Unit) with| .iface _ d=>d|d=>d
def zx5:List (List UInt8):=match yfy with| .agg ds=>ds.map (fun d=>match d with| .iface _ (.lit (.string b))=>b|_=> [])|_=> []
def nmS (k:Nat):List UInt8:=zx5.getD (k+1) []
theorem zw0:yfy.funcsOut= .agg (.nil::(zx5.drop 1).map .held):=by kernel_rfl
def fnS:List Nat:= [302,302,303,304,302,302]
theorem ybd (k:Nat) (hk:k < 6):∃b r,zx5[k+1]? =some (b::r)∧((List.range Tryz.prog.funcs.size).filter fun f=>(Tryz.prog.funcs[f]?).any (·.name.toUTF8.data.toList==b::r))= [fnS.getD k 0]∧k7[k+1]? =some (.fn (.func (fnS.getD k 0)) [] []):=by
 match k,hk with
 |0,_=>exact ⟨(nmS 0).headD 0,(nmS 0).tail,by kernel_rfl,by kernel_rfl,by kernel_rfl⟩
 |1,_=>exact ⟨(nmS 1).headD 0,(nmS 1).tail,by kernel_rfl,by kernel_rfl,by kernel_rfl⟩
 |2,_=>exact ⟨(nmS 2).headD 0,(nmS 2).tail,by kernel_rfl,by kernel_rfl,by kernel_rfl⟩
 |3,_=>exact ⟨(nmS 3).headD 0,(nmS 3).tail,by kernel_rfl,by kernel_rfl,by kernel_rfl⟩
 |4,_=>exact ⟨(nmS 4).headD 0,(nmS 4).tail,by kernel_rfl,by kernel_rfl,by kernel_rfl⟩
 |5,_=>exact ⟨(nmS 5).headD 0,(nmS 5).tail,by kernel_rfl,by kernel_rfl,by kernel_rfl⟩
theorem yn3 {w:World} (h:laidMetH Tryz.prog zn6 w):(Res.glob 1 175 k7).holds w noX:=by
 obtain ⟨g,t,cs,fuel,p,hg,ht,hv,hd⟩:=h.funcs (n:= "yardarm/rw.sees") (d:=yfy) (.tail _ (.tail _ (.tail _ (.head _))))
 obtain rfl:=Option.some.inj ((show Tryz.prog.globalNamed "yardarm/rw.sees" =some 1 by kernel_rfl).symm.trans hg)
 obtain rfl:=Option.some.inj ((show (Tryz.prog.globals[1]?).map (·.type)=some 175 by kernel_rfl).symm.trans ht)
 rw [zw0] at hd
 have c1:Tryz.prog.cellsOf 174=1:=by kernel_rfl
 have c7:Tryz.prog.cellsOf 175=7:=by kernel_rfl
 have hlen:cs.toList.length=7:=by
  obtain ⟨_,_,_,_,hl,_⟩:=DataW.trod_array Tryz.underlying175 hd
  rw [hl,c7]
 unfold World.var? at hv
 rw [hg] at hv
 simp only [Option.bind_some] at hv
 split at hv
 ·rename_i c T0 fr hh
  cases hv
  refine zod hh (by rw [show k7.length=7 from rfl];simpa using hlen.symm) fun j h1 h2=> ?_
  cases j with
  |zero=>exact .any _
  |succ k=>
   have hk:k < 6:=by have:k7.length=7:=rfl;omega
   obtain ⟨b,r,hn,hone,ha⟩:=ybd k hk
   obtain ⟨f',d,q,e1,e2⟩:=Lib.array_elem Tryz.underlying175 hd (k+1) (by omega)
   have e1':d= .held (b::r):=by
    rw [List.getElem?_cons_succ,List.getElem?_map,List.getElem?_drop,Nat.add_comm 1 k,hn] at e1
    exact (Option.some.inj e1).symm
   subst e1'
   rw [c1,Nat.mul_one,List.drop_eq_getElem_cons (by simpa using h2),List.take_succ_cons,List.take_zero] at e2
   have:=func_of_trod (f0:=fnS.getD k 0) Tryz.underlying174 hone e2
   rw [Array.getElem_toList] at this
   rw [this,show k7[k+1]= .fn (.func (fnS.getD k 0)) [] [] from Option.some.inj ((List.getElem?_eq_getElem h1).symm.trans ha)]
   exact yew _ _
 ·cases hv
theorem zty {H:Type} (x:Lit×DataW H):∀l:List (Lit×DataW H),(DataW.insert x l).Perm (x::l)
 | []=> .refl _
 |y::l=>by
  rw [DataW.insert]
  split
  ·exact .refl _
  ·exact ((zty x l).cons y).trans (.swap x y l)
theorem zo8 {H:Type}:∀l:List (Lit×DataW H),(l.foldr DataW.insert []).Perm l
 | []=> .refl _
 |x::l=>(zty x _).trans ((zo8 l).cons x)
theorem zt9 {x:MapEntry} {n:Int} {F:∀y∈ [x],∃z,WideMaps.rd (H:=Unit) Tryz.prog 3 .i64 y=some z} (h:WideMaps.rg Unit Tryz.prog 3 .i64 x=(.int .i64 n,.lit (.int .i64 n))):x.key= .int .i64 n∧x.val= .int .i64 n:=by
 obtain ⟨y,hy⟩:=F x (by simp)
 rw [WideMaps.rg_of hy] at h
 subst h
 have hk:=WideMaps.rd_key hy
 obtain ⟨m,e1,e2,_⟩:=WideMaps.rd_val hy
 refine ⟨?_,?_⟩
 ·unfold keyOf mapKey at hk
  rw [Tryz.underlying3] at hk
  simp only at hk
  split at hk <;> simp_all
 ·rw [e1];simp at e2;rw [e2]
theorem yc6 {w:World} (h:Lib.VarReads Tryz.prog w "yardarm/rw.kinds" Rows.laid_yardarm_rw_kinds):∃rO oK,KO oK∧w.heap[rO]? =some oK∧(∃ents clock,oK= .map ents clock)∧(Res.glob 0 171 [mpv rO]).holds w noX:=by
 obtain ⟨g',t',cs,fuel,p,h1,h2,h3,h4⟩:=h
 obtain rfl:=Option.some.inj ((show Tryz.prog.globalNamed "yardarm/rw.kinds" =some 0 by kernel_rfl).symm.trans h1)
 obtain rfl:=Option.some.inj ((show (Tryz.prog.globals[0]?).map (·.type)=some 171 by kernel_rfl).symm.trans h2)
 rcases WideMaps.open_map Tryz.underlying171 Tryz.underlying3 h4 with ⟨_,e⟩|⟨b,es,clock,hcs,hb,_,F,e⟩
 ·cases e
 ·have hE:(es.toList.map (WideMaps.rg Unit Tryz.prog 3 .i64)).foldr DataW.insert []= [(.int .i64 3,.lit (.int .i64 3)),(.int .i64 4,.lit (.int .i64 4))]:=by
   have e1:=congrArg Prod.fst e
   have e2:(Rows.laid_yardarm_rw_kinds:DataW Unit)= .map [(.int .i64 3,.lit (.int .i64 3)),(.int .i64 4,.lit (.int .i64 4))]:=rfl
   rw [e2] at e1
   exact (DataW.map.inj e1).symm
  have hp:=zo8 (es.toList.map (WideMaps.rg Unit Tryz.prog 3 .i64))
  rw [hE] at hp
  have hlen:=hp.length_eq
  simp only [List.length_cons,List.length_nil,oM,Array.length_toList] at hlen
  obtain ⟨x1,x2,rfl⟩:∃x1 x2,es= #[x1,x2]:=by
   obtain ⟨l⟩:=es
   match l,hlen with
   | [a,b],_=>exact ⟨a,b,rfl⟩
  have hF:∀x∈ [x1,x2],∀y∈ [x],∃z,WideMaps.rd (H:=Unit) Tryz.prog 3 .i64 y=some z:=fun x hx y hy=>by
   rw [List.mem_singleton] at hy;subst hy;exact F.reads y hx
  have hko:KO (.map #[x1,x2] clock):=by
   have hp': [(Lit.int .i64 3,DataW.lit (H:=Unit) (.int .i64 3)),(.int .i64 4,.lit (.int .i64 4))].Perm [WideMaps.rg Unit Tryz.prog 3 .i64 x1,WideMaps.rg Unit Tryz.prog 3 .i64 x2]:=hp
   have hc:(WideMaps.rg Unit Tryz.prog 3 .i64 x1=(.int .i64 3,.lit (.int .i64 3))∧WideMaps.rg Unit Tryz.prog 3 .i64 x2=(.int .i64 4,.lit (.int .i64 4)))∨(WideMaps.rg Unit Tryz.prog 3 .i64 x1=(.int .i64 4,.lit (.int .i64 4))∧WideMaps.rg Unit Tryz.prog 3 .i64 x2=(.int .i64 3,.lit (.int .i64 3))):=by
    have m1:=hp'.mem_iff (a:=WideMaps.rg Unit Tryz.prog 3 .i64 x1)
    have m2:=hp'.mem_iff (a:=WideMaps.rg Unit Tryz.prog 3 .i64 x2)
    have m3:=hp'.mem_iff (a:=(Lit.int .i64 3,DataW.lit (H:=Unit) (.int .i64 3)))
    have m4:=hp'.mem_iff (a:=(Lit.int .i64 4,DataW.lit (H:=Unit) (.int .i64 4)))
    simp only [List.mem_cons,List.not_mem_nil,or_false,true_or,or_true,iff_true,true_iff] at m1 m2 m3 m4
    have hne:(Lit.int .i64 3,DataW.lit (H:=Unit) (.int .i64 3))≠(Lit.int .i64 4,DataW.lit (H:=Unit) (.int .i64 4)):=fun q=>by cases congrArg Prod.fst q
    rcases m1 with q1|q1 <;> rcases m2 with q2|q2
    ·rw [q1,q2] at m4;rcases m4 with q|q <;> exact absurd q.symm hne
    ·exact .inl ⟨q1,q2⟩
    ·exact .inr ⟨q1,q2⟩
    ·rw [q1,q2] at m3;rcases m3 with q|q <;> exact absurd q hne
   rcases hc with ⟨q1,q2⟩|⟨q1,q2⟩
   ·obtain ⟨k1,v1⟩:=zt9 (F:=hF x1 (by simp)) q1
    obtain ⟨k2,v2⟩:=zt9 (F:=hF x2 (by simp)) q2
    refine ⟨#[x1,x2],clock,[(3,3),(4,4)],rfl,by simp [k1,k2,intK],fun i h1 h2=> ?_,rfl,fun k=> ?_⟩
    ·match i,h1 with
     |0,_=>exact v1
     |1,_=>exact v2
    ·simp only [za8,zsc]
     by_cases a:(3:Int)=k
     ·subst a;rfl
     ·by_cases b:(4:Int)=k
      ·subst b;rfl
      ·rw [if_neg a,if_neg b,if_neg (fun q=>a q.symm),if_neg (fun q=>b q.symm)];rfl
   ·obtain ⟨k1,v1⟩:=zt9 (F:=hF x1 (by simp)) q1
    obtain ⟨k2,v2⟩:=zt9 (F:=hF x2 (by simp)) q2
    refine ⟨#[x1,x2],clock,[(4,4),(3,3)],rfl,by simp [k1,k2,intK],fun i h1 h2=> ?_,rfl,fun k=> ?_⟩
    ·match i,h1 with
     |0,_=>exact v1
     |1,_=>exact v2
    ·simp only [za8,zsc]
     by_cases b:(4:Int)=k
     ·subst b;rfl
     ·by_cases a:(3:Int)=k
      ·subst a;rfl
      ·rw [if_neg b,if_neg a,if_neg (fun q=>a q.symm),if_neg (fun q=>b q.symm)];rfl
  refine ⟨b,_,hko,hb,⟨_,_,rfl⟩,?_⟩
  unfold World.var? at h3
  rw [h1] at h3
  simp only [Option.bind_some] at h3
  split at h3
  ·rename_i c T0 fr hh
   cases h3
   have hcl:cs= #[Value.map (some b)]:=Array.toList_inj.1 hcs
   subst hcl
   refine zod hh rfl fun j j1 j2=> ?_
   match j,j1 with
   |0,_=>exact .v _
  ·cases h3
theorem zgq {w:World} {g:Nat} {T:TypeId} {vs:List AV} {O:Nat→Prop} (h:(Res.glob g T vs).holds w noX) (hs:∀a∈vs,Solid a) (hO:∀b,O b→∀c T fr,w.heap[b]? ≠some (.cells c T fr)):(Res.glob g T vs).holds w O:=by
 obtain ⟨_,hlt,c,T0,fr,hh,hl,hr⟩:=h
 exact ⟨fun hb=>hO g hb _ _ _ hh,hlt,c,T0,fr,hh,hl,fun j j1 j2=>zpi (hr j j1 j2) (hs _ (List.getElem_mem j1)) hO⟩
theorem yo7 (rO:Nat) (oK:Obj):OO [.glob 2 156 y2,.glob 4 305 y3,.glob 5 308 y1,.glob 3 246 w9,.glob 1 175 k7,.glob 0 171 [mpv rO],.obj rO oK] noX=fun b=>b=rO:=by funext b;simp [OO,u9,noX,Res.own]
theorem zim {vs:List AV} (h:(vs.all fun a=>match a with| .any=>true| .v _=>true| .fn _ [] []=>true|_=>false)=true):∀a∈vs,Solid a:=fun a ha=>by
 have:=List.all_eq_true.1 h a ha
 split at this
 ·exact .any
 ·exact .v _
 ·exact .fn _
 ·cases this
theorem zvo {W:World} (h:laidMetH Tryz.prog zn6 W):∃rO oK,KO oK∧HRel noX W [.glob 2 156 y2,.glob 4 305 y3,.glob 5 308 y1,.glob 3 246 w9,.glob 1 175 k7,.glob 0 171 [mpv rO],.obj rO oK]∧∀b,b=rO→∀c T fr,W.heap[b]? ≠some (.cells c T fr):=by
 have hm:=yc4 h
 obtain ⟨rO,oK,hK,hb,⟨ents,clock,rfl⟩,hgk⟩:=yc6 (Lib.laidMet.reads hm (.tail _ (.tail _ (.head _))))
 have hO:∀b,b=rO→∀c T fr,W.heap[b]? ≠some (.cells c T fr):=fun b e c T fr q=>by subst e;rw [hb] at q;cases q
 have k1:=yn6 (Lib.laidMet.reads hm (.tail _ (.head _)))
 have k2:=yn5 (Lib.laidMet.reads hm (.tail _ (.tail _ (.tail _ (.head _)))))
 have k3:=yn4 (Lib.laidMet.reads hm (.head _))
 refine ⟨rO,_,hK,⟨by simp [u9,Res.own],fun b hb'=> ?_,fun b hb=>hb.elim,fun r hr=> ?_⟩,hO⟩
 ·simp [u9,Res.own] at hb'
  subst hb'
  exact ⟨(Array.getElem?_eq_some_iff.1 hb).1,fun q=>q⟩
 ·rw [yo7]
  simp only [List.mem_cons,List.not_mem_nil,or_false] at hr
  rcases hr with rfl|rfl|rfl|rfl|rfl|rfl|rfl
  ·exact zgq k1 (zim (by rfl)) hO
  ·exact zgq k2 (zim (by kernel_rfl)) hO
  ·exact zgq k3 (zim (by kernel_rfl)) hO
  ·exact zgq (yll h) (zim (by rfl)) hO
  ·exact zgq (yn3 h) (zim (by rfl)) hO
  ·exact zgq hgk (zim (by rfl)) hO
  ·exact ⟨hb,fun c T f q=>by cases q⟩
theorem yc7 {W W':World} {rO:Nat} {oK:Obj} (h1:HRel noX W [.glob 2 156 y2,.glob 4 305 y3,.glob 5 308 y1,.glob 3 246 w9,.glob 1 175 k7,.glob 0 171 [mpv rO],.obj rO oK]) (h2:HRel noX W' [.glob 2 156 y2,.glob 4 305 y3,.glob 5 308 y1,.glob 3 246 w9,.glob 1 175 k7,.glob 0 171 [mpv rO],.obj rO oK]) (hk:Keep (u9 [.glob 2 156 y2,.glob 4 305 y3,.glob 5 308 y1,.glob 3 246 w9,.glob 1 175 k7,.glob 0 171 [mpv rO],.obj rO oK]) W (u9 [.glob 2 156 y2,.glob 4 305 y3,.glob 5 308 y1,.glob 3 246 w9,.glob 1 175 k7,.glob 0 171 [mpv rO],.obj rO oK]) W'):Keep [] W [] W':=by
 have a1:=(h1.holds (.obj rO oK) (by simp)).1
 have a2:=(h2.holds (.obj rO oK) (by simp)).1
 refine ⟨hk.size,fun b hb _=>⟨?_,by simp⟩,hk.env⟩
 by_cases e:b=rO
 ·subst e;rw [a1,a2]
 ·exact (hk.same b hb (by simpa [u9,Res.own] using e)).1
def yhq:List (String×DataW Unit):= [("unicode/utf8.acceptRanges",Rows.laid_unicode_utf8_acceptRanges),("yardarm/history.limits",Rows.laid_yardarm_history_limits),("unicode/utf8.first",Rows.laid_unicode_utf8_first)]
def ynd:List Value:= .nilFunc::fnS.map fun f=> .func (.func f) #[] #[]
noncomputable def wit60 (os:Os):World:={World.holding Tryz.prog os ⟨#[], #[],[]⟩ with heap:=((((World.holding Tryz.prog os ⟨#[], #[],[]⟩).heap.modify 3 (Lay.setRow yon)).modify 1 (Lay.setRow ynd)).modify 0 (Lay.setRow [.map (some 11)])).push (.map #[⟨.int .i64 3,.int .i64 3,0⟩,⟨.int .i64 4,.int .i64 4,1⟩] 2)}
noncomputable def wit6 (os:Os):World:=(wit60 os).layVars Tryz.prog yhq
theorem yfd (os:Os):(wit6 os).os=os:=World.layVars_os _ _ _
theorem yas (os:Os) (args:Array Value):laidMetH Tryz.prog zn6 ((wit6 os).forCall (fun _ _=>0) ⟨#[],args,[]⟩).memory:=by
 refine laidMetH_of_parts3 (fuel:=8) ?_ (by kernel_rfl) (by kernel_rfl)
 rw [ztw]
 have h:laidMet Tryz.prog yc5 (wit6 os):=laidMet_layVars (w0:=wit60 os) (yhq.map (·.1)) [0,11] (by kernel_rfl) (by kernel_rfl) (by kernel_rfl) (by
  rw [show (yc5.filter fun x=> !(yhq.map (·.1)).contains x.1)= [("yardarm/rw.kinds",Rows.laid_yardarm_rw_kinds)] by kernel_rfl];exact LaidIn.of_run [0,11] 8 (by kernel_rfl) (by kernel_rfl) (by kernel_rfl) (by kernel_rfl))
 exact h.of_heap (by simp [World.memory,World.forCall,Input.heap])
end Go.Proofs.YtfmcbdjnmlcacaaGreatDoor
set_option maxRecDepth 10000
namespace Go.Proofs
open Go Go.Ab
attribute [local irreducible] QR QV OE zb7 aw zcq zb6 zbd zas thn zev zc1 jch zel
open Go.H
theorem ztm {α:Type} (x1 x2 x3 x4 x5 x6 x7 x8 x9 x10 x11 x12 x13 x:α) (l:List α):(x1::x2::x3::x4::x5::x6::x7::x8::x9::x10::x11::x12::x13::x::l).Perm (x::x1::x2::x3::x4::x5::x6::x7::x8::x9::x10::x11::x12::x13::l):=(List.Perm.cons x1 (yi0 x2 x3 x4 x5 x6 x7 x8 x9 x10 x11 x12 x13 x l)).trans (.swap x x1 _)
def cfz:Conf:=⟨0,0,0,0,0,0,0⟩
abbrev gC (c:Conf):AV:= .agg (j7 c)
instance:ZV (.agg #[.int .i64 0,.int .i64 0,.int .i64 0,.int .i64 0,.int .i64 0,.int .i64 0,.int .i64 0]) (gC cfz):=⟨fun w O u h=>by
 rw [h.v_eq]
 refine .agg _ _ rfl fun j h1 h2=> ?_
 match j,h1,h2 with
 |0,_,_=>exact .v _
 |1,_,_=>exact .v _
 |2,_,_=>exact .v _
 |3,_,_=>exact .v _
 |4,_,_=>exact .v _
 |5,_,_=>exact .v _
 |6,_,_=>exact .v _
 |j+7,h1,_=>exact absurd h1 (by show ¬j+7 < 7;omega)⟩
theorem yos {n:Int} (h:n≠0):bv (n !=0)=bv true:=congrArg bv (by simpa using h)
theorem yot:bv ((0:Int) !=0)=bv false:=rfl
theorem zuj {m:List ((Int×Int)×Conf)} {c:Conf} (h:(!(za8 (c.f,c.t) m).isSome)=true∨decide (ze7 c ((za8 (c.f,c.t) m).getD cfz) < 0)=true):zg0 m c=zdp (c.f,c.t) c m:=by
 unfold zg0
 rw [show zea c=(c.f,c.t) from rfl]
 cases hq:za8 (c.f,c.t) m with
 |none=>rfl
 |some b=>
  rw [hq] at h
  simp only
  rcases h with h|h
  ·simp at h
  ·rw [if_pos (by simpa using h)]
theorem ymf {m:List ((Int×Int)×Conf)} {c:Conf} (h1:(!(za8 (c.f,c.t) m).isSome)=false) (h2:decide (ze7 c ((za8 (c.f,c.t) m).getD cfz) < 0)=false):zg0 m c=m:=by
 unfold zg0
 rw [show zea c=(c.f,c.t) from rfl]
 cases hq:za8 (c.f,c.t) m with
 |none=>rw [hq] at h1;simp at h1
 |some b=>
  rw [hq] at h2
  simp only
  rw [if_neg (by simpa using h2)]
theorem yf7 {h:Hist} {kd:Int} {j:Nat} (hj:j < h.evs.length) (hk:h.evs[j].kind=kd):za0 h kd (j+1)=za0 h kd j++zbl h h.evs[j] j:=by
 rw [za0,List.getElem?_eq_getElem hj];simp only;rw [if_pos (by simpa using hk)]
theorem yf8 {h:Hist} {kd:Int} {j:Nat} (hj:j < h.evs.length) (hk:h.evs[j].kind≠kd):za0 h kd (j+1)=za0 h kd j:=by
 rw [za0,List.getElem?_eq_getElem hj];simp only;rw [if_neg (by simpa using hk),List.append_nil]
theorem ygw {a b n:Nat} (ha:a < n) (hb:b < n):a * n+b < n * n:=by
 have:(a+1) * n≤n * n:=Nat.mul_le_mul_right n ha
 rw [Nat.succ_mul] at this;omega
theorem yb9 {a b c d n:Nat} (hb:b < n) (hd:d < n) (e:a * n+b=c * n+d):a=c∧b=d:=by
 have hn:0 < n:=by omega
 have h1:(a * n+b) / n=a:=by rw [Nat.add_comm,Nat.add_mul_div_right _ _ hn,Nat.div_eq_of_lt hb,Nat.zero_add]
 have h2:(c * n+d) / n=c:=by rw [Nat.add_comm,Nat.add_mul_div_right _ _ hn,Nat.div_eq_of_lt hd,Nat.zero_add]
 have:a=c:=by rw [←h1,←h2,e]
 subst this
 exact ⟨rfl,by omega⟩
theorem zxu {l:List (Int×Int)} {n:Nat} (hn:l.Nodup) (hb:∀p∈l,(0≤p.1∧p.1 < n)∧(0≤p.2∧p.2 < n)):l.length≤n * n:=by
 have h1:(l.map fun p=>p.1.toNat * n+p.2.toNat).Nodup:=by
  rw [List.Nodup,List.pairwise_map]
  refine List.Pairwise.imp_of_mem (fun {p q} hp hq hne e=>hne ?_) hn
  obtain ⟨⟨a0,a1⟩,b0,b1⟩:=hb p hp
  obtain ⟨⟨c0,c1⟩,d0,d1⟩:=hb q hq
  obtain ⟨e1,e2⟩:=yb9 (by omega) (by omega) e
  exact Prod.ext (by omega) (by omega)
 have h2:=zj7 (N:=n * n) h1 fun m hm=>by
  obtain ⟨p,hp,rfl⟩:=List.mem_map.1 hm
  obtain ⟨⟨a0,a1⟩,b0,b1⟩:=hb p hp
  exact ygw (by omega) (by omega)
 rw [oM] at h2;exact h2
theorem ylt {h:Hist} (hs:zap h=true) {i:Nat} (hi:i < h.evs.length) {z:Conf} (hz:z∈zbl h h.evs[i] i):z.f=h.evs[i].t:=by
 by_cases h3:h.evs[i].kind=3
 ·obtain ⟨_,_,_,_,_,e,_⟩:=zpk hs hi h3 hz;exact e
 ·by_cases h4:h.evs[i].kind=4
  ·obtain ⟨_,_,_,_,e,_⟩:=zkx hs hi h4 hz;exact e
  ·rw [zji h3 h4] at hz;cases hz
theorem zv4 (l:List Conf):∀p∈zbg l,∃c∈l,p.1=zea c:=fun p hp=>by
 have hg:=(zgr (k:=p.1) (v:=p.2) (zc2 l)).2 hp
 have:=zqt l p.1
 rw [hg] at this
 exact ⟨p.2,this.2.1,this.1.symm⟩
theorem zuk {h:Hist} (hc:u3 h=0) (kd:Int):(zbg (za0 h kd h.evs.length)).length≤9000000:=by
 have hs:=zaz.1 hc
 have hT:=(zgg hc).ts
 have h1:=zxu (n:=h.ts.length) (zc2 (za0 h kd h.evs.length)) fun p hp=>by
  obtain ⟨q,hq,rfl⟩:=List.mem_map.1 hp
  obtain ⟨c,hc',e⟩:=zv4 _ q hq
  obtain ⟨j,hj,_,_,hf⟩:=(zk0 (Nat.le_refl _)).1 hc'
  rw [e]
  have ht:=(za1 _ _).1 (zb2 (zdq hs _ (List.getElem_mem hj))).2.2.1
  exact ⟨by show 0≤c.f∧c.f < _;rw [ylt hs hj hf];exact ht,yls hs hj hf⟩
 rw [oM] at h1
 exact Nat.le_trans h1 (Nat.mul_le_mul hT hT)
theorem zna {α β:Type} (f:α→List β) (c:Nat):∀l:List α,(∀a∈l,(f a).length≤c)→(l.flatMap f).length≤l.length * c
 | [],_=>by simp
 |a::l,hf=>by
  have:=zna f c l fun x hx=>hf x (List.mem_cons_of_mem _ hx)
  have:=hf a (by simp)
  rw [List.flatMap_cons,List.length_append,List.length_cons,Nat.succ_mul];omega
theorem zt3 {h:Hist} (hc:u3 h=0) {a:Nat} (ha:a < h.evs.length):(zbl h h.evs[a] a).length≤16000000:=by
 obtain ⟨h1,h2⟩:=seen_ok hc (List.getElem_mem ha) a
 rw [zbl]
 split
 ·refine Nat.le_trans (zna _ 4000 _ fun p hp=>Nat.le_trans (List.length_filterMap_le _ _) (h2 p hp).2.1) ?_
  omega
 ·exact Nat.zero_le _
def yal (L:List ((Int×Int)×Conf)) (sn:List Nat):List Conf:=sn.reverse.map fun i=>((L[i]?).map Prod.snd).getD cfz
theorem zto (L:List ((Int×Int)×Conf)) (sn:List Nat):(yal L sn).length=sn.length:=by simp [yal]
theorem yko {L:List ((Int×Int)×Conf)} {i:Nat} {sn:List Nat} (hi:i < L.length):yal L (i::sn)=yal L sn++ [L[i].2]:=by
 simp [yal,List.getElem?_eq_getElem hi]
theorem zu8 (L:List ((Int×Int)×Conf)):(List.range L.length).map (fun i=>((L[i]?).map Prod.snd).getD cfz)=L.map Prod.snd:=by
 refine List.ext_getElem (by simp) fun i h1 h2=> ?_
 simp at h1
 simp [List.getElem?_eq_getElem h1]
theorem zx0 {L:List ((Int×Int)×Conf)} {sn:List Nat} (hn:sn.Nodup) (hl:∀i∈sn,i < L.length) (ha:∀i,i < L.length→i∈sn):(yal L sn).Perm (L.map Prod.snd):=by
 rw [←zu8,yal]
 refine List.Perm.map _ ((List.reverse_perm sn).trans ?_)
 exact (List.perm_ext_iff_of_nodup hn List.nodup_range).2 fun i=>by rw [List.mem_range];exact ⟨hl i,ha i⟩
def zhg (h:Hist) (kd:Int):List Conf:=if u3 h=0 then zen h kd else []
theorem zkz {h:Hist} {kd:Int} (hc:u3 h=0):zhg h kd=zen h kd:=by rw [zhg,if_pos hc]
theorem zxc {h:Hist} {kd:Int} (hc:u3 h≠0):zhg h kd= []:=by rw [zhg,if_neg hc]
theorem yh7 {h:Hist} (hc:u3 h=0) {kd:Int} (hk:kd=3∨kd=4) {sn:List Nat} (hn:sn.Nodup) (hl:∀i∈sn,i < (zbg (za0 h kd h.evs.length)).length) (ha:∀i,i < (zbg (za0 h kd h.evs.length)).length→i∈sn):
 zhe ze7 (yal (zbg (za0 h kd h.evs.length)) sn)=zhg h kd:=by
 rw [zkz hc]
 exact (zky (zaz.1 hc) hk (zx0 hn hl ha)).trans (zky (zaz.1 hc) hk (.refl _)).symm
theorem yf3 (h:Hist) (la:Lim 4611686018427387904 h) (rO:Nat) (oK:Obj):y8 Tryz.prog 87 [.agg (y9 h)] (.glob 2 156 y2:: .glob 4 305 y3:: .glob 5 308 y1:: .glob 3 246 w9:: .glob 1 175 k7:: .glob 0 171 [mpv rO]:: .obj rO oK:: []) (fun r h'=>(u3 h=0∧∃rc rl rk rg,h'=rgR rg []::rkS h rk::zat h rl::rcR h rc:: .glob 2 156 y2:: .glob 4 305 y3:: .glob 5 308 y1:: .glob 3 246 w9:: .glob 1 175 k7:: .glob 0 171 [mpv rO]:: .obj rO oK:: []∧r= .tup [.agg (rwP h rc rl rk rg),iv 0])∨(u3 h≠0∧h'= .glob 2 156 y2:: .glob 4 305 y3:: .glob 5 308 y1:: .glob 3 246 w9:: .glob 1 175 k7:: .glob 0 171 [mpv rO]:: .obj rO oK:: []∧r= .tup [.agg (zp6++ [nmp,.v (.slice none 0 0),nmp,nmp,nmp]),iv (u3 h)])):=
 ((yph h la).frame [.glob 1 175 k7,.glob 0 171 [mpv rO],.obj rO oK]).mono (by
   rintro _ _ ⟨_,rfl,⟨hc,rc,rl,rk,rg,rfl,rfl⟩|⟨hc,rfl,rfl⟩⟩
   ·exact .inl ⟨hc,rc,rl,rk,rg,rfl,rfl⟩
   ·exact .inr ⟨hc,rfl,rfl⟩)
theorem zpd (h:Hist) (la:Lim 4611686018427387904 h) (rO:Nat) (oK:Obj) (hK:KO oK) (kd:Int) (hkk:kd=3∨kd=4):y8 Tryz.prog 86 [.agg (y9 h),iv kd] (.glob 2 156 y2:: .glob 4 305 y3:: .glob 5 308 y1:: .glob 3 246 w9:: .glob 1 175 k7:: .glob 0 171 [mpv rO]:: .obj rO oK:: []) (fun r h'=>∃s:SV,h'= .row s.v 7 41 ((zhg h kd).map j7):: .glob 2 156 y2:: .glob 4 305 y3:: .glob 5 308 y1:: .glob 3 246 w9:: .glob 1 175 k7:: .glob 0 171 [mpv rO]:: .obj rO oK:: []∧r= .tup [.v s.v,iv (u3 h)]):=by
 refine z6 Tryz.func86 rfl rfl rfl ?_
 have be:=la.evs
 refine rn ?_;refine z7 rfl (w8 rfl rfl rfl fun b2=> ?_)
 refine q1 ?_;refine q1 ?_;refine j4 (zai ?_)
 refine w7 (y6 ?_)
 refine q1 ?_;refine z7 rfl (v6 rfl rfl (z8.fr1 (z8.of_fun (yf3 h la rO oK))) rfl ?_)
 rintro _ _ ⟨_,rfl,⟨hc,rc,rl,rk,rg,rfl,rfl⟩|⟨hc,rfl,rfl⟩⟩
 ·refine rn ?_;refine z7 rfl (y7 rfl fun b6=> ?_)
  refine rn ?_;refine y0 rfl (fun hc24=> ?_) (fun hc24=> ?_)
  ·first|cases hc24|exact absurd hc24 (by decide)|(exfalso;simp_all;done)
  ·refine rn ?_;refine z7 rfl (zar (enc:=zau) rfl fun bm=> ?_)
   refine z7 rfl (y7 rfl fun b8=> ?_)
   first|refine z7 rfl (j5 rfl rfl rfl ?_)|refine z7 rfl (zaj rfl rfl rfl rfl (Nat.le_of_ble_eq_true rfl) ?_)
   refine j4 (zai ?_)
   refine w7 ?_;refine w7 (y6 ?_)
   show zb7 _ _ _ _ _ _ ⟨_,_:: .map bm (zaf zau (za9 gC (zbg (za0 h kd 0))))::_,_⟩
   refine rn ?_;refine zgi h.evs.length (fun _ (z:List ((Int×Int)×List Int)×List Nat)=>zmc h z.1) (fun j z=>⟨[(31,iv j),(1,iv kd),(6,pZ b6),(8,pZ b8),(29,zza h.evs),(30,iv (h.evs.map evR).length)],.map bm (zaf zau (za9 gC (zbg (za0 h kd j)))):: .box b8 166 [mpv bm]:: .box b6 119 (rwP h rc rl rk rg):: .box b2 28 (y9 h)::rgR rg z.1::rkS h rk::zat h rl::rcR h rc:: .glob 2 156 y2:: .glob 4 305 y3:: .glob 5 308 y1:: .glob 3 246 w9:: .glob 1 175 k7:: .glob 0 171 [mpv rO]:: .obj rO oK::(z.2.map Res.defs),z.2⟩) ([],[]) (zki h) (v8 (zag (pt1 _ _ _)) es) ?_
   rintro j ⟨M,dfs⟩ lj hM
   have hM:zmc h M:=hM
   show aw _ _ _ _ _ ⟨[(31,iv j),(1,iv kd),(6,pZ b6),(8,pZ b8),(29,zza h.evs),(30,iv (h.evs.map evR).length)],.map bm (zaf zau (za9 gC (zbg (za0 h kd j)))):: .box b8 166 [mpv bm]:: .box b6 119 (rwP h rc rl rk rg):: .box b2 28 (y9 h)::rgR rg M::rkS h rk::zat h rl::rcR h rc:: .glob 2 156 y2:: .glob 4 305 y3:: .glob 5 308 y1:: .glob 3 246 w9:: .glob 1 175 k7:: .glob 0 171 [mpv rO]:: .obj rO oK::(dfs.map Res.defs),dfs⟩
   refine rn ?_;refine y0 rfl (fun hc32=> ?_) (fun hc32=> ?_)
   ·have hj:=zef hc32
    have rj:=zcb (f:=evR) hj
    refine rn ?_;refine z7 rfl (y7 rfl fun b10=> ?_)
    refine rn ?_;refine y0 rfl (fun hc39=> ?_) (fun hc39=> ?_)
    ·have hw:za0 h kd (j+1)=za0 h kd j:=yf8 hj (by simpa using hc39)
     refine rn ?_;exact ⟨hj,(M,dfs),hM,by simp only;rw [hw];exact eA⟩
    ·have hkd:h.evs[j].kind=kd:=by simpa using hc39
     have hw:=yf7 hj hkd
     refine rn ?_;refine z7 rfl (v6 rfl rfl (z8.of_fun (ztg h j rc rl rk rg _)) rfl ?_)
     rintro _ _ ⟨ba,bp,rfl,rfl⟩
     refine rn ?_;refine zl7 (fun pend h''=>pend=none∧∃M,zmc h M∧h''= .box ba 3 [iv (j:Nat)]:: .box bp 119 (rwP h rc rl rk rg)::rgR rg M::rkS h rk::zat h rl::rcR h rc:: .glob 2 156 y2:: .glob 4 305 y3:: .glob 5 308 y1:: .glob 3 246 w9:: .glob 1 175 k7:: .glob 0 171 [mpv rO]:: .obj rO oK:: .box b10 60 (evR h.evs[j]):: .map bm (zaf zau (za9 gC (zbg ((za0 h kd j)++zbl h h.evs[j] j)))):: .box b8 166 [mpv bm]:: .box b6 119 (rwP h rc rl rk rg):: .box b2 28 (y9 h)::(dfs.map Res.defs)) rfl (fun fn l q lp hlp=> ?_) (fun q h'' hK=> ?_) (fun q h'' c hK=> ?_)
     ·suffices hy:∀pre d rest (x:Unit) M,zbl h h.evs[j] j=pre++d::rest→True→zmc h M→z8 Tryz.prog (yv l) [.agg (j7 d)] (.box ba 3 [iv (j:Nat)]:: .box bp 119 (rwP h rc rl rk rg)::rgR rg M::rkS h rk::zat h rl::rcR h rc:: .glob 2 156 y2:: .glob 4 305 y3:: .glob 5 308 y1:: .glob 3 246 w9:: .glob 1 175 k7:: .glob 0 171 [mpv rO]:: .obj rO oK::lp .ready none:: .defs q:: .box b10 60 (evR h.evs[j]):: .map bm (zaf zau (za9 gC (zbg ((za0 h kd j)++pre)))):: .box b8 166 [mpv bm]:: .box b6 119 (rwP h rc rl rk rg):: .box b2 28 (y9 h)::(dfs.map Res.defs)) (fun r h'=>∃x':Unit,(r=bv true∧True∧h'= .box ba 3 [iv (j:Nat)]:: .box bp 119 (rwP h rc rl rk rg)::rgR rg M::rkS h rk::zat h rl::rcR h rc:: .glob 2 156 y2:: .glob 4 305 y3:: .glob 5 308 y1:: .glob 3 246 w9:: .glob 1 175 k7:: .glob 0 171 [mpv rO]:: .obj rO oK::lp .ready none:: .defs q:: .box b10 60 (evR h.evs[j]):: .map bm (zaf zau (za9 gC (zbg ((za0 h kd j)++(pre++ [d]))))):: .box b8 166 [mpv bm]:: .box b6 119 (rwP h rc rl rk rg):: .box b2 28 (y9 h)::(dfs.map Res.defs))∨(r=bv false∧False∧h'= .box ba 3 [iv (j:Nat)]:: .box bp 119 (rwP h rc rl rk rg)::rgR rg M::rkS h rk::zat h rl::rcR h rc:: .glob 2 156 y2:: .glob 4 305 y3:: .glob 5 308 y1:: .glob 3 246 w9:: .glob 1 175 k7:: .glob 0 171 [mpv rO]:: .obj rO oK:: [])) by
       have hq:=ztf h la hc j hj (yv l) bp ba rc rl rk rg M hM rO oK hK (fun _ (_:Unit)=>True) (fun _=>False) (fun pre _=>lp .ready none:: .defs q:: .box b10 60 (evR h.evs[j]):: .map bm (zaf zau (za9 gC (zbg ((za0 h kd j)++pre)))):: .box b8 166 [mpv bm]:: .box b6 119 (rwP h rc rl rk rg):: .box b2 28 (y9 h)::(dfs.map Res.defs)) (fun _=> []) () trivial hy
       simp only [List.append_nil] at hq
       refine y8.mono (y8.perm ((pt2 _ _ _ _).trans (.cons _ ((pt2 _ _ _ _).trans (.cons _ ((pt7 _ _ _ _ _ _ _ _ _).trans (.cons _ ((pt7 _ _ _ _ _ _ _ _ _).trans (.cons _ ((pt7 _ _ _ _ _ _ _ _ _).trans (.cons _ ((pt7 _ _ _ _ _ _ _ _ _).trans (.cons _ ((pt7 _ _ _ _ _ _ _ _ _).trans (.cons _ ((pt7 _ _ _ _ _ _ _ _ _).trans (.cons _ ((pt7 _ _ _ _ _ _ _ _ _).trans (.cons _ ((pt7 _ _ _ _ _ _ _ _ _).trans (.cons _ ((pt7 _ _ _ _ _ _ _ _ _).trans (.cons _ ((pt7 _ _ _ _ _ _ _ _ _).trans (.cons _ (pt7 _ _ _ _ _ _ _ _ _))))))))))))))))))))))))) hq) ?_
       rintro _ _ ⟨x,M',hM',⟨-,rfl⟩|⟨hF,_⟩⟩
       ·exact ⟨none,.ready,_,((ztm _ _ _ _ _ _ _ _ _ _ _ _ _ _ _).trans (.cons _ (ztm _ _ _ _ _ _ _ _ _ _ _ _ _ _ _))),by simp,rfl,M',hM',rfl⟩
       ·exact hF.elim
      intro pre d rest x M hL _ hM
      refine z8.perm (ztm _ _ _ _ _ _ _ _ _ _ _ _ _ _ _) (z8.ventE ?_)
      refine zdh hlp rfl rfl ?_
      refine rn ?_;refine z7 rfl (y7 rfl fun b11=> ?_)
      refine rn ?_;refine ⟨[(11,pZ b11),(8,pZ b8)],.box b11 41 (j7 d):: .box ba 3 [iv (j:Nat)]:: .box bp 119 (rwP h rc rl rk rg)::rgR rg M::rkS h rk::zat h rl::rcR h rc:: .glob 2 156 y2:: .glob 4 305 y3:: .glob 5 308 y1:: .glob 3 246 w9:: .glob 1 175 k7:: .glob 0 171 [mpv rO]:: .obj rO oK:: .defs q:: .box b10 60 (evR h.evs[j]):: .map bm (zaf zau (za9 gC (zbg ((za0 h kd j)++pre)))):: .box b8 166 [mpv bm]:: .box b6 119 (rwP h rc rl rk rg):: .box b2 28 (y9 h)::(dfs.map Res.defs),v8 (zag (pt1 _ _ _)) es,?_⟩
      refine zdj ?_;refine w7 (y6 ?_)
      refine q1 ?_;refine q1 ?_;refine q1 ?_;refine q1 ?_;refine qq rfl rfl (zcz (out:= [iv d.f,iv d.t]) rfl (by rfl)) ?_
      refine z7 rfl (y7 rfl fun b12=> ?_)
      first|refine z7 rfl (j5 rfl rfl rfl ?_)|refine z7 rfl (zaj rfl rfl rfl rfl (Nat.le_of_ble_eq_true rfl) ?_)
      refine j4 (zai ?_)
      refine w7 (y6 ?_)
      refine q1 ?_;refine q1 ?_;refine qq rfl rfl (zf0 (g:=gC) (enc:=zau) (k:=(d.f,d.t)) cfz rfl rfl rfl) ?_
      refine rn ?_;refine z7 rfl (y7 rfl fun b13=> ?_)
      refine rn ?_;refine u6 (fun hg13_2=> ?_) (fun hg13_2=> ?_)
      ·refine rn ?_;refine y0 rfl (fun hc62=> ?_) (fun hc62=> ?_)
       ·have hb:zg0 (zbg ((za0 h kd j)++pre)) d=zdp (d.f,d.t) d (zbg ((za0 h kd j)++pre)):=by first|exact zuj (.inl hg13_2)|exact zuj (.inr hc62)
        refine rn ?_;refine z7 rfl (zaq (g:=gC) (enc:=zau) (k:=(d.f,d.t)) (v:=d) rfl rfl rfl ?_)
        refine rn ?_;exact zcy (pt2 _ _ _ _) ⟨_,_,.trans (.perm ((pt1 _ _ _).trans (.cons _ ((pt1 _ _ _).trans (.cons _ ((pt1 _ _ _).trans (.cons _ ((pt1 _ _ _).trans (.cons _ ((pt1 _ _ _).trans (.cons _ ((pt1 _ _ _).trans (.cons _ ((pt1 _ _ _).trans (.cons _ ((pt1 _ _ _).trans (.cons _ ((pt1 _ _ _).trans (.cons _ ((pt1 _ _ _).trans (.cons _ ((pt1 _ _ _).trans (.cons _ ((pt1 _ _ _).trans (.cons _ ((pt1 _ _ _).trans (.cons _ ((pt1 _ _ _).trans (.cons _ ((pt1 _ _ _).trans (.cons _ (pt1 _ _ _))))))))))))))))))))))))))))))) _) (.drop [_,_,_] _ _),(),.inl ⟨rfl,trivial,by rw [←List.append_assoc,zsv,hb]⟩⟩
       ·first|cases hc62|exact absurd hc62 (by decide)|(exfalso;simp_all;done)
      ·refine rn ?_;refine qv rfl rfl (y4 rfl rfl (zbh (zhr _ _) (Sbs.refl _))) ?_
       refine rn ?_;refine y0 rfl (fun hc62=> ?_) (fun hc62=> ?_)
       ·have hb:zg0 (zbg ((za0 h kd j)++pre)) d=zdp (d.f,d.t) d (zbg ((za0 h kd j)++pre)):=by first|exact zuj (.inl hg13_2)|exact zuj (.inr hc62)
        refine rn ?_;refine z7 rfl (zaq (g:=gC) (enc:=zau) (k:=(d.f,d.t)) (v:=d) rfl rfl rfl ?_)
        refine rn ?_;exact zcy (pt2 _ _ _ _) ⟨_,_,.trans (.perm ((pt1 _ _ _).trans (.cons _ ((pt1 _ _ _).trans (.cons _ ((pt1 _ _ _).trans (.cons _ ((pt1 _ _ _).trans (.cons _ ((pt1 _ _ _).trans (.cons _ ((pt1 _ _ _).trans (.cons _ ((pt1 _ _ _).trans (.cons _ ((pt1 _ _ _).trans (.cons _ ((pt1 _ _ _).trans (.cons _ ((pt1 _ _ _).trans (.cons _ ((pt1 _ _ _).trans (.cons _ ((pt1 _ _ _).trans (.cons _ ((pt1 _ _ _).trans (.cons _ ((pt1 _ _ _).trans (.cons _ ((pt1 _ _ _).trans (.cons _ (pt1 _ _ _))))))))))))))))))))))))))))))) _) (.drop [_,_,_] _ _),(),.inl ⟨rfl,trivial,by rw [←List.append_assoc,zsv,hb]⟩⟩
       ·have hb:zg0 (zbg ((za0 h kd j)++pre)) d=(zbg ((za0 h kd j)++pre)):=ymf hg13_2 hc62
        refine rn ?_;exact zcy (pt2 _ _ _ _) ⟨_,_,.trans (.perm ((pt1 _ _ _).trans (.cons _ ((pt1 _ _ _).trans (.cons _ ((pt1 _ _ _).trans (.cons _ ((pt1 _ _ _).trans (.cons _ ((pt1 _ _ _).trans (.cons _ ((pt1 _ _ _).trans (.cons _ ((pt1 _ _ _).trans (.cons _ ((pt1 _ _ _).trans (.cons _ ((pt1 _ _ _).trans (.cons _ ((pt1 _ _ _).trans (.cons _ ((pt1 _ _ _).trans (.cons _ ((pt1 _ _ _).trans (.cons _ ((pt1 _ _ _).trans (.cons _ ((pt1 _ _ _).trans (.cons _ ((pt1 _ _ _).trans (.cons _ (pt1 _ _ _))))))))))))))))))))))))))))))) _) (.drop [_,_,_] _ _),(),.inl ⟨rfl,trivial,by rw [←List.append_assoc,zsv,hb]⟩⟩
     ·obtain ⟨_,M',hM',rfl⟩:=hK
      refine rn ?_;exact ⟨hj,(M',q::dfs),hM',by simp only;rw [hw];exact v8 (zag ((pt1 _ _ _).trans (.cons _ ((pt1 _ _ _).trans (.cons _ ((yi0 _ _ _ _ _ _ _ _ _ _ _ _ _ _).trans (.cons _ ((yi0 _ _ _ _ _ _ _ _ _ _ _ _ _ _).trans (.cons _ ((yi0 _ _ _ _ _ _ _ _ _ _ _ _ _ _).trans (.cons _ ((yi0 _ _ _ _ _ _ _ _ _ _ _ _ _ _).trans (.cons _ ((yi0 _ _ _ _ _ _ _ _ _ _ _ _ _ _).trans (.cons _ ((pt1 _ _ _).trans (.cons _ ((pt1 _ _ _).trans (.cons _ ((pt1 _ _ _).trans (.cons _ ((pt1 _ _ _).trans (.cons _ ((pt1 _ _ _).trans (.cons _ ((pt1 _ _ _).trans (.cons _ ((pt1 _ _ _).trans (.cons _ ((pt1 _ _ _).trans (.cons _ ((pt1 _ _ _).trans (.cons _ ((pt1 _ _ _).trans (.cons _ (pt1 _ _ _)))))))))))))))))))))))))))))))))))) (v8 (zd8 (h1:= [_,_,_])) es)⟩
     ·obtain ⟨hc',_⟩:=hK
      exact absurd hc' (by simp)
   ·have qj:=zeh hc32 lj
    subst qj
    refine rn ?_;have hbl:=zuk hc kd
    refine rn ?_;refine z7 rfl (zpu rfl rfl fun b68=> ?_)
    refine rn ?_;refine zak (fun x:List Nat×SV=>x.1.Nodup∧∀i∈x.1,i < (zbg (za0 h kd h.evs.length)).length) (fun x=>⟨[(68,pZ b68),(15,.v x.2.v)],.mapr bm (zaf zau (za9 gC (zbg (za0 h kd h.evs.length)))) b68 x.1:: .row x.2.v 7 41 ((yal (zbg (za0 h kd h.evs.length)) x.1).map j7):: .box b8 166 [mpv bm]:: .box b6 119 (rwP h rc rl rk rg):: .box b2 28 (y9 h)::rgR rg M::rkS h rk::zat h rl::rcR h rc:: .glob 2 156 y2:: .glob 4 305 y3:: .glob 5 308 y1:: .glob 3 246 w9:: .glob 1 175 k7:: .glob 0 171 [mpv rO]:: .obj rO oK::(dfs.map Res.defs),dfs⟩) (fun x=>(zbg (za0 h kd h.evs.length)).length - x.1.length) ([],⟨none,0,0⟩) ⟨.nil,fun i hi=>(by cases hi)⟩ (v8 (zbj 7 41) (v8 (zag (pt1 _ _ _)) es)) ?_
    rintro ⟨sn,s⟩ ⟨hsn,hsl⟩
    simp only at hsn hsl
    refine w7 (y6 ?_)
    refine z7 rfl (zr4 rfl rfl (fun hall=> ?_) (fun i hi hni=> ?_))
    ·refine rn ?_;refine y0 rfl (fun hc70=> ?_) (fun hc70=> ?_)
     ·first|cases hc70|exact absurd hc70 (by decide)|(exfalso;simp_all;done)
     ·refine rn ?_;have hsb:=znu hsn hsl
      refine rn ?_;refine z7 rfl (v6 rfl rfl (z8.lendG (z8.of_fun (ya8 (yal (zbg (za0 h kd h.evs.length)) sn) (.fn (.func 39) [] []) rfl ze7 (fun x y=>z8.of_fun (zhr x y)) (by rw [zto];omega))) (by rintro _ _ ⟨s,rfl,rfl⟩;exact ⟨.v _,fun x hx=>by rw [List.mem_singleton.1 hx];exact ztd (zte _)⟩) (BLe.refl _ _) (by exact ⟨zl3,BLe.refl _ _,trivial⟩)) rfl ?_)
      rintro _ _ ⟨_,rfl,s2,rfl,rfl⟩
      refine rn ?_;exact zgx (List.perm_append_comm (l₁:= [_,_,_,_,_,_,_,_,_,_,_,_,_,_,_,_,_]) (l₂:=(dfs.map Res.defs))) (.cons _ _ _ _ (.tmp _ _ rfl) (.cons _ _ _ _ (.tmp _ _ rfl) .nil)) (.trans (.perm ((pt1 _ _ _).trans (.cons _ ((pt1 _ _ _).trans (.cons _ ((pt1 _ _ _).trans (.cons _ ((pt1 _ _ _).trans (.cons _ ((pt1 _ _ _).trans (.cons _ ((pt1 _ _ _).trans (.cons _ ((pt1 _ _ _).trans (.cons _ ((pt1 _ _ _).trans (.cons _ (pt1 _ _ _))))))))))))))))) _) (.drop [_,_,_,_,_,_,_,_,_] _ _)) ⟨s2,by rw [yh7 hc hkk hsn hsl (fun i hi=>hall i (by simpa [zaf,za9] using hi))],by rw [hc];rfl⟩
    ·refine rn ?_;refine y0 rfl (fun hc70=> ?_) (fun hc70=> ?_)
     ·refine za5 ?_;refine zai ?_;refine zdj ?_;refine w7 (y6 ?_)
      have hi2:i < (zbg (za0 h kd h.evs.length)).length:=by simpa [zaf,za9] using hi
      refine qq rfl rfl (zxq (k:=zau (zbg (za0 h kd h.evs.length))[i].1) (a:=gC (zbg (za0 h kd h.evs.length))[i].2) hi (by simp [zaf,za9]) (by simp [zaf,za9]) rfl) ?_
      refine rn ?_;refine z7 rfl (y7 rfl fun b17=> ?_)
      refine rn ?_;refine qv rfl rfl (q6 rfl rfl) ?_
      refine z7 rfl (j3 rfl rfl (by have:=znu hsn hsl;simp only [oM,zto,List.length_cons,List.length_nil];omega) rfl (fun s76=> ?_) (zep [(zbg (za0 h kd h.evs.length))[i].2]))
      refine j8 s76 fun sv hsv=> ?_
      subst hsv
      refine rn ?_;have hnd:(i::sn).Nodup:=List.nodup_cons.2 ⟨hni,hsn⟩
      have hal:∀j∈i::sn,j < (zbg (za0 h kd h.evs.length)).length:=fun j hj=>(List.mem_cons.1 hj).elim (fun q=>q ▸ hi2) (hsl j)
      have hlen:=znu hnd hal
      exact ⟨(i::sn,sv),⟨hnd,hal⟩,by simp only;rw [yko hi2,List.map_append];exact eA,by simp only [List.length_cons] at hlen ⊢;omega⟩
     ·first|cases hc70|exact absurd hc70 (by decide)|(exfalso;simp_all;done)
 ·refine rn ?_;refine z7 rfl (y7 rfl fun b6=> ?_)
  refine rn ?_;refine y0 rfl (fun hc24=> ?_) (fun hc24=> ?_)
  ·refine rn ?_;exact zbp rfl rfl (.trans (.drop [_,_] _ _) (k9 7 41 _)) ⟨⟨none,0,0⟩,by rw [zxc hc];rfl,rfl⟩
  ·first|cases hc24|exact absurd hc24 (by decide)|(exfalso;simp_all;done)
theorem ypj (h:Hist) (la:Lim 4611686018427387904 h) (rO:Nat) (oK:Obj) (hK:KO oK):y8 Tryz.prog 86 [.agg (y9 h),iv 3] (.glob 2 156 y2:: .glob 4 305 y3:: .glob 5 308 y1:: .glob 3 246 w9:: .glob 1 175 k7:: .glob 0 171 [mpv rO]:: .obj rO oK:: []) (fun r h'=>h'= .glob 2 156 y2:: .glob 4 305 y3:: .glob 5 308 y1:: .glob 3 246 w9:: .glob 1 175 k7:: .glob 0 171 [mpv rO]:: .obj rO oK:: []∧r= .tup [zib (zhg h 3),iv (u3 h)]):=(zpd h la rO oK hK 3 (by decide)).ventR (by rintro _ _ ⟨s,rfl,rfl⟩;exact ⟨_,_,zaw [] [_],rfl,rfl⟩)
theorem yjs (h:Hist) (la:Lim 4611686018427387904 h) (rO:Nat) (oK:Obj) (hK:KO oK):y8 Tryz.prog 32 [.agg (y9 h)] (.glob 2 156 y2:: .glob 4 305 y3:: .glob 5 308 y1:: .glob 3 246 w9:: .glob 1 175 k7:: .glob 0 171 [mpv rO]:: .obj rO oK:: []) (fun r h'=>h'= .glob 2 156 y2:: .glob 4 305 y3:: .glob 5 308 y1:: .glob 3 246 w9:: .glob 1 175 k7:: .glob 0 171 [mpv rO]:: .obj rO oK:: []∧r= .tup [zib (zhg h 3),iv (u3 h)]):=by
 refine z6 Tryz.func32 rfl rfl rfl ?_
 refine rn ?_;refine z7 rfl (w8 rfl rfl rfl fun b1=> ?_)
 refine rn ?_;refine qv rfl rfl (y4 rfl rfl (z8.qt (z8.of_fun (ypj h la rO oK hK)) ((pt1 _ _ _).trans (.cons _ ((pt1 _ _ _).trans (.cons _ ((pt1 _ _ _).trans (.cons _ ((pt1 _ _ _).trans (.cons _ ((pt1 _ _ _).trans (.cons _ ((pt1 _ _ _).trans (.cons _ (pt1 _ _ _))))))))))))))) ?_
 refine rn ?_;exact zbp rfl rfl (.drop [_] _ _) ⟨rfl,rfl⟩
theorem ypi (h:Hist) (la:Lim 4611686018427387904 h) (rO:Nat) (oK:Obj) (hK:KO oK):y8 Tryz.prog 86 [.agg (y9 h),iv 4] (.glob 2 156 y2:: .glob 4 305 y3:: .glob 5 308 y1:: .glob 3 246 w9:: .glob 1 175 k7:: .glob 0 171 [mpv rO]:: .obj rO oK:: []) (fun r h'=>h'= .glob 2 156 y2:: .glob 4 305 y3:: .glob 5 308 y1:: .glob 3 246 w9:: .glob 1 175 k7:: .glob 0 171 [mpv rO]:: .obj rO oK:: []∧r= .tup [zib (zhg h 4),iv (u3 h)]):=(zpd h la rO oK hK 4 (by decide)).ventR (by rintro _ _ ⟨s,rfl,rfl⟩;exact ⟨_,_,zaw [] [_],rfl,rfl⟩)
theorem zrk (h:Hist) (la:Lim 4611686018427387904 h) (rO:Nat) (oK:Obj) (hK:KO oK):y8 Tryz.prog 33 [.agg (y9 h)] (.glob 2 156 y2:: .glob 4 305 y3:: .glob 5 308 y1:: .glob 3 246 w9:: .glob 1 175 k7:: .glob 0 171 [mpv rO]:: .obj rO oK:: []) (fun r h'=>h'= .glob 2 156 y2:: .glob 4 305 y3:: .glob 5 308 y1:: .glob 3 246 w9:: .glob 1 175 k7:: .glob 0 171 [mpv rO]:: .obj rO oK:: []∧r= .tup [zib (zhg h 4),iv (u3 h)]):=by
 refine z6 Tryz.func33 rfl rfl rfl ?_
 refine rn ?_;refine z7 rfl (w8 rfl rfl rfl fun b1=> ?_)
 refine rn ?_;refine qv rfl rfl (y4 rfl rfl (z8.qt (z8.of_fun (ypi h la rO oK hK)) ((pt1 _ _ _).trans (.cons _ ((pt1 _ _ _).trans (.cons _ ((pt1 _ _ _).trans (.cons _ ((pt1 _ _ _).trans (.cons _ ((pt1 _ _ _).trans (.cons _ ((pt1 _ _ _).trans (.cons _ (pt1 _ _ _))))))))))))))) ?_
 refine rn ?_;exact zbp rfl rfl (.drop [_] _ _) ⟨rfl,rfl⟩
theorem ask_c {h:Hist} {x n:Int} (hc:u3 h≠0):zex h x n=u3 h:=by rw [zex,if_neg hc]
theorem zze {f g:Bool} (l m:List Conf) (hl:l.length≤4611686018427387904) (hm:m.length≤4611686018427387904):y8 Tryz.prog 19 [.list f 7 (l.map j7),.list g 7 (m.map j7)] [] (fun r h'=>h'= []∧r=bv (eqF zid l m)):=by
 refine z6 Tryz.func19 rfl rfl rfl ?_
 refine rn ?_;refine y0 rfl (fun hc10=> ?_) (fun hc10=> ?_)
 ·refine rn ?_;have hne:(l.length==m.length)=false:=beq_eq_false_iff_ne.2 fun q=>by simp [q] at hc10
  exact zal rfl (.refl _ _) ⟨rfl,by rw [eqF,hne,Bool.false_and];rfl⟩
 ·have hlm:l.length=m.length:=by simp at hc10;omega
  refine rn ?_;refine zak (fun k:Nat=>k≤l.length∧zut zid l m=zut zid (l.drop k) (m.drop k)) (fun k=>⟨[(13,iv k),(0,.list f 7 (l.map j7)),(1,.list g 7 (m.map j7)),(12,iv (l.map j7).length)],[],[]⟩) (fun k=>l.length - k) 0 ⟨Nat.zero_le _,by simp⟩
   (u0 (.cons _ _ _ rfl (.cons _ _ _ rfl (.cons _ _ _ rfl (.cons _ _ _ rfl (.nil)))))) ?_
  rintro k ⟨hk,hz⟩
  refine rn ?_;refine y0 rfl (fun hc14=> ?_) (fun hc14=> ?_)
  ·have hk2:k < l.length:=by simpa using hc14
   have hk3:k < m.length:=by omega
   have hrow1:(l.map j7)[k]? =some (j7 l[k]):=by simp [hk2]
   have hrow2:(m.map j7)[k]? =some (j7 m[k]):=by simp [hk3]
   have hd1:=List.drop_eq_getElem_cons hk2
   have hd2:=List.drop_eq_getElem_cons hk3
   refine rn ?_;refine zad 8 rfl ?_
   refine rn ?_;refine y0 rfl (fun hc24=> ?_) (fun hc24=> ?_)
   ·refine rn ?_;exact zal rfl (.refl _ _) ⟨rfl,by rw [eqF,hz,hd1,hd2,zut,show zid l[k] m[k]=false from ycj hc24,Bool.false_and,Bool.and_false];rfl⟩
   ·refine rn ?_;exact ⟨k+1,⟨by omega,by rw [hz,hd1,hd2,zut,show zid l[k] m[k]=true from yck hc24,Bool.true_and]⟩,(u0 (.cons _ _ _ rfl (.cons _ _ _ rfl (.cons _ _ _ rfl (.cons _ _ _ rfl (.nil)))))),by omega⟩
  ·have hk3:k=l.length:=by
    have:l.length≤k:=by simpa using hc14
    omega
   refine rn ?_;exact zal rfl (.refl _ _) ⟨rfl,by rw [eqF,hz,hk3,List.drop_length,zsz,hlm,beq_self_eq_true];rfl⟩
theorem yl6 {f g:Bool} (l:List Conf) (hl:l.length≤4611686018427387904):y8 Tryz.prog 19 [.list f 7 (l.map j7),.list g 7 (l.map j7)] [] (fun r h'=>h'= []∧r=bv true):=(zze l l hl hl).mono fun _ _ q=>⟨q.1,by rw [q.2,zzf zic];simp⟩
def RwJ (h:Hist) (c:Conf):Prop:=u3 h=0∧∃a:Nat,c.a=(a:Int)∧∃ha:a < h.evs.length,c∈zbl h h.evs[a] a
theorem yf6 {h:Hist} {c:Conf} (hc:u3 h≠0):¬RwJ h c:=fun q=>hc q.1
theorem zu3 {h:Hist} {c:Conf} (hn:c.a < 0∨(h.evs.length:Int)≤c.a):¬RwJ h c:=fun ⟨_,a,e,ha,_⟩=>by omega
theorem yne {h:Hist} {c:Conf} {a:Nat} (e:c.a=(a:Int)) (ha:a < h.evs.length) (hm:¬c∈zbl h h.evs[a] a):¬RwJ h c:=fun ⟨_,b,e2,hb,hq⟩=>by
 have:b=a:=by omega
 subst this;exact hm hq
theorem yf4 {h:Hist} {c:Conf} {a:Nat} (hc:u3 h=0) (e:c.a=(a:Int)) (ha:a < h.evs.length) (hm:c∈zbl h h.evs[a] a):RwJ h c:=⟨hc,a,e,ha,hm⟩
def rwJ (h:Hist) (c:Conf):Bool:=decide (u3 h=0) && (decide (0≤c.a) && match h.evs[c.a.toNat]? with
 |some e=>decide (c∈zbl h e c.a.toNat)
 |none=>false)
theorem zxb {h:Hist} {c:Conf}:rwJ h c=true ↔ RwJ h c:=by
 rw [rwJ,Bool.and_eq_true,Bool.and_eq_true,decide_eq_true_iff,decide_eq_true_iff]
 constructor
 ·rintro ⟨h1,h2,h3⟩
  split at h3
  ·rename_i e he
   obtain ⟨hl,rfl⟩:=List.getElem?_eq_some_iff.1 he
   exact ⟨h1,c.a.toNat,by omega,hl,oT h3⟩
  ·cases h3
 ·rintro ⟨h1,a,e,ha,hm⟩
  refine ⟨h1,by omega,?_⟩
  rw [show c.a.toNat=a by omega,List.getElem?_eq_getElem ha]
  exact decide_eq_true hm
theorem yf5 {h:Hist} {c:Conf} (q:RwJ h c):rwJ h c=true:=zxb.2 q
theorem zme {h:Hist} {c:Conf} (q:¬RwJ h c):rwJ h c=false:=Bool.eq_false_iff.2 fun e=>q (zxb.1 e)
def OvB (h:Hist) (n:Int):Prop:=∃a:Nat,n=(a:Int)∧∃ha:a < h.evs.length,zhq h.evs h.evs[a].t 5=true∧(h.evs[a].kind=3∨h.evs[a].kind=4)
theorem yce {h:Hist} {n:Int} (q:n < 0):¬OvB h n:=fun ⟨a,e,_⟩=>by omega
theorem ycd {h:Hist} {n:Int} (q:(h.evs.length:Int)≤n):¬OvB h n:=fun ⟨a,e,ha,_⟩=>by omega
theorem ycc {h:Hist} {a:Nat} (ha:a < h.evs.length) (q:zhq h.evs h.evs[a].t 5=false):¬OvB h (a:Int):=fun ⟨b,e,hb,q1,_⟩=>by
 have:b=a:=by omega
 subst this;rw [q] at q1;cases q1
theorem ycb {h:Hist} {a:Nat} (ha:a < h.evs.length) (q3:h.evs[a].kind≠3) (q4:h.evs[a].kind≠4):¬OvB h (a:Int):=fun ⟨b,e,hb,_,q1⟩=>by
 have:b=a:=by omega
 subst this;exact q1.elim q3 q4
def ovB (h:Hist) (n:Int):Bool:=decide (0≤n) && match h.evs[n.toNat]? with
 |some e=>zhq h.evs e.t 5 && (e.kind==3||e.kind==4)
 |none=>false
theorem zxz {h:Hist} {n:Int}:ovB h n=true ↔ OvB h n:=by
 rw [ovB,Bool.and_eq_true,decide_eq_true_iff]
 constructor
 ·rintro ⟨h2,h3⟩
  split at h3
  ·rename_i e he
   obtain ⟨hl,rfl⟩:=List.getElem?_eq_some_iff.1 he
   rw [Bool.and_eq_true,Bool.or_eq_true,beq_iff_eq,beq_iff_eq] at h3
   exact ⟨n.toNat,by omega,hl,h3.1,h3.2⟩
  ·cases h3
 ·rintro ⟨a,e,ha,hm,hk⟩
  refine ⟨by omega,?_⟩
  rw [show n.toNat=a by omega,List.getElem?_eq_getElem ha]
  simp only
  rw [hm,Bool.true_and,Bool.or_eq_true,beq_iff_eq,beq_iff_eq];exact hk
def ovC (h:Hist) (n:Int):Int:=if u3 h=0 then (if ovB h n=true then 0 else 2) else u3 h
def ovO (h:Hist) (n:Int):List Int:=if ovC h n=0 then (match h.evs[n.toNat]? with|some e=>ykn h e n.toNat|none=> []) else []
theorem yox {h:Hist} {n:Int} (hc:u3 h≠0):ovC h n=u3 h∧ovO h n= []:=by
 have e:ovC h n=u3 h:=by rw [ovC,if_neg hc]
 exact ⟨e,by rw [ovO,e,if_neg hc]⟩
theorem yed {h:Hist} {n:Int} (hc:u3 h=0) (hn:¬OvB h n):ovC h n=2∧ovO h n= []:=by
 have e:ovC h n=2:=by rw [ovC,if_pos hc,if_neg fun q=>hn (zxz.1 q)]
 exact ⟨e,by rw [ovO,e];rfl⟩
theorem ymz {h:Hist} {a:Nat} (hc:u3 h=0) (ha:a < h.evs.length) (hn:OvB h (a:Int)):ovC h (a:Int)=0∧ovO h (a:Int)=ykn h h.evs[a] a:=by
 have e:ovC h (a:Int)=0:=by rw [ovC,if_pos hc,if_pos (zxz.2 hn)]
 refine ⟨e,?_⟩
 rw [ovO,if_pos e,show ((a:Nat):Int).toNat=a from rfl,List.getElem?_eq_getElem ha]
theorem yol {d c:Conf} (q:zid d c=true):d=c:=by rw [zic] at q;exact oT q
theorem yok {d c:Conf} (q:zid d c=false):¬d=c:=by rw [zic] at q;exact oF q
theorem yea (h:Hist) (la:Lim 4611686018427387904 h) (rO:Nat) (oK:Obj) (hK:KO oK) (c:Conf):y8 Tryz.prog 40 [.agg (y9 h),.agg (j7 c)] (.glob 2 156 y2:: .glob 4 305 y3:: .glob 5 308 y1:: .glob 3 246 w9:: .glob 1 175 k7:: .glob 0 171 [mpv rO]:: .obj rO oK:: []) (fun r h'=>h'= .glob 2 156 y2:: .glob 4 305 y3:: .glob 5 308 y1:: .glob 3 246 w9:: .glob 1 175 k7:: .glob 0 171 [mpv rO]:: .obj rO oK:: []∧r=bv (rwJ h c)):=by
 refine z6 Tryz.func40 rfl rfl rfl ?_
 refine rn ?_;refine z7 rfl (w8 rfl rfl rfl fun b2=> ?_)
 refine z7 rfl (w8 rfl rfl rfl fun b3=> ?_)
 refine z7 rfl (y7 rfl fun b4=> ?_)
 refine j4 (zai ?_)
 refine w7 (y6 ?_)
 refine q1 ?_;refine z7 rfl (v6 rfl rfl (z8.fr3 (z8.of_fun (yf3 h la rO oK))) rfl ?_)
 rintro _ _ ⟨_,rfl,⟨hc,rc,rl,rk,rg,rfl,rfl⟩|⟨hc,rfl,rfl⟩⟩
 ·refine rn ?_;refine z7 rfl (y7 rfl fun b5=> ?_)
  first|refine z7 rfl (j5 rfl rfl rfl ?_)|refine z7 rfl (zaj rfl rfl rfl rfl (Nat.le_of_ble_eq_true rfl) ?_)
  refine q1 ?_;refine j4 (zai ?_)
  refine w7 ?_;refine w7 (y6 ?_)
  refine q1 ?_;first|refine qq rfl rfl (zgy (zao rfl rfl rfl) (yos hc)) ?_|refine qq rfl rfl (zgy (zao rfl rfl rfl) yot) ?_
  refine rn ?_;refine u6 (fun hg2_7=> ?_) (fun hg2_7=> ?_)
  ·refine rn ?_;refine y0 rfl (fun hc27=> ?_) (fun hc27=> ?_)
   ·try have hge:(h.evs.length:Int)≤c.a:=by have q:=oT hc27;rw [oM] at q;omega
    refine rn ?_;first|exact zdy (.cons _ _ _ _ (.one _ _ _ _ _ _ _ rfl inferInstance inferInstance rfl) .nil) (.drop [_,_,_,_] _ _) ⟨rfl,congrArg bv (zme (yf6 hc)).symm⟩|exact zdy (.cons _ _ _ _ (.one _ _ _ _ _ _ _ rfl inferInstance inferInstance rfl) .nil) (.drop [_,_,_,_,_,_,_,_] _ _) ⟨rfl,congrArg bv (zme (zu3 (.inl (oT hg2_7)))).symm⟩|exact zdy (.cons _ _ _ _ (.one _ _ _ _ _ _ _ rfl inferInstance inferInstance rfl) .nil) (.drop [_,_,_,_,_,_,_,_] _ _) ⟨rfl,congrArg bv (zme (zu3 (.inr hge))).symm⟩
   ·first|cases hc27|exact absurd hc27 (by decide)|(exfalso;simp_all;done)
  ·refine rn ?_;refine y0 rfl (fun hc27=> ?_) (fun hc27=> ?_)
   ·try have hge:(h.evs.length:Int)≤c.a:=by have q:=oT hc27;rw [oM] at q;omega
    refine rn ?_;first|exact zdy (.cons _ _ _ _ (.one _ _ _ _ _ _ _ rfl inferInstance inferInstance rfl) .nil) (.drop [_,_,_,_] _ _) ⟨rfl,congrArg bv (zme (yf6 hc)).symm⟩|exact zdy (.cons _ _ _ _ (.one _ _ _ _ _ _ _ rfl inferInstance inferInstance rfl) .nil) (.drop [_,_,_,_,_,_,_,_] _ _) ⟨rfl,congrArg bv (zme (zu3 (.inl (oT hg2_7)))).symm⟩|exact zdy (.cons _ _ _ _ (.one _ _ _ _ _ _ _ rfl inferInstance inferInstance rfl) .nil) (.drop [_,_,_,_,_,_,_,_] _ _) ⟨rfl,congrArg bv (zme (zu3 (.inr hge))).symm⟩
   ·have h0:0≤c.a:=by have q:=oF hg2_7;omega
    have h1:c.a < h.evs.length:=by have q:=oF hc27;rw [oM] at q;omega
    obtain ⟨a,hca⟩:∃a:Nat,c.a=(a:Int):=⟨c.a.toNat,by omega⟩
    have ha:a < h.evs.length:=by omega
    refine za5 ?_;refine zai ?_;refine w7 ?_;refine w7 (y6 ?_)
    refine q1 ?_;refine q1 ?_;refine qq rfl rfl (zgy (zac rfl rfl) (show iv _=iv (a:Nat) from congrArg iv hca)) ?_
    refine z7 rfl (v6 rfl rfl (z8.of_fun (ztg h a rc rl rk rg _)) rfl ?_)
    rintro _ _ ⟨ba,bp,rfl,rfl⟩
    refine rn ?_;refine zl7 (fun pend h''=>(pend=none∧(¬c∈(zbl h h.evs[a] a))∧∃M,h''= .box ba 3 [iv (a:Nat)]:: .box bp 119 (rwP h rc rl rk rg)::rgR rg M::rkS h rk::zat h rl::rcR h rc:: .glob 2 156 y2:: .glob 4 305 y3:: .glob 5 308 y1:: .glob 3 246 w9:: .glob 1 175 k7:: .glob 0 171 [mpv rO]:: .obj rO oK:: .box b5 119 (rwP h rc rl rk rg):: .box b4 4 [bv false]:: .box b3 41 (j7 c):: .box b2 28 (y9 h):: [])∨(pend=some .ret∧c∈(zbl h h.evs[a] a)∧∃M,h''= .box ba 3 [iv (a:Nat)]:: .box bp 119 (rwP h rc rl rk rg)::rgR rg M::rkS h rk::zat h rl::rcR h rc:: .glob 2 156 y2:: .glob 4 305 y3:: .glob 5 308 y1:: .glob 3 246 w9:: .glob 1 175 k7:: .glob 0 171 [mpv rO]:: .obj rO oK:: .box b5 119 (rwP h rc rl rk rg):: .box b4 4 [bv true]:: .box b3 41 (j7 c):: .box b2 28 (y9 h):: [])) rfl (fun fn l q lp hlp=> ?_) (fun q h'' hK'=> ?_) (fun q h'' cc hK'=> ?_)
    ·suffices hy:∀pre d rest (x:Unit) M,zbl h h.evs[a] a=pre++d::rest→(¬c∈pre)→zmc h M→z8 Tryz.prog (yv l) [.agg (j7 d)] (.box ba 3 [iv (a:Nat)]:: .box bp 119 (rwP h rc rl rk rg)::rgR rg M::rkS h rk::zat h rl::rcR h rc:: .glob 2 156 y2:: .glob 4 305 y3:: .glob 5 308 y1:: .glob 3 246 w9:: .glob 1 175 k7:: .glob 0 171 [mpv rO]:: .obj rO oK::lp .ready none:: .defs q:: .box b5 119 (rwP h rc rl rk rg):: .box b4 4 [bv false]:: .box b3 41 (j7 c):: .box b2 28 (y9 h):: []) (fun r h'=>∃x':Unit,(r=bv true∧(¬c∈pre++ [d])∧h'= .box ba 3 [iv (a:Nat)]:: .box bp 119 (rwP h rc rl rk rg)::rgR rg M::rkS h rk::zat h rl::rcR h rc:: .glob 2 156 y2:: .glob 4 305 y3:: .glob 5 308 y1:: .glob 3 246 w9:: .glob 1 175 k7:: .glob 0 171 [mpv rO]:: .obj rO oK::lp .ready none:: .defs q:: .box b5 119 (rwP h rc rl rk rg):: .box b4 4 [bv false]:: .box b3 41 (j7 c):: .box b2 28 (y9 h):: [])∨(r=bv false∧c∈(zbl h h.evs[a] a)∧h'= .box ba 3 [iv (a:Nat)]:: .box bp 119 (rwP h rc rl rk rg)::rgR rg M::rkS h rk::zat h rl::rcR h rc:: .glob 2 156 y2:: .glob 4 305 y3:: .glob 5 308 y1:: .glob 3 246 w9:: .glob 1 175 k7:: .glob 0 171 [mpv rO]:: .obj rO oK::lp .done (some .ret):: .defs q:: .box b5 119 (rwP h rc rl rk rg):: .box b4 4 [bv true]:: .box b3 41 (j7 c):: .box b2 28 (y9 h):: [])) by
      refine y8.mono (y8.perm ((pt2 _ _ _ _).trans (.cons _ ((pt2 _ _ _ _).trans (.cons _ ((pt6 _ _ _ _ _ _ _ _).trans (.cons _ ((pt6 _ _ _ _ _ _ _ _).trans (.cons _ ((pt6 _ _ _ _ _ _ _ _).trans (.cons _ ((pt6 _ _ _ _ _ _ _ _).trans (.cons _ ((pt6 _ _ _ _ _ _ _ _).trans (.cons _ ((pt6 _ _ _ _ _ _ _ _).trans (.cons _ ((pt6 _ _ _ _ _ _ _ _).trans (.cons _ ((pt6 _ _ _ _ _ _ _ _).trans (.cons _ ((pt6 _ _ _ _ _ _ _ _).trans (.cons _ ((pt6 _ _ _ _ _ _ _ _).trans (.cons _ (pt6 _ _ _ _ _ _ _ _))))))))))))))))))))))))) (ztf h la hc a ha (yv l) bp ba rc rl rk rg [] (zki h) rO oK hK (fun pre (_:Unit)=>¬c∈pre) (fun _=>c∈(zbl h h.evs[a] a)) (fun _ _=>lp .ready none:: .defs q:: .box b5 119 (rwP h rc rl rk rg):: .box b4 4 [bv false]:: .box b3 41 (j7 c):: .box b2 28 (y9 h):: []) (fun _=>lp .done (some .ret):: .defs q:: .box b5 119 (rwP h rc rl rk rg):: .box b4 4 [bv true]:: .box b3 41 (j7 c):: .box b2 28 (y9 h):: []) () (by simp) hy)) ?_
      rintro _ _ ⟨x,M,hM,⟨hn,rfl⟩|⟨hn,rfl⟩⟩
      ·exact ⟨none,.ready,_,((ztm _ _ _ _ _ _ _ _ _ _ _ _ _ _ _).trans (.cons _ (ztm _ _ _ _ _ _ _ _ _ _ _ _ _ _ _))),by simp,.inl ⟨rfl,hn,M,rfl⟩⟩
      ·exact ⟨some .ret,.done,_,((ztm _ _ _ _ _ _ _ _ _ _ _ _ _ _ _).trans (.cons _ (ztm _ _ _ _ _ _ _ _ _ _ _ _ _ _ _))),by simp,.inr ⟨rfl,hn,M,rfl⟩⟩
     intro pre d rest x M hL hpre hM
     refine z8.perm (ztm _ _ _ _ _ _ _ _ _ _ _ _ _ _ _) (z8.ventE ?_)
     refine zdh hlp rfl rfl ?_
     refine rn ?_;refine z7 rfl (y7 rfl fun b7=> ?_)
     refine rn ?_;refine ⟨[(7,pZ b7),(3,pZ b3),(4,pZ b4)],.box b7 41 (j7 d):: .box ba 3 [iv (a:Nat)]:: .box bp 119 (rwP h rc rl rk rg)::rgR rg M::rkS h rk::zat h rl::rcR h rc:: .glob 2 156 y2:: .glob 4 305 y3:: .glob 5 308 y1:: .glob 3 246 w9:: .glob 1 175 k7:: .glob 0 171 [mpv rO]:: .obj rO oK:: .defs q:: .box b5 119 (rwP h rc rl rk rg):: .box b4 4 [bv false]:: .box b3 41 (j7 c):: .box b2 28 (y9 h):: [],v8 (zag (pt1 _ _ _)) es,?_⟩
     refine rn ?_;refine y0 rfl (fun hc35=> ?_) (fun hc35=> ?_)
     ·have hz:d=c:=yol hc35
      refine rn ?_;exact zrp (.refl _) ⟨_,_,.trans (.perm ((pt1 _ _ _).trans (.cons _ ((pt1 _ _ _).trans (.cons _ ((pt1 _ _ _).trans (.cons _ ((pt1 _ _ _).trans (.cons _ ((pt1 _ _ _).trans (.cons _ ((pt1 _ _ _).trans (.cons _ ((pt1 _ _ _).trans (.cons _ ((pt1 _ _ _).trans (.cons _ ((pt1 _ _ _).trans (.cons _ ((pt1 _ _ _).trans (.cons _ ((pt1 _ _ _).trans (.cons _ ((pt1 _ _ _).trans (.cons _ ((pt1 _ _ _).trans (.cons _ (pt1 _ _ _))))))))))))))))))))))))))) _) (.drop [_] _ _),(),.inr ⟨rfl,by rw [hL,←hz];simp,rfl⟩⟩
     ·have hz:¬d=c:=yok hc35
      refine rn ?_;exact zcy (.refl _) ⟨_,_,.trans (.perm ((pt1 _ _ _).trans (.cons _ ((pt1 _ _ _).trans (.cons _ ((pt1 _ _ _).trans (.cons _ ((pt1 _ _ _).trans (.cons _ ((pt1 _ _ _).trans (.cons _ ((pt1 _ _ _).trans (.cons _ ((pt1 _ _ _).trans (.cons _ ((pt1 _ _ _).trans (.cons _ ((pt1 _ _ _).trans (.cons _ ((pt1 _ _ _).trans (.cons _ ((pt1 _ _ _).trans (.cons _ ((pt1 _ _ _).trans (.cons _ ((pt1 _ _ _).trans (.cons _ (pt1 _ _ _))))))))))))))))))))))))))) _) (.drop [_] _ _),(),.inl ⟨rfl,by simp [hpre,Ne.symm hz],rfl⟩⟩
    ·obtain ⟨_,hn,M,rfl⟩|⟨hc',_⟩:=hK'
     rotate_left
     ·cases hc'
     refine rn ?_;exact zgx (.refl _) (.cons _ _ _ _ (.one _ _ _ _ _ _ _ rfl inferInstance inferInstance rfl) .nil) (.trans (.perm (.cons _ (.cons _ (.cons _ (.cons _ (.cons _ (.cons _ ((pt7 _ _ _ _ _ _ _ _ _).trans (.cons _ ((pt7 _ _ _ _ _ _ _ _ _).trans (.cons _ ((pt7 _ _ _ _ _ _ _ _ _).trans (.cons _ (pt7 _ _ _ _ _ _ _ _ _))))))))))))) _) (.drop [_,_,_,_,_,_,_,_,_,_] _ _)) ⟨rfl,congrArg bv (zme (yne hca ha hn)).symm⟩
    ·obtain ⟨hc',_⟩|⟨hc',hn,M,rfl⟩:=hK'
     ·cases hc'
     obtain rfl:cc= .ret:=by simpa using hc'
     refine rn ?_;exact zgx (.refl _) (.cons _ _ _ _ (.one _ _ _ _ _ _ _ rfl inferInstance inferInstance rfl) .nil) (.trans (.perm (.cons _ (.cons _ (.cons _ (.cons _ (.cons _ (.cons _ ((pt7 _ _ _ _ _ _ _ _ _).trans (.cons _ ((pt7 _ _ _ _ _ _ _ _ _).trans (.cons _ ((pt7 _ _ _ _ _ _ _ _ _).trans (.cons _ (pt7 _ _ _ _ _ _ _ _ _))))))))))))) _) (.drop [_,_,_,_,_,_,_,_,_,_] _ _)) ⟨rfl,congrArg bv (yf5 (yf4 hc hca ha hn)).symm⟩
 ·refine rn ?_;refine z7 rfl (y7 rfl fun b5=> ?_)
  first|refine z7 rfl (j5 rfl rfl rfl ?_)|refine z7 rfl (zaj rfl rfl rfl rfl (Nat.le_of_ble_eq_true rfl) ?_)
  refine q1 ?_;refine j4 (zai ?_)
  refine w7 ?_;refine w7 (y6 ?_)
  refine q1 ?_;first|refine qq rfl rfl (zgy (zao rfl rfl rfl) (yos hc)) ?_|refine qq rfl rfl (zgy (zao rfl rfl rfl) yot) ?_
  refine rn ?_;refine y0 rfl (fun hc27=> ?_) (fun hc27=> ?_)
  ·try have hge:(h.evs.length:Int)≤c.a:=by have q:=oT hc27;rw [oM] at q;omega
   refine rn ?_;first|exact zdy (.cons _ _ _ _ (.one _ _ _ _ _ _ _ rfl inferInstance inferInstance rfl) .nil) (.drop [_,_,_,_] _ _) ⟨rfl,congrArg bv (zme (yf6 hc)).symm⟩|exact zdy (.cons _ _ _ _ (.one _ _ _ _ _ _ _ rfl inferInstance inferInstance rfl) .nil) (.drop [_,_,_,_,_,_,_,_] _ _) ⟨rfl,congrArg bv (zme (zu3 (.inl (oT hg2_7)))).symm⟩|exact zdy (.cons _ _ _ _ (.one _ _ _ _ _ _ _ rfl inferInstance inferInstance rfl) .nil) (.drop [_,_,_,_,_,_,_,_] _ _) ⟨rfl,congrArg bv (zme (zu3 (.inr hge))).symm⟩
  ·first|cases hc27|exact absurd hc27 (by decide)|(exfalso;simp_all;done)
theorem yf2 (h:Hist) (la:Lim 4611686018427387904 h) (rO:Nat) (oK:Obj) (hK:KO oK) (n:Int):y8 Tryz.prog 35 [.agg (y9 h),iv n] (.glob 2 156 y2:: .glob 4 305 y3:: .glob 5 308 y1:: .glob 3 246 w9:: .glob 1 175 k7:: .glob 0 171 [mpv rO]:: .obj rO oK:: []) (fun r h'=>∃s:SV,h'= .row s.v 1 3 ((ovO h n).map zbs):: .glob 2 156 y2:: .glob 4 305 y3:: .glob 5 308 y1:: .glob 3 246 w9:: .glob 1 175 k7:: .glob 0 171 [mpv rO]:: .obj rO oK:: []∧r= .tup [.v s.v,iv (ovC h n)]):=by
 refine z6 Tryz.func35 rfl rfl rfl ?_
 refine rn ?_;refine z7 rfl (w8 rfl rfl rfl fun b2=> ?_)
 refine q1 ?_;refine q1 ?_;refine j4 (zai ?_)
 refine w7 (y6 ?_)
 refine q1 ?_;refine z7 rfl (v6 rfl rfl (z8.fr1 (z8.of_fun (yf3 h la rO oK))) rfl ?_)
 rintro _ _ ⟨_,rfl,⟨hc,rc,rl,rk,rg,rfl,rfl⟩|⟨hc,rfl,rfl⟩⟩
 ·refine rn ?_;refine z7 rfl (y7 rfl fun b6=> ?_)
  refine rn ?_;refine y0 rfl (fun hc16=> ?_) (fun hc16=> ?_)
  ·first|cases hc16|exact absurd hc16 (by decide)|(exfalso;simp_all;done)
  ·refine rn ?_;refine zad 33 rfl ?_
   refine rn ?_;refine zcp (fun hg4_2=> ?_) (fun hg4_2=> ?_)
   ·refine rn ?_;refine y0 rfl (fun hc56=> ?_) (fun hc56=> ?_)
    ·first
     |have hn:=yce (h:=h) (oT hg4_2)
     |(have q:=oT hg4_9;rw [oM] at q;have hn:=ycd (h:=h) q)
     |(have q:zhq h.evs h.evs[a].t 5=false:=(by rw [←zgb];simpa using hg4_21);have hn:=ycc ha q)
     |(have q3:h.evs[a].kind≠3:=(by simpa using hg4_29);have q4:h.evs[a].kind≠4:=(by simpa using hc56);have hn:=ycb ha q3 q4)
     refine rn ?_;exact zbp rfl rfl (.trans (.drop [_,_,_,_,_,_] _ _) (k9 1 3 _)) ⟨⟨none,0,0⟩,by rw [(yed hc hn).2];rfl,by rw [(yed hc hn).1];rfl⟩
    ·first|cases hc56|exact absurd hc56 (by decide)|(exfalso;simp_all;done)
   ·refine rn ?_;refine zcp (fun hg4_9=> ?_) (fun hg4_9=> ?_)
    ·refine rn ?_;refine y0 rfl (fun hc56=> ?_) (fun hc56=> ?_)
     ·first
      |have hn:=yce (h:=h) (oT hg4_2)
      |(have q:=oT hg4_9;rw [oM] at q;have hn:=ycd (h:=h) q)
      |(have q:zhq h.evs h.evs[a].t 5=false:=(by rw [←zgb];simpa using hg4_21);have hn:=ycc ha q)
      |(have q3:h.evs[a].kind≠3:=(by simpa using hg4_29);have q4:h.evs[a].kind≠4:=(by simpa using hc56);have hn:=ycb ha q3 q4)
      refine rn ?_;exact zbp rfl rfl (.trans (.drop [_,_,_,_,_,_] _ _) (k9 1 3 _)) ⟨⟨none,0,0⟩,by rw [(yed hc hn).2];rfl,by rw [(yed hc hn).1];rfl⟩
     ·first|cases hc56|exact absurd hc56 (by decide)|(exfalso;simp_all;done)
    ·have h0:0≤n:=by have q:=oF hg4_2;omega
     have h1:n < h.evs.length:=by have q:=oF hg4_9;rw [oM] at q;omega
     obtain ⟨a,rfl⟩:∃a:Nat,n=(a:Int):=⟨n.toNat,by omega⟩
     have ha:a < h.evs.length:=by omega
     have ra:=zcb (f:=evR) ha
     refine dq rfl rfl qrA ?_;refine dq rfl rfl qrA ?_;refine dq rfl rfl qrA ?_;refine dq rfl rfl qrA ?_;refine dq rfl rfl qrA ?_;refine dq rfl rfl qrA ?_;refine dq rfl rfl qrA ?_;refine dq rfl rfl qrA ?_;refine dq rfl rfl (zbq (enc:=intK) (k:=h.evs[a].t) false rfl rfl) ?_
     refine rn ?_;refine zcp (fun hg4_21=> ?_) (fun hg4_21=> ?_)
     ·refine rn ?_;refine y0 rfl (fun hc56=> ?_) (fun hc56=> ?_)
      ·first
       |have hn:=yce (h:=h) (oT hg4_2)
       |(have q:=oT hg4_9;rw [oM] at q;have hn:=ycd (h:=h) q)
       |(have q:zhq h.evs h.evs[a].t 5=false:=(by rw [←zgb];simpa using hg4_21);have hn:=ycc ha q)
       |(have q3:h.evs[a].kind≠3:=(by simpa using hg4_29);have q4:h.evs[a].kind≠4:=(by simpa using hc56);have hn:=ycb ha q3 q4)
       refine rn ?_;exact zbp rfl rfl (.trans (.drop [_,_,_,_,_,_] _ _) (k9 1 3 _)) ⟨⟨none,0,0⟩,by rw [(yed hc hn).2];rfl,by rw [(yed hc hn).1];rfl⟩
      ·first|cases hc56|exact absurd hc56 (by decide)|(exfalso;simp_all;done)
     ·refine rn ?_;refine zcp (fun hg4_29=> ?_) (fun hg4_29=> ?_)
      ·refine rn ?_;refine y0 rfl (fun hc56=> ?_) (fun hc56=> ?_)
       ·first
        |have hn:=yce (h:=h) (oT hg4_2)
        |(have q:=oT hg4_9;rw [oM] at q;have hn:=ycd (h:=h) q)
        |(have q:zhq h.evs h.evs[a].t 5=false:=(by rw [←zgb];simpa using hg4_21);have hn:=ycc ha q)
        |(have q3:h.evs[a].kind≠3:=(by simpa using hg4_29);have q4:h.evs[a].kind≠4:=(by simpa using hc56);have hn:=ycb ha q3 q4)
        refine rn ?_;exact zbp rfl rfl (.trans (.drop [_,_,_,_,_,_] _ _) (k9 1 3 _)) ⟨⟨none,0,0⟩,by rw [(yed hc hn).2];rfl,by rw [(yed hc hn).1];rfl⟩
       ·have hm:zhq h.evs h.evs[a].t 5=true:=by rw [←zgb];simpa using hg4_21
        have hkd:h.evs[a].kind=3∨h.evs[a].kind=4:=by
         first
         |(have q:h.evs[a].kind=3:=(by simpa using hg4_29);exact .inl q)
         |(have q:h.evs[a].kind=4:=(by simpa using hc56);exact .inr q)
        have hn:OvB h (a:Int):=⟨a,rfl,ha,hm,hkd⟩
        have hfl:=zt3 hc ha
        refine rn ?_;refine z7 rfl (y7 rfl fun b8=> ?_)
        refine rn ?_;refine z7 rfl (v6 rfl rfl (z8.of_fun (ztg h a rc rl rk rg _)) rfl ?_)
        rintro _ _ ⟨ba,bp,rfl,rfl⟩
        refine rn ?_;refine zfr (s':=⟨[(59,.fn (.func 134) [] [pZ bp,pZ ba]),(8,pZ b8)],.box ba 3 [iv (a:Nat)]:: .box bp 119 (rwP h rc rl rk rg):: .box b8 29 [.v (⟨none,0,0⟩:SV).v]:: .row (⟨none,0,0⟩:SV).v 1 3 ((([]:List Conf).map Conf.t).map zbs):: .box b6 119 (rwP h rc rl rk rg):: .box b2 28 (y9 h)::rgR rg []::rkS h rk::zat h rl::rcR h rc:: .glob 2 156 y2:: .glob 4 305 y3:: .glob 5 308 y1:: .glob 3 246 w9:: .glob 1 175 k7:: .glob 0 171 [mpv rO]:: .obj rO oK:: [],[]⟩) (v8 (zbj 1 3) (v8 (zag ((pt1 _ _ _).trans (.cons _ ((pt1 _ _ _).trans (.cons _ (pt1 _ _ _)))))) es)) ?_
        refine zl7 (fun pend h''=>pend=none∧∃(s:SV) (M:List ((Int×Int)×List Int)),h''= .box ba 3 [iv (a:Nat)]:: .box bp 119 (rwP h rc rl rk rg)::rgR rg M::rkS h rk::zat h rl::rcR h rc:: .glob 2 156 y2:: .glob 4 305 y3:: .glob 5 308 y1:: .glob 3 246 w9:: .glob 1 175 k7:: .glob 0 171 [mpv rO]:: .obj rO oK:: .box b8 29 [.v s.v]:: .row s.v 1 3 (((zbl h h.evs[a] a).map Conf.t).map zbs):: .box b6 119 (rwP h rc rl rk rg):: .box b2 28 (y9 h):: []) rfl (fun fn l q lp hlp=> ?_) (fun q h'' hK'=> ?_) (fun q h'' cc hK'=> ?_)
        ·suffices hy:∀pre d rest (s:SV) M,zbl h h.evs[a] a=pre++d::rest→True→zmc h M→z8 Tryz.prog (yv l) [.agg (j7 d)] (.box ba 3 [iv (a:Nat)]:: .box bp 119 (rwP h rc rl rk rg)::rgR rg M::rkS h rk::zat h rl::rcR h rc:: .glob 2 156 y2:: .glob 4 305 y3:: .glob 5 308 y1:: .glob 3 246 w9:: .glob 1 175 k7:: .glob 0 171 [mpv rO]:: .obj rO oK::lp .ready none:: .defs q:: .box b8 29 [.v s.v]:: .row s.v 1 3 ((pre.map Conf.t).map zbs):: .box b6 119 (rwP h rc rl rk rg):: .box b2 28 (y9 h):: []) (fun r h'=>∃s':SV,(r=bv true∧True∧h'= .box ba 3 [iv (a:Nat)]:: .box bp 119 (rwP h rc rl rk rg)::rgR rg M::rkS h rk::zat h rl::rcR h rc:: .glob 2 156 y2:: .glob 4 305 y3:: .glob 5 308 y1:: .glob 3 246 w9:: .glob 1 175 k7:: .glob 0 171 [mpv rO]:: .obj rO oK::lp .ready none:: .defs q:: .box b8 29 [.v s'.v]:: .row s'.v 1 3 (((pre++ [d]).map Conf.t).map zbs):: .box b6 119 (rwP h rc rl rk rg):: .box b2 28 (y9 h):: [])∨(r=bv false∧False∧h'= .box ba 3 [iv (a:Nat)]:: .box bp 119 (rwP h rc rl rk rg)::rgR rg M::rkS h rk::zat h rl::rcR h rc:: .glob 2 156 y2:: .glob 4 305 y3:: .glob 5 308 y1:: .glob 3 246 w9:: .glob 1 175 k7:: .glob 0 171 [mpv rO]:: .obj rO oK:: [])) by
          refine y8.mono (y8.perm ((pt2 _ _ _ _).trans (.cons _ ((pt2 _ _ _ _).trans (.cons _ ((pt6 _ _ _ _ _ _ _ _).trans (.cons _ ((pt6 _ _ _ _ _ _ _ _).trans (.cons _ ((pt6 _ _ _ _ _ _ _ _).trans (.cons _ ((pt6 _ _ _ _ _ _ _ _).trans (.cons _ ((pt6 _ _ _ _ _ _ _ _).trans (.cons _ ((pt6 _ _ _ _ _ _ _ _).trans (.cons _ ((pt6 _ _ _ _ _ _ _ _).trans (.cons _ ((pt6 _ _ _ _ _ _ _ _).trans (.cons _ ((pt6 _ _ _ _ _ _ _ _).trans (.cons _ ((pt6 _ _ _ _ _ _ _ _).trans (.cons _ (pt6 _ _ _ _ _ _ _ _))))))))))))))))))))))))) (ztf h la hc a ha (yv l) bp ba rc rl rk rg [] (zki h) rO oK hK (fun _ (_:SV)=>True) (fun _=>False) (fun pre (s:SV)=>lp .ready none:: .defs q:: .box b8 29 [.v s.v]:: .row s.v 1 3 ((pre.map Conf.t).map zbs):: .box b6 119 (rwP h rc rl rk rg):: .box b2 28 (y9 h):: []) (fun _=> []) ⟨none,0,0⟩ trivial hy)) ?_
          rintro _ _ ⟨s,M,hM,⟨-,rfl⟩|⟨hF,_⟩⟩
          ·exact ⟨none,.ready,_,((ztm _ _ _ _ _ _ _ _ _ _ _ _ _ _ _).trans (.cons _ (ztm _ _ _ _ _ _ _ _ _ _ _ _ _ _ _))),by simp,rfl,s,M,rfl⟩
          ·exact hF.elim
         intro pre d rest s M hL _ hM
         have hlen:pre.length < (zbl h h.evs[a] a).length:=by rw [hL,List.length_append,List.length_cons];omega
         refine z8.perm (ztm _ _ _ _ _ _ _ _ _ _ _ _ _ _ _) (z8.ventE ?_)
         refine zdh hlp rfl rfl ?_
         refine rn ?_;refine z7 rfl (y7 rfl fun b9=> ?_)
         refine rn ?_;refine ⟨[(9,pZ b9),(8,pZ b8)],.box b9 41 (j7 d):: .box ba 3 [iv (a:Nat)]:: .box bp 119 (rwP h rc rl rk rg)::rgR rg M::rkS h rk::zat h rl::rcR h rc:: .glob 2 156 y2:: .glob 4 305 y3:: .glob 5 308 y1:: .glob 3 246 w9:: .glob 1 175 k7:: .glob 0 171 [mpv rO]:: .obj rO oK:: .defs q:: .box b8 29 [.v s.v]:: .row s.v 1 3 ((pre.map Conf.t).map zbs):: .box b6 119 (rwP h rc rl rk rg):: .box b2 28 (y9 h):: [],v8 (zag (pt1 _ _ _)) es,?_⟩
         refine rn ?_;refine qv rfl rfl (q6 rfl rfl) ?_
         refine z7 rfl (j3 rfl rfl (by simp only [oM,List.length_cons,List.length_nil];omega) rfl (fun s65=> ?_) (ziu [d.t]))
         refine j8 s65 fun sv hsv=> ?_
         subst hsv
         refine rn ?_;exact zcy (.refl _) ⟨_,_,.trans (.perm ((pt1 _ _ _).trans (.cons _ ((pt1 _ _ _).trans (.cons _ ((pt1 _ _ _).trans (.cons _ ((pt1 _ _ _).trans (.cons _ ((pt1 _ _ _).trans (.cons _ ((pt1 _ _ _).trans (.cons _ ((pt1 _ _ _).trans (.cons _ ((pt1 _ _ _).trans (.cons _ ((pt1 _ _ _).trans (.cons _ ((pt1 _ _ _).trans (.cons _ ((pt1 _ _ _).trans (.cons _ ((pt1 _ _ _).trans (.cons _ ((pt1 _ _ _).trans (.cons _ (pt1 _ _ _))))))))))))))))))))))))))) _) (.drop [_] _ _),sv,.inl ⟨rfl,trivial,by rw [List.map_append,List.map_append];rfl⟩⟩
        ·obtain ⟨_,s,M,rfl⟩:=hK'
         refine rn ?_;refine z7 rfl (v6 rfl rfl (ze5 (z8.of_fun (zws s _ (by rw [oM];omega)))) rfl ?_)
         rintro _ _ ⟨rfl,rfl⟩
         refine rn ?_;refine z7 rfl (v6 rfl rfl (zga (z8.of_fun (zzo s _ (by rw [(zch _).length_eq,oM];omega)))) rfl ?_)
         rintro _ _ ⟨s',rfl,rfl⟩
         refine rn ?_;exact zgx (.refl _) (.cons _ _ _ _ (.tmp _ _ rfl) (.cons _ _ _ _ (.tmp _ _ rfl) .nil)) (.trans (.perm (.cons _ (.cons _ (.cons _ (.cons _ (.cons _ (.cons _ ((pt7 _ _ _ _ _ _ _ _ _).trans (.cons _ ((pt8 _ _ _ _ _ _ _ _ _ _).trans (.cons _ ((pt8 _ _ _ _ _ _ _ _ _ _).trans (.cons _ (pt7 _ _ _ _ _ _ _ _ _))))))))))))) _) (.drop [_,_,_,_,_,_,_,_,_] _ _)) ⟨s',by rw [(ymz hc ha hn).2];rfl,by rw [(ymz hc ha hn).1];rfl⟩
        ·obtain ⟨hc',_⟩:=hK'
         exact absurd hc' (by simp)
      ·refine rn ?_;refine y0 rfl (fun hc56=> ?_) (fun hc56=> ?_)
       ·first|cases hc56|exact absurd hc56 (by decide)|(exfalso;simp_all;done)
       ·have hm:zhq h.evs h.evs[a].t 5=true:=by rw [←zgb];simpa using hg4_21
        have hkd:h.evs[a].kind=3∨h.evs[a].kind=4:=by
         first
         |(have q:h.evs[a].kind=3:=(by simpa using hg4_29);exact .inl q)
         |(have q:h.evs[a].kind=4:=(by simpa using hc56);exact .inr q)
        have hn:OvB h (a:Int):=⟨a,rfl,ha,hm,hkd⟩
        have hfl:=zt3 hc ha
        refine rn ?_;refine z7 rfl (y7 rfl fun b8=> ?_)
        refine rn ?_;refine z7 rfl (v6 rfl rfl (z8.of_fun (ztg h a rc rl rk rg _)) rfl ?_)
        rintro _ _ ⟨ba,bp,rfl,rfl⟩
        refine rn ?_;refine zfr (s':=⟨[(59,.fn (.func 134) [] [pZ bp,pZ ba]),(8,pZ b8)],.box ba 3 [iv (a:Nat)]:: .box bp 119 (rwP h rc rl rk rg):: .box b8 29 [.v (⟨none,0,0⟩:SV).v]:: .row (⟨none,0,0⟩:SV).v 1 3 ((([]:List Conf).map Conf.t).map zbs):: .box b6 119 (rwP h rc rl rk rg):: .box b2 28 (y9 h)::rgR rg []::rkS h rk::zat h rl::rcR h rc:: .glob 2 156 y2:: .glob 4 305 y3:: .glob 5 308 y1:: .glob 3 246 w9:: .glob 1 175 k7:: .glob 0 171 [mpv rO]:: .obj rO oK:: [],[]⟩) (v8 (zbj 1 3) (v8 (zag ((pt1 _ _ _).trans (.cons _ ((pt1 _ _ _).trans (.cons _ (pt1 _ _ _)))))) es)) ?_
        refine zl7 (fun pend h''=>pend=none∧∃(s:SV) (M:List ((Int×Int)×List Int)),h''= .box ba 3 [iv (a:Nat)]:: .box bp 119 (rwP h rc rl rk rg)::rgR rg M::rkS h rk::zat h rl::rcR h rc:: .glob 2 156 y2:: .glob 4 305 y3:: .glob 5 308 y1:: .glob 3 246 w9:: .glob 1 175 k7:: .glob 0 171 [mpv rO]:: .obj rO oK:: .box b8 29 [.v s.v]:: .row s.v 1 3 (((zbl h h.evs[a] a).map Conf.t).map zbs):: .box b6 119 (rwP h rc rl rk rg):: .box b2 28 (y9 h):: []) rfl (fun fn l q lp hlp=> ?_) (fun q h'' hK'=> ?_) (fun q h'' cc hK'=> ?_)
        ·suffices hy:∀pre d rest (s:SV) M,zbl h h.evs[a] a=pre++d::rest→True→zmc h M→z8 Tryz.prog (yv l) [.agg (j7 d)] (.box ba 3 [iv (a:Nat)]:: .box bp 119 (rwP h rc rl rk rg)::rgR rg M::rkS h rk::zat h rl::rcR h rc:: .glob 2 156 y2:: .glob 4 305 y3:: .glob 5 308 y1:: .glob 3 246 w9:: .glob 1 175 k7:: .glob 0 171 [mpv rO]:: .obj rO oK::lp .ready none:: .defs q:: .box b8 29 [.v s.v]:: .row s.v 1 3 ((pre.map Conf.t).map zbs):: .box b6 119 (rwP h rc rl rk rg):: .box b2 28 (y9 h):: []) (fun r h'=>∃s':SV,(r=bv true∧True∧h'= .box ba 3 [iv (a:Nat)]:: .box bp 119 (rwP h rc rl rk rg)::rgR rg M::rkS h rk::zat h rl::rcR h rc:: .glob 2 156 y2:: .glob 4 305 y3:: .glob 5 308 y1:: .glob 3 246 w9:: .glob 1 175 k7:: .glob 0 171 [mpv rO]:: .obj rO oK::lp .ready none:: .defs q:: .box b8 29 [.v s'.v]:: .row s'.v 1 3 (((pre++ [d]).map Conf.t).map zbs):: .box b6 119 (rwP h rc rl rk rg):: .box b2 28 (y9 h):: [])∨(r=bv false∧False∧h'= .box ba 3 [iv (a:Nat)]:: .box bp 119 (rwP h rc rl rk rg)::rgR rg M::rkS h rk::zat h rl::rcR h rc:: .glob 2 156 y2:: .glob 4 305 y3:: .glob 5 308 y1:: .glob 3 246 w9:: .glob 1 175 k7:: .glob 0 171 [mpv rO]:: .obj rO oK:: [])) by
          refine y8.mono (y8.perm ((pt2 _ _ _ _).trans (.cons _ ((pt2 _ _ _ _).trans (.cons _ ((pt6 _ _ _ _ _ _ _ _).trans (.cons _ ((pt6 _ _ _ _ _ _ _ _).trans (.cons _ ((pt6 _ _ _ _ _ _ _ _).trans (.cons _ ((pt6 _ _ _ _ _ _ _ _).trans (.cons _ ((pt6 _ _ _ _ _ _ _ _).trans (.cons _ ((pt6 _ _ _ _ _ _ _ _).trans (.cons _ ((pt6 _ _ _ _ _ _ _ _).trans (.cons _ ((pt6 _ _ _ _ _ _ _ _).trans (.cons _ ((pt6 _ _ _ _ _ _ _ _).trans (.cons _ ((pt6 _ _ _ _ _ _ _ _).trans (.cons _ (pt6 _ _ _ _ _ _ _ _))))))))))))))))))))))))) (ztf h la hc a ha (yv l) bp ba rc rl rk rg [] (zki h) rO oK hK (fun _ (_:SV)=>True) (fun _=>False) (fun pre (s:SV)=>lp .ready none:: .defs q:: .box b8 29 [.v s.v]:: .row s.v 1 3 ((pre.map Conf.t).map zbs):: .box b6 119 (rwP h rc rl rk rg):: .box b2 28 (y9 h):: []) (fun _=> []) ⟨none,0,0⟩ trivial hy)) ?_
          rintro _ _ ⟨s,M,hM,⟨-,rfl⟩|⟨hF,_⟩⟩
          ·exact ⟨none,.ready,_,((ztm _ _ _ _ _ _ _ _ _ _ _ _ _ _ _).trans (.cons _ (ztm _ _ _ _ _ _ _ _ _ _ _ _ _ _ _))),by simp,rfl,s,M,rfl⟩
          ·exact hF.elim
         intro pre d rest s M hL _ hM
         have hlen:pre.length < (zbl h h.evs[a] a).length:=by rw [hL,List.length_append,List.length_cons];omega
         refine z8.perm (ztm _ _ _ _ _ _ _ _ _ _ _ _ _ _ _) (z8.ventE ?_)
         refine zdh hlp rfl rfl ?_
         refine rn ?_;refine z7 rfl (y7 rfl fun b9=> ?_)
         refine rn ?_;refine ⟨[(9,pZ b9),(8,pZ b8)],.box b9 41 (j7 d):: .box ba 3 [iv (a:Nat)]:: .box bp 119 (rwP h rc rl rk rg)::rgR rg M::rkS h rk::zat h rl::rcR h rc:: .glob 2 156 y2:: .glob 4 305 y3:: .glob 5 308 y1:: .glob 3 246 w9:: .glob 1 175 k7:: .glob 0 171 [mpv rO]:: .obj rO oK:: .defs q:: .box b8 29 [.v s.v]:: .row s.v 1 3 ((pre.map Conf.t).map zbs):: .box b6 119 (rwP h rc rl rk rg):: .box b2 28 (y9 h):: [],v8 (zag (pt1 _ _ _)) es,?_⟩
         refine rn ?_;refine qv rfl rfl (q6 rfl rfl) ?_
         refine z7 rfl (j3 rfl rfl (by simp only [oM,List.length_cons,List.length_nil];omega) rfl (fun s65=> ?_) (ziu [d.t]))
         refine j8 s65 fun sv hsv=> ?_
         subst hsv
         refine rn ?_;exact zcy (.refl _) ⟨_,_,.trans (.perm ((pt1 _ _ _).trans (.cons _ ((pt1 _ _ _).trans (.cons _ ((pt1 _ _ _).trans (.cons _ ((pt1 _ _ _).trans (.cons _ ((pt1 _ _ _).trans (.cons _ ((pt1 _ _ _).trans (.cons _ ((pt1 _ _ _).trans (.cons _ ((pt1 _ _ _).trans (.cons _ ((pt1 _ _ _).trans (.cons _ ((pt1 _ _ _).trans (.cons _ ((pt1 _ _ _).trans (.cons _ ((pt1 _ _ _).trans (.cons _ ((pt1 _ _ _).trans (.cons _ (pt1 _ _ _))))))))))))))))))))))))))) _) (.drop [_] _ _),sv,.inl ⟨rfl,trivial,by rw [List.map_append,List.map_append];rfl⟩⟩
        ·obtain ⟨_,s,M,rfl⟩:=hK'
         refine rn ?_;refine z7 rfl (v6 rfl rfl (ze5 (z8.of_fun (zws s _ (by rw [oM];omega)))) rfl ?_)
         rintro _ _ ⟨rfl,rfl⟩
         refine rn ?_;refine z7 rfl (v6 rfl rfl (zga (z8.of_fun (zzo s _ (by rw [(zch _).length_eq,oM];omega)))) rfl ?_)
         rintro _ _ ⟨s',rfl,rfl⟩
         refine rn ?_;exact zgx (.refl _) (.cons _ _ _ _ (.tmp _ _ rfl) (.cons _ _ _ _ (.tmp _ _ rfl) .nil)) (.trans (.perm (.cons _ (.cons _ (.cons _ (.cons _ (.cons _ (.cons _ ((pt7 _ _ _ _ _ _ _ _ _).trans (.cons _ ((pt8 _ _ _ _ _ _ _ _ _ _).trans (.cons _ ((pt8 _ _ _ _ _ _ _ _ _ _).trans (.cons _ (pt7 _ _ _ _ _ _ _ _ _))))))))))))) _) (.drop [_,_,_,_,_,_,_,_,_] _ _)) ⟨s',by rw [(ymz hc ha hn).2];rfl,by rw [(ymz hc ha hn).1];rfl⟩
        ·obtain ⟨hc',_⟩:=hK'
         exact absurd hc' (by simp)
 ·refine rn ?_;refine z7 rfl (y7 rfl fun b6=> ?_)
  refine rn ?_;refine y0 rfl (fun hc16=> ?_) (fun hc16=> ?_)
  ·refine rn ?_;exact zbp rfl rfl (.trans (.drop [_,_] _ _) (k9 1 3 _)) ⟨⟨none,0,0⟩,by rw [(yox hc).2];rfl,by rw [(yox hc).1];rfl⟩
  ·first|cases hc16|exact absurd hc16 (by decide)|(exfalso;simp_all;done)
theorem rwOver (h:Hist) (la:Lim 4611686018427387904 h) (rO:Nat) (oK:Obj) (hK:KO oK) (n:Int):y8 Tryz.prog 35 [.agg (y9 h),iv n] (.glob 2 156 y2:: .glob 4 305 y3:: .glob 5 308 y1:: .glob 3 246 w9:: .glob 1 175 k7:: .glob 0 171 [mpv rO]:: .obj rO oK:: []) (fun r h'=>h'= .glob 2 156 y2:: .glob 4 305 y3:: .glob 5 308 y1:: .glob 3 246 w9:: .glob 1 175 k7:: .glob 0 171 [mpv rO]:: .obj rO oK:: []∧r= .tup [zb5 (ovO h n),iv (ovC h n)]):=(yf2 h la rO oK hK n).ventR (by rintro _ _ ⟨s,rfl,rfl⟩;exact ⟨_,_,zaw [] [_],rfl,rfl⟩)
def chR (h:Hist) (f t:Int) (k:Nat):List Int:=(upR k).filter fun x=>decide (atI f 0 (zlg h x) ≥ 0) && decide (atI t 0 (zlg h x) > atI f 0 (zlg h x))
theorem zvg (l:List Ev):(l.map evR).take (min (l.map evR).length 60)=(l.take 60).map evR:=by
 rw [oM,←List.map_take,Nat.min_comm,←List.take_take,List.take_length]
theorem ykm (h:Hist) (la:Big h):y8 Tryz.prog 31 [.agg (y9 h)] [] (fun r h'=>∃(sE sO sM:SV) (E:List (SV×Ev)),E.map (·.2)=(h.evs.take 60)∧h'= .row sE.v 9 60 (E.map yi4):: .row sO.v 2 87 (h.ords.map zet):: .row sM.v 4 109 (h.mats.map zee)::scR 70 E∧r= .agg [zcw h.ts,zcw h.ss,zcw h.os,zcw h.ps,.v sE.v,.v sO.v,.v sM.v,zux h.wants]):=by
 refine z6 Tryz.func31 rfl rfl rfl ?_
 refine rn ?_;refine z7 rfl (w8 rfl rfl rfl fun b1=> ?_)
 refine z7 rfl (y7 rfl fun b2=> ?_)
 refine rn ?_;refine zuo 15 rfl ?_
 refine mq rfl rfl qrA ?_;refine mq rfl rfl qrA ?_;refine mq rfl rfl qrA ?_;refine mq rfl rfl qrA ?_;refine mq rfl rfl qrA ?_;refine mq rfl rfl (ygr (h.evs.map evR).length 60 rfl rfl) ?_
 refine mq rfl rfl (zru (rows':=(h.evs.take 60).map evR) rfl rfl (Nat.min_le_left _ _) (zvg h.evs)) ?_
 refine ycq (yg8 9 60 ((h.evs.take 60).map evR)) rfl rfl rfl (ztt (z8.of_fun (zv1 _ (by rw [oM,List.length_take];omega) (ykt _)))) ?_
 refine rn ?_;refine ycq (yg8 2 87 (h.ords.map zet)) rfl rfl rfl (ztt (z8.of_fun (zqn _ (by rw [oM];have:=la.ords;omega) (yg1 _)))) ?_
 refine rn ?_;refine ycq (yg8 4 109 (h.mats.map zee)) rfl rfl rfl (ztt (z8.of_fun (zqo _ (by rw [oM];have:=la.mats;omega) (yg2 _)))) ?_
 refine rn ?_;refine yo1 ⟨.refl _,?_⟩
 refine rn ?_;refine zn4 fun s11=> ?_
 refine rn ?_;refine zn4 fun s14=> ?_
 refine rn ?_;refine zn4 fun s17=> ?_
 refine rn0 ?_;refine w7 ?_;refine w7 ?_;refine zfr (zag ((pt3 _ _ _ _ _).trans (.cons _ ((pt3 _ _ _ _ _).trans (.cons _ ((pt2 _ _ _ _).trans (.cons _ (pt1 _ _ _)))))))) ?_
 refine rn ?_;refine zak (fun x:Nat×List (SV×Ev)=>x.1≤(h.evs.take 60).length∧x.2.map (·.2)=(h.evs.take 60).take x.1) (fun x=>⟨[(24,iv x.1),(23,iv ((h.evs.take 60).map evR).length),(1,pZ b1),(2,pZ b2)],.box b2 28 zp6:: .box b1 28 [zcw h.ts,zcw h.ss,zcw h.os,zcw h.ps,.v s11.v,.v s14.v,.v s17.v,zux h.wants]:: .row s11.v 9 60 (x.2.map yi4++((h.evs.take 60).drop x.1).map evR):: .row s14.v 2 87 (h.ords.map zet):: .row s17.v 4 109 (h.mats.map zee)::scR 70 x.2,[]⟩) (fun x=>(h.evs.take 60).length - x.1) (0,[]) ⟨by omega,rfl⟩
  (u0 (.cons _ _ _ rfl (.cons _ _ _ rfl (.cons _ _ _ rfl (.cons _ _ _ rfl (.nil)))))) ?_
 rintro ⟨k,x⟩ ⟨hk,hx⟩
 simp only at hk hx
 have hxl:=ycn hx hk
 refine rn ?_;refine y0 rfl (fun hc25=> ?_) (fun hc25=> ?_)
 ·have hk2:k < (h.evs.take 60).length:=by have q:=oT hc25;rw [oM] at q;omega
  obtain ⟨e,he⟩:∃e,e=(h.evs.take 60)[k]:=⟨_,rfl⟩
  have hd:=List.drop_eq_getElem_cons hk2
  rw [←he] at hd
  have hrow:(x.map yi4++((h.evs.take 60).drop k).map evR)[k]? =some (evR e):=yhe hxl hd
  have hmem:e∈(h.evs.take 60):=by rw [he];exact List.getElem_mem hk2
  have hle:(h.evs.take 60).length≤60:=by rw [List.length_take];omega
  have hk3:k < (x.map yi4++((h.evs.take 60).drop k).map evR).length:=by rw [yhd hxl hk];exact hk2
  refine rn ?_;refine zuo 10 rfl ?_
  refine mq rfl rfl qrA ?_;refine mq rfl rfl qrA ?_;refine mq rfl rfl qrA ?_;refine mq rfl rfl qrA ?_;refine mq rfl rfl qrA ?_;refine mq rfl rfl qrA ?_;refine mq rfl rfl (zb1 rfl rfl hk3) ?_
  refine mq rfl rfl qrA ?_;refine mq rfl rfl (zb9 rfl hrow rfl) ?_
  refine ycq (yg8 3 70 (e.scan.map zax)) rfl rfl rfl (ztt (z8.of_fun (zoo _ (by rw [oM];have:=(la.scans e (List.mem_of_mem_take hmem));omega) (zh2 _)))) ?_
  refine yo1 ⟨.refl _,?_⟩
  refine rn ?_;refine zn4 fun s36=> ?_
  refine rn2 ?_;refine qq rfl rfl (zb1 rfl rfl hk3) ?_
  refine rn ?_;refine z7 rfl (zr2 rfl rfl rfl hrow rfl (Nat.le_of_ble_eq_true rfl) ?_)
  refine rn ?_;have hset:=yhc (f:=yi4) (g:=evR) (a:=(s36,e)) (r:=(evR e).take 8++ [.v s36.v]++(evR e).drop (8+1)) hxl hd rfl
  have htl:scR 70 (x++ [(s36,e)])=scR 70 x++ [.row s36.v 3 70 (e.scan.map zax)]:=by simp [scR]
  exact ⟨(k+1,x++ [(s36,e)]),⟨by omega,ycm hx hk2 he⟩,by simp only [htl];exact v8 (zag (zcn [_] _)) (by rw [←hset];exact (u0 (.cons _ _ _ rfl (.cons _ _ _ rfl (.cons _ _ _ rfl (.cons _ _ _ rfl (.nil))))))),by simp only;omega⟩
 ·obtain rfl:k=(h.evs.take 60).length:=by
   have q:=oF hc25
   rw [oM] at q
   omega
  rw [List.take_length] at hx
  rw [List.drop_length,List.map_nil,List.append_nil]
  refine rn ?_;exact zdy (.cons _ _ _ _ (.agg _ _ _ _ _ _ _ rfl inferInstance inferInstance inferInstance rfl) .nil) (.drop [_,_] _ _) ⟨s11,s14,s17,x,hx,rfl,rfl⟩
theorem ynq (h:Hist) (la:Big h):y8 Tryz.prog 31 [.agg (y9 h)] [] (fun r h'=>h'= []∧r= .agg (y9 (zae h))):=
 (ykm h la).ventR (by
  rintro _ _ ⟨sE,sO,sM,E,hE,rfl,rfl⟩
  exact ⟨_,_,zrz [] sE.v sO.v sM.v (zae h) E 60 87 109 70 _ hE (by simp) (by simp [zae]) (by simp [zae]) (fun r hr=>by simp [hr]),rfl,rfl⟩)
def zzc (e:Ev):List AV:= [iv e.kind,iv e.t,iv e.s,iv e.l,iv e.o,iv e.v.t,iv e.v.k,iv e.p,.v (.slice none 0 0)]
theorem yg4 (l:List Ev):∀r∈l.map zzc,r.all AV.one=true:=by
 intro r hr;obtain ⟨a,_,rfl⟩:=List.mem_map.1 hr;rfl
theorem ybb  :y8 Tryz.prog 83 [] [] (fun r h'=>∃s:SV,h'= [.row s.v 9 60 ((srE 2).map zzc)]∧r= .agg [.list true 1 [[sv (wT 48)],[sv (wT 49)],[sv (wT 50)]],.list true 1 [[sv zui]],.list true 1 [[sv bxx]],.list true 1 [[sv bPP]],.v s.v,.list true 2 [[iv 0,.list true 1 [[iv 1],[iv 2]]]],.list true 4 [[iv 0,iv 0,bv false,.list true 1 [[iv 2]]]],.v (.slice none 0 0)]):=by
 refine z6 Tryz.func83 rfl rfl rfl ?_
 refine rn ?_;refine z7 rfl (y7 rfl fun b0=> ?_)
 refine rn ?_;refine qv rfl rfl (q6 rfl rfl) ?_
 refine qv rfl rfl (q6 rfl rfl) ?_
 refine qv rfl rfl (q6 rfl rfl) ?_
 refine qv rfl rfl (q6 rfl rfl) ?_
 refine rn ?_;refine z7 rfl (y7 rfl fun b1=> ?_)
 first|refine z7 rfl (j5 rfl rfl rfl ?_)|refine z7 rfl (zaj rfl rfl rfl rfl (Nat.le_of_ble_eq_true rfl) ?_)
 refine j4 (zai ?_)
 refine w7 (y6 ?_)
 refine qq rfl rfl (zaa (out:=zzc (yi6 0)) rfl (by rfl)) ?_
 refine qq rfl rfl (zaa (out:=zzc (⟨3,0,0,0,0,⟨0,0⟩,0,[]⟩)) rfl (by rfl)) ?_
 refine qq rfl rfl (zaa (out:=zzc (⟨4,0,0,0,0,⟨0,0⟩,0,[]⟩)) rfl (by rfl)) ?_
 refine qq rfl rfl (zaa (out:=zzc (yi5 0)) rfl (by rfl)) ?_
 refine z7 rfl (zc0 (rows:=(srE 0).map zzc) rfl rfl rfl (fun s12=> ?_))
 refine j8 s12 fun sw hsw=> ?_
 subst hsw
 refine rn ?_;refine zl6 2 (fun k s=>⟨[(2,iv (k+1:Nat)),(0,pZ b0),(1,pZ b1)],.row s.v 9 60 ((srE k).map zzc):: .box b1 28 [.list true 1 [[sv (wT 48)],[sv (wT 49)],[sv (wT 50)]],.list true 1 [[sv zui]],.list true 1 [[sv bxx]],.list true 1 [[sv bPP]],.v s.v,.v (.slice none 0 0),.v (.slice none 0 0),.v (.slice none 0 0)]:: .box b0 28 zp6:: [],[]⟩) sw es ?_
 intro k s lk
 refine rn ?_;refine y0 rfl (fun hc15=> ?_) (fun hc15=> ?_)
 ·have hk:k < 2:=by have q:=oT hc15;omega
  have hb:=yfn k
  refine za5 ?_;refine zai ?_;refine w7 ?_;refine zdj ?_;refine y6 ?_;refine q1 ?_;refine q1 ?_;refine q1 ?_;refine qq rfl rfl (zaa (out:=zzc (yi6 (k+1:Nat))) rfl (by rfl)) ?_
  refine q1 ?_;refine q1 ?_;refine qq rfl rfl (zaa (out:= [iv (k+1:Nat),iv 1]) rfl (by rfl)) ?_
  refine qq rfl rfl (zaa (out:=zzc (ym4 (k+1:Nat) 0)) rfl (by rfl)) ?_
  refine q1 ?_;refine qq rfl rfl (zaa (out:=zzc (yi5 (k+1:Nat))) rfl (by rfl)) ?_
  refine qv rfl rfl (q6 rfl rfl) ?_
  refine z7 rfl (j3 rfl rfl (by simp only [oM,List.length_append,List.length_cons,List.length_nil];omega) rfl (fun s29=> ?_) (yg4 [yi6 (k+1:Nat),ym4 (k+1:Nat) 0,yi5 (k+1:Nat)]))
  refine j8 s29 fun sw hsw=> ?_
  subst hsw
  refine rn ?_;exact ⟨hk,sw,by rw [yjh,List.map_append];exact eA⟩
 ·have qk:k=2:=by have q:=oF hc15;omega
  refine rn ?_;refine qv rfl rfl (q6 rfl rfl) ?_
  refine rn ?_;refine qv rfl rfl (q6 rfl rfl) ?_
  refine rn ?_;refine qv rfl rfl (q6 rfl rfl) ?_
  refine rn ?_;refine qv rfl rfl (q6 rfl rfl) ?_
  refine rn ?_;exact zdy (.cons _ _ _ _ (.agg _ _ _ _ _ _ _ rfl inferInstance inferInstance inferInstance rfl) .nil) (.trans (.perm ((pt1 _ _ _).trans (.cons _ (pt1 _ _ _))) _) (.drop [_,_] _ _)) ⟨s,by rw [qk],rfl⟩
theorem zrh:y8 Tryz.prog 83 [] [] (fun r h'=>h'= []∧r= .agg (y9 rwH)):=
 ybb.ventR (by
  rintro _ _ ⟨s,rfl,rfl⟩
  exact ⟨_,_,.trans (zjz [.list true 1 [[sv (wT 48)],[sv (wT 49)],[sv (wT 50)]],.list true 1 [[sv zui]],.list true 1 [[sv bxx]],.list true 1 [[sv bPP]]] [.list true 2 [[iv 0,.list true 1 [[iv 1],[iv 2]]]],.list true 4 [[iv 0,iv 0,bv false,.list true 1 [[iv 2]]]],.v (.slice none 0 0)]) (.le (Sb.aggs (bs:=y9 rwH) (by exact ⟨.unfull,.unfull,.unfull,.unfull,(.lists (by simp) ⟨⟨.refl _,.refl _,.refl _,.refl _,.refl _,.refl _,.refl _,.refl _,.nil _ _,trivial⟩,⟨.refl _,.refl _,.refl _,.refl _,.refl _,.refl _,.refl _,.refl _,.nil _ _,trivial⟩,⟨.refl _,.refl _,.refl _,.refl _,.refl _,.refl _,.refl _,.refl _,.nil _ _,trivial⟩,⟨.refl _,.refl _,.refl _,.refl _,.refl _,.refl _,.refl _,.refl _,.nil _ _,trivial⟩,⟨.refl _,.refl _,.refl _,.refl _,.refl _,.refl _,.refl _,.refl _,.nil _ _,trivial⟩,⟨.refl _,.refl _,.refl _,.refl _,.refl _,.refl _,.refl _,.refl _,.nil _ _,trivial⟩,⟨.refl _,.refl _,.refl _,.refl _,.refl _,.refl _,.refl _,.refl _,.nil _ _,trivial⟩,⟨.refl _,.refl _,.refl _,.refl _,.refl _,.refl _,.refl _,.refl _,.nil _ _,trivial⟩,⟨.refl _,.refl _,.refl _,.refl _,.refl _,.refl _,.refl _,.refl _,.nil _ _,trivial⟩,⟨.refl _,.refl _,.refl _,.refl _,.refl _,.refl _,.refl _,.refl _,.nil _ _,trivial⟩,trivial⟩),(.lists (by simp) ⟨⟨.refl _,.unfull,trivial⟩,trivial⟩),(.lists (by simp) ⟨⟨.refl _,.refl _,.refl _,.unfull,trivial⟩,trivial⟩),.nil _ _,trivial⟩)).le),rfl,rfl⟩)
theorem yn0:Lim 4611686018427387904 rwH:=⟨by decide,by decide,by decide,by decide,by decide,by decide,by decide,by decide,by decide,by decide,by decide⟩
abbrev yjo:Conf:=⟨0,1,3,1,5,0,0⟩
abbrev yov:Conf:=⟨0,2,4,2,8,0,0⟩
theorem ybj:rwJ rwH yjo=true:=yf5 (yf4 zfx rfl (by decide) ybk)
theorem rA1 (rO:Nat) (oK:Obj) (hK:KO oK):y8 Tryz.prog 32 [.agg (y9 rwH)] (.glob 2 156 y2:: .glob 4 305 y3:: .glob 5 308 y1:: .glob 3 246 w9:: .glob 1 175 k7:: .glob 0 171 [mpv rO]:: .obj rO oK:: []) (fun r h'=>h'= .glob 2 156 y2:: .glob 4 305 y3:: .glob 5 308 y1:: .glob 3 246 w9:: .glob 1 175 k7:: .glob 0 171 [mpv rO]:: .obj rO oK:: []∧r= .tup [zib [yjo],iv 0]):=(yjs rwH yn0 rO oK hK).mono fun _ _ q=>⟨q.1,by rw [q.2,zkz zfx,zw9,zfx]⟩
theorem rA2 (rO:Nat) (oK:Obj) (hK:KO oK):y8 Tryz.prog 33 [.agg (y9 rwH)] (.glob 2 156 y2:: .glob 4 305 y3:: .glob 5 308 y1:: .glob 3 246 w9:: .glob 1 175 k7:: .glob 0 171 [mpv rO]:: .obj rO oK:: []) (fun r h'=>h'= .glob 2 156 y2:: .glob 4 305 y3:: .glob 5 308 y1:: .glob 3 246 w9:: .glob 1 175 k7:: .glob 0 171 [mpv rO]:: .obj rO oK:: []∧r= .tup [zib [yov],iv 0]):=(zrk rwH yn0 rO oK hK).mono fun _ _ q=>⟨q.1,by rw [q.2,zkz zfx,zw7,zfx]⟩
theorem rA3 (rO:Nat) (oK:Obj) (hK:KO oK):y8 Tryz.prog 40 [.agg (y9 rwH),.agg (j7 yjo)] (.glob 2 156 y2:: .glob 4 305 y3:: .glob 5 308 y1:: .glob 3 246 w9:: .glob 1 175 k7:: .glob 0 171 [mpv rO]:: .obj rO oK:: []) (fun r h'=>h'= .glob 2 156 y2:: .glob 4 305 y3:: .glob 5 308 y1:: .glob 3 246 w9:: .glob 1 175 k7:: .glob 0 171 [mpv rO]:: .obj rO oK:: []∧r=bv true):=(yea rwH yn0 rO oK hK yjo).mono fun _ _ q=>⟨q.1,by rw [q.2,ybj]⟩
theorem rEq {f g:Bool} (c:Conf):y8 Tryz.prog 19 [.list f 7 [j7 c],.list g 7 [j7 c]] [] (fun r h'=>h'= []∧r=bv true):=yl6 [c] (by show 1≤_;decide)
theorem yfe (rO:Nat) (oK:Obj) (hK:KO oK):y8 Tryz.prog 30 [] (.glob 2 156 y2:: .glob 4 305 y3:: .glob 5 308 y1:: .glob 3 246 w9:: .glob 1 175 k7:: .glob 0 171 [mpv rO]:: .obj rO oK:: []) (fun r h'=>h'= .glob 2 156 y2:: .glob 4 305 y3:: .glob 5 308 y1:: .glob 3 246 w9:: .glob 1 175 k7:: .glob 0 171 [mpv rO]:: .obj rO oK:: []∧r=bv true):=by
 refine z6 Tryz.func30 rfl rfl rfl ?_
 refine rn ?_;refine qv rfl rfl (y4 rfl rfl (z8.pure (R:=fun r=>r= .agg (y9 rwH)) (z8.of_fun zrh))) ?_
 refine qv rfl rfl (y4 rfl rfl (z8.of_fun (rA1 rO oK hK))) ?_
 refine rn ?_;refine qv rfl rfl (y4 rfl rfl (z8.pure (R:=fun r=>r= .agg (y9 rwH)) (z8.of_fun zrh))) ?_
 refine qv rfl rfl (y4 rfl rfl (z8.of_fun (rA2 rO oK hK))) ?_
 refine q1 ?_;refine q1 ?_;refine q1 ?_;refine q1 ?_;refine q1 ?_;refine j4 (zai ?_)
 refine w7 (y6 ?_)
 refine qq rfl rfl (zaa (out:=j7 yjo) rfl (by rfl)) ?_
 refine z7 rfl (y7 rfl fun b5=> ?_)
 refine rn ?_;refine zad 21 rfl ?_
 refine rn ?_;refine dv rfl rfl (q6 rfl rfl) ?_
 refine dv rfl rfl (by exact y4 rfl rfl (z8.pure (R:=fun r=>r=bv true) (z8.of_fun (rEq _)))) ?_
 refine dq rfl rfl qrA ?_;refine dq rfl rfl qrA ?_;refine dq rfl rfl qrA ?_;refine dq rfl rfl (zaa (out:=j7 yov) rfl (by rfl)) ?_
 refine dv rfl rfl (q6 rfl rfl) ?_
 refine dv rfl rfl (by exact y4 rfl rfl (z8.pure (R:=fun r=>r=bv true) (z8.of_fun (rEq _)))) ?_
 refine rn ?_;refine dv rfl rfl (by exact y4 rfl rfl (z8.pure (R:=fun r=>r= .agg (y9 rwH)) (z8.of_fun zrh))) ?_
 refine rn ?_;refine qv rfl rfl (y4 rfl rfl (z8.qt (z8.of_fun (rA3 rO oK hK)) ((pt1 _ _ _).trans (.cons _ ((pt1 _ _ _).trans (.cons _ ((pt1 _ _ _).trans (.cons _ ((pt1 _ _ _).trans (.cons _ ((pt1 _ _ _).trans (.cons _ ((pt1 _ _ _).trans (.cons _ (pt1 _ _ _))))))))))))))) ?_
 refine rn ?_;refine rq 1 ?_
 exact ⟨rfl,rfl⟩
theorem ybm (h:Hist) (kd:Int):(zhg h kd).length≤9000000:=by
 by_cases hc:u3 h=0
 ·rw [zkz hc,zen,(zd9 ze7 _).length_eq,oM];exact zuk hc kd
 ·rw [zxc hc];exact Nat.zero_le _
theorem zys {h:Hist} {n many x:Int} (he:zex h n many=0) (h0:0≤x) (h1:x < h.os.length):(zba h x).length≤4611686018427387904:=by
 obtain ⟨_,e,_⟩:=zfk (zv7 he).1 h0 h1
 rw [e,zdo (zdu (zv7 he).1).1];exact Nat.le_trans (zkl _ _) (Nat.le_trans (zsx he).ts (by decide))
theorem zy8 {α:Type} (p:α→Bool):∀(l:List α) (i:Nat), -1≤zbf p i l∧zbf p i l < (i+l.length:Nat)+1
 | [],i=>by simp only [zbf];omega
 |a::r,i=>by
  have:=zy8 p r (i+1)
  simp only [zbf,List.length_cons]
  split
  ·omega
  ·omega
theorem yhu (h:Hist) (la:h.evs.length≤1000000) (x t:Int) (v:Ver) (b3 b4 b5:Nat):y8 Tryz.prog 103 [iv t,pZ b3,pZ b4,pZ b5] (.box b3 28 (y9 h):: .box b4 3 [iv x]:: .box b5 57 (yat v):: []) (fun r h'=>h'= .box b3 28 (y9 h):: .box b4 3 [iv x]:: .box b5 57 (yat v):: []∧r=bv (zwa (zog h.evs t x)==v)):=by
 refine z6 Tryz.func103 rfl rfl rfl ?_
 refine rn ?_;refine qv rfl rfl (y4 rfl rfl (z8.of_fun (yn2 h la t x _))) ?_
 refine rn ?_;refine z7 rfl (y7 rfl fun b6=> ?_)
 refine rn ?_;refine rq 1 ?_
 exact ⟨rfl,by rw [←ylw,←zj3];rfl⟩
theorem ylb (h:Hist) (la:Lim 4611686018427387904 h) (x:Int) (v:Ver):y8 Tryz.prog 43 [.agg (y9 h),iv x,.agg (yat v)] (.glob 2 156 y2:: .glob 4 305 y3:: .glob 5 308 y1:: .glob 3 246 w9:: []) (fun r h'=>h'= .glob 2 156 y2:: .glob 4 305 y3:: .glob 5 308 y1:: .glob 3 246 w9:: []∧r= .tup [iv (zmh h x v).1,bv (zmh h x v).2]):=by
 refine z6 Tryz.func43 rfl rfl rfl ?_
 refine rn ?_;refine z7 rfl (w8 rfl rfl rfl fun b3=> ?_)
 refine z7 rfl (w8 rfl rfl rfl fun b4=> ?_)
 refine z7 rfl (w8 rfl rfl rfl fun b5=> ?_)
 refine rn ?_;refine qv rfl rfl (y4 rfl rfl (z8.qt (z8.of_fun (zyr h la x)) ((pt3 _ _ _ _ _).trans (.cons _ ((pt3 _ _ _ _ _).trans (.cons _ ((pt3 _ _ _ _ _).trans (.cons _ (pt3 _ _ _ _ _))))))))) ?_
 refine rn ?_;refine y0 rfl (fun hc17=> ?_) (fun hc17=> ?_)
 ·have hc:zex h x h.os.length≠0:=by simpa using hc17
  refine rn ?_;refine rq 3 ?_
  exact ⟨rfl,by rw [zmh,if_neg hc];rfl⟩
 ·have hc:zex h x h.os.length=0:=by simpa using hc17
  refine w7 (y6 ?_)
  refine q1 ?_;refine qq rfl rfl (zaa (out:= [iv 0,iv 0]) rfl (by rfl)) ?_
  refine rn ?_;refine y0 rfl (fun hc20=> ?_) (fun hc20=> ?_)
  ·have hv:v=⟨0,0⟩:=eq_of_beq (by rw [←zj3];exact hc20)
   refine rn ?_;refine rq 3 ?_
   exact ⟨rfl,by rw [zmh,if_pos hc,if_pos hv];rfl⟩
  ·have hv:v≠⟨0,0⟩:=beq_eq_false_iff_ne.1 (by rw [←zj3];exact hc20)
   have hn:=zv7 hc
   refine za5 ?_;refine rn0 ?_;refine w7 ?_;rw [onE,if_pos hc]
   refine rn ?_;refine qv rfl rfl (y4 rfl rfl (z8.of_fun (zf8 (zba h x) _ (fun t=>zwa (zog h.evs t x)==v) _ (fun t _=>z8.qt (z8.of_acall (fs:= []) (cs:= [pZ b3,pZ b4,pZ b5]) (yhu h (zz5 hc) x t v b3 b4 b5)) ((pt2 _ _ _ _).trans (.cons _ (pt1 _ _ _)))) (zys hc hn.2.1 hn.2.2)))) ?_
   refine q1 ?_;refine j4 (zai ?_)
   refine w7 (y6 ?_)
   refine q1 ?_;refine qq rfl rfl (zc5 rfl rfl rfl (by have:=zy8 (fun t=>zwa (zog h.evs t x)==v) (zba h x) 0;have:=zys hc hn.2.1 hn.2.2;omega)) ?_
   refine rn ?_;refine rq 3 ?_
   exact ⟨rfl,by rw [zmh,if_pos hc,if_neg hv];rfl⟩
theorem ylu {h:Hist} (hc:u3 h=0) {kd:Int} {c:Conf} (hm:c∈zhg h kd):∃a,∃ha:a < h.evs.length,h.evs[a].kind=kd∧c∈zbl h h.evs[a] a:=by
 rw [zkz hc,znv,zra] at hm
 obtain ⟨a,ha,_,hk,hf⟩:=(zk0 (Nat.le_refl _)).1 hm.1
 exact ⟨a,ha,hk,hf⟩
theorem yh5 {h:Hist} (hc:u3 h=0) {kd:Int} {i:Nat} (hi:i < (zhg h kd).length) (h1:1≤i):(((zhg h kd)[i - 1]'(by omega)).f==(zhg h kd)[i].f)=true→(((zhg h kd)[i - 1]'(by omega)).t==(zhg h kd)[i].t)=false:=by
 intro e
 have hk:=zoz (za0 h kd h.evs.length)
 rw [←znv,←zkz hc] at hk
 have:=List.pairwise_iff_getElem.1 hk (i - 1) i (by omega) hi (by omega)
 refine beq_eq_false_iff_ne.2 fun e2=>this ?_
 rw [zea,zea,eq_of_beq e,e2]
theorem yob {h:Hist} (hc:u3 h=0) {kd:Int} {i:Nat} (hi:i < (zhg h kd).length) (h1:1≤i):decide (ze7 ((zhg h kd)[i - 1]'(by omega)) (zhg h kd)[i] ≥ 0)=false:=by
 have hk:=zq9 (za0 h kd h.evs.length)
 rw [←znv,←zkz hc] at hk
 have:ze7 _ _ < 0:=List.pairwise_iff_getElem.1 hk (i - 1) i (by omega) hi (by omega)
 exact decide_eq_false (by omega)
theorem ztj {h:Hist} (hc:u3 h=0) {x:Int} (h0:0≤x) (h1:x < h.os.length) {v:Ver} {r:Int} (hr:zij h x v=some r):zmh h x v=(r,true):=by
 rw [zmh,if_pos (zqz hc ⟨h0,h1⟩)];exact ygc (zaz.1 hc) h0 h1 hr
theorem zrl (h:Hist) (la:Lim 4611686018427387904 h) (rO:Nat) (oK:Obj) (hK:KO oK) (c:Conf) (hm:rwJ h c=true):y8 Tryz.prog 40 [.agg (y9 h),.agg (j7 c)] (.glob 2 156 y2:: .glob 4 305 y3:: .glob 5 308 y1:: .glob 3 246 w9:: .glob 1 175 k7:: .glob 0 171 [mpv rO]:: .obj rO oK:: []) (fun r h'=>h'= .glob 2 156 y2:: .glob 4 305 y3:: .glob 5 308 y1:: .glob 3 246 w9:: .glob 1 175 k7:: .glob 0 171 [mpv rO]:: .obj rO oK:: []∧r=bv true):=(yea h la rO oK hK c).mono fun _ _ q=>⟨q.1,by rw [q.2,hm]⟩
theorem zyq (h:Hist) (la:Lim 4611686018427387904 h) (x:Int) (v:Ver) {k:Int} (hr:zmh h x v=(k,true)):y8 Tryz.prog 43 [.agg (y9 h),iv x,.agg (yat v)] (.glob 2 156 y2:: .glob 4 305 y3:: .glob 5 308 y1:: .glob 3 246 w9:: []) (fun r h'=>h'= .glob 2 156 y2:: .glob 4 305 y3:: .glob 5 308 y1:: .glob 3 246 w9:: []∧r= .tup [iv k,bv true]):=(ylb h la x v).mono fun _ _ q=>⟨q.1,by rw [q.2,hr]⟩
theorem yf0 {h:Hist} (hc:u3 h=0) {c:Conf} (hm:c∈zhg h 4):∃(f t o p:Int) (a b:Nat) (r k:Int),c=⟨f,t,4,a,b,o,p⟩∧∃ha:a < h.evs.length,∃hb:b < h.evs.length,f≠t∧rwJ h ⟨f,t,4,a,b,o,p⟩=true∧(h.evs[a].kind=4∧h.evs[a].t=f∧h.evs[a].p=p)∧h.evs[b].t=t∧(0≤o∧∃hk:o.toNat < (zb3 h h.evs[a] a).length,zmh h o (zb3 h h.evs[a] a)[o.toNat].v=(r,true))∧zmh h o h.evs[b].v=(k,true)∧r < k∧k∈chL h p o∧zg3 h p o=0:=by
 obtain ⟨a,ha,h4,hf⟩:=ylu hc hm
 obtain ⟨⟨o0,o1⟩,k4,hne,ea,ef,ep,_,hp,r,k,⟨hk,hr⟩,hrk,hch,b,hb,eb,b2,bt,bo,hrb⟩:=zkx (zaz.1 hc) ha h4 hf
 have hcv:c=⟨c.f,c.t,4,a,b,c.o,c.p⟩:=by
  obtain ⟨f,t,kk,a',b',o,p⟩:=c
  simp only at k4 ea eb ⊢
  rw [k4,ea,eb]
 refine ⟨c.f,c.t,c.o,c.p,a,b,r,k,hcv,ha,hb,hne,?_,⟨h4,ef.symm,ep.symm⟩,bt,⟨o0,hk,ztj hc o0 o1 hr⟩,ztj hc o0 o1 hrb,hrk,hch,zrg.2 ⟨hc,⟨o0,o1⟩,hp⟩⟩
 rw [←hcv];exact yf5 (yf4 hc ea ha hf)
def zfj (h:Hist):Hist:={h with mats:= []}
theorem zld {h:Hist} {N:Nat} (la:Lim N h):Lim N (zfj h):=⟨la.ts,la.ss,la.os,la.ps,la.evs,la.ords,Nat.zero_le _,la.wants,la.scans,la.ordts,fun e he=>by cases he⟩
theorem ybl (h:Hist):zhg (zfj h) 4= []:=by
 rw [zhg];split
 ·exact zpc rfl
 ·rfl
theorem yhh (h:Hist) (la:Lim 4611686018427387904 h) {a:Nat} (ha:a < h.evs.length) (hc:u3 h=0) (h4:h.evs[a].kind=4):y8 Tryz.prog 41 [.agg (y9 h),iv (a:Int)] (.glob 2 156 y2:: .glob 4 305 y3:: .glob 5 308 y1:: .glob 3 246 w9:: []) (fun r h'=>h'= .glob 2 156 y2:: .glob 4 305 y3:: .glob 5 308 y1:: .glob 3 246 w9:: []∧r= .tup [zjd (zb3 h h.evs[a] a),iv 0]):=(yei h la a).mono fun _ _ q=>⟨q.1,by rw [q.2,(ymv ha hc h4).1,(ymv ha hc h4).2]⟩
theorem yhl (h:Hist) (la:Lim 4611686018427387904 h) (p x:Int) (ht:zg3 h p x=0):y8 Tryz.prog 42 [.agg (y9 h),iv p,iv x] (.glob 2 156 y2:: .glob 4 305 y3:: .glob 5 308 y1:: .glob 3 246 w9:: []) (fun r h'=>h'= .glob 2 156 y2:: .glob 4 305 y3:: .glob 5 308 y1:: .glob 3 246 w9:: []∧r= .tup [zb5 (chL h p x),iv 0]):=(yej h la p x).mono fun _ _ q=>⟨q.1,by rw [q.2,ht]⟩
theorem zzm {f:Bool} (l:List Int) (n:Int) (hl:l.length≤4611686018427387904) (hm:n∈l):y8 Tryz.prog 44 [.list f 1 (l.map zbs),iv n] [] (fun r h'=>h'= []∧r=bv true):=(zln l n hl).mono fun _ _ q=>⟨q.1,by rw [q.2,List.contains_iff_mem.2 hm]⟩
theorem ybh (h:Hist) (la:Lim 4611686018427387904 h) (rO:Nat) (oK:Obj) (hK:KO oK) (hc:u3 (zfj h)=0):y8 Tryz.prog 33 [.agg (y9 (zfj h))] (.glob 2 156 y2:: .glob 4 305 y3:: .glob 5 308 y1:: .glob 3 246 w9:: .glob 1 175 k7:: .glob 0 171 [mpv rO]:: .obj rO oK:: []) (fun r h'=>h'= .glob 2 156 y2:: .glob 4 305 y3:: .glob 5 308 y1:: .glob 3 246 w9:: .glob 1 175 k7:: .glob 0 171 [mpv rO]:: .obj rO oK:: []∧r= .tup [zib [],iv 0]):=(zrk (zfj h) (zld la) rO oK hK).mono fun _ _ q=>⟨q.1,by rw [q.2,ybl,hc]⟩
theorem ybi (x:Hist)  (lb:Big x)  (rO:Nat) (oK:Obj) (hK:KO oK):y8 Tryz.prog 7 [.agg (y9 x)] (.glob 2 156 y2:: .glob 4 305 y3:: .glob 5 308 y1:: .glob 3 246 w9:: .glob 1 175 k7:: .glob 0 171 [mpv rO]:: .obj rO oK:: []) (fun r h'=>h'= .glob 2 156 y2:: .glob 4 305 y3:: .glob 5 308 y1:: .glob 3 246 w9:: .glob 1 175 k7:: .glob 0 171 [mpv rO]:: .obj rO oK:: []∧r=bv true):=by
 refine z6 Tryz.func7 rfl rfl rfl ?_
 have hgE:=zvh x
 refine rn ?_;refine z7 rfl (w8 rfl rfl rfl fun b1=> ?_)
 refine rn ?_;refine qv rfl rfl (y4 rfl rfl (z8.qt (z8.of_fun (yfe rO oK hK)) ((pt1 _ _ _).trans (.cons _ ((pt1 _ _ _).trans (.cons _ ((pt1 _ _ _).trans (.cons _ ((pt1 _ _ _).trans (.cons _ ((pt1 _ _ _).trans (.cons _ ((pt1 _ _ _).trans (.cons _ (pt1 _ _ _))))))))))))))) ?_
 refine rn ?_;refine y0 rfl (fun hc20=> ?_) (fun hc20=> ?_)
 ·exact absurd hc20 (by decide)
 ·refine rn ?_;refine qv rfl rfl (y4 rfl rfl (zbh (ynq x lb) (Sbs.refl _))) ?_
  refine z7 rfl (y7 rfl fun b3=> ?_)
  refine rn ?_;refine qv rfl rfl (y4 rfl rfl (z8.qt (z8.of_fun (zrk (zae x) (zbv lb.lim) rO oK hK)) ((pt2 _ _ _ _).trans (.cons _ ((pt2 _ _ _ _).trans (.cons _ ((pt2 _ _ _ _).trans (.cons _ ((pt2 _ _ _ _).trans (.cons _ ((pt2 _ _ _ _).trans (.cons _ ((pt2 _ _ _ _).trans (.cons _ (pt2 _ _ _ _))))))))))))))) ?_
  refine rn ?_;refine y0 rfl (fun hc29=> ?_) (fun hc29=> ?_)
  ·have hc:u3 (zae x)≠0:=nzT hc29
   refine w7 (y6 ?_)
   refine q1 ?_;refine q1 ?_;refine qq rfl rfl (zao (c:=true) rfl rfl (congrArg some (by rw [zxc hc];rfl))) ?_
   refine rn ?_;refine qv rfl rfl (y4 rfl rfl (z8.qt (z8.of_fun (zse (zae x) (zbv lb.lim))) ((pt2 _ _ _ _).trans (.cons _ ((pt2 _ _ _ _).trans (.cons _ ((pt2 _ _ _ _).trans (.cons _ (pt2 _ _ _ _))))))))) ?_
   refine q1 ?_;refine qq rfl rfl (zao (c:=true) rfl rfl (congrArg some (beq_self_eq_true _))) ?_
   refine rn ?_;first|(refine rq 2 ?_;exact ⟨rfl,rfl⟩)|(refine rq 3 ?_;exact ⟨rfl,rfl⟩)
  ·have hc:u3 (zae x)=0:=nzF hc29
   have hLL:=ybm (zae x) 4
   refine rn ?_;refine zz1 ((zhg (zae x) 4).length) (fun i:Nat=>True) (fun i=> [(41,iv i)]) [(3,_),(4,_),(39,_),(40,_)] trivial ?_
   intro i li _
   refine rn ?_;refine y0 rfl (fun hc42=> ?_) (fun hc42=> ?_)
   ·have hi:=zef hc42
    have ri:=zcb (f:=j7) hi
    obtain ⟨f,t,o,p,a,b,r,k,hcv,ha,hb,hne,hJ,⟨ka,ta,pa⟩,tb,⟨o0,hk,hrs⟩,hrb,hlt,hmc,htab⟩:=yf0 hc (List.getElem_mem hi)
    have rea:((zae x).evs.map evR)[a]? =some (evR (zae x).evs[a]):=zcb ha
    have reb:((zae x).evs.map evR)[b]? =some (evR (zae x).evs[b]):=zcb hb
    have rse:((zb3 (zae x) (zae x).evs[a] a).map zax)[o.toNat]? =some (zax (zb3 (zae x) (zae x).evs[a] a)[o.toNat]):=zcb hk
    have hks:o.toNat < ((zb3 (zae x) (zae x).evs[a] a).map zax).length:=by rw [oM];exact hk
    have hchl:=zzu hc p o
    rw [hcv] at ri
    refine rn ?_;refine z7 rfl (y7 rfl fun b7=> ?_)
    refine rn0 ?_;refine w7 ?_;refine zqx (⟨[(97,bv false),(7,pZ b7),(3,pZ b3),(4,zib (zhg (zae x) 4)),(39,zib (zhg (zae x) 4)),(40,iv ((zhg (zae x) 4).map j7).length),(41,iv i)],.box b7 41 (j7 ⟨f,t,4,a,b,o,p⟩):: .box b3 28 (y9 (zae x)):: .box b1 28 (y9 x):: .glob 2 156 y2:: .glob 4 305 y3:: .glob 5 308 y1:: .glob 3 246 w9:: .glob 1 175 k7:: .glob 0 171 [mpv rO]:: .obj rO oK:: [],[]⟩) ?_ ?_
    ·refine zad 49 rfl ?_
     refine rn ?_;refine zcp (fun hg10_2=> ?_) (fun hg10_2=> ?_)
     ·have hi1:1≤i:=by have q:=oT hg10_2;omega
      have hpf:=yh5 hc hi hi1
      have hge:=yob hc hi hi1
      rw [hcv] at hpf hge
      have rp:((zhg (zae x) 4).map j7)[i - 1]? =some (j7 ((zhg (zae x) 4)[i - 1]'(by omega))):=zcb (by omega)
      refine dq rfl rfl qrA ?_;refine dq rfl rfl qrA ?_;refine dq rfl rfl (zgy (zc5 rfl rfl rfl (by omega)) (show AV.v (.int .i64 ((i:Int) - 1))=iv ((i - 1:Nat):Int) from congrArg iv (by omega))) ?_
      refine dq rfl rfl (zan rfl rfl rp) ?_
      refine rn ?_;refine zcp (fun hg10_12=> ?_) (fun hg10_12=> ?_)
      ·refine dq rfl rfl qrA ?_;refine dq rfl rfl qrA ?_;refine dq rfl rfl (zgy (zc5 rfl rfl rfl (by omega)) (show AV.v (.int .i64 ((i:Int) - 1))=iv ((i - 1:Nat):Int) from congrArg iv (by omega))) ?_
       refine dq rfl rfl (zan rfl rfl rp) ?_
       refine dq rfl rfl qrA ?_;refine dq rfl rfl qrA ?_;refine dq rfl rfl qrA ?_;refine dq rfl rfl qrA ?_;refine dq rfl rfl (zao (c:=false) rfl rfl (congrArg some (hpf hg10_12))) ?_
       refine dq rfl rfl qrA ?_;refine dq rfl rfl qrA ?_;refine dq rfl rfl qrA ?_;refine dq rfl rfl qrA ?_;refine dq rfl rfl (zgy (zc5 rfl rfl rfl (by omega)) (show AV.v (.int .i64 ((i:Int) - 1))=iv ((i - 1:Nat):Int) from congrArg iv (by omega))) ?_
       refine dq rfl rfl (zan rfl rfl rp) ?_
       refine rn ?_;refine dv rfl rfl (by exact y4 rfl rfl (zbh (zhr ((zhg (zae x) 4)[i - 1]'(by omega)) ⟨f,t,4,a,b,o,p⟩) (Sbs.refl _))) ?_
       refine dq rfl rfl (zao (c:=false) rfl rfl (congrArg some (hge))) ?_
       refine dq rfl rfl qrA ?_;refine dq rfl rfl qrA ?_;refine dq rfl rfl qrA ?_;refine dq rfl rfl qrA ?_;refine dq rfl rfl qrA ?_;refine dq rfl rfl (zao (c:=false) rfl rfl (congrArg some (rfl))) ?_
       refine dq rfl rfl qrA ?_;refine dq rfl rfl qrA ?_;refine dq rfl rfl qrA ?_;refine dq rfl rfl qrA ?_;refine dq rfl rfl qrA ?_;refine dq rfl rfl qrA ?_;refine dq rfl rfl (zao (c:=false) rfl rfl (congrArg some (beq_eq_false_iff_ne.2 hne))) ?_
       refine rn ?_;refine qv rfl rfl (y4 rfl rfl (z8.qt (z8.of_fun (zrl (zae x) (zbv lb.lim) rO oK hK ⟨f,t,4,a,b,o,p⟩ hJ)) ((pt3 _ _ _ _ _).trans (.cons _ ((pt3 _ _ _ _ _).trans (.cons _ ((pt3 _ _ _ _ _).trans (.cons _ ((pt3 _ _ _ _ _).trans (.cons _ ((pt3 _ _ _ _ _).trans (.cons _ ((pt3 _ _ _ _ _).trans (.cons _ (pt3 _ _ _ _ _))))))))))))))) ?_
       refine rn ?_;exact es
      ·refine ds rfl rfl ?_;refine ds rfl rfl ?_;refine ds rfl rfl ?_;refine ds rfl rfl ?_;refine ds rfl rfl ?_;refine ds rfl rfl ?_;refine ds rfl rfl ?_;refine ds rfl rfl ?_;refine ds rfl rfl ?_;refine dq rfl rfl qrA ?_;refine dq rfl rfl qrA ?_;refine dq rfl rfl qrA ?_;refine dq rfl rfl qrA ?_;refine dq rfl rfl (zgy (zc5 rfl rfl rfl (by omega)) (show AV.v (.int .i64 ((i:Int) - 1))=iv ((i - 1:Nat):Int) from congrArg iv (by omega))) ?_
       refine dq rfl rfl (zan rfl rfl rp) ?_
       refine rn ?_;refine dv rfl rfl (by exact y4 rfl rfl (zbh (zhr ((zhg (zae x) 4)[i - 1]'(by omega)) ⟨f,t,4,a,b,o,p⟩) (Sbs.refl _))) ?_
       refine dq rfl rfl (zao (c:=false) rfl rfl (congrArg some (hge))) ?_
       refine dq rfl rfl qrA ?_;refine dq rfl rfl qrA ?_;refine dq rfl rfl qrA ?_;refine dq rfl rfl qrA ?_;refine dq rfl rfl qrA ?_;refine dq rfl rfl (zao (c:=false) rfl rfl (congrArg some (rfl))) ?_
       refine dq rfl rfl qrA ?_;refine dq rfl rfl qrA ?_;refine dq rfl rfl qrA ?_;refine dq rfl rfl qrA ?_;refine dq rfl rfl qrA ?_;refine dq rfl rfl qrA ?_;refine dq rfl rfl (zao (c:=false) rfl rfl (congrArg some (beq_eq_false_iff_ne.2 hne))) ?_
       refine rn ?_;refine qv rfl rfl (y4 rfl rfl (z8.qt (z8.of_fun (zrl (zae x) (zbv lb.lim) rO oK hK ⟨f,t,4,a,b,o,p⟩ hJ)) ((pt3 _ _ _ _ _).trans (.cons _ ((pt3 _ _ _ _ _).trans (.cons _ ((pt3 _ _ _ _ _).trans (.cons _ ((pt3 _ _ _ _ _).trans (.cons _ ((pt3 _ _ _ _ _).trans (.cons _ ((pt3 _ _ _ _ _).trans (.cons _ (pt3 _ _ _ _ _))))))))))))))) ?_
       refine rn ?_;exact es
     ·refine ds rfl rfl ?_;refine ds rfl rfl ?_;refine ds rfl rfl ?_;refine ds rfl rfl ?_;refine ds rfl rfl ?_;refine ds rfl rfl ?_;refine ds rfl rfl ?_;refine ds rfl rfl ?_;refine ds rfl rfl ?_;refine ds rfl rfl ?_;refine ds rfl rfl ?_;refine ds rfl rfl ?_;refine ds rfl rfl ?_;refine ds rfl rfl ?_;refine ds rfl rfl ?_;refine ds rfl rfl ?_;refine ds rfl rfl ?_;refine ds rfl rfl ?_;refine ds rfl rfl ?_;refine ds rfl rfl ?_;refine ds rfl rfl ?_;refine ds rfl rfl ?_;refine ds rfl rfl ?_;refine ds rfl rfl ?_;refine ds rfl rfl ?_;refine ds rfl rfl ?_;refine ds rfl rfl ?_;refine ds rfl rfl ?_;refine ds rfl rfl ?_;refine ds rfl rfl ?_;refine dq rfl rfl qrA ?_;refine dq rfl rfl qrA ?_;refine dq rfl rfl qrA ?_;refine dq rfl rfl qrA ?_;refine dq rfl rfl (zao (c:=false) rfl rfl (congrArg some (rfl))) ?_
      refine dq rfl rfl qrA ?_;refine dq rfl rfl qrA ?_;refine dq rfl rfl qrA ?_;refine dq rfl rfl qrA ?_;refine dq rfl rfl qrA ?_;refine dq rfl rfl qrA ?_;refine dq rfl rfl (zao (c:=false) rfl rfl (congrArg some (beq_eq_false_iff_ne.2 hne))) ?_
      refine rn ?_;refine qv rfl rfl (y4 rfl rfl (z8.qt (z8.of_fun (zrl (zae x) (zbv lb.lim) rO oK hK ⟨f,t,4,a,b,o,p⟩ hJ)) ((pt3 _ _ _ _ _).trans (.cons _ ((pt3 _ _ _ _ _).trans (.cons _ ((pt3 _ _ _ _ _).trans (.cons _ ((pt3 _ _ _ _ _).trans (.cons _ ((pt3 _ _ _ _ _).trans (.cons _ ((pt3 _ _ _ _ _).trans (.cons _ (pt3 _ _ _ _ _))))))))))))))) ?_
      refine rn ?_;exact es
    ·refine y0 rfl (fun hc97=> ?_) (fun hc97=> ?_)
     ·exact absurd hc97 (by decide)
     ·refine za5 ?_;refine rn0 ?_;refine w7 ?_;refine zz2 15 12 13 14 8 9 60 (evR (zae x).evs[a]) rfl rfl rfl rfl rfl rfl rfl rfl rfl rfl rfl rfl rfl rfl rfl ?_
      refine jq rfl (fun he hC=>by rcases hC with rfl|⟨b,c,rfl⟩|⟨b,c,b',c',rfl⟩ <;> exact qrA) ?_
      refine jq rfl (fun he hC=>by rcases hC with rfl|⟨b,c,rfl⟩|⟨b,c,b',c',rfl⟩ <;> exact qrA) ?_
      refine jq rfl (fun he hC=>by rcases hC with rfl|⟨b,c,rfl⟩|⟨b,c,b',c',rfl⟩ <;> exact qrA) ?_
      refine jq rfl (fun he hC=>by rcases hC with rfl|⟨b,c,rfl⟩|⟨b,c,b',c',rfl⟩ <;> exact qrA) ?_
      refine jq rfl (fun he hC=>by rcases hC with rfl|⟨b,c,rfl⟩|⟨b,c,b',c',rfl⟩ <;> exact (by exact zan rfl rfl rea)) ?_
      refine jq rfl (fun he hC=>by rcases hC with rfl|⟨b,c,rfl⟩|⟨b,c,b',c',rfl⟩ <;> exact qrA) ?_
      refine jq rfl (fun he hC=>by rcases hC with rfl|⟨b,c,rfl⟩|⟨b,c,b',c',rfl⟩ <;> exact qrA) ?_
      refine jq rfl (fun he hC=>by rcases hC with rfl|⟨b,c,rfl⟩|⟨b,c,b',c',rfl⟩ <;> exact qrA) ?_
      refine jq rfl (fun he hC=>by rcases hC with rfl|⟨b,c,rfl⟩|⟨b,c,b',c',rfl⟩ <;> exact qrA) ?_
      refine jq rfl (fun he hC=>by rcases hC with rfl|⟨b,c,rfl⟩|⟨b,c,b',c',rfl⟩ <;> exact qrA) ?_
      refine jq rfl (fun he hC=>by rcases hC with rfl|⟨b,c,rfl⟩|⟨b,c,b',c',rfl⟩ <;> exact (by exact zan rfl rfl reb)) ?_
      refine jq rfl (fun he hC=>by rcases hC with rfl|⟨b,c,rfl⟩|⟨b,c,b',c',rfl⟩ <;> exact qrA) ?_
      refine je rfl ?_;refine je rfl ?_;refine je rfl ?_;refine yan ⟨?_,fun b8 b9=> ?_⟩
      ·rintro ee u (⟨b,rfl⟩|⟨b,c,rfl⟩|⟨b,c,rfl⟩) <;> exact ⟨rfl,rfl⟩
      refine rn ?_;refine qv rfl rfl (y4 rfl rfl (z8.qt (z8.of_fun (yhh (zae x) (zbv lb.lim) ha hc ka)) ((pt5 _ _ _ _ _ _ _).trans (.cons _ ((pt5 _ _ _ _ _ _ _).trans (.cons _ ((pt5 _ _ _ _ _ _ _).trans (.cons _ (pt5 _ _ _ _ _ _ _))))))))) ?_
      refine rn ?_;refine qv rfl rfl (y4 rfl rfl (z8.qt (z8.of_fun (yhl (zae x) (zbv lb.lim) p o htab)) ((pt5 _ _ _ _ _ _ _).trans (.cons _ ((pt5 _ _ _ _ _ _ _).trans (.cons _ ((pt5 _ _ _ _ _ _ _).trans (.cons _ (pt5 _ _ _ _ _ _ _))))))))) ?_
      refine q1 ?_;refine q1 ?_;refine q1 ?_;refine q1 ?_;refine q1 ?_;refine j4 (zai ?_)
      refine w7 ?_;refine w7 (y6 ?_)
      refine q1 ?_;refine qq rfl rfl (zao (c:=false) rfl rfl (congrArg some (rfl))) ?_
      refine q1 ?_;refine q1 ?_;refine qq rfl rfl (zao (c:=false) rfl rfl (congrArg some (rfl))) ?_
      refine q1 ?_;refine q1 ?_;refine q1 ?_;refine q1 ?_;refine qq rfl rfl (zao (c:=false) rfl rfl (congrArg some (by rw [ka];rfl))) ?_
      refine q1 ?_;refine q1 ?_;refine q1 ?_;refine q1 ?_;refine q1 ?_;refine q1 ?_;refine qq rfl rfl (zao (c:=false) rfl rfl (congrArg some (by rw [ta];exact bne_self_eq_false _))) ?_
      refine q1 ?_;refine q1 ?_;refine q1 ?_;refine q1 ?_;refine q1 ?_;refine q1 ?_;refine qq rfl rfl (zao (c:=false) rfl rfl (congrArg some (by rw [pa];exact bne_self_eq_false _))) ?_
      refine q1 ?_;refine q1 ?_;refine q1 ?_;refine q1 ?_;refine q1 ?_;refine q1 ?_;refine qq rfl rfl (zao (c:=false) rfl rfl (congrArg some (by rw [tb];exact bne_self_eq_false _))) ?_
      refine rn ?_;refine y0 rfl (fun hc157=> ?_) (fun hc157=> ?_)
      ·first|cases hc157|exact absurd hc157 (by decide)|(exfalso;simp_all;done)
      ·refine rn ?_;refine zad 14 rfl ?_
       refine dq rfl rfl qrA ?_;refine dq rfl rfl qrA ?_;refine dq rfl rfl qrA ?_;refine dq rfl rfl qrA ?_;refine dq rfl rfl qrA ?_;refine dq rfl rfl qrA ?_;refine dq rfl rfl (za7 rfl rfl o0 rse) ?_
       refine rn ?_;refine dv rfl rfl (by exact y4 rfl rfl (z8.qt (z8.of_fun (zyq (zae x) (zbv lb.lim) o (zb3 (zae x) (zae x).evs[a] a)[o.toNat].v hrs)) ((pt5 _ _ _ _ _ _ _).trans (.cons _ ((pt5 _ _ _ _ _ _ _).trans (.cons _ ((pt5 _ _ _ _ _ _ _).trans (.cons _ (pt5 _ _ _ _ _ _ _))))))))) ?_
       refine rn ?_;refine qv rfl rfl (y4 rfl rfl (z8.qt (z8.of_fun (zyq (zae x) (zbv lb.lim) o (zae x).evs[b].v hrb)) ((pt5 _ _ _ _ _ _ _).trans (.cons _ ((pt5 _ _ _ _ _ _ _).trans (.cons _ ((pt5 _ _ _ _ _ _ _).trans (.cons _ (pt5 _ _ _ _ _ _ _))))))))) ?_
       refine q1 ?_;refine q1 ?_;refine q1 ?_;refine q1 ?_;refine q1 ?_;refine j4 (zai ?_)
       refine w7 (y6 ?_)
       refine q1 ?_;refine q1 ?_;refine q1 ?_;refine q1 ?_;refine q1 ?_;refine q1 ?_;refine q1 ?_;refine q1 ?_;refine q1 ?_;refine qq rfl rfl (zao (c:=false) rfl rfl (congrArg some (decide_eq_false (by omega)))) ?_
       refine rn ?_;refine qv rfl rfl (y4 rfl rfl (zbh (zzm (chL (zae x) p o) k (Nat.le_trans hchl (by decide)) hmc) (Sbs.refl _))) ?_
       refine rn ?_;refine y0 rfl (fun hc196=> ?_) (fun hc196=> ?_)
       ·first|cases hc196|exact absurd hc196 (by decide)|(exfalso;simp_all;done)
       ·refine rn ?_;exact ⟨hi,trivial,eA⟩
   ·have qi:=zeh hc42 li
    refine zl8 ?_;refine zkq ?_;refine zkq ?_;refine ze2 ?_;refine zai ?_;refine w7 (y6 ?_)
    refine q1 ?_;first|refine z7 rfl (j5 rfl rfl rfl ?_)|refine z7 rfl (zaj rfl rfl rfl rfl (Nat.le_of_ble_eq_true rfl) ?_)
    refine j4 (zai ?_)
    refine w7 ?_;refine w7 (y6 ?_)
    refine qq rfl rfl (zff (fun w O v hr=>Sb.rel (Sb.aggs (bs:=y9 (zfj (zae x))) (by exact ⟨.refl _,.refl _,.refl _,.refl _,.refl _,.refl _,.nil _ _,.refl _,trivial⟩)) hr) (zfg rfl rfl)) ?_
    refine qv rfl rfl (y4 rfl rfl (z8.qt (z8.of_fun (zse (zfj (zae x)) (zld (zbv lb.lim)))) ((pt2 _ _ _ _).trans (.cons _ ((pt2 _ _ _ _).trans (.cons _ ((pt2 _ _ _ _).trans (.cons _ (pt2 _ _ _ _))))))))) ?_
    refine rn ?_;refine y0 rfl (fun hc201=> ?_) (fun hc201=> ?_)
    ·refine rn ?_;first|(refine rq 2 ?_;exact ⟨rfl,rfl⟩)|(refine rq 3 ?_;exact ⟨rfl,rfl⟩)
    ·have hc2:u3 (zfj (zae x))=0:=nzF hc201
     refine za5 ?_;refine zai ?_;refine w7 (y6 ?_)
     refine qq rfl rfl (zff (fun w O v hr=>Sb.rel (Sb.aggs (bs:=y9 (zfj (zae x))) (by exact ⟨.refl _,.refl _,.refl _,.refl _,.refl _,.refl _,.nil _ _,.refl _,trivial⟩)) hr) (zfg rfl rfl)) ?_
     refine qv rfl rfl (y4 rfl rfl (z8.qt (z8.of_fun (ybh (zae x) (zbv lb.lim) rO oK hK hc2)) ((pt2 _ _ _ _).trans (.cons _ ((pt2 _ _ _ _).trans (.cons _ ((pt2 _ _ _ _).trans (.cons _ ((pt2 _ _ _ _).trans (.cons _ ((pt2 _ _ _ _).trans (.cons _ ((pt2 _ _ _ _).trans (.cons _ (pt2 _ _ _ _))))))))))))))) ?_
     refine q1 ?_;refine q1 ?_;refine q1 ?_;refine q1 ?_;refine q1 ?_;refine j4 (zai ?_)
     refine w7 (y6 ?_)
     refine q1 ?_;refine q1 ?_;refine q1 ?_;refine q1 ?_;refine q1 ?_;refine qq rfl rfl (zao (c:=true) rfl rfl (congrArg some (beq_self_eq_true _))) ?_
     refine rn ?_;first|(refine rq 2 ?_;exact ⟨rfl,rfl⟩)|(refine rq 3 ?_;exact ⟨rfl,rfl⟩)
end Go.Proofs
