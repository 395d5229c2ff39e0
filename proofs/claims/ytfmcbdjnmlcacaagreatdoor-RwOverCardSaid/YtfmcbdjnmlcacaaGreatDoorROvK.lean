/- The entry for the six laid variables that package rw looks at: its table of functions and its map too. Conditions: none. -/
import Derived.Test.YtfmcbdjnmlcacaaGreatDoorROvJ
set_option maxHeartbeats 4000000
set_option linter.unusedSectionVars false
set_option linter.unusedSimpArgs false
set_option linter.unusedVariables false
set_option maxRecDepth 100000
namespace Go.Proofs.YtfmcbdjnmlcacaaGreatDoor
open Go Go.Ab Go.H Go.ChangeShapes Go.WideShapes Go.ChangeAt Go.RowKit
inductive Solid:AV→Prop
 |any:Solid .any
 |v (x:Value):Solid (.v x)
 |fn (f:Fn):Solid (.fn f [] [])
 |list (full:Bool) (sz:Nat) (rows:List (List AV)):0 < sz→(∀r∈rows,∀a∈r,Solid a)→Solid (.list full sz rows)
 |agg (cells:List AV):(∀a∈cells,Solid a)→Solid (.agg cells)
theorem zm3 {w:World} {O:Nat→Prop} {a:AV} {v:Value} (h:Rel w noX a v) (hs:Solid a) (hO:∀b,O b→∀c T fr,w.heap[b]? ≠some (.cells c T fr)):Rel w O a v:=by
 induction h with
 |any x=>exact .any x
 |v x=>exact .v x
 |lnil full sz a cap h=>exact .lnil full sz a cap h
 |list full sz rows b off cap g h1 h2 h3 h4 h5 h6 h7 ih=>
  cases hs with
  |list _ _ _ hsz hr=>
   cases rows with
   |nil=>exact .lnil _ _ _ _ (fun q=>by simpa using h1 q)
   |cons r0 rs=>
    have hb:¬O b:=fun hb=>by
     have h0:=h6 0 (by simp) 0 (by rw [h5 0 (by simp)];exact hsz)
     unfold World.cell? at h0
     split at h0
     ·rename_i hh;exact hO b hb _ _ _ hh
     ·cases h0
    exact .list full sz _ b off cap g h1 h2 hb h4 h5 h6 (fun i hi j hj=>ih i hi j hj (hr _ (List.getElem_mem hi) _ (List.getElem_mem hj)))
 |pp cells b off g h3 h4 h6 _ ih=>cases hs
 |rp a len cap sz i off=>cases hs
 |agg cells cs h1 h2 ih=>cases hs with|agg _ hc=>exact .agg _ _ h1 fun j a b=>ih j a b (hc _ (List.getElem_mem a))
 |tup cells cs h1 h2 ih=>cases hs
 |fn f fs cs fa ca h1 h2 h3 h4 ih1 ih2=>cases hs;exact .fn f [] [] fa ca h1 h2 (fun j h=>absurd h (Nat.not_lt_zero _)) (fun j h=>absurd h (Nat.not_lt_zero _))
theorem zdo {α:Type} {R:α→List AV} {f:Bool} {sz:Nat} (hsz:0 < sz) (h:∀x,∀a∈R x,Solid a) (l:List α):Solid (.list f sz (l.map R)):= .list _ _ _ hsz fun r hr a ha=>by
 obtain ⟨x,_,rfl⟩:=List.mem_map.1 hr
 exact h x a ha
theorem zui:∀x,∀a∈zac x,Solid a:=by
 intro x a ha
 simp only [zac,List.mem_cons,List.not_mem_nil,or_false] at ha
 rcases ha with rfl
 ·exact .v _
theorem zqa:∀x,∀a∈zfe x,Solid a:=by
 intro x a ha
 simp only [zfe,List.mem_cons,List.not_mem_nil,or_false] at ha
 rcases ha with rfl
 ·exact .v _
theorem yf4:∀x,∀a∈zam x,Solid a:=by
 intro x a ha
 simp only [zam,List.mem_cons,List.not_mem_nil,or_false] at ha
 rcases ha with rfl|rfl|rfl
 ·exact .v _
 ·exact .v _
 ·exact .v _
theorem yp0:∀x,∀a∈evR x,Solid a:=by
 intro x a ha
 simp only [evR,List.mem_cons,List.not_mem_nil,or_false] at ha
 rcases ha with rfl|rfl|rfl|rfl|rfl|rfl|rfl|rfl|rfl
 ·exact .v _
 ·exact .v _
 ·exact .v _
 ·exact .v _
 ·exact .v _
 ·exact .v _
 ·exact .v _
 ·exact .v _
 ·exact zdo (by decide) yf4 _
theorem yli:∀x,∀a∈zeg x,Solid a:=by
 intro x a ha
 simp only [zeg,List.mem_cons,List.not_mem_nil,or_false] at ha
 rcases ha with rfl|rfl
 ·exact .v _
 ·exact zdo (by decide) zui _
theorem ylj:∀x,∀a∈zd3 x,Solid a:=by
 intro x a ha
 simp only [zd3,List.mem_cons,List.not_mem_nil,or_false] at ha
 rcases ha with rfl|rfl|rfl|rfl
 ·exact .v _
 ·exact .v _
 ·exact .v _
 ·exact zdo (by decide) zui _
theorem ylh:∀x,∀a∈zfq x,Solid a:=by
 intro x a ha
 simp only [zfq,List.mem_cons,List.not_mem_nil,or_false] at ha
 rcases ha with rfl|rfl
 ·exact .v _
 ·exact .v _
theorem yf5 (x:Hist):Solid (.agg (w7 x)):= .agg _ fun a ha=>by
 simp only [w7,List.mem_cons,List.not_mem_nil,or_false] at ha
 rcases ha with rfl|rfl|rfl|rfl|rfl|rfl|rfl|rfl
 ·exact zdo (by decide) zqa _
 ·exact zdo (by decide) zqa _
 ·exact zdo (by decide) zqa _
 ·exact zdo (by decide) zqa _
 ·exact zdo (by decide) yp0 _
 ·exact zdo (by decide) yli _
 ·exact zdo (by decide) ylj _
 ·exact zdo (by decide) ylh _
def zqt:List (String×DataW Unit):= [("unicode/utf8.acceptRanges",Rows.laid_unicode_utf8_acceptRanges),("yardarm/history.limits",Rows.laid_yardarm_history_limits),("yardarm/rules.asks",Rows.laid_yardarm_rules_asks),("yardarm/rw.sees",Rows.laid_yardarm_rw_sees),("yardarm/rw.kinds",Rows.laid_yardarm_rw_kinds),("unicode/utf8.first",Rows.laid_unicode_utf8_first)]
def yh7:List (String×DataW Unit):= [("unicode/utf8.acceptRanges",Rows.laid_unicode_utf8_acceptRanges),("yardarm/history.limits",Rows.laid_yardarm_history_limits),("yardarm/rw.kinds",Rows.laid_yardarm_rw_kinds),("unicode/utf8.first",Rows.laid_unicode_utf8_first)]
theorem zxj:(zqt.filter fun x=>x.2.handleName?.isNone)=yh7:=by kernel_rfl
theorem yh6 {W:World} (h:laidMetH Tryz.prog zqt W):laidMet Tryz.prog yh7 W:=by
 have:=(laidMetH_iff.1 h).1
 rw [zxj] at this
 exact this
theorem yr9 {w:World} (h:laidMetH Tryz.prog zqt w):(Res.glob 3 246 u0).holds w noX:=by
 obtain ⟨g,t,cs,fuel,p,hg,ht,hv,hd⟩:=h.funcs (n:= "yardarm/rules.asks") (d:=yoz) (.tail _ (.tail _ (.head _)))
 obtain rfl:=Option.some.inj ((show Tryz.prog.globalNamed "yardarm/rules.asks" =some 3 by kernel_rfl).symm.trans hg)
 obtain rfl:=Option.some.inj ((show (Tryz.prog.globals[3]?).map (·.type)=some 246 by kernel_rfl).symm.trans ht)
 rw [yep] at hd
 have c1:Tryz.prog.cellsOf 245=1:=by kernel_rfl
 have c11:Tryz.prog.cellsOf 246=11:=by kernel_rfl
 have hlen:cs.toList.length=11:=by
  obtain ⟨_,_,_,_,hl,_⟩:=DataW.trod_array Tryz.underlying246 hd
  rw [hl,c11]
 unfold World.var? at hv
 rw [hg] at hv
 simp only [Option.bind_some] at hv
 split at hv
 ·rename_i c T0 fr hh
  cases hv
  refine zqz hh (by rw [show u0.length=11 from rfl];simpa using hlen.symm) fun j h1 h2=> ?_
  cases j with
  |zero=>exact .any _
  |succ k=>
   have hk:k < 10:=by have:u0.length=11:=rfl;omega
   obtain ⟨b,r,hn,hone,ha⟩:=yi7 k hk
   obtain ⟨f',d,q,e1,e2⟩:=Lib.array_elem Tryz.underlying246 hd (k+1) (by omega)
   have e1':d= .held (b::r):=by
    rw [List.getElem?_cons_succ,List.getElem?_map,List.getElem?_drop,Nat.add_comm 1 k,hn] at e1
    exact (Option.some.inj e1).symm
   subst e1'
   rw [c1,Nat.mul_one,List.drop_eq_getElem_cons (by simpa using h2),List.take_succ_cons,List.take_zero] at e2
   have:=func_of_trod (f0:=fnA.getD k 0) Tryz.underlying245 hone e2
   rw [Array.getElem_toList] at this
   rw [this,show u0[k+1]= .fn (.func (fnA.getD k 0)) [] [] from Option.some.inj ((List.getElem?_eq_getElem h1).symm.trans ha)]
   exact ykg _ _
 ·cases hv
def ylp:DataW Unit:=match (Rows.laid_yardarm_rw_sees:DataW Unit) with| .iface _ d=>d|d=>d
def ycl:List (List UInt8):=match ylp with| .agg ds=>ds.map (fun d=>match d with| .iface _ (.lit (.string b))=>b|_=> [])|_=> []
def nmS (k:Nat):List UInt8:=ycl.getD (k+1) []
theorem ya0:ylp.funcsOut= .agg (.nil::(ycl.drop 1).map .held):=by kernel_rfl
def fnS:List Nat:= [302,302,303,304,302,302]
theorem yf9 (k:Nat) (hk:k < 6):∃b r,ycl[k+1]? =some (b::r)∧((List.range Tryz.prog.funcs.size).filter fun f=>(Tryz.prog.funcs[f]?).any (·.name.toUTF8.data.toList==b::r))= [fnS.getD k 0]∧zaf[k+1]? =some (.fn (.func (fnS.getD k 0)) [] []):=by
 match k,hk with
 |0,_=>exact ⟨(nmS 0).headD 0,(nmS 0).tail,by kernel_rfl,by kernel_rfl,by kernel_rfl⟩
 |1,_=>exact ⟨(nmS 1).headD 0,(nmS 1).tail,by kernel_rfl,by kernel_rfl,by kernel_rfl⟩
 |2,_=>exact ⟨(nmS 2).headD 0,(nmS 2).tail,by kernel_rfl,by kernel_rfl,by kernel_rfl⟩
 |3,_=>exact ⟨(nmS 3).headD 0,(nmS 3).tail,by kernel_rfl,by kernel_rfl,by kernel_rfl⟩
 |4,_=>exact ⟨(nmS 4).headD 0,(nmS 4).tail,by kernel_rfl,by kernel_rfl,by kernel_rfl⟩
 |5,_=>exact ⟨(nmS 5).headD 0,(nmS 5).tail,by kernel_rfl,by kernel_rfl,by kernel_rfl⟩
theorem yuv {w:World} (h:laidMetH Tryz.prog zqt w):(Res.glob 1 175 zaf).holds w noX:=by
 obtain ⟨g,t,cs,fuel,p,hg,ht,hv,hd⟩:=h.funcs (n:= "yardarm/rw.sees") (d:=ylp) (.tail _ (.tail _ (.tail _ (.head _))))
 obtain rfl:=Option.some.inj ((show Tryz.prog.globalNamed "yardarm/rw.sees" =some 1 by kernel_rfl).symm.trans hg)
 obtain rfl:=Option.some.inj ((show (Tryz.prog.globals[1]?).map (·.type)=some 175 by kernel_rfl).symm.trans ht)
 rw [ya0] at hd
 have c1:Tryz.prog.cellsOf 174=1:=by kernel_rfl
 have c7:Tryz.prog.cellsOf 175=7:=by kernel_rfl
 have hlen:cs.toList.length=7:=by
  obtain ⟨_,_,_,_,hl,_⟩:=DataW.trod_array Tryz.underlying175 hd
  rw [hl,c7]
 unfold World.var? at hv
 rw [hg] at hv
 simp only [Option.bind_some] at hv
 split at hv
 ·rename_i c T0 fr hh
  cases hv
  refine zqz hh (by rw [show zaf.length=7 from rfl];simpa using hlen.symm) fun j h1 h2=> ?_
  cases j with
  |zero=>exact .any _
  |succ k=>
   have hk:k < 6:=by have:zaf.length=7:=rfl;omega
   obtain ⟨b,r,hn,hone,ha⟩:=yf9 k hk
   obtain ⟨f',d,q,e1,e2⟩:=Lib.array_elem Tryz.underlying175 hd (k+1) (by omega)
   have e1':d= .held (b::r):=by
    rw [List.getElem?_cons_succ,List.getElem?_map,List.getElem?_drop,Nat.add_comm 1 k,hn] at e1
    exact (Option.some.inj e1).symm
   subst e1'
   rw [c1,Nat.mul_one,List.drop_eq_getElem_cons (by simpa using h2),List.take_succ_cons,List.take_zero] at e2
   have:=func_of_trod (f0:=fnS.getD k 0) Tryz.underlying174 hone e2
   rw [Array.getElem_toList] at this
   rw [this,show zaf[k+1]= .fn (.func (fnS.getD k 0)) [] [] from Option.some.inj ((List.getElem?_eq_getElem h1).symm.trans ha)]
   exact ykg _ _
 ·cases hv
theorem zxm {H:Type} (x:Lit×DataW H):∀l:List (Lit×DataW H),(DataW.insert x l).Perm (x::l)
 | []=> .refl _
 |y::l=>by
  rw [DataW.insert]
  split
  ·exact .refl _
  ·exact ((zxm x l).cons y).trans (.swap x y l)
theorem zrw {H:Type}:∀l:List (Lit×DataW H),(l.foldr DataW.insert []).Perm l
 | []=> .refl _
 |x::l=>(zxm x _).trans ((zrw l).cons x)
theorem zxv {x:MapEntry} {n:Int} {F:∀y∈ [x],∃z,WideMaps.rd (H:=Unit) Tryz.prog 3 .i64 y=some z} (h:WideMaps.rg Unit Tryz.prog 3 .i64 x=(.int .i64 n,.lit (.int .i64 n))):x.key= .int .i64 n∧x.val= .int .i64 n:=by
 obtain ⟨y,hy⟩:=F x (by simp)
 rw [WideMaps.rg_of hy] at h
 subst h
 have hk:=WideMaps.rd_key hy
 obtain ⟨m,e1,e2,_⟩:=WideMaps.rd_val hy
 refine ⟨?_,?_⟩
 ·unfold keyOf mapKey at hk
  rw [Tryz.underlying3] at hk
  simp only at hk
  split at hk <;> simp_all
 ·rw [e1];simp at e2;rw [e2]
theorem yh8 {w:World} (h:Lib.VarReads Tryz.prog w "yardarm/rw.kinds" Rows.laid_yardarm_rw_kinds):∃rO oK,KO oK∧w.heap[rO]? =some oK∧(∃ents clock,oK= .map ents clock)∧(Res.glob 0 171 [mpv rO]).holds w noX:=by
 obtain ⟨g',t',cs,fuel,p,h1,h2,h3,h4⟩:=h
 obtain rfl:=Option.some.inj ((show Tryz.prog.globalNamed "yardarm/rw.kinds" =some 0 by kernel_rfl).symm.trans h1)
 obtain rfl:=Option.some.inj ((show (Tryz.prog.globals[0]?).map (·.type)=some 171 by kernel_rfl).symm.trans h2)
 rcases WideMaps.open_map Tryz.underlying171 Tryz.underlying3 h4 with ⟨_,e⟩|⟨b,es,clock,hcs,hb,_,F,e⟩
 ·cases e
 ·have hE:(es.toList.map (WideMaps.rg Unit Tryz.prog 3 .i64)).foldr DataW.insert []= [(.int .i64 3,.lit (.int .i64 3)),(.int .i64 4,.lit (.int .i64 4))]:=by
   have e1:=congrArg Prod.fst e
   have e2:(Rows.laid_yardarm_rw_kinds:DataW Unit)= .map [(.int .i64 3,.lit (.int .i64 3)),(.int .i64 4,.lit (.int .i64 4))]:=rfl
   rw [e2] at e1
   exact (DataW.map.inj e1).symm
  have hp:=zrw (es.toList.map (WideMaps.rg Unit Tryz.prog 3 .i64))
  rw [hE] at hp
  have hlen:=hp.length_eq
  simp only [List.length_cons,List.length_nil,oM,Array.length_toList] at hlen
  obtain ⟨x1,x2,rfl⟩:∃x1 x2,es= #[x1,x2]:=by
   obtain ⟨l⟩:=es
   match l,hlen with
   | [a,b],_=>exact ⟨a,b,rfl⟩
  have hF:∀x∈ [x1,x2],∀y∈ [x],∃z,WideMaps.rd (H:=Unit) Tryz.prog 3 .i64 y=some z:=fun x hx y hy=>by
   rw [List.mem_singleton] at hy;subst hy;exact F.reads y hx
  have hko:KO (.map #[x1,x2] clock):=by
   have hp': [(Lit.int .i64 3,DataW.lit (H:=Unit) (.int .i64 3)),(.int .i64 4,.lit (.int .i64 4))].Perm [WideMaps.rg Unit Tryz.prog 3 .i64 x1,WideMaps.rg Unit Tryz.prog 3 .i64 x2]:=hp
   have hc:(WideMaps.rg Unit Tryz.prog 3 .i64 x1=(.int .i64 3,.lit (.int .i64 3))∧WideMaps.rg Unit Tryz.prog 3 .i64 x2=(.int .i64 4,.lit (.int .i64 4)))∨(WideMaps.rg Unit Tryz.prog 3 .i64 x1=(.int .i64 4,.lit (.int .i64 4))∧WideMaps.rg Unit Tryz.prog 3 .i64 x2=(.int .i64 3,.lit (.int .i64 3))):=by
    have m1:=hp'.mem_iff (a:=WideMaps.rg Unit Tryz.prog 3 .i64 x1)
    have m2:=hp'.mem_iff (a:=WideMaps.rg Unit Tryz.prog 3 .i64 x2)
    have m3:=hp'.mem_iff (a:=(Lit.int .i64 3,DataW.lit (H:=Unit) (.int .i64 3)))
    have m4:=hp'.mem_iff (a:=(Lit.int .i64 4,DataW.lit (H:=Unit) (.int .i64 4)))
    simp only [List.mem_cons,List.not_mem_nil,or_false,true_or,or_true,iff_true,true_iff] at m1 m2 m3 m4
    have hne:(Lit.int .i64 3,DataW.lit (H:=Unit) (.int .i64 3))≠(Lit.int .i64 4,DataW.lit (H:=Unit) (.int .i64 4)):=fun q=>by cases congrArg Prod.fst q
    rcases m1 with q1|q1 <;> rcases m2 with q2|q2
    ·rw [q1,q2] at m4;rcases m4 with q|q <;> exact absurd q.symm hne
    ·exact .inl ⟨q1,q2⟩
    ·exact .inr ⟨q1,q2⟩
    ·rw [q1,q2] at m3;rcases m3 with q|q <;> exact absurd q hne
   rcases hc with ⟨q1,q2⟩|⟨q1,q2⟩
   ·obtain ⟨k1,v1⟩:=zxv (F:=hF x1 (by simp)) q1
    obtain ⟨k2,v2⟩:=zxv (F:=hF x2 (by simp)) q2
    refine ⟨#[x1,x2],clock,[(3,3),(4,4)],rfl,by simp [k1,k2,intK],fun i h1 h2=> ?_,rfl,fun k=> ?_⟩
    ·match i,h1 with
     |0,_=>exact v1
     |1,_=>exact v2
    ·simp only [zbm,zvl]
     by_cases a:(3:Int)=k
     ·subst a;rfl
     ·by_cases b:(4:Int)=k
      ·subst b;rfl
      ·rw [if_neg a,if_neg b,if_neg (fun q=>a q.symm),if_neg (fun q=>b q.symm)];rfl
   ·obtain ⟨k1,v1⟩:=zxv (F:=hF x1 (by simp)) q1
    obtain ⟨k2,v2⟩:=zxv (F:=hF x2 (by simp)) q2
    refine ⟨#[x1,x2],clock,[(4,4),(3,3)],rfl,by simp [k1,k2,intK],fun i h1 h2=> ?_,rfl,fun k=> ?_⟩
    ·match i,h1 with
     |0,_=>exact v1
     |1,_=>exact v2
    ·simp only [zbm,zvl]
     by_cases b:(4:Int)=k
     ·subst b;rfl
     ·by_cases a:(3:Int)=k
      ·subst a;rfl
      ·rw [if_neg b,if_neg a,if_neg (fun q=>a q.symm),if_neg (fun q=>b q.symm)];rfl
  refine ⟨b,_,hko,hb,⟨_,_,rfl⟩,?_⟩
  unfold World.var? at h3
  rw [h1] at h3
  simp only [Option.bind_some] at h3
  split at h3
  ·rename_i c T0 fr hh
   cases h3
   have hcl:cs= #[Value.map (some b)]:=Array.toList_inj.1 hcs
   subst hcl
   refine zqz hh rfl fun j j1 j2=> ?_
   match j,j1 with
   |0,_=>exact .v _
  ·cases h3
theorem zia {w:World} {g:Nat} {T:TypeId} {vs:List AV} {O:Nat→Prop} (h:(Res.glob g T vs).holds w noX) (hs:∀a∈vs,Solid a) (hO:∀b,O b→∀c T fr,w.heap[b]? ≠some (.cells c T fr)):(Res.glob g T vs).holds w O:=by
 obtain ⟨_,hlt,c,T0,fr,hh,hl,hr⟩:=h
 exact ⟨fun hb=>hO g hb _ _ _ hh,hlt,c,T0,fr,hh,hl,fun j j1 j2=>zm3 (hr j j1 j2) (hs _ (List.getElem_mem j1)) hO⟩
theorem yvi (rO:Nat) (oK:Obj):OO [.glob 2 156 y5,.glob 4 305 y7,.glob 5 308 y2,.glob 3 246 u0,.glob 1 175 zaf,.glob 0 171 [mpv rO],.obj rO oK] noX=fun b=>b=rO:=by funext b;simp [OO,j7,noX,Res.own]
theorem zkh {vs:List AV} (h:(vs.all fun a=>match a with| .any=>true| .v _=>true| .fn _ [] []=>true|_=>false)=true):∀a∈vs,Solid a:=fun a ha=>by
 have:=List.all_eq_true.1 h a ha
 split at this
 ·exact .any
 ·exact .v _
 ·exact .fn _
 ·cases this
theorem zzr {W:World} (h:laidMetH Tryz.prog zqt W):∃rO oK,KO oK∧HRel noX W [.glob 2 156 y5,.glob 4 305 y7,.glob 5 308 y2,.glob 3 246 u0,.glob 1 175 zaf,.glob 0 171 [mpv rO],.obj rO oK]∧∀b,b=rO→∀c T fr,W.heap[b]? ≠some (.cells c T fr):=by
 have hm:=yh6 h
 obtain ⟨rO,oK,hK,hb,⟨ents,clock,rfl⟩,hgk⟩:=yh8 (Lib.laidMet.reads hm (.tail _ (.tail _ (.head _))))
 have hO:∀b,b=rO→∀c T fr,W.heap[b]? ≠some (.cells c T fr):=fun b e c T fr q=>by subst e;rw [hb] at q;cases q
 have k1:=yuy (Lib.laidMet.reads hm (.tail _ (.head _)))
 have k2:=yux (Lib.laidMet.reads hm (.tail _ (.tail _ (.tail _ (.head _)))))
 have k3:=yuw (Lib.laidMet.reads hm (.head _))
 refine ⟨rO,_,hK,⟨by simp [j7,Res.own],fun b hb'=> ?_,fun b hb=>hb.elim,fun r hr=> ?_⟩,hO⟩
 ·simp [j7,Res.own] at hb'
  subst hb'
  exact ⟨(Array.getElem?_eq_some_iff.1 hb).1,fun q=>q⟩
 ·rw [yvi]
  simp only [List.mem_cons,List.not_mem_nil,or_false] at hr
  rcases hr with rfl|rfl|rfl|rfl|rfl|rfl|rfl
  ·exact zia k1 (zkh (by rfl)) hO
  ·exact zia k2 (zkh (by kernel_rfl)) hO
  ·exact zia k3 (zkh (by kernel_rfl)) hO
  ·exact zia (yr9 h) (zkh (by rfl)) hO
  ·exact zia (yuv h) (zkh (by rfl)) hO
  ·exact zia hgk (zkh (by rfl)) hO
  ·exact ⟨hb,fun c T f q=>by cases q⟩
theorem yh9 {W W':World} {rO:Nat} {oK:Obj} (h1:HRel noX W [.glob 2 156 y5,.glob 4 305 y7,.glob 5 308 y2,.glob 3 246 u0,.glob 1 175 zaf,.glob 0 171 [mpv rO],.obj rO oK]) (h2:HRel noX W' [.glob 2 156 y5,.glob 4 305 y7,.glob 5 308 y2,.glob 3 246 u0,.glob 1 175 zaf,.glob 0 171 [mpv rO],.obj rO oK]) (hk:Keep (j7 [.glob 2 156 y5,.glob 4 305 y7,.glob 5 308 y2,.glob 3 246 u0,.glob 1 175 zaf,.glob 0 171 [mpv rO],.obj rO oK]) W (j7 [.glob 2 156 y5,.glob 4 305 y7,.glob 5 308 y2,.glob 3 246 u0,.glob 1 175 zaf,.glob 0 171 [mpv rO],.obj rO oK]) W'):Keep [] W [] W':=by
 have a1:=(h1.holds (.obj rO oK) (by simp)).1
 have a2:=(h2.holds (.obj rO oK) (by simp)).1
 refine ⟨hk.size,fun b hb _=>⟨?_,by simp⟩,hk.env⟩
 by_cases e:b=rO
 ·subst e;rw [a1,a2]
 ·exact (hk.same b hb (by simpa [j7,Res.own] using e)).1
def ynw:List (String×DataW Unit):= [("unicode/utf8.acceptRanges",Rows.laid_unicode_utf8_acceptRanges),("yardarm/history.limits",Rows.laid_yardarm_history_limits),("unicode/utf8.first",Rows.laid_unicode_utf8_first)]
def yt0:List Value:= .nilFunc::fnS.map fun f=> .func (.func f) #[] #[]
noncomputable def wit60 (os:Os):World:={World.holding Tryz.prog os ⟨#[], #[],[]⟩ with heap:=((((World.holding Tryz.prog os ⟨#[], #[],[]⟩).heap.modify 3 (Lay.setRow yvd)).modify 1 (Lay.setRow yt0)).modify 0 (Lay.setRow [.map (some 11)])).push (.map #[⟨.int .i64 3,.int .i64 3,0⟩,⟨.int .i64 4,.int .i64 4,1⟩] 2)}
noncomputable def wit6 (os:Os):World:=(wit60 os).layVars Tryz.prog ynw
theorem yk1 (os:Os):(wit6 os).os=os:=World.layVars_os _ _ _
theorem yfk (os:Os) (args:Array Value):laidMetH Tryz.prog zqt ((wit6 os).forCall (fun _ _=>0) ⟨#[],args,[]⟩).memory:=by
 refine laidMetH_of_parts3 (fuel:=8) ?_ (by kernel_rfl) (by kernel_rfl)
 rw [zxj]
 have h:laidMet Tryz.prog yh7 (wit6 os):=laidMet_layVars (w0:=wit60 os) (ynw.map (·.1)) [0,11] (by kernel_rfl) (by kernel_rfl) (by kernel_rfl) (by
  rw [show (yh7.filter fun x=> !(ynw.map (·.1)).contains x.1)= [("yardarm/rw.kinds",Rows.laid_yardarm_rw_kinds)] by kernel_rfl];exact LaidIn.of_run [0,11] 8 (by kernel_rfl) (by kernel_rfl) (by kernel_rfl) (by kernel_rfl))
 exact h.of_heap (by simp [World.memory,World.forCall,Input.heap])
end Go.Proofs.YtfmcbdjnmlcacaaGreatDoor
set_option maxRecDepth 10000
namespace Go.Proofs
open Go Go.Ab
attribute [local irreducible] QR QV OE zcp aw zdd zcj zbo za7 thn zft zei jch zfs
open Go.H
theorem zw6 {α:Type} (x1 x2 x3 x4 x5 x6 x7 x8 x9 x10 x11 x12 x13 x:α) (l:List α):(x1::x2::x3::x4::x5::x6::x7::x8::x9::x10::x11::x12::x13::x::l).Perm (x::x1::x2::x3::x4::x5::x6::x7::x8::x9::x10::x11::x12::x13::l):=(List.Perm.cons x1 (ypf x2 x3 x4 x5 x6 x7 x8 x9 x10 x11 x12 x13 x l)).trans (.swap x x1 _)
def cfz:Conf:=⟨0,0,0,0,0,0,0⟩
abbrev gC (c:Conf):AV:= .agg (k8 c)
instance:ZV (.agg #[.int .i64 0,.int .i64 0,.int .i64 0,.int .i64 0,.int .i64 0,.int .i64 0,.int .i64 0]) (gC cfz):=⟨fun w O u h=>by
 rw [h.v_eq]
 refine .agg _ _ rfl fun j h1 h2=> ?_
 match j,h1,h2 with
 |0,_,_=>exact .v _
 |1,_,_=>exact .v _
 |2,_,_=>exact .v _
 |3,_,_=>exact .v _
 |4,_,_=>exact .v _
 |5,_,_=>exact .v _
 |6,_,_=>exact .v _
 |j+7,h1,_=>exact absurd h1 (by show ¬j+7 < 7;omega)⟩
theorem yvj {n:Int} (h:n≠0):bv (n !=0)=bv true:=congrArg bv (by simpa using h)
theorem yvk:bv ((0:Int) !=0)=bv false:=rfl
theorem zx7 {m:List ((Int×Int)×Conf)} {c:Conf} (h:(!(zbm (c.f,c.t) m).isSome)=true∨decide (zid c ((zbm (c.f,c.t) m).getD cfz) < 0)=true):zim m c=zeo (c.f,c.t) c m:=by
 unfold zim
 rw [show zgz c=(c.f,c.t) from rfl]
 cases hq:zbm (c.f,c.t) m with
 |none=>rfl
 |some b=>
  rw [hq] at h
  simp only
  rcases h with h|h
  ·simp at h
  ·rw [if_pos (by simpa using h)]
theorem ys8 {m:List ((Int×Int)×Conf)} {c:Conf} (h1:(!(zbm (c.f,c.t) m).isSome)=false) (h2:decide (zid c ((zbm (c.f,c.t) m).getD cfz) < 0)=false):zim m c=m:=by
 unfold zim
 rw [show zgz c=(c.f,c.t) from rfl]
 cases hq:zbm (c.f,c.t) m with
 |none=>rw [hq] at h1;simp at h1
 |some b=>
  rw [hq] at h2
  simp only
  rw [if_neg (by simpa using h2)]
theorem yl4 {h:Hist} {kd:Int} {j:Nat} (hj:j < h.evs.length) (hk:h.evs[j].kind=kd):zby h kd (j+1)=zby h kd j++zb5 h h.evs[j] j:=by
 rw [zby,List.getElem?_eq_getElem hj];simp only;rw [if_pos (by simpa using hk)]
theorem yl5 {h:Hist} {kd:Int} {j:Nat} (hj:j < h.evs.length) (hk:h.evs[j].kind≠kd):zby h kd (j+1)=zby h kd j:=by
 rw [zby,List.getElem?_eq_getElem hj];simp only;rw [if_neg (by simpa using hk),List.append_nil]
theorem ym1 {a b n:Nat} (ha:a < n) (hb:b < n):a * n+b < n * n:=by
 have:(a+1) * n≤n * n:=Nat.mul_le_mul_right n ha
 rw [Nat.succ_mul] at this;omega
theorem yha {a b c d n:Nat} (hb:b < n) (hd:d < n) (e:a * n+b=c * n+d):a=c∧b=d:=by
 have hn:0 < n:=by omega
 have h1:(a * n+b) / n=a:=by rw [Nat.add_comm,Nat.add_mul_div_right _ _ hn,Nat.div_eq_of_lt hb,Nat.zero_add]
 have h2:(c * n+d) / n=c:=by rw [Nat.add_comm,Nat.add_mul_div_right _ _ hn,Nat.div_eq_of_lt hd,Nat.zero_add]
 have:a=c:=by rw [←h1,←h2,e]
 subst this
 exact ⟨rfl,by omega⟩
theorem yca {l:List (Int×Int)} {n:Nat} (hn:l.Nodup) (hb:∀p∈l,(0≤p.1∧p.1 < n)∧(0≤p.2∧p.2 < n)):l.length≤n * n:=by
 have h1:(l.map fun p=>p.1.toNat * n+p.2.toNat).Nodup:=by
  rw [List.Nodup,List.pairwise_map]
  refine List.Pairwise.imp_of_mem (fun {p q} hp hq hne e=>hne ?_) hn
  obtain ⟨⟨a0,a1⟩,b0,b1⟩:=hb p hp
  obtain ⟨⟨c0,c1⟩,d0,d1⟩:=hb q hq
  obtain ⟨e1,e2⟩:=yha (by omega) (by omega) e
  exact Prod.ext (by omega) (by omega)
 have h2:=zl5 (N:=n * n) h1 fun m hm=>by
  obtain ⟨p,hp,rfl⟩:=List.mem_map.1 hm
  obtain ⟨⟨a0,a1⟩,b0,b1⟩:=hb p hp
  exact ym1 (by omega) (by omega)
 rw [oM] at h2;exact h2
theorem ysk {h:Hist} (hs:za0 h=true) {i:Nat} (hi:i < h.evs.length) {z:Conf} (hz:z∈zb5 h h.evs[i] i):z.f=h.evs[i].t:=by
 by_cases h3:h.evs[i].kind=3
 ·obtain ⟨_,_,_,_,_,e,_⟩:=zsj hs hi h3 hz;exact e
 ·by_cases h4:h.evs[i].kind=4
  ·obtain ⟨_,_,_,_,e,_⟩:=zr4 hs hi h4 hz;exact e
  ·rw [zlh h3 h4] at hz;cases hz
theorem zz4 (l:List Conf):∀p∈zch l,∃c∈l,p.1=zgz c:=fun p hp=>by
 have hg:=(zj0 (k:=p.1) (v:=p.2) (zfp l)).2 hp
 have:=zx8 l p.1
 rw [hg] at this
 exact ⟨p.2,this.2.1,this.1.symm⟩
theorem yi2 {h:Hist} (hc:u6 h=0) (kd:Int):(zch (zby h kd h.evs.length)).length≤9000000:=by
 have hs:=zbd.1 hc
 have hT:=(zes hc).ts
 have h1:=yca (n:=h.ts.length) (zfp (zby h kd h.evs.length)) fun p hp=>by
  obtain ⟨q,hq,rfl⟩:=List.mem_map.1 hp
  obtain ⟨c,hc',e⟩:=zz4 _ q hq
  obtain ⟨j,hj,_,_,hf⟩:=(zr8 (Nat.le_refl _)).1 hc'
  rw [e]
  have ht:=(zbh _ _).1 (zb6 (zet hs _ (List.getElem_mem hj))).2.2.1
  exact ⟨by show 0≤c.f∧c.f < _;rw [ysk hs hj hf];exact ht,ykf hs hj hf⟩
 rw [oM] at h1
 exact Nat.le_trans h1 (Nat.mul_le_mul hT hT)
theorem zkx {α β:Type} (f:α→List β) (c:Nat):∀l:List α,(∀a∈l,(f a).length≤c)→(l.flatMap f).length≤l.length * c
 | [],_=>by simp
 |a::l,hf=>by
  have:=zkx f c l fun x hx=>hf x (List.mem_cons_of_mem _ hx)
  have:=hf a (by simp)
  rw [List.flatMap_cons,List.length_append,List.length_cons,Nat.succ_mul];omega
theorem zmi {h:Hist} (hc:u6 h=0) {a:Nat} (ha:a < h.evs.length):(zb5 h h.evs[a] a).length≤16000000:=by
 obtain ⟨h1,h2⟩:=seen_ok hc (List.getElem_mem ha) a
 rw [zb5]
 split
 ·refine Nat.le_trans (zkx _ 4000 _ fun p hp=>Nat.le_trans (List.length_filterMap_le _ _) (h2 p hp).2.1) ?_
  omega
 ·exact Nat.zero_le _
def ye8 (L:List ((Int×Int)×Conf)) (sn:List Nat):List Conf:=sn.reverse.map fun i=>((L[i]?).map Prod.snd).getD cfz
theorem zw8 (L:List ((Int×Int)×Conf)) (sn:List Nat):(ye8 L sn).length=sn.length:=by simp [ye8]
theorem yq9 {L:List ((Int×Int)×Conf)} {i:Nat} {sn:List Nat} (hi:i < L.length):ye8 L (i::sn)=ye8 L sn++ [L[i].2]:=by
 simp [ye8,List.getElem?_eq_getElem hi]
theorem zy9 (L:List ((Int×Int)×Conf)):(List.range L.length).map (fun i=>((L[i]?).map Prod.snd).getD cfz)=L.map Prod.snd:=by
 refine List.ext_getElem (by simp) fun i h1 h2=> ?_
 simp at h1
 simp [List.getElem?_eq_getElem h1]
theorem ych {L:List ((Int×Int)×Conf)} {sn:List Nat} (hn:sn.Nodup) (hl:∀i∈sn,i < L.length) (ha:∀i,i < L.length→i∈sn):(ye8 L sn).Perm (L.map Prod.snd):=by
 rw [←zy9,ye8]
 refine List.Perm.map _ ((List.reverse_perm sn).trans ?_)
 exact (List.perm_ext_iff_of_nodup hn List.nodup_range).2 fun i=>by rw [List.mem_range];exact ⟨hl i,ha i⟩
def ye5 (h:Hist) (kd:Int):List Conf:=if u6 h=0 then zl3 h kd else []
theorem ybd {h:Hist} {kd:Int} (hc:u6 h=0):ye5 h kd=zl3 h kd:=by rw [ye5,if_pos hc]
theorem yqe {h:Hist} {kd:Int} (hc:u6 h≠0):ye5 h kd= []:=by rw [ye5,if_neg hc]
theorem yon {h:Hist} (hc:u6 h=0) {kd:Int} (hk:kd=3∨kd=4) {sn:List Nat} (hn:sn.Nodup) (hl:∀i∈sn,i < (zch (zby h kd h.evs.length)).length) (ha:∀i,i < (zch (zby h kd h.evs.length)).length→i∈sn):
 zkg zid (ye8 (zch (zby h kd h.evs.length)) sn)=ye5 h kd:=by
 rw [ybd hc]
 exact (zm0 (zbd.1 hc) hk (ych hn hl ha)).trans (zm0 (zbd.1 hc) hk (.refl _)).symm
theorem yl2 (h:Hist) (la:Lim 4611686018427387904 h) (rO:Nat) (oK:Obj):y8 Tryz.prog 87 [.agg (w7 h)] (.glob 2 156 y5:: .glob 4 305 y7:: .glob 5 308 y2:: .glob 3 246 u0:: .glob 1 175 zaf:: .glob 0 171 [mpv rO]:: .obj rO oK:: []) (fun r h'=>(u6 h=0∧∃rc rl rk rg,h'=rgR rg []::rkS h rk::zbb h rl::rcR h rc:: .glob 2 156 y5:: .glob 4 305 y7:: .glob 5 308 y2:: .glob 3 246 u0:: .glob 1 175 zaf:: .glob 0 171 [mpv rO]:: .obj rO oK:: []∧r= .tup [.agg (rwP h rc rl rk rg),iv 0])∨(u6 h≠0∧h'= .glob 2 156 y5:: .glob 4 305 y7:: .glob 5 308 y2:: .glob 3 246 u0:: .glob 1 175 zaf:: .glob 0 171 [mpv rO]:: .obj rO oK:: []∧r= .tup [.agg (zs9++ [nmp,.v (.slice none 0 0),nmp,nmp,nmp]),iv (u6 h)])):=
 ((yv9 h la).frame [.glob 1 175 zaf,.glob 0 171 [mpv rO],.obj rO oK]).mono (by
   rintro _ _ ⟨_,rfl,⟨hc,rc,rl,rk,rg,rfl,rfl⟩|⟨hc,rfl,rfl⟩⟩
   ·exact .inl ⟨hc,rc,rl,rk,rg,rfl,rfl⟩
   ·exact .inr ⟨hc,rfl,rfl⟩)
theorem zr7 (h:Hist) (la:Lim 4611686018427387904 h) (rO:Nat) (oK:Obj) (hK:KO oK) (kd:Int) (hkk:kd=3∨kd=4):y8 Tryz.prog 86 [.agg (w7 h),iv kd] (.glob 2 156 y5:: .glob 4 305 y7:: .glob 5 308 y2:: .glob 3 246 u0:: .glob 1 175 zaf:: .glob 0 171 [mpv rO]:: .obj rO oK:: []) (fun r h'=>∃s:SV,h'= .row s.v 7 41 ((ye5 h kd).map k8):: .glob 2 156 y5:: .glob 4 305 y7:: .glob 5 308 y2:: .glob 3 246 u0:: .glob 1 175 zaf:: .glob 0 171 [mpv rO]:: .obj rO oK:: []∧r= .tup [.v s.v,iv (u6 h)]):=by
 refine z6 Tryz.func86 rfl rfl rfl ?_
 have be:=la.evs
 refine rn ?_;refine z8 rfl (w9 rfl rfl rfl fun b2=> ?_)
 refine q1 ?_;refine q1 ?_;refine u9 (zai ?_)
 refine w8 (y4 ?_)
 refine q1 ?_;refine z8 rfl (v7 rfl rfl (y0.fr1 (y0.of_fun (yl2 h la rO oK))) rfl ?_)
 rintro _ _ ⟨_,rfl,⟨hc,rc,rl,rk,rg,rfl,rfl⟩|⟨hc,rfl,rfl⟩⟩
 ·refine rn ?_;refine z8 rfl (y3 rfl fun b6=> ?_)
  refine rn ?_;refine z7 rfl (fun hc24=> ?_) (fun hc24=> ?_)
  ·first|cases hc24|exact absurd hc24 (by decide)|(exfalso;simp_all;done)
  ·refine rn ?_;refine z8 rfl (za9 (enc:=zbc) rfl fun bm=> ?_)
   refine z8 rfl (y3 rfl fun b8=> ?_)
   first|refine z8 rfl (k7 rfl rfl rfl ?_)|refine z8 rfl (zan rfl rfl rfl rfl (Nat.le_of_ble_eq_true rfl) ?_)
   refine u9 (zai ?_)
   refine w8 ?_;refine w8 (y4 ?_)
   show zcp _ _ _ _ _ _ ⟨_,_:: .map bm (zaq zbc (zbq gC (zch (zby h kd 0))))::_,_⟩
   refine rn ?_;refine zhz h.evs.length (fun _ (z:List ((Int×Int)×List Int)×List Nat)=>zoc h z.1) (fun j z=>⟨[(31,iv j),(1,iv kd),(6,pZ b6),(8,pZ b8),(29,zq5 h.evs),(30,iv (h.evs.map evR).length)],.map bm (zaq zbc (zbq gC (zch (zby h kd j)))):: .box b8 166 [mpv bm]:: .box b6 119 (rwP h rc rl rk rg):: .box b2 28 (w7 h)::rgR rg z.1::rkS h rk::zbb h rl::rcR h rc:: .glob 2 156 y5:: .glob 4 305 y7:: .glob 5 308 y2:: .glob 3 246 u0:: .glob 1 175 zaf:: .glob 0 171 [mpv rO]:: .obj rO oK::(z.2.map Res.defs),z.2⟩) ([],[]) (zml h) (v8 (zaz (pt1 _ _ _)) es) ?_
   rintro j ⟨M,dfs⟩ lj hM
   have hM:zoc h M:=hM
   show aw _ _ _ _ _ ⟨[(31,iv j),(1,iv kd),(6,pZ b6),(8,pZ b8),(29,zq5 h.evs),(30,iv (h.evs.map evR).length)],.map bm (zaq zbc (zbq gC (zch (zby h kd j)))):: .box b8 166 [mpv bm]:: .box b6 119 (rwP h rc rl rk rg):: .box b2 28 (w7 h)::rgR rg M::rkS h rk::zbb h rl::rcR h rc:: .glob 2 156 y5:: .glob 4 305 y7:: .glob 5 308 y2:: .glob 3 246 u0:: .glob 1 175 zaf:: .glob 0 171 [mpv rO]:: .obj rO oK::(dfs.map Res.defs),dfs⟩
   refine rn ?_;refine z7 rfl (fun hc32=> ?_) (fun hc32=> ?_)
   ·have hj:=za3 hc32
    have rj:=zal (f:=evR) hj
    refine rn ?_;refine z8 rfl (y3 rfl fun b10=> ?_)
    refine rn ?_;refine z7 rfl (fun hc39=> ?_) (fun hc39=> ?_)
    ·have hw:zby h kd (j+1)=zby h kd j:=yl5 hj (by simpa using hc39)
     refine rn ?_;exact ⟨hj,(M,dfs),hM,by simp only;rw [hw];exact eA⟩
    ·have hkd:h.evs[j].kind=kd:=by simpa using hc39
     have hw:=yl4 hj hkd
     refine rn ?_;refine z8 rfl (v7 rfl rfl (y0.of_fun (zwz h j rc rl rk rg _)) rfl ?_)
     rintro _ _ ⟨ba,bp,rfl,rfl⟩
     refine rn ?_;refine zot (fun pend h''=>pend=none∧∃M,zoc h M∧h''= .box ba 3 [iv (j:Nat)]:: .box bp 119 (rwP h rc rl rk rg)::rgR rg M::rkS h rk::zbb h rl::rcR h rc:: .glob 2 156 y5:: .glob 4 305 y7:: .glob 5 308 y2:: .glob 3 246 u0:: .glob 1 175 zaf:: .glob 0 171 [mpv rO]:: .obj rO oK:: .box b10 60 (evR h.evs[j]):: .map bm (zaq zbc (zbq gC (zch ((zby h kd j)++zb5 h h.evs[j] j)))):: .box b8 166 [mpv bm]:: .box b6 119 (rwP h rc rl rk rg):: .box b2 28 (w7 h)::(dfs.map Res.defs)) rfl (fun fn l q lp hlp=> ?_) (fun q h'' hK=> ?_) (fun q h'' c hK=> ?_)
     ·suffices hy:∀pre d rest (x:Unit) M,zb5 h h.evs[j] j=pre++d::rest→True→zoc h M→y0 Tryz.prog (yv l) [.agg (k8 d)] (.box ba 3 [iv (j:Nat)]:: .box bp 119 (rwP h rc rl rk rg)::rgR rg M::rkS h rk::zbb h rl::rcR h rc:: .glob 2 156 y5:: .glob 4 305 y7:: .glob 5 308 y2:: .glob 3 246 u0:: .glob 1 175 zaf:: .glob 0 171 [mpv rO]:: .obj rO oK::lp .ready none:: .defs q:: .box b10 60 (evR h.evs[j]):: .map bm (zaq zbc (zbq gC (zch ((zby h kd j)++pre)))):: .box b8 166 [mpv bm]:: .box b6 119 (rwP h rc rl rk rg):: .box b2 28 (w7 h)::(dfs.map Res.defs)) (fun r h'=>∃x':Unit,(r=bv true∧True∧h'= .box ba 3 [iv (j:Nat)]:: .box bp 119 (rwP h rc rl rk rg)::rgR rg M::rkS h rk::zbb h rl::rcR h rc:: .glob 2 156 y5:: .glob 4 305 y7:: .glob 5 308 y2:: .glob 3 246 u0:: .glob 1 175 zaf:: .glob 0 171 [mpv rO]:: .obj rO oK::lp .ready none:: .defs q:: .box b10 60 (evR h.evs[j]):: .map bm (zaq zbc (zbq gC (zch ((zby h kd j)++(pre++ [d]))))):: .box b8 166 [mpv bm]:: .box b6 119 (rwP h rc rl rk rg):: .box b2 28 (w7 h)::(dfs.map Res.defs))∨(r=bv false∧False∧h'= .box ba 3 [iv (j:Nat)]:: .box bp 119 (rwP h rc rl rk rg)::rgR rg M::rkS h rk::zbb h rl::rcR h rc:: .glob 2 156 y5:: .glob 4 305 y7:: .glob 5 308 y2:: .glob 3 246 u0:: .glob 1 175 zaf:: .glob 0 171 [mpv rO]:: .obj rO oK:: [])) by
       have hq:=zwy h la hc j hj (yv l) bp ba rc rl rk rg M hM rO oK hK (fun _ (_:Unit)=>True) (fun _=>False) (fun pre _=>lp .ready none:: .defs q:: .box b10 60 (evR h.evs[j]):: .map bm (zaq zbc (zbq gC (zch ((zby h kd j)++pre)))):: .box b8 166 [mpv bm]:: .box b6 119 (rwP h rc rl rk rg):: .box b2 28 (w7 h)::(dfs.map Res.defs)) (fun _=> []) () trivial hy
       simp only [List.append_nil] at hq
       refine y8.mono (y8.perm ((pt2 _ _ _ _).trans (.cons _ ((pt2 _ _ _ _).trans (.cons _ ((pt7 _ _ _ _ _ _ _ _ _).trans (.cons _ ((pt7 _ _ _ _ _ _ _ _ _).trans (.cons _ ((pt7 _ _ _ _ _ _ _ _ _).trans (.cons _ ((pt7 _ _ _ _ _ _ _ _ _).trans (.cons _ ((pt7 _ _ _ _ _ _ _ _ _).trans (.cons _ ((pt7 _ _ _ _ _ _ _ _ _).trans (.cons _ ((pt7 _ _ _ _ _ _ _ _ _).trans (.cons _ ((pt7 _ _ _ _ _ _ _ _ _).trans (.cons _ ((pt7 _ _ _ _ _ _ _ _ _).trans (.cons _ ((pt7 _ _ _ _ _ _ _ _ _).trans (.cons _ (pt7 _ _ _ _ _ _ _ _ _))))))))))))))))))))))))) hq) ?_
       rintro _ _ ⟨x,M',hM',⟨-,rfl⟩|⟨hF,_⟩⟩
       ·exact ⟨none,.ready,_,((zw6 _ _ _ _ _ _ _ _ _ _ _ _ _ _ _).trans (.cons _ (zw6 _ _ _ _ _ _ _ _ _ _ _ _ _ _ _))),by simp,rfl,M',hM',rfl⟩
       ·exact hF.elim
      intro pre d rest x M hL _ hM
      refine y0.perm (zw6 _ _ _ _ _ _ _ _ _ _ _ _ _ _ _) (y0.ventE ?_)
      refine zey hlp rfl rfl ?_
      refine rn ?_;refine z8 rfl (y3 rfl fun b11=> ?_)
      refine rn ?_;refine ⟨[(11,pZ b11),(8,pZ b8)],.box b11 41 (k8 d):: .box ba 3 [iv (j:Nat)]:: .box bp 119 (rwP h rc rl rk rg)::rgR rg M::rkS h rk::zbb h rl::rcR h rc:: .glob 2 156 y5:: .glob 4 305 y7:: .glob 5 308 y2:: .glob 3 246 u0:: .glob 1 175 zaf:: .glob 0 171 [mpv rO]:: .obj rO oK:: .defs q:: .box b10 60 (evR h.evs[j]):: .map bm (zaq zbc (zbq gC (zch ((zby h kd j)++pre)))):: .box b8 166 [mpv bm]:: .box b6 119 (rwP h rc rl rk rg):: .box b2 28 (w7 h)::(dfs.map Res.defs),v8 (zaz (pt1 _ _ _)) es,?_⟩
      refine zcz ?_;refine w8 (y4 ?_)
      refine q1 ?_;refine q1 ?_;refine q1 ?_;refine q1 ?_;refine qq rfl rfl (zdu (out:= [iv d.f,iv d.t]) rfl (by rfl)) ?_
      refine z8 rfl (y3 rfl fun b12=> ?_)
      first|refine z8 rfl (k7 rfl rfl rfl ?_)|refine z8 rfl (zan rfl rfl rfl rfl (Nat.le_of_ble_eq_true rfl) ?_)
      refine u9 (zai ?_)
      refine w8 (y4 ?_)
      refine q1 ?_;refine q1 ?_;refine qq rfl rfl (zhm (g:=gC) (enc:=zbc) (k:=(d.f,d.t)) cfz rfl rfl rfl) ?_
      refine rn ?_;refine z8 rfl (y3 rfl fun b13=> ?_)
      refine rn ?_;refine w6 (fun hg13_2=> ?_) (fun hg13_2=> ?_)
      ·refine rn ?_;refine z7 rfl (fun hc62=> ?_) (fun hc62=> ?_)
       ·have hb:zim (zch ((zby h kd j)++pre)) d=zeo (d.f,d.t) d (zch ((zby h kd j)++pre)):=by first|exact zx7 (.inl hg13_2)|exact zx7 (.inr hc62)
        refine rn ?_;refine z8 rfl (za5 (g:=gC) (enc:=zbc) (k:=(d.f,d.t)) (v:=d) rfl rfl rfl ?_)
        refine rn ?_;exact zem (pt2 _ _ _ _) ⟨_,_,.trans (.perm ((pt1 _ _ _).trans (.cons _ ((pt1 _ _ _).trans (.cons _ ((pt1 _ _ _).trans (.cons _ ((pt1 _ _ _).trans (.cons _ ((pt1 _ _ _).trans (.cons _ ((pt1 _ _ _).trans (.cons _ ((pt1 _ _ _).trans (.cons _ ((pt1 _ _ _).trans (.cons _ ((pt1 _ _ _).trans (.cons _ ((pt1 _ _ _).trans (.cons _ ((pt1 _ _ _).trans (.cons _ ((pt1 _ _ _).trans (.cons _ ((pt1 _ _ _).trans (.cons _ ((pt1 _ _ _).trans (.cons _ ((pt1 _ _ _).trans (.cons _ (pt1 _ _ _))))))))))))))))))))))))))))))) _) (.drop [_,_,_] _ _),(),.inl ⟨rfl,trivial,by rw [←List.append_assoc,zv5,hb]⟩⟩
       ·first|cases hc62|exact absurd hc62 (by decide)|(exfalso;simp_all;done)
      ·refine rn ?_;refine qv rfl rfl (y1 rfl rfl (u5 (zrl _ _) (Sbs.refl _))) ?_
       refine rn ?_;refine z7 rfl (fun hc62=> ?_) (fun hc62=> ?_)
       ·have hb:zim (zch ((zby h kd j)++pre)) d=zeo (d.f,d.t) d (zch ((zby h kd j)++pre)):=by first|exact zx7 (.inl hg13_2)|exact zx7 (.inr hc62)
        refine rn ?_;refine z8 rfl (za5 (g:=gC) (enc:=zbc) (k:=(d.f,d.t)) (v:=d) rfl rfl rfl ?_)
        refine rn ?_;exact zem (pt2 _ _ _ _) ⟨_,_,.trans (.perm ((pt1 _ _ _).trans (.cons _ ((pt1 _ _ _).trans (.cons _ ((pt1 _ _ _).trans (.cons _ ((pt1 _ _ _).trans (.cons _ ((pt1 _ _ _).trans (.cons _ ((pt1 _ _ _).trans (.cons _ ((pt1 _ _ _).trans (.cons _ ((pt1 _ _ _).trans (.cons _ ((pt1 _ _ _).trans (.cons _ ((pt1 _ _ _).trans (.cons _ ((pt1 _ _ _).trans (.cons _ ((pt1 _ _ _).trans (.cons _ ((pt1 _ _ _).trans (.cons _ ((pt1 _ _ _).trans (.cons _ ((pt1 _ _ _).trans (.cons _ (pt1 _ _ _))))))))))))))))))))))))))))))) _) (.drop [_,_,_] _ _),(),.inl ⟨rfl,trivial,by rw [←List.append_assoc,zv5,hb]⟩⟩
       ·have hb:zim (zch ((zby h kd j)++pre)) d=(zch ((zby h kd j)++pre)):=ys8 hg13_2 hc62
        refine rn ?_;exact zem (pt2 _ _ _ _) ⟨_,_,.trans (.perm ((pt1 _ _ _).trans (.cons _ ((pt1 _ _ _).trans (.cons _ ((pt1 _ _ _).trans (.cons _ ((pt1 _ _ _).trans (.cons _ ((pt1 _ _ _).trans (.cons _ ((pt1 _ _ _).trans (.cons _ ((pt1 _ _ _).trans (.cons _ ((pt1 _ _ _).trans (.cons _ ((pt1 _ _ _).trans (.cons _ ((pt1 _ _ _).trans (.cons _ ((pt1 _ _ _).trans (.cons _ ((pt1 _ _ _).trans (.cons _ ((pt1 _ _ _).trans (.cons _ ((pt1 _ _ _).trans (.cons _ ((pt1 _ _ _).trans (.cons _ (pt1 _ _ _))))))))))))))))))))))))))))))) _) (.drop [_,_,_] _ _),(),.inl ⟨rfl,trivial,by rw [←List.append_assoc,zv5,hb]⟩⟩
     ·obtain ⟨_,M',hM',rfl⟩:=hK
      refine rn ?_;exact ⟨hj,(M',q::dfs),hM',by simp only;rw [hw];exact v8 (zaz ((pt1 _ _ _).trans (.cons _ ((pt1 _ _ _).trans (.cons _ ((ypf _ _ _ _ _ _ _ _ _ _ _ _ _ _).trans (.cons _ ((ypf _ _ _ _ _ _ _ _ _ _ _ _ _ _).trans (.cons _ ((ypf _ _ _ _ _ _ _ _ _ _ _ _ _ _).trans (.cons _ ((ypf _ _ _ _ _ _ _ _ _ _ _ _ _ _).trans (.cons _ ((ypf _ _ _ _ _ _ _ _ _ _ _ _ _ _).trans (.cons _ ((pt1 _ _ _).trans (.cons _ ((pt1 _ _ _).trans (.cons _ ((pt1 _ _ _).trans (.cons _ ((pt1 _ _ _).trans (.cons _ ((pt1 _ _ _).trans (.cons _ ((pt1 _ _ _).trans (.cons _ ((pt1 _ _ _).trans (.cons _ ((pt1 _ _ _).trans (.cons _ ((pt1 _ _ _).trans (.cons _ ((pt1 _ _ _).trans (.cons _ (pt1 _ _ _)))))))))))))))))))))))))))))))))))) (v8 (zdr (h1:= [_,_,_])) es)⟩
     ·obtain ⟨hc',_⟩:=hK
      exact absurd hc' (by simp)
   ·have qj:=za4 hc32 lj
    subst qj
    refine rn ?_;have hbl:=yi2 hc kd
    refine rn ?_;refine z8 rfl (zst rfl rfl fun b68=> ?_)
    refine rn ?_;refine zaa (fun x:List Nat×SV=>x.1.Nodup∧∀i∈x.1,i < (zch (zby h kd h.evs.length)).length) (fun x=>⟨[(68,pZ b68),(15,.v x.2.v)],.mapr bm (zaq zbc (zbq gC (zch (zby h kd h.evs.length)))) b68 x.1:: .row x.2.v 7 41 ((ye8 (zch (zby h kd h.evs.length)) x.1).map k8):: .box b8 166 [mpv bm]:: .box b6 119 (rwP h rc rl rk rg):: .box b2 28 (w7 h)::rgR rg M::rkS h rk::zbb h rl::rcR h rc:: .glob 2 156 y5:: .glob 4 305 y7:: .glob 5 308 y2:: .glob 3 246 u0:: .glob 1 175 zaf:: .glob 0 171 [mpv rO]:: .obj rO oK::(dfs.map Res.defs),dfs⟩) (fun x=>(zch (zby h kd h.evs.length)).length - x.1.length) ([],⟨none,0,0⟩) ⟨.nil,fun i hi=>(by cases hi)⟩ (v8 (zao 7 41) (v8 (zaz (pt1 _ _ _)) es)) ?_
    rintro ⟨sn,s⟩ ⟨hsn,hsl⟩
    simp only at hsn hsl
    refine w8 (y4 ?_)
    refine z8 rfl (zu9 rfl rfl (fun hall=> ?_) (fun i hi hni=> ?_))
    ·refine rn ?_;refine z7 rfl (fun hc70=> ?_) (fun hc70=> ?_)
     ·first|cases hc70|exact absurd hc70 (by decide)|(exfalso;simp_all;done)
     ·refine rn ?_;have hsb:=zqc hsn hsl
      refine rn ?_;refine z8 rfl (v7 rfl rfl (y0.lendG (y0.of_fun (yf3 (ye8 (zch (zby h kd h.evs.length)) sn) (.fn (.func 39) [] []) rfl zid (fun x y=>y0.of_fun (zrl x y)) (by rw [zw8];omega))) (by rintro _ _ ⟨s,rfl,rfl⟩;exact ⟨.v _,fun x hx=>by rw [List.mem_singleton.1 hx];exact zww (zwx _)⟩) (BLe.refl _ _) (by exact ⟨zk8,BLe.refl _ _,trivial⟩)) rfl ?_)
      rintro _ _ ⟨_,rfl,s2,rfl,rfl⟩
      refine rn ?_;exact zi1 (List.perm_append_comm (l₁:= [_,_,_,_,_,_,_,_,_,_,_,_,_,_,_,_,_]) (l₂:=(dfs.map Res.defs))) (.cons _ _ _ _ (.tmp _ _ rfl) (.cons _ _ _ _ (.tmp _ _ rfl) .nil)) (.trans (.perm ((pt1 _ _ _).trans (.cons _ ((pt1 _ _ _).trans (.cons _ ((pt1 _ _ _).trans (.cons _ ((pt1 _ _ _).trans (.cons _ ((pt1 _ _ _).trans (.cons _ ((pt1 _ _ _).trans (.cons _ ((pt1 _ _ _).trans (.cons _ ((pt1 _ _ _).trans (.cons _ (pt1 _ _ _))))))))))))))))) _) (.drop [_,_,_,_,_,_,_,_,_] _ _)) ⟨s2,by rw [yon hc hkk hsn hsl (fun i hi=>hall i (by simpa [zaq,zbq] using hi))],by rw [hc];rfl⟩
    ·refine rn ?_;refine z7 rfl (fun hc70=> ?_) (fun hc70=> ?_)
     ·refine za2 ?_;refine zai ?_;refine zcz ?_;refine w8 (y4 ?_)
      have hi2:i < (zch (zby h kd h.evs.length)).length:=by simpa [zaq,zbq] using hi
      refine qq rfl rfl (yb4 (k:=zbc (zch (zby h kd h.evs.length))[i].1) (a:=gC (zch (zby h kd h.evs.length))[i].2) hi (by simp [zaq,zbq]) (by simp [zaq,zbq]) rfl) ?_
      refine rn ?_;refine z8 rfl (y3 rfl fun b17=> ?_)
      refine rn ?_;refine qv rfl rfl (q6 rfl rfl) ?_
      refine z8 rfl (u4 rfl rfl (by have:=zqc hsn hsl;simp only [oM,zw8,List.length_cons,List.length_nil];omega) rfl (fun s76=> ?_) (ze9 [(zch (zby h kd h.evs.length))[i].2]))
      refine j8 s76 fun sv hsv=> ?_
      subst hsv
      refine rn ?_;have hnd:(i::sn).Nodup:=List.nodup_cons.2 ⟨hni,hsn⟩
      have hal:∀j∈i::sn,j < (zch (zby h kd h.evs.length)).length:=fun j hj=>(List.mem_cons.1 hj).elim (fun q=>q ▸ hi2) (hsl j)
      have hlen:=zqc hnd hal
      exact ⟨(i::sn,sv),⟨hnd,hal⟩,by simp only;rw [yq9 hi2,List.map_append];exact eA,by simp only [List.length_cons] at hlen ⊢;omega⟩
     ·first|cases hc70|exact absurd hc70 (by decide)|(exfalso;simp_all;done)
 ·refine rn ?_;refine z8 rfl (y3 rfl fun b6=> ?_)
  refine rn ?_;refine z7 rfl (fun hc24=> ?_) (fun hc24=> ?_)
  ·refine rn ?_;exact zb2 rfl rfl (.trans (.drop [_,_] _ _) (zah 7 41 _)) ⟨⟨none,0,0⟩,by rw [yqe hc];rfl,rfl⟩
  ·first|cases hc24|exact absurd hc24 (by decide)|(exfalso;simp_all;done)
theorem ywb (h:Hist) (la:Lim 4611686018427387904 h) (rO:Nat) (oK:Obj) (hK:KO oK):y8 Tryz.prog 86 [.agg (w7 h),iv 3] (.glob 2 156 y5:: .glob 4 305 y7:: .glob 5 308 y2:: .glob 3 246 u0:: .glob 1 175 zaf:: .glob 0 171 [mpv rO]:: .obj rO oK:: []) (fun r h'=>h'= .glob 2 156 y5:: .glob 4 305 y7:: .glob 5 308 y2:: .glob 3 246 u0:: .glob 1 175 zaf:: .glob 0 171 [mpv rO]:: .obj rO oK:: []∧r= .tup [ziu (ye5 h 3),iv (u6 h)]):=(zr7 h la rO oK hK 3 (by decide)).ventR (by rintro _ _ ⟨s,rfl,rfl⟩;exact ⟨_,_,zbf [] [_],rfl,rfl⟩)
theorem yqc (h:Hist) (la:Lim 4611686018427387904 h) (rO:Nat) (oK:Obj) (hK:KO oK):y8 Tryz.prog 32 [.agg (w7 h)] (.glob 2 156 y5:: .glob 4 305 y7:: .glob 5 308 y2:: .glob 3 246 u0:: .glob 1 175 zaf:: .glob 0 171 [mpv rO]:: .obj rO oK:: []) (fun r h'=>h'= .glob 2 156 y5:: .glob 4 305 y7:: .glob 5 308 y2:: .glob 3 246 u0:: .glob 1 175 zaf:: .glob 0 171 [mpv rO]:: .obj rO oK:: []∧r= .tup [ziu (ye5 h 3),iv (u6 h)]):=by
 refine z6 Tryz.func32 rfl rfl rfl ?_
 refine rn ?_;refine z8 rfl (w9 rfl rfl rfl fun b1=> ?_)
 refine rn ?_;refine qv rfl rfl (y1 rfl rfl (y0.qt (y0.of_fun (ywb h la rO oK hK)) ((pt1 _ _ _).trans (.cons _ ((pt1 _ _ _).trans (.cons _ ((pt1 _ _ _).trans (.cons _ ((pt1 _ _ _).trans (.cons _ ((pt1 _ _ _).trans (.cons _ ((pt1 _ _ _).trans (.cons _ (pt1 _ _ _))))))))))))))) ?_
 refine rn ?_;exact zb2 rfl rfl (.drop [_] _ _) ⟨rfl,rfl⟩
theorem ywa (h:Hist) (la:Lim 4611686018427387904 h) (rO:Nat) (oK:Obj) (hK:KO oK):y8 Tryz.prog 86 [.agg (w7 h),iv 4] (.glob 2 156 y5:: .glob 4 305 y7:: .glob 5 308 y2:: .glob 3 246 u0:: .glob 1 175 zaf:: .glob 0 171 [mpv rO]:: .obj rO oK:: []) (fun r h'=>h'= .glob 2 156 y5:: .glob 4 305 y7:: .glob 5 308 y2:: .glob 3 246 u0:: .glob 1 175 zaf:: .glob 0 171 [mpv rO]:: .obj rO oK:: []∧r= .tup [ziu (ye5 h 4),iv (u6 h)]):=(zr7 h la rO oK hK 4 (by decide)).ventR (by rintro _ _ ⟨s,rfl,rfl⟩;exact ⟨_,_,zbf [] [_],rfl,rfl⟩)
theorem yly (h:Hist) (la:Lim 4611686018427387904 h) (rO:Nat) (oK:Obj) (hK:KO oK):y8 Tryz.prog 33 [.agg (w7 h)] (.glob 2 156 y5:: .glob 4 305 y7:: .glob 5 308 y2:: .glob 3 246 u0:: .glob 1 175 zaf:: .glob 0 171 [mpv rO]:: .obj rO oK:: []) (fun r h'=>h'= .glob 2 156 y5:: .glob 4 305 y7:: .glob 5 308 y2:: .glob 3 246 u0:: .glob 1 175 zaf:: .glob 0 171 [mpv rO]:: .obj rO oK:: []∧r= .tup [ziu (ye5 h 4),iv (u6 h)]):=by
 refine z6 Tryz.func33 rfl rfl rfl ?_
 refine rn ?_;refine z8 rfl (w9 rfl rfl rfl fun b1=> ?_)
 refine rn ?_;refine qv rfl rfl (y1 rfl rfl (y0.qt (y0.of_fun (ywa h la rO oK hK)) ((pt1 _ _ _).trans (.cons _ ((pt1 _ _ _).trans (.cons _ ((pt1 _ _ _).trans (.cons _ ((pt1 _ _ _).trans (.cons _ ((pt1 _ _ _).trans (.cons _ ((pt1 _ _ _).trans (.cons _ (pt1 _ _ _))))))))))))))) ?_
 refine rn ?_;exact zb2 rfl rfl (.drop [_] _ _) ⟨rfl,rfl⟩
theorem ask_c {h:Hist} {x n:Int} (hc:u6 h≠0):zg8 h x n=u6 h:=by rw [zg8,if_neg hc]
theorem zjp {f g:Bool} (l m:List ByteArray) (hl:l.length≤4611686018427387904) (hm:m.length≤4611686018427387904):y8 Tryz.prog 78 [.list f 1 (l.map zfe),.list g 1 (m.map zfe)] [] (fun r h'=>h'= []∧r=bv (decide (l=m))):=
 (ygo l m hl hm).mono (fun r h' q=>⟨q.1,by rw [q.2,zgg zwn]⟩)
theorem zm4 {f g:Bool} (l m:List Int) (hl:l.length≤4611686018427387904) (hm:m.length≤4611686018427387904):y8 Tryz.prog 80 [.list f 1 (l.map zac),.list g 1 (m.map zac)] [] (fun r h'=>h'= []∧r=bv (decide (l=m))):=
 (zy0 l m hl hm).mono (fun r h' q=>⟨q.1,by rw [q.2,zgg zme]⟩)
theorem ybt (a b:Ev) (ha:a.scan.length≤4611686018427387904) (hb:b.scan.length≤4611686018427387904):y8 Tryz.prog 79 [.agg (evR a),.agg (evR b)] [] (fun r h'=>h'= []∧r=bv (decide (a=b))):=
 (zfy a b ha hb).mono (fun r h' q=>⟨q.1,by rw [q.2,zvv]⟩)
theorem zdb {a b:Hist} (h:a≠b):zun a b=false:=by
 cases q:zun a b with
 |false=>rfl
 |true=>exact absurd ((zmy a b).1 q) h
theorem ylx {a b:Hist} (h:a=b):zun a b=true:=(zmy a b).2 h
theorem ymf (a b:Hist) (la:Lim 4611686018427387904 a) (lb:Lim 4611686018427387904 b):y8 Tryz.prog 26 [.agg (w7 a),.agg (w7 b)] [] (fun r h'=>h'= []∧r=bv (zun a b)):=by
 refine z6 Tryz.func26 rfl rfl rfl ?_
 refine rn ?_;refine z8 rfl (w9 rfl rfl rfl fun b2=> ?_)
 refine z8 rfl (w9 rfl rfl rfl fun b3=> ?_)
 refine rn ?_;refine qv rfl rfl (y1 rfl rfl (u5 (zjp a.ts b.ts la.ts lb.ts) (Sbs.refl _))) ?_
 refine rn ?_;refine w6 (fun hg1_6=> ?_) (fun hg1_6=> ?_)
 ·refine rn ?_;refine zc0 rfl ?_;refine rn ?_;exact j9 rfl (.drop [_,_] _ _) ⟨rfl,congrArg bv (Eq.symm (zdb fun q=>by subst q;simp_all))⟩
 ·refine rn ?_;refine qv rfl rfl (y1 rfl rfl (u5 (zjp a.ss b.ss la.ss lb.ss) (Sbs.refl _))) ?_
  refine rn ?_;refine w6 (fun hg1_14=> ?_) (fun hg1_14=> ?_)
  ·refine rn ?_;refine zc0 rfl ?_;refine rn ?_;exact j9 rfl (.drop [_,_] _ _) ⟨rfl,congrArg bv (Eq.symm (zdb fun q=>by subst q;simp_all))⟩
  ·refine rn ?_;refine qv rfl rfl (y1 rfl rfl (u5 (zjp a.os b.os la.os lb.os) (Sbs.refl _))) ?_
   refine rn ?_;refine w6 (fun hg1_22=> ?_) (fun hg1_22=> ?_)
   ·refine rn ?_;refine zc0 rfl ?_;refine rn ?_;exact j9 rfl (.drop [_,_] _ _) ⟨rfl,congrArg bv (Eq.symm (zdb fun q=>by subst q;simp_all))⟩
   ·refine rn ?_;refine qv rfl rfl (y1 rfl rfl (u5 (zjp a.ps b.ps la.ps lb.ps) (Sbs.refl _))) ?_
    refine rn ?_;refine w6 (fun hg1_30=> ?_) (fun hg1_30=> ?_)
    ·refine rn ?_;refine zc0 rfl ?_;refine rn ?_;exact j9 rfl (.drop [_,_] _ _) ⟨rfl,congrArg bv (Eq.symm (zdb fun q=>by subst q;simp_all))⟩
    ·refine rn ?_;refine w6 (fun hg1_39=> ?_) (fun hg1_39=> ?_)
     ·refine rn ?_;refine zc0 rfl ?_;refine rn ?_;exact j9 rfl (.drop [_,_] _ _) ⟨rfl,congrArg bv (Eq.symm (zdb fun q=>by subst q;simp_all))⟩
     ·refine rn ?_;refine w6 (fun hg1_48=> ?_) (fun hg1_48=> ?_)
      ·refine rn ?_;refine zc0 rfl ?_;refine rn ?_;exact j9 rfl (.drop [_,_] _ _) ⟨rfl,congrArg bv (Eq.symm (zdb fun q=>by subst q;simp_all))⟩
      ·refine rn ?_;refine w6 (fun hg1_57=> ?_) (fun hg1_57=> ?_)
       ·refine rn ?_;refine zc0 rfl ?_;refine rn ?_;exact j9 rfl (.drop [_,_] _ _) ⟨rfl,congrArg bv (Eq.symm (zdb fun q=>by subst q;simp_all))⟩
       ·refine rn ?_;refine z7 rfl (fun hc78=> ?_) (fun hc78=> ?_)
        ·refine rn ?_;exact j9 rfl (.drop [_,_] _ _) ⟨rfl,congrArg bv (Eq.symm (zdb fun q=>by subst q;simp_all))⟩
        ·have Ets:a.ts=b.ts:=by simp_all
         have Ess:a.ss=b.ss:=by simp_all
         have Eos:a.os=b.os:=by simp_all
         have Eps:a.ps=b.ps:=by simp_all
         have Levs:a.evs.length=b.evs.length:=by simp at *;omega
         have Lords:a.ords.length=b.ords.length:=by simp at *;omega
         have Lmats:a.mats.length=b.mats.length:=by simp at *;omega
         have Lwants:a.wants.length=b.wants.length:=by simp at *;omega
         refine rn ?_;refine zaa (fun k:Nat=>k≤a.evs.length∧a.evs.take k=b.evs.take k) (fun k=>⟨[(82,iv k),(81,iv (a.evs.map evR).length),(2,pZ b2),(3,pZ b3)],[.box b3 28 (w7 b),.box b2 28 (w7 a)],[]⟩) (fun k=>a.evs.length - k) 0 ⟨Nat.zero_le _,by simp⟩
          (v6 (.cons _ _ _ rfl (.cons _ _ _ rfl (.cons _ _ _ rfl (.cons _ _ _ rfl (.nil)))))) ?_
         rintro k ⟨hk,ht⟩
         refine rn ?_;refine z7 rfl (fun hc83=> ?_) (fun hc83=> ?_)
         ·have hbig:=la.evs
          have hk2:k < a.evs.length:=by simpa using hc83
          have hk3:k < b.evs.length:=by omega
          obtain ⟨x,hx0⟩:∃x,x=a.evs[k]:=⟨_,rfl⟩
          obtain ⟨y,hy0⟩:∃y,y=b.evs[k]:=⟨_,rfl⟩
          have hrow1:(a.evs.map evR)[k]? =some (evR x):=by rw [hx0];simp [hk2]
          have hrow2:(b.evs.map evR)[k]? =some (evR y):=by rw [hy0];simp [hk3]
          refine rn ?_;refine k9 10 rfl ?_
          refine rn ?_;refine qv rfl rfl (y1 rfl rfl (u5 (ybt x y (la.scans _ (by rw [hx0];exact List.getElem_mem _)) (lb.scans _ (by rw [hy0];exact List.getElem_mem _))) (Sbs.refl _))) ?_
          refine rn ?_;refine z7 rfl (fun hc96=> ?_) (fun hc96=> ?_)
          ·have hne:x≠y:=by clear hx0 hy0 hrow1 hrow2 ht;intro q;subst q;simp_all
           refine rn ?_;exact j9 rfl (.drop [_,_] _ _) ⟨rfl,congrArg bv (Eq.symm (zdb fun q=>by subst q;exact hne (hx0.trans hy0.symm)))⟩
          ·have hxy:x=y:=by simpa using hc96
           refine rn ?_;exact ⟨k+1,⟨by omega,by rw [List.take_succ_eq_append_getElem hk2,List.take_succ_eq_append_getElem hk3,ht,←hx0,←hy0,hxy]⟩,(v6 (.cons _ _ _ rfl (.cons _ _ _ rfl (.cons _ _ _ rfl (.cons _ _ _ rfl (.nil)))))),by omega⟩
         ·have hk2:¬k < a.evs.length:=by simpa using hc83
          have Eevs:a.evs=b.evs:=by
           have hk3:k=a.evs.length:=by omega
           rw [hk3,List.take_length] at ht
           rw [ht,Levs,List.take_length]
          clear ht hk
          refine rn ?_;refine zaa (fun k:Nat=>k≤a.ords.length∧a.ords.take k=b.ords.take k) (fun k=>⟨[(101,iv k),(100,iv (a.ords.map zeg).length),(99,zzl a.ords),(2,pZ b2),(3,pZ b3)],[.box b3 28 (w7 b),.box b2 28 (w7 a)],[]⟩) (fun k=>a.ords.length - k) 0 ⟨Nat.zero_le _,by simp⟩
           (v6 (.cons _ _ _ rfl (.cons _ _ _ rfl (.cons _ _ _ rfl (.cons _ _ _ rfl (.cons _ _ _ rfl (.nil))))))) ?_
          rintro k ⟨hk,ht⟩
          refine rn ?_;refine z7 rfl (fun hc102=> ?_) (fun hc102=> ?_)
          ·have hbig:=la.ords
           have hk2:k < a.ords.length:=by simpa using hc102
           have hk3:k < b.ords.length:=by omega
           obtain ⟨x,hx0⟩:∃x,x=a.ords[k]:=⟨_,rfl⟩
           obtain ⟨y,hy0⟩:∃y,y=b.ords[k]:=⟨_,rfl⟩
           have hrow1:(a.ords.map zeg)[k]? =some (zeg x):=by rw [hx0];simp [hk2]
           have hrow2:(b.ords.map zeg)[k]? =some (zeg y):=by rw [hy0];simp [hk3]
           refine rn ?_;refine z8 rfl (y3 rfl fun b7=> ?_)
           refine rn ?_;refine z8 rfl (y3 rfl fun b8=> ?_)
           refine rn ?_;refine w6 (fun hg13_5=> ?_) (fun hg13_5=> ?_)
           ·refine rn ?_;refine zc0 rfl ?_;have hne:x≠y:=by clear hx0 hy0 hrow1 hrow2 ht;intro q;subst q;simp_all
            refine rn ?_;exact j9 rfl (.drop [_,_,_,_] _ _) ⟨rfl,congrArg bv (Eq.symm (zdb fun q=>by subst q;exact hne (hx0.trans hy0.symm)))⟩
           ·refine rn ?_;refine qv rfl rfl (y1 rfl rfl (u5 (zm4 x.ts y.ts (la.ordts _ (by rw [hx0];exact List.getElem_mem _)) (lb.ordts _ (by rw [hy0];exact List.getElem_mem _))) (Sbs.refl _))) ?_
            refine rn ?_;refine z7 rfl (fun hc123=> ?_) (fun hc123=> ?_)
            ·have hne:x≠y:=by clear hx0 hy0 hrow1 hrow2 ht;intro q;subst q;simp_all
             refine rn ?_;exact j9 rfl (.drop [_,_,_,_] _ _) ⟨rfl,congrArg bv (Eq.symm (zdb fun q=>by subst q;exact hne (hx0.trans hy0.symm)))⟩
            ·have hxy:x=y:=by clear hx0 hy0 hrow1 hrow2 ht;cases x;cases y;simp_all
             refine rn ?_;exact ⟨k+1,⟨by omega,by rw [List.take_succ_eq_append_getElem hk2,List.take_succ_eq_append_getElem hk3,ht,←hx0,←hy0,hxy]⟩,(v8 (zdr (h1:= [_,_])) (v6 (.cons _ _ _ rfl (.cons _ _ _ rfl (.cons _ _ _ rfl (.cons _ _ _ rfl (.cons _ _ _ rfl (.nil)))))))),by omega⟩
          ·have hk2:¬k < a.ords.length:=by simpa using hc102
           have Eords:a.ords=b.ords:=by
            have hk3:k=a.ords.length:=by omega
            rw [hk3,List.take_length] at ht
            rw [ht,Lords,List.take_length]
           clear ht hk
           refine rn ?_;refine zaa (fun k:Nat=>k≤a.mats.length∧a.mats.take k=b.mats.take k) (fun k=>⟨[(128,iv k),(127,iv (a.mats.map zd3).length),(126,zve a.mats),(2,pZ b2),(3,pZ b3)],[.box b3 28 (w7 b),.box b2 28 (w7 a)],[]⟩) (fun k=>a.mats.length - k) 0 ⟨Nat.zero_le _,by simp⟩
            (v6 (.cons _ _ _ rfl (.cons _ _ _ rfl (.cons _ _ _ rfl (.cons _ _ _ rfl (.cons _ _ _ rfl (.nil))))))) ?_
           rintro k ⟨hk,ht⟩
           refine rn ?_;refine z7 rfl (fun hc129=> ?_) (fun hc129=> ?_)
           ·have hbig:=la.mats
            have hk2:k < a.mats.length:=by simpa using hc129
            have hk3:k < b.mats.length:=by omega
            obtain ⟨x,hx0⟩:∃x,x=a.mats[k]:=⟨_,rfl⟩
            obtain ⟨y,hy0⟩:∃y,y=b.mats[k]:=⟨_,rfl⟩
            have hrow1:(a.mats.map zd3)[k]? =some (zd3 x):=by rw [hx0];simp [hk2]
            have hrow2:(b.mats.map zd3)[k]? =some (zd3 y):=by rw [hy0];simp [hk3]
            refine rn ?_;refine z8 rfl (y3 rfl fun b10=> ?_)
            refine rn ?_;refine z8 rfl (y3 rfl fun b11=> ?_)
            refine rn ?_;refine w6 (fun hg20_5=> ?_) (fun hg20_5=> ?_)
            ·refine rn ?_;refine zc0 rfl ?_;have hne:x≠y:=by clear hx0 hy0 hrow1 hrow2 ht;intro q;subst q;simp_all
             refine rn ?_;exact j9 rfl (.drop [_,_,_,_] _ _) ⟨rfl,congrArg bv (Eq.symm (zdb fun q=>by subst q;exact hne (hx0.trans hy0.symm)))⟩
            ·refine rn ?_;refine w6 (fun hg20_12=> ?_) (fun hg20_12=> ?_)
             ·refine rn ?_;refine zc0 rfl ?_;have hne:x≠y:=by clear hx0 hy0 hrow1 hrow2 ht;intro q;subst q;simp_all
              refine rn ?_;exact j9 rfl (.drop [_,_,_,_] _ _) ⟨rfl,congrArg bv (Eq.symm (zdb fun q=>by subst q;exact hne (hx0.trans hy0.symm)))⟩
             ·refine rn ?_;refine w6 (fun hg20_19=> ?_) (fun hg20_19=> ?_)
              ·refine rn ?_;refine zc0 rfl ?_;have hne:x≠y:=by clear hx0 hy0 hrow1 hrow2 ht;intro q;subst q;simp_all
               refine rn ?_;exact j9 rfl (.drop [_,_,_,_] _ _) ⟨rfl,congrArg bv (Eq.symm (zdb fun q=>by subst q;exact hne (hx0.trans hy0.symm)))⟩
              ·refine rn ?_;refine qv rfl rfl (y1 rfl rfl (u5 (zm4 x.ts y.ts (la.matts _ (by rw [hx0];exact List.getElem_mem _)) (lb.matts _ (by rw [hy0];exact List.getElem_mem _))) (Sbs.refl _))) ?_
               refine rn ?_;refine z7 rfl (fun hc164=> ?_) (fun hc164=> ?_)
               ·have hne:x≠y:=by clear hx0 hy0 hrow1 hrow2 ht;intro q;subst q;simp_all
                refine rn ?_;exact j9 rfl (.drop [_,_,_,_] _ _) ⟨rfl,congrArg bv (Eq.symm (zdb fun q=>by subst q;exact hne (hx0.trans hy0.symm)))⟩
               ·have hxy:x=y:=by clear hx0 hy0 hrow1 hrow2 ht;cases x;cases y;simp_all
                refine rn ?_;exact ⟨k+1,⟨by omega,by rw [List.take_succ_eq_append_getElem hk2,List.take_succ_eq_append_getElem hk3,ht,←hx0,←hy0,hxy]⟩,(v8 (zdr (h1:= [_,_])) (v6 (.cons _ _ _ rfl (.cons _ _ _ rfl (.cons _ _ _ rfl (.cons _ _ _ rfl (.cons _ _ _ rfl (.nil)))))))),by omega⟩
           ·have hk2:¬k < a.mats.length:=by simpa using hc129
            have Emats:a.mats=b.mats:=by
             have hk3:k=a.mats.length:=by omega
             rw [hk3,List.take_length] at ht
             rw [ht,Lmats,List.take_length]
            clear ht hk
            refine rn ?_;refine zaa (fun k:Nat=>k≤a.wants.length∧a.wants.take k=b.wants.take k) (fun k=>⟨[(169,iv k),(168,iv (a.wants.map zfq).length),(2,pZ b2),(3,pZ b3)],[.box b3 28 (w7 b),.box b2 28 (w7 a)],[]⟩) (fun k=>a.wants.length - k) 0 ⟨Nat.zero_le _,by simp⟩
             (v6 (.cons _ _ _ rfl (.cons _ _ _ rfl (.cons _ _ _ rfl (.cons _ _ _ rfl (.nil)))))) ?_
            rintro k ⟨hk,ht⟩
            refine rn ?_;refine z7 rfl (fun hc170=> ?_) (fun hc170=> ?_)
            ·have hbig:=la.wants
             have hk2:k < a.wants.length:=by simpa using hc170
             have hk3:k < b.wants.length:=by omega
             obtain ⟨x,hx0⟩:∃x,x=a.wants[k]:=⟨_,rfl⟩
             obtain ⟨y,hy0⟩:∃y,y=b.wants[k]:=⟨_,rfl⟩
             have hrow1:(a.wants.map zfq)[k]? =some (zfq x):=by rw [hx0];simp [hk2]
             have hrow2:(b.wants.map zfq)[k]? =some (zfq y):=by rw [hy0];simp [hk3]
             refine rn ?_;refine k9 10 rfl ?_
             refine rn ?_;refine z7 rfl (fun hc182=> ?_) (fun hc182=> ?_)
             ·have hne:x≠y:=by clear hx0 hy0 hrow1 hrow2 ht;intro q;subst q;simp_all
              refine rn ?_;exact j9 rfl (.drop [_,_] _ _) ⟨rfl,congrArg bv (Eq.symm (zdb fun q=>by subst q;exact hne (hx0.trans hy0.symm)))⟩
             ·have hxy:x=y:=by clear hx0 hy0 hrow1 hrow2 ht;cases x;cases y;simp_all
              refine rn ?_;exact ⟨k+1,⟨by omega,by rw [List.take_succ_eq_append_getElem hk2,List.take_succ_eq_append_getElem hk3,ht,←hx0,←hy0,hxy]⟩,(v6 (.cons _ _ _ rfl (.cons _ _ _ rfl (.cons _ _ _ rfl (.cons _ _ _ rfl (.nil)))))),by omega⟩
            ·have hk2:¬k < a.wants.length:=by simpa using hc170
             have Ewants:a.wants=b.wants:=by
              have hk3:k=a.wants.length:=by omega
              rw [hk3,List.take_length] at ht
              rw [ht,Lwants,List.take_length]
             clear ht hk
             refine rn ?_;exact j9 rfl (.drop [_,_] _ _) ⟨rfl,congrArg bv (Eq.symm (ylx (by cases a;cases b;simp_all)))⟩
theorem ydu {f g:Bool} (l m:List Conf) (hl:l.length≤4611686018427387904) (hm:m.length≤4611686018427387904):y8 Tryz.prog 19 [.list f 7 (l.map k8),.list g 7 (m.map k8)] [] (fun r h'=>h'= []∧r=bv (eqF zj6 l m)):=by
 refine z6 Tryz.func19 rfl rfl rfl ?_
 refine rn ?_;refine z7 rfl (fun hc10=> ?_) (fun hc10=> ?_)
 ·refine rn ?_;have hne:(l.length==m.length)=false:=beq_eq_false_iff_ne.2 fun q=>by simp [q] at hc10
  exact j9 rfl (.refl _ _) ⟨rfl,by rw [eqF,hne,Bool.false_and];rfl⟩
 ·have hlm:l.length=m.length:=by simp at hc10;omega
  refine rn ?_;refine zaa (fun k:Nat=>k≤l.length∧zje zj6 l m=zje zj6 (l.drop k) (m.drop k)) (fun k=>⟨[(13,iv k),(0,.list f 7 (l.map k8)),(1,.list g 7 (m.map k8)),(12,iv (l.map k8).length)],[],[]⟩) (fun k=>l.length - k) 0 ⟨Nat.zero_le _,by simp⟩
   (v6 (.cons _ _ _ rfl (.cons _ _ _ rfl (.cons _ _ _ rfl (.cons _ _ _ rfl (.nil)))))) ?_
  rintro k ⟨hk,hz⟩
  refine rn ?_;refine z7 rfl (fun hc14=> ?_) (fun hc14=> ?_)
  ·have hk2:k < l.length:=by simpa using hc14
   have hk3:k < m.length:=by omega
   have hrow1:(l.map k8)[k]? =some (k8 l[k]):=by simp [hk2]
   have hrow2:(m.map k8)[k]? =some (k8 m[k]):=by simp [hk3]
   have hd1:=List.drop_eq_getElem_cons hk2
   have hd2:=List.drop_eq_getElem_cons hk3
   refine rn ?_;refine k9 8 rfl ?_
   refine rn ?_;refine z7 rfl (fun hc24=> ?_) (fun hc24=> ?_)
   ·refine rn ?_;exact j9 rfl (.refl _ _) ⟨rfl,by rw [eqF,hz,hd1,hd2,zje,show zj6 l[k] m[k]=false from zsv hc24,Bool.false_and,Bool.and_false];rfl⟩
   ·refine rn ?_;exact ⟨k+1,⟨by omega,by rw [hz,hd1,hd2,zje,show zj6 l[k] m[k]=true from zsw hc24,Bool.true_and]⟩,(v6 (.cons _ _ _ rfl (.cons _ _ _ rfl (.cons _ _ _ rfl (.cons _ _ _ rfl (.nil)))))),by omega⟩
  ·have hk3:k=l.length:=by
    have:l.length≤k:=by simpa using hc14
    omega
   refine rn ?_;exact j9 rfl (.refl _ _) ⟨rfl,by rw [eqF,hz,hk3,List.drop_length,zh0,hlm,beq_self_eq_true];rfl⟩
theorem ysx {f g:Bool} (l:List Conf) (hl:l.length≤4611686018427387904):y8 Tryz.prog 19 [.list f 7 (l.map k8),.list g 7 (l.map k8)] [] (fun r h'=>h'= []∧r=bv true):=(ydu l l hl hl).mono fun _ _ q=>⟨q.1,by rw [q.2,zgg zj5];simp⟩
def RwJ (h:Hist) (c:Conf):Prop:=u6 h=0∧∃a:Nat,c.a=(a:Int)∧∃ha:a < h.evs.length,c∈zb5 h h.evs[a] a
theorem yl3 {h:Hist} {c:Conf} (hc:u6 h≠0):¬RwJ h c:=fun q=>hc q.1
theorem zyt {h:Hist} {c:Conf} (hn:c.a < 0∨(h.evs.length:Int)≤c.a):¬RwJ h c:=fun ⟨_,a,e,ha,_⟩=>by omega
theorem yt2 {h:Hist} {c:Conf} {a:Nat} (e:c.a=(a:Int)) (ha:a < h.evs.length) (hm:¬c∈zb5 h h.evs[a] a):¬RwJ h c:=fun ⟨_,b,e2,hb,hq⟩=>by
 have:b=a:=by omega
 subst this;exact hm hq
theorem yqa {h:Hist} {c:Conf} {a:Nat} (hc:u6 h=0) (e:c.a=(a:Int)) (ha:a < h.evs.length) (hm:c∈zb5 h h.evs[a] a):RwJ h c:=⟨hc,a,e,ha,hm⟩
def rwJ (h:Hist) (c:Conf):Bool:=decide (u6 h=0) && (decide (0≤c.a) && match h.evs[c.a.toNat]? with
 |some e=>decide (c∈zb5 h e c.a.toNat)
 |none=>false)
theorem ybc {h:Hist} {c:Conf}:rwJ h c=true ↔ RwJ h c:=by
 rw [rwJ,Bool.and_eq_true,Bool.and_eq_true,decide_eq_true_iff,decide_eq_true_iff]
 constructor
 ·rintro ⟨h1,h2,h3⟩
  split at h3
  ·rename_i e he
   obtain ⟨hl,rfl⟩:=List.getElem?_eq_some_iff.1 he
   exact ⟨h1,c.a.toNat,by omega,hl,oT h3⟩
  ·cases h3
 ·rintro ⟨h1,a,e,ha,hm⟩
  refine ⟨h1,by omega,?_⟩
  rw [show c.a.toNat=a by omega,List.getElem?_eq_getElem ha]
  exact decide_eq_true hm
theorem yqb {h:Hist} {c:Conf} (q:RwJ h c):rwJ h c=true:=ybc.2 q
theorem zoe {h:Hist} {c:Conf} (q:¬RwJ h c):rwJ h c=false:=Bool.eq_false_iff.2 fun e=>q (ybc.1 e)
def OvB (h:Hist) (n:Int):Prop:=∃a:Nat,n=(a:Int)∧∃ha:a < h.evs.length,zf1 h.evs h.evs[a].t 5=true∧(h.evs[a].kind=3∨h.evs[a].kind=4)
theorem yhd {h:Hist} {n:Int} (q:n < 0):¬OvB h n:=fun ⟨a,e,_⟩=>by omega
theorem yhc {h:Hist} {n:Int} (q:(h.evs.length:Int)≤n):¬OvB h n:=fun ⟨a,e,ha,_⟩=>by omega
theorem zu4 {h:Hist} {a:Nat} (ha:a < h.evs.length) (q:zf1 h.evs h.evs[a].t 5=false):¬OvB h (a:Int):=fun ⟨b,e,hb,q1,_⟩=>by
 have:b=a:=by omega
 subst this;rw [q] at q1;cases q1
theorem zu3 {h:Hist} {a:Nat} (ha:a < h.evs.length) (q3:h.evs[a].kind≠3) (q4:h.evs[a].kind≠4):¬OvB h (a:Int):=fun ⟨b,e,hb,_,q1⟩=>by
 have:b=a:=by omega
 subst this;exact q1.elim q3 q4
def ovB (h:Hist) (n:Int):Bool:=decide (0≤n) && match h.evs[n.toNat]? with
 |some e=>zf1 h.evs e.t 5 && (e.kind==3||e.kind==4)
 |none=>false
theorem ycg {h:Hist} {n:Int}:ovB h n=true ↔ OvB h n:=by
 rw [ovB,Bool.and_eq_true,decide_eq_true_iff]
 constructor
 ·rintro ⟨h2,h3⟩
  split at h3
  ·rename_i e he
   obtain ⟨hl,rfl⟩:=List.getElem?_eq_some_iff.1 he
   rw [Bool.and_eq_true,Bool.or_eq_true,beq_iff_eq,beq_iff_eq] at h3
   exact ⟨n.toNat,by omega,hl,h3.1,h3.2⟩
  ·cases h3
 ·rintro ⟨a,e,ha,hm,hk⟩
  refine ⟨by omega,?_⟩
  rw [show n.toNat=a by omega,List.getElem?_eq_getElem ha]
  simp only
  rw [hm,Bool.true_and,Bool.or_eq_true,beq_iff_eq,beq_iff_eq];exact hk
def ovC (h:Hist) (n:Int):Int:=if u6 h=0 then (if ovB h n=true then 0 else 2) else u6 h
def ovO (h:Hist) (n:Int):List Int:=if ovC h n=0 then (match h.evs[n.toNat]? with|some e=>zzk h e n.toNat|none=> []) else []
theorem yuh {h:Hist} {n:Int} (hc:u6 h≠0):ovC h n=u6 h∧ovO h n= []:=by
 have e:ovC h n=u6 h:=by rw [ovC,if_neg hc]
 exact ⟨e,by rw [ovO,e,if_neg hc]⟩
theorem yaa {h:Hist} {n:Int} (hc:u6 h=0) (hn:¬OvB h n):ovC h n=2∧ovO h n= []:=by
 have e:ovC h n=2:=by rw [ovC,if_pos hc,if_neg fun q=>hn (ycg.1 q)]
 exact ⟨e,by rw [ovO,e];rfl⟩
theorem ypg {h:Hist} {a:Nat} (hc:u6 h=0) (ha:a < h.evs.length) (hn:OvB h (a:Int)):ovC h (a:Int)=0∧ovO h (a:Int)=zzk h h.evs[a] a:=by
 have e:ovC h (a:Int)=0:=by rw [ovC,if_pos hc,if_pos (ycg.2 hn)]
 refine ⟨e,?_⟩
 rw [ovO,if_pos e,show ((a:Nat):Int).toNat=a from rfl,List.getElem?_eq_getElem ha]
theorem yva {d c:Conf} (q:zj6 d c=true):d=c:=by rw [zj5] at q;exact oT q
theorem yu9 {d c:Conf} (q:zj6 d c=false):¬d=c:=by rw [zj5] at q;exact oF q
theorem yp9 (h:Hist) (la:Lim 4611686018427387904 h) (rO:Nat) (oK:Obj) (hK:KO oK) (c:Conf):y8 Tryz.prog 40 [.agg (w7 h),.agg (k8 c)] (.glob 2 156 y5:: .glob 4 305 y7:: .glob 5 308 y2:: .glob 3 246 u0:: .glob 1 175 zaf:: .glob 0 171 [mpv rO]:: .obj rO oK:: []) (fun r h'=>h'= .glob 2 156 y5:: .glob 4 305 y7:: .glob 5 308 y2:: .glob 3 246 u0:: .glob 1 175 zaf:: .glob 0 171 [mpv rO]:: .obj rO oK:: []∧r=bv (rwJ h c)):=by
 refine z6 Tryz.func40 rfl rfl rfl ?_
 refine rn ?_;refine z8 rfl (w9 rfl rfl rfl fun b2=> ?_)
 refine z8 rfl (w9 rfl rfl rfl fun b3=> ?_)
 refine z8 rfl (y3 rfl fun b4=> ?_)
 refine u9 (zai ?_)
 refine w8 (y4 ?_)
 refine q1 ?_;refine z8 rfl (v7 rfl rfl (y0.fr3 (y0.of_fun (yl2 h la rO oK))) rfl ?_)
 rintro _ _ ⟨_,rfl,⟨hc,rc,rl,rk,rg,rfl,rfl⟩|⟨hc,rfl,rfl⟩⟩
 ·refine rn ?_;refine z8 rfl (y3 rfl fun b5=> ?_)
  first|refine z8 rfl (k7 rfl rfl rfl ?_)|refine z8 rfl (zan rfl rfl rfl rfl (Nat.le_of_ble_eq_true rfl) ?_)
  refine q1 ?_;refine u9 (zai ?_)
  refine w8 ?_;refine w8 (y4 ?_)
  refine q1 ?_;first|refine qq rfl rfl (zjq (zcw rfl rfl rfl) (yvj hc)) ?_|refine qq rfl rfl (zjq (zcw rfl rfl rfl) yvk) ?_
  refine rn ?_;refine w6 (fun hg2_7=> ?_) (fun hg2_7=> ?_)
  ·refine rn ?_;refine z7 rfl (fun hc27=> ?_) (fun hc27=> ?_)
   ·try have hge:(h.evs.length:Int)≤c.a:=by have q:=oT hc27;rw [oM] at q;omega
    refine rn ?_;first|exact ze0 (.cons _ _ _ _ (.one _ _ _ _ _ _ _ rfl inferInstance inferInstance rfl) .nil) (.drop [_,_,_,_] _ _) ⟨rfl,congrArg bv (zoe (yl3 hc)).symm⟩|exact ze0 (.cons _ _ _ _ (.one _ _ _ _ _ _ _ rfl inferInstance inferInstance rfl) .nil) (.drop [_,_,_,_,_,_,_,_] _ _) ⟨rfl,congrArg bv (zoe (zyt (.inl (oT hg2_7)))).symm⟩|exact ze0 (.cons _ _ _ _ (.one _ _ _ _ _ _ _ rfl inferInstance inferInstance rfl) .nil) (.drop [_,_,_,_,_,_,_,_] _ _) ⟨rfl,congrArg bv (zoe (zyt (.inr hge))).symm⟩
   ·first|cases hc27|exact absurd hc27 (by decide)|(exfalso;simp_all;done)
  ·refine rn ?_;refine z7 rfl (fun hc27=> ?_) (fun hc27=> ?_)
   ·try have hge:(h.evs.length:Int)≤c.a:=by have q:=oT hc27;rw [oM] at q;omega
    refine rn ?_;first|exact ze0 (.cons _ _ _ _ (.one _ _ _ _ _ _ _ rfl inferInstance inferInstance rfl) .nil) (.drop [_,_,_,_] _ _) ⟨rfl,congrArg bv (zoe (yl3 hc)).symm⟩|exact ze0 (.cons _ _ _ _ (.one _ _ _ _ _ _ _ rfl inferInstance inferInstance rfl) .nil) (.drop [_,_,_,_,_,_,_,_] _ _) ⟨rfl,congrArg bv (zoe (zyt (.inl (oT hg2_7)))).symm⟩|exact ze0 (.cons _ _ _ _ (.one _ _ _ _ _ _ _ rfl inferInstance inferInstance rfl) .nil) (.drop [_,_,_,_,_,_,_,_] _ _) ⟨rfl,congrArg bv (zoe (zyt (.inr hge))).symm⟩
   ·have h0:0≤c.a:=by have q:=oF hg2_7;omega
    have h1:c.a < h.evs.length:=by have q:=oF hc27;rw [oM] at q;omega
    obtain ⟨a,hca⟩:∃a:Nat,c.a=(a:Int):=⟨c.a.toNat,by omega⟩
    have ha:a < h.evs.length:=by omega
    refine za2 ?_;refine zai ?_;refine w8 ?_;refine w8 (y4 ?_)
    refine q1 ?_;refine q1 ?_;refine qq rfl rfl (zjq (zak rfl rfl) (show iv _=iv (a:Nat) from congrArg iv hca)) ?_
    refine z8 rfl (v7 rfl rfl (y0.of_fun (zwz h a rc rl rk rg _)) rfl ?_)
    rintro _ _ ⟨ba,bp,rfl,rfl⟩
    refine rn ?_;refine zot (fun pend h''=>(pend=none∧(¬c∈(zb5 h h.evs[a] a))∧∃M,h''= .box ba 3 [iv (a:Nat)]:: .box bp 119 (rwP h rc rl rk rg)::rgR rg M::rkS h rk::zbb h rl::rcR h rc:: .glob 2 156 y5:: .glob 4 305 y7:: .glob 5 308 y2:: .glob 3 246 u0:: .glob 1 175 zaf:: .glob 0 171 [mpv rO]:: .obj rO oK:: .box b5 119 (rwP h rc rl rk rg):: .box b4 4 [bv false]:: .box b3 41 (k8 c):: .box b2 28 (w7 h):: [])∨(pend=some .ret∧c∈(zb5 h h.evs[a] a)∧∃M,h''= .box ba 3 [iv (a:Nat)]:: .box bp 119 (rwP h rc rl rk rg)::rgR rg M::rkS h rk::zbb h rl::rcR h rc:: .glob 2 156 y5:: .glob 4 305 y7:: .glob 5 308 y2:: .glob 3 246 u0:: .glob 1 175 zaf:: .glob 0 171 [mpv rO]:: .obj rO oK:: .box b5 119 (rwP h rc rl rk rg):: .box b4 4 [bv true]:: .box b3 41 (k8 c):: .box b2 28 (w7 h):: [])) rfl (fun fn l q lp hlp=> ?_) (fun q h'' hK'=> ?_) (fun q h'' cc hK'=> ?_)
    ·suffices hy:∀pre d rest (x:Unit) M,zb5 h h.evs[a] a=pre++d::rest→(¬c∈pre)→zoc h M→y0 Tryz.prog (yv l) [.agg (k8 d)] (.box ba 3 [iv (a:Nat)]:: .box bp 119 (rwP h rc rl rk rg)::rgR rg M::rkS h rk::zbb h rl::rcR h rc:: .glob 2 156 y5:: .glob 4 305 y7:: .glob 5 308 y2:: .glob 3 246 u0:: .glob 1 175 zaf:: .glob 0 171 [mpv rO]:: .obj rO oK::lp .ready none:: .defs q:: .box b5 119 (rwP h rc rl rk rg):: .box b4 4 [bv false]:: .box b3 41 (k8 c):: .box b2 28 (w7 h):: []) (fun r h'=>∃x':Unit,(r=bv true∧(¬c∈pre++ [d])∧h'= .box ba 3 [iv (a:Nat)]:: .box bp 119 (rwP h rc rl rk rg)::rgR rg M::rkS h rk::zbb h rl::rcR h rc:: .glob 2 156 y5:: .glob 4 305 y7:: .glob 5 308 y2:: .glob 3 246 u0:: .glob 1 175 zaf:: .glob 0 171 [mpv rO]:: .obj rO oK::lp .ready none:: .defs q:: .box b5 119 (rwP h rc rl rk rg):: .box b4 4 [bv false]:: .box b3 41 (k8 c):: .box b2 28 (w7 h):: [])∨(r=bv false∧c∈(zb5 h h.evs[a] a)∧h'= .box ba 3 [iv (a:Nat)]:: .box bp 119 (rwP h rc rl rk rg)::rgR rg M::rkS h rk::zbb h rl::rcR h rc:: .glob 2 156 y5:: .glob 4 305 y7:: .glob 5 308 y2:: .glob 3 246 u0:: .glob 1 175 zaf:: .glob 0 171 [mpv rO]:: .obj rO oK::lp .done (some .ret):: .defs q:: .box b5 119 (rwP h rc rl rk rg):: .box b4 4 [bv true]:: .box b3 41 (k8 c):: .box b2 28 (w7 h):: [])) by
      refine y8.mono (y8.perm ((pt2 _ _ _ _).trans (.cons _ ((pt2 _ _ _ _).trans (.cons _ ((pt6 _ _ _ _ _ _ _ _).trans (.cons _ ((pt6 _ _ _ _ _ _ _ _).trans (.cons _ ((pt6 _ _ _ _ _ _ _ _).trans (.cons _ ((pt6 _ _ _ _ _ _ _ _).trans (.cons _ ((pt6 _ _ _ _ _ _ _ _).trans (.cons _ ((pt6 _ _ _ _ _ _ _ _).trans (.cons _ ((pt6 _ _ _ _ _ _ _ _).trans (.cons _ ((pt6 _ _ _ _ _ _ _ _).trans (.cons _ ((pt6 _ _ _ _ _ _ _ _).trans (.cons _ ((pt6 _ _ _ _ _ _ _ _).trans (.cons _ (pt6 _ _ _ _ _ _ _ _))))))))))))))))))))))))) (zwy h la hc a ha (yv l) bp ba rc rl rk rg [] (zml h) rO oK hK (fun pre (_:Unit)=>¬c∈pre) (fun _=>c∈(zb5 h h.evs[a] a)) (fun _ _=>lp .ready none:: .defs q:: .box b5 119 (rwP h rc rl rk rg):: .box b4 4 [bv false]:: .box b3 41 (k8 c):: .box b2 28 (w7 h):: []) (fun _=>lp .done (some .ret):: .defs q:: .box b5 119 (rwP h rc rl rk rg):: .box b4 4 [bv true]:: .box b3 41 (k8 c):: .box b2 28 (w7 h):: []) () (by simp) hy)) ?_
      rintro _ _ ⟨x,M,hM,⟨hn,rfl⟩|⟨hn,rfl⟩⟩
      ·exact ⟨none,.ready,_,((zw6 _ _ _ _ _ _ _ _ _ _ _ _ _ _ _).trans (.cons _ (zw6 _ _ _ _ _ _ _ _ _ _ _ _ _ _ _))),by simp,.inl ⟨rfl,hn,M,rfl⟩⟩
      ·exact ⟨some .ret,.done,_,((zw6 _ _ _ _ _ _ _ _ _ _ _ _ _ _ _).trans (.cons _ (zw6 _ _ _ _ _ _ _ _ _ _ _ _ _ _ _))),by simp,.inr ⟨rfl,hn,M,rfl⟩⟩
     intro pre d rest x M hL hpre hM
     refine y0.perm (zw6 _ _ _ _ _ _ _ _ _ _ _ _ _ _ _) (y0.ventE ?_)
     refine zey hlp rfl rfl ?_
     refine rn ?_;refine z8 rfl (y3 rfl fun b7=> ?_)
     refine rn ?_;refine ⟨[(7,pZ b7),(3,pZ b3),(4,pZ b4)],.box b7 41 (k8 d):: .box ba 3 [iv (a:Nat)]:: .box bp 119 (rwP h rc rl rk rg)::rgR rg M::rkS h rk::zbb h rl::rcR h rc:: .glob 2 156 y5:: .glob 4 305 y7:: .glob 5 308 y2:: .glob 3 246 u0:: .glob 1 175 zaf:: .glob 0 171 [mpv rO]:: .obj rO oK:: .defs q:: .box b5 119 (rwP h rc rl rk rg):: .box b4 4 [bv false]:: .box b3 41 (k8 c):: .box b2 28 (w7 h):: [],v8 (zaz (pt1 _ _ _)) es,?_⟩
     refine rn ?_;refine z7 rfl (fun hc35=> ?_) (fun hc35=> ?_)
     ·have hz:d=c:=yva hc35
      refine rn ?_;exact zur (.refl _) ⟨_,_,.trans (.perm ((pt1 _ _ _).trans (.cons _ ((pt1 _ _ _).trans (.cons _ ((pt1 _ _ _).trans (.cons _ ((pt1 _ _ _).trans (.cons _ ((pt1 _ _ _).trans (.cons _ ((pt1 _ _ _).trans (.cons _ ((pt1 _ _ _).trans (.cons _ ((pt1 _ _ _).trans (.cons _ ((pt1 _ _ _).trans (.cons _ ((pt1 _ _ _).trans (.cons _ ((pt1 _ _ _).trans (.cons _ ((pt1 _ _ _).trans (.cons _ ((pt1 _ _ _).trans (.cons _ (pt1 _ _ _))))))))))))))))))))))))))) _) (.drop [_] _ _),(),.inr ⟨rfl,by rw [hL,←hz];simp,rfl⟩⟩
     ·have hz:¬d=c:=yu9 hc35
      refine rn ?_;exact zem (.refl _) ⟨_,_,.trans (.perm ((pt1 _ _ _).trans (.cons _ ((pt1 _ _ _).trans (.cons _ ((pt1 _ _ _).trans (.cons _ ((pt1 _ _ _).trans (.cons _ ((pt1 _ _ _).trans (.cons _ ((pt1 _ _ _).trans (.cons _ ((pt1 _ _ _).trans (.cons _ ((pt1 _ _ _).trans (.cons _ ((pt1 _ _ _).trans (.cons _ ((pt1 _ _ _).trans (.cons _ ((pt1 _ _ _).trans (.cons _ ((pt1 _ _ _).trans (.cons _ ((pt1 _ _ _).trans (.cons _ (pt1 _ _ _))))))))))))))))))))))))))) _) (.drop [_] _ _),(),.inl ⟨rfl,by simp [hpre,Ne.symm hz],rfl⟩⟩
    ·obtain ⟨_,hn,M,rfl⟩|⟨hc',_⟩:=hK'
     rotate_left
     ·cases hc'
     refine rn ?_;exact zi1 (.refl _) (.cons _ _ _ _ (.one _ _ _ _ _ _ _ rfl inferInstance inferInstance rfl) .nil) (.trans (.perm (.cons _ (.cons _ (.cons _ (.cons _ (.cons _ (.cons _ ((pt7 _ _ _ _ _ _ _ _ _).trans (.cons _ ((pt7 _ _ _ _ _ _ _ _ _).trans (.cons _ ((pt7 _ _ _ _ _ _ _ _ _).trans (.cons _ (pt7 _ _ _ _ _ _ _ _ _))))))))))))) _) (.drop [_,_,_,_,_,_,_,_,_,_] _ _)) ⟨rfl,congrArg bv (zoe (yt2 hca ha hn)).symm⟩
    ·obtain ⟨hc',_⟩|⟨hc',hn,M,rfl⟩:=hK'
     ·cases hc'
     obtain rfl:cc= .ret:=by simpa using hc'
     refine rn ?_;exact zi1 (.refl _) (.cons _ _ _ _ (.one _ _ _ _ _ _ _ rfl inferInstance inferInstance rfl) .nil) (.trans (.perm (.cons _ (.cons _ (.cons _ (.cons _ (.cons _ (.cons _ ((pt7 _ _ _ _ _ _ _ _ _).trans (.cons _ ((pt7 _ _ _ _ _ _ _ _ _).trans (.cons _ ((pt7 _ _ _ _ _ _ _ _ _).trans (.cons _ (pt7 _ _ _ _ _ _ _ _ _))))))))))))) _) (.drop [_,_,_,_,_,_,_,_,_,_] _ _)) ⟨rfl,congrArg bv (yqb (yqa hc hca ha hn)).symm⟩
 ·refine rn ?_;refine z8 rfl (y3 rfl fun b5=> ?_)
  first|refine z8 rfl (k7 rfl rfl rfl ?_)|refine z8 rfl (zan rfl rfl rfl rfl (Nat.le_of_ble_eq_true rfl) ?_)
  refine q1 ?_;refine u9 (zai ?_)
  refine w8 ?_;refine w8 (y4 ?_)
  refine q1 ?_;first|refine qq rfl rfl (zjq (zcw rfl rfl rfl) (yvj hc)) ?_|refine qq rfl rfl (zjq (zcw rfl rfl rfl) yvk) ?_
  refine rn ?_;refine z7 rfl (fun hc27=> ?_) (fun hc27=> ?_)
  ·try have hge:(h.evs.length:Int)≤c.a:=by have q:=oT hc27;rw [oM] at q;omega
   refine rn ?_;first|exact ze0 (.cons _ _ _ _ (.one _ _ _ _ _ _ _ rfl inferInstance inferInstance rfl) .nil) (.drop [_,_,_,_] _ _) ⟨rfl,congrArg bv (zoe (yl3 hc)).symm⟩|exact ze0 (.cons _ _ _ _ (.one _ _ _ _ _ _ _ rfl inferInstance inferInstance rfl) .nil) (.drop [_,_,_,_,_,_,_,_] _ _) ⟨rfl,congrArg bv (zoe (zyt (.inl (oT hg2_7)))).symm⟩|exact ze0 (.cons _ _ _ _ (.one _ _ _ _ _ _ _ rfl inferInstance inferInstance rfl) .nil) (.drop [_,_,_,_,_,_,_,_] _ _) ⟨rfl,congrArg bv (zoe (zyt (.inr hge))).symm⟩
  ·first|cases hc27|exact absurd hc27 (by decide)|(exfalso;simp_all;done)
theorem yl0 (h:Hist) (la:Lim 4611686018427387904 h) (rO:Nat) (oK:Obj) (hK:KO oK) (n:Int):y8 Tryz.prog 35 [.agg (w7 h),iv n] (.glob 2 156 y5:: .glob 4 305 y7:: .glob 5 308 y2:: .glob 3 246 u0:: .glob 1 175 zaf:: .glob 0 171 [mpv rO]:: .obj rO oK:: []) (fun r h'=>∃s:SV,h'= .row s.v 1 3 ((ovO h n).map zac):: .glob 2 156 y5:: .glob 4 305 y7:: .glob 5 308 y2:: .glob 3 246 u0:: .glob 1 175 zaf:: .glob 0 171 [mpv rO]:: .obj rO oK:: []∧r= .tup [.v s.v,iv (ovC h n)]):=by
 refine z6 Tryz.func35 rfl rfl rfl ?_
 refine rn ?_;refine z8 rfl (w9 rfl rfl rfl fun b2=> ?_)
 refine q1 ?_;refine q1 ?_;refine u9 (zai ?_)
 refine w8 (y4 ?_)
 refine q1 ?_;refine z8 rfl (v7 rfl rfl (y0.fr1 (y0.of_fun (yl2 h la rO oK))) rfl ?_)
 rintro _ _ ⟨_,rfl,⟨hc,rc,rl,rk,rg,rfl,rfl⟩|⟨hc,rfl,rfl⟩⟩
 ·refine rn ?_;refine z8 rfl (y3 rfl fun b6=> ?_)
  refine rn ?_;refine z7 rfl (fun hc16=> ?_) (fun hc16=> ?_)
  ·first|cases hc16|exact absurd hc16 (by decide)|(exfalso;simp_all;done)
  ·refine rn ?_;refine k9 33 rfl ?_
   refine rn ?_;refine zd2 (fun hg4_2=> ?_) (fun hg4_2=> ?_)
   ·refine rn ?_;refine z7 rfl (fun hc56=> ?_) (fun hc56=> ?_)
    ·first
     |have hn:=yhd (h:=h) (oT hg4_2)
     |(have q:=oT hg4_9;rw [oM] at q;have hn:=yhc (h:=h) q)
     |(have q:zf1 h.evs h.evs[a].t 5=false:=(by rw [←zht];simpa using hg4_21);have hn:=zu4 ha q)
     |(have q3:h.evs[a].kind≠3:=(by simpa using hg4_29);have q4:h.evs[a].kind≠4:=(by simpa using hc56);have hn:=zu3 ha q3 q4)
     refine rn ?_;exact zb2 rfl rfl (.trans (.drop [_,_,_,_,_,_] _ _) (zah 1 3 _)) ⟨⟨none,0,0⟩,by rw [(yaa hc hn).2];rfl,by rw [(yaa hc hn).1];rfl⟩
    ·first|cases hc56|exact absurd hc56 (by decide)|(exfalso;simp_all;done)
   ·refine rn ?_;refine zd2 (fun hg4_9=> ?_) (fun hg4_9=> ?_)
    ·refine rn ?_;refine z7 rfl (fun hc56=> ?_) (fun hc56=> ?_)
     ·first
      |have hn:=yhd (h:=h) (oT hg4_2)
      |(have q:=oT hg4_9;rw [oM] at q;have hn:=yhc (h:=h) q)
      |(have q:zf1 h.evs h.evs[a].t 5=false:=(by rw [←zht];simpa using hg4_21);have hn:=zu4 ha q)
      |(have q3:h.evs[a].kind≠3:=(by simpa using hg4_29);have q4:h.evs[a].kind≠4:=(by simpa using hc56);have hn:=zu3 ha q3 q4)
      refine rn ?_;exact zb2 rfl rfl (.trans (.drop [_,_,_,_,_,_] _ _) (zah 1 3 _)) ⟨⟨none,0,0⟩,by rw [(yaa hc hn).2];rfl,by rw [(yaa hc hn).1];rfl⟩
     ·first|cases hc56|exact absurd hc56 (by decide)|(exfalso;simp_all;done)
    ·have h0:0≤n:=by have q:=oF hg4_2;omega
     have h1:n < h.evs.length:=by have q:=oF hg4_9;rw [oM] at q;omega
     obtain ⟨a,rfl⟩:∃a:Nat,n=(a:Int):=⟨n.toNat,by omega⟩
     have ha:a < h.evs.length:=by omega
     have ra:=zal (f:=evR) ha
     refine dq rfl rfl qrA ?_;refine dq rfl rfl qrA ?_;refine dq rfl rfl qrA ?_;refine dq rfl rfl qrA ?_;refine dq rfl rfl qrA ?_;refine dq rfl rfl qrA ?_;refine dq rfl rfl qrA ?_;refine dq rfl rfl qrA ?_;refine dq rfl rfl (zb8 (enc:=intK) (k:=h.evs[a].t) false rfl rfl) ?_
     refine rn ?_;refine zd2 (fun hg4_21=> ?_) (fun hg4_21=> ?_)
     ·refine rn ?_;refine z7 rfl (fun hc56=> ?_) (fun hc56=> ?_)
      ·first
       |have hn:=yhd (h:=h) (oT hg4_2)
       |(have q:=oT hg4_9;rw [oM] at q;have hn:=yhc (h:=h) q)
       |(have q:zf1 h.evs h.evs[a].t 5=false:=(by rw [←zht];simpa using hg4_21);have hn:=zu4 ha q)
       |(have q3:h.evs[a].kind≠3:=(by simpa using hg4_29);have q4:h.evs[a].kind≠4:=(by simpa using hc56);have hn:=zu3 ha q3 q4)
       refine rn ?_;exact zb2 rfl rfl (.trans (.drop [_,_,_,_,_,_] _ _) (zah 1 3 _)) ⟨⟨none,0,0⟩,by rw [(yaa hc hn).2];rfl,by rw [(yaa hc hn).1];rfl⟩
      ·first|cases hc56|exact absurd hc56 (by decide)|(exfalso;simp_all;done)
     ·refine rn ?_;refine zd2 (fun hg4_29=> ?_) (fun hg4_29=> ?_)
      ·refine rn ?_;refine z7 rfl (fun hc56=> ?_) (fun hc56=> ?_)
       ·first
        |have hn:=yhd (h:=h) (oT hg4_2)
        |(have q:=oT hg4_9;rw [oM] at q;have hn:=yhc (h:=h) q)
        |(have q:zf1 h.evs h.evs[a].t 5=false:=(by rw [←zht];simpa using hg4_21);have hn:=zu4 ha q)
        |(have q3:h.evs[a].kind≠3:=(by simpa using hg4_29);have q4:h.evs[a].kind≠4:=(by simpa using hc56);have hn:=zu3 ha q3 q4)
        refine rn ?_;exact zb2 rfl rfl (.trans (.drop [_,_,_,_,_,_] _ _) (zah 1 3 _)) ⟨⟨none,0,0⟩,by rw [(yaa hc hn).2];rfl,by rw [(yaa hc hn).1];rfl⟩
       ·have hm:zf1 h.evs h.evs[a].t 5=true:=by rw [←zht];simpa using hg4_21
        have hkd:h.evs[a].kind=3∨h.evs[a].kind=4:=by
         first
         |(have q:h.evs[a].kind=3:=(by simpa using hg4_29);exact .inl q)
         |(have q:h.evs[a].kind=4:=(by simpa using hc56);exact .inr q)
        have hn:OvB h (a:Int):=⟨a,rfl,ha,hm,hkd⟩
        have hfl:=zmi hc ha
        refine rn ?_;refine z8 rfl (y3 rfl fun b8=> ?_)
        refine rn ?_;refine z8 rfl (v7 rfl rfl (y0.of_fun (zwz h a rc rl rk rg _)) rfl ?_)
        rintro _ _ ⟨ba,bp,rfl,rfl⟩
        refine rn ?_;refine zgj (s':=⟨[(59,.fn (.func 134) [] [pZ bp,pZ ba]),(8,pZ b8)],.box ba 3 [iv (a:Nat)]:: .box bp 119 (rwP h rc rl rk rg):: .box b8 29 [.v (⟨none,0,0⟩:SV).v]:: .row (⟨none,0,0⟩:SV).v 1 3 ((([]:List Conf).map Conf.t).map zac):: .box b6 119 (rwP h rc rl rk rg):: .box b2 28 (w7 h)::rgR rg []::rkS h rk::zbb h rl::rcR h rc:: .glob 2 156 y5:: .glob 4 305 y7:: .glob 5 308 y2:: .glob 3 246 u0:: .glob 1 175 zaf:: .glob 0 171 [mpv rO]:: .obj rO oK:: [],[]⟩) (v8 (zao 1 3) (v8 (zaz ((pt1 _ _ _).trans (.cons _ ((pt1 _ _ _).trans (.cons _ (pt1 _ _ _)))))) es)) ?_
        refine zot (fun pend h''=>pend=none∧∃(s:SV) (M:List ((Int×Int)×List Int)),h''= .box ba 3 [iv (a:Nat)]:: .box bp 119 (rwP h rc rl rk rg)::rgR rg M::rkS h rk::zbb h rl::rcR h rc:: .glob 2 156 y5:: .glob 4 305 y7:: .glob 5 308 y2:: .glob 3 246 u0:: .glob 1 175 zaf:: .glob 0 171 [mpv rO]:: .obj rO oK:: .box b8 29 [.v s.v]:: .row s.v 1 3 (((zb5 h h.evs[a] a).map Conf.t).map zac):: .box b6 119 (rwP h rc rl rk rg):: .box b2 28 (w7 h):: []) rfl (fun fn l q lp hlp=> ?_) (fun q h'' hK'=> ?_) (fun q h'' cc hK'=> ?_)
        ·suffices hy:∀pre d rest (s:SV) M,zb5 h h.evs[a] a=pre++d::rest→True→zoc h M→y0 Tryz.prog (yv l) [.agg (k8 d)] (.box ba 3 [iv (a:Nat)]:: .box bp 119 (rwP h rc rl rk rg)::rgR rg M::rkS h rk::zbb h rl::rcR h rc:: .glob 2 156 y5:: .glob 4 305 y7:: .glob 5 308 y2:: .glob 3 246 u0:: .glob 1 175 zaf:: .glob 0 171 [mpv rO]:: .obj rO oK::lp .ready none:: .defs q:: .box b8 29 [.v s.v]:: .row s.v 1 3 ((pre.map Conf.t).map zac):: .box b6 119 (rwP h rc rl rk rg):: .box b2 28 (w7 h):: []) (fun r h'=>∃s':SV,(r=bv true∧True∧h'= .box ba 3 [iv (a:Nat)]:: .box bp 119 (rwP h rc rl rk rg)::rgR rg M::rkS h rk::zbb h rl::rcR h rc:: .glob 2 156 y5:: .glob 4 305 y7:: .glob 5 308 y2:: .glob 3 246 u0:: .glob 1 175 zaf:: .glob 0 171 [mpv rO]:: .obj rO oK::lp .ready none:: .defs q:: .box b8 29 [.v s'.v]:: .row s'.v 1 3 (((pre++ [d]).map Conf.t).map zac):: .box b6 119 (rwP h rc rl rk rg):: .box b2 28 (w7 h):: [])∨(r=bv false∧False∧h'= .box ba 3 [iv (a:Nat)]:: .box bp 119 (rwP h rc rl rk rg)::rgR rg M::rkS h rk::zbb h rl::rcR h rc:: .glob 2 156 y5:: .glob 4 305 y7:: .glob 5 308 y2:: .glob 3 246 u0:: .glob 1 175 zaf:: .glob 0 171 [mpv rO]:: .obj rO oK:: [])) by
          refine y8.mono (y8.perm ((pt2 _ _ _ _).trans (.cons _ ((pt2 _ _ _ _).trans (.cons _ ((pt6 _ _ _ _ _ _ _ _).trans (.cons _ ((pt6 _ _ _ _ _ _ _ _).trans (.cons _ ((pt6 _ _ _ _ _ _ _ _).trans (.cons _ ((pt6 _ _ _ _ _ _ _ _).trans (.cons _ ((pt6 _ _ _ _ _ _ _ _).trans (.cons _ ((pt6 _ _ _ _ _ _ _ _).trans (.cons _ ((pt6 _ _ _ _ _ _ _ _).trans (.cons _ ((pt6 _ _ _ _ _ _ _ _).trans (.cons _ ((pt6 _ _ _ _ _ _ _ _).trans (.cons _ ((pt6 _ _ _ _ _ _ _ _).trans (.cons _ (pt6 _ _ _ _ _ _ _ _))))))))))))))))))))))))) (zwy h la hc a ha (yv l) bp ba rc rl rk rg [] (zml h) rO oK hK (fun _ (_:SV)=>True) (fun _=>False) (fun pre (s:SV)=>lp .ready none:: .defs q:: .box b8 29 [.v s.v]:: .row s.v 1 3 ((pre.map Conf.t).map zac):: .box b6 119 (rwP h rc rl rk rg):: .box b2 28 (w7 h):: []) (fun _=> []) ⟨none,0,0⟩ trivial hy)) ?_
          rintro _ _ ⟨s,M,hM,⟨-,rfl⟩|⟨hF,_⟩⟩
          ·exact ⟨none,.ready,_,((zw6 _ _ _ _ _ _ _ _ _ _ _ _ _ _ _).trans (.cons _ (zw6 _ _ _ _ _ _ _ _ _ _ _ _ _ _ _))),by simp,rfl,s,M,rfl⟩
          ·exact hF.elim
         intro pre d rest s M hL _ hM
         have hlen:pre.length < (zb5 h h.evs[a] a).length:=by rw [hL,List.length_append,List.length_cons];omega
         refine y0.perm (zw6 _ _ _ _ _ _ _ _ _ _ _ _ _ _ _) (y0.ventE ?_)
         refine zey hlp rfl rfl ?_
         refine rn ?_;refine z8 rfl (y3 rfl fun b9=> ?_)
         refine rn ?_;refine ⟨[(9,pZ b9),(8,pZ b8)],.box b9 41 (k8 d):: .box ba 3 [iv (a:Nat)]:: .box bp 119 (rwP h rc rl rk rg)::rgR rg M::rkS h rk::zbb h rl::rcR h rc:: .glob 2 156 y5:: .glob 4 305 y7:: .glob 5 308 y2:: .glob 3 246 u0:: .glob 1 175 zaf:: .glob 0 171 [mpv rO]:: .obj rO oK:: .defs q:: .box b8 29 [.v s.v]:: .row s.v 1 3 ((pre.map Conf.t).map zac):: .box b6 119 (rwP h rc rl rk rg):: .box b2 28 (w7 h):: [],v8 (zaz (pt1 _ _ _)) es,?_⟩
         refine rn ?_;refine qv rfl rfl (q6 rfl rfl) ?_
         refine z8 rfl (u4 rfl rfl (by simp only [oM,List.length_cons,List.length_nil];omega) rfl (fun s65=> ?_) (zgt [d.t]))
         refine j8 s65 fun sv hsv=> ?_
         subst hsv
         refine rn ?_;exact zem (.refl _) ⟨_,_,.trans (.perm ((pt1 _ _ _).trans (.cons _ ((pt1 _ _ _).trans (.cons _ ((pt1 _ _ _).trans (.cons _ ((pt1 _ _ _).trans (.cons _ ((pt1 _ _ _).trans (.cons _ ((pt1 _ _ _).trans (.cons _ ((pt1 _ _ _).trans (.cons _ ((pt1 _ _ _).trans (.cons _ ((pt1 _ _ _).trans (.cons _ ((pt1 _ _ _).trans (.cons _ ((pt1 _ _ _).trans (.cons _ ((pt1 _ _ _).trans (.cons _ ((pt1 _ _ _).trans (.cons _ (pt1 _ _ _))))))))))))))))))))))))))) _) (.drop [_] _ _),sv,.inl ⟨rfl,trivial,by rw [List.map_append,List.map_append];rfl⟩⟩
        ·obtain ⟨_,s,M,rfl⟩:=hK'
         refine rn ?_;refine z8 rfl (v7 rfl rfl (zgf (y0.of_fun (yat s _ (by rw [oM];omega)))) rfl ?_)
         rintro _ _ ⟨rfl,rfl⟩
         refine rn ?_;refine z8 rfl (v7 rfl rfl (zax (y0.of_fun (yd5 s _ (by rw [(zcl _).length_eq,oM];omega)))) rfl ?_)
         rintro _ _ ⟨s',rfl,rfl⟩
         refine rn ?_;exact zi1 (.refl _) (.cons _ _ _ _ (.tmp _ _ rfl) (.cons _ _ _ _ (.tmp _ _ rfl) .nil)) (.trans (.perm (.cons _ (.cons _ (.cons _ (.cons _ (.cons _ (.cons _ ((pt7 _ _ _ _ _ _ _ _ _).trans (.cons _ ((pt8 _ _ _ _ _ _ _ _ _ _).trans (.cons _ ((pt8 _ _ _ _ _ _ _ _ _ _).trans (.cons _ (pt7 _ _ _ _ _ _ _ _ _))))))))))))) _) (.drop [_,_,_,_,_,_,_,_,_] _ _)) ⟨s',by rw [(ypg hc ha hn).2];rfl,by rw [(ypg hc ha hn).1];rfl⟩
        ·obtain ⟨hc',_⟩:=hK'
         exact absurd hc' (by simp)
      ·refine rn ?_;refine z7 rfl (fun hc56=> ?_) (fun hc56=> ?_)
       ·first|cases hc56|exact absurd hc56 (by decide)|(exfalso;simp_all;done)
       ·have hm:zf1 h.evs h.evs[a].t 5=true:=by rw [←zht];simpa using hg4_21
        have hkd:h.evs[a].kind=3∨h.evs[a].kind=4:=by
         first
         |(have q:h.evs[a].kind=3:=(by simpa using hg4_29);exact .inl q)
         |(have q:h.evs[a].kind=4:=(by simpa using hc56);exact .inr q)
        have hn:OvB h (a:Int):=⟨a,rfl,ha,hm,hkd⟩
        have hfl:=zmi hc ha
        refine rn ?_;refine z8 rfl (y3 rfl fun b8=> ?_)
        refine rn ?_;refine z8 rfl (v7 rfl rfl (y0.of_fun (zwz h a rc rl rk rg _)) rfl ?_)
        rintro _ _ ⟨ba,bp,rfl,rfl⟩
        refine rn ?_;refine zgj (s':=⟨[(59,.fn (.func 134) [] [pZ bp,pZ ba]),(8,pZ b8)],.box ba 3 [iv (a:Nat)]:: .box bp 119 (rwP h rc rl rk rg):: .box b8 29 [.v (⟨none,0,0⟩:SV).v]:: .row (⟨none,0,0⟩:SV).v 1 3 ((([]:List Conf).map Conf.t).map zac):: .box b6 119 (rwP h rc rl rk rg):: .box b2 28 (w7 h)::rgR rg []::rkS h rk::zbb h rl::rcR h rc:: .glob 2 156 y5:: .glob 4 305 y7:: .glob 5 308 y2:: .glob 3 246 u0:: .glob 1 175 zaf:: .glob 0 171 [mpv rO]:: .obj rO oK:: [],[]⟩) (v8 (zao 1 3) (v8 (zaz ((pt1 _ _ _).trans (.cons _ ((pt1 _ _ _).trans (.cons _ (pt1 _ _ _)))))) es)) ?_
        refine zot (fun pend h''=>pend=none∧∃(s:SV) (M:List ((Int×Int)×List Int)),h''= .box ba 3 [iv (a:Nat)]:: .box bp 119 (rwP h rc rl rk rg)::rgR rg M::rkS h rk::zbb h rl::rcR h rc:: .glob 2 156 y5:: .glob 4 305 y7:: .glob 5 308 y2:: .glob 3 246 u0:: .glob 1 175 zaf:: .glob 0 171 [mpv rO]:: .obj rO oK:: .box b8 29 [.v s.v]:: .row s.v 1 3 (((zb5 h h.evs[a] a).map Conf.t).map zac):: .box b6 119 (rwP h rc rl rk rg):: .box b2 28 (w7 h):: []) rfl (fun fn l q lp hlp=> ?_) (fun q h'' hK'=> ?_) (fun q h'' cc hK'=> ?_)
        ·suffices hy:∀pre d rest (s:SV) M,zb5 h h.evs[a] a=pre++d::rest→True→zoc h M→y0 Tryz.prog (yv l) [.agg (k8 d)] (.box ba 3 [iv (a:Nat)]:: .box bp 119 (rwP h rc rl rk rg)::rgR rg M::rkS h rk::zbb h rl::rcR h rc:: .glob 2 156 y5:: .glob 4 305 y7:: .glob 5 308 y2:: .glob 3 246 u0:: .glob 1 175 zaf:: .glob 0 171 [mpv rO]:: .obj rO oK::lp .ready none:: .defs q:: .box b8 29 [.v s.v]:: .row s.v 1 3 ((pre.map Conf.t).map zac):: .box b6 119 (rwP h rc rl rk rg):: .box b2 28 (w7 h):: []) (fun r h'=>∃s':SV,(r=bv true∧True∧h'= .box ba 3 [iv (a:Nat)]:: .box bp 119 (rwP h rc rl rk rg)::rgR rg M::rkS h rk::zbb h rl::rcR h rc:: .glob 2 156 y5:: .glob 4 305 y7:: .glob 5 308 y2:: .glob 3 246 u0:: .glob 1 175 zaf:: .glob 0 171 [mpv rO]:: .obj rO oK::lp .ready none:: .defs q:: .box b8 29 [.v s'.v]:: .row s'.v 1 3 (((pre++ [d]).map Conf.t).map zac):: .box b6 119 (rwP h rc rl rk rg):: .box b2 28 (w7 h):: [])∨(r=bv false∧False∧h'= .box ba 3 [iv (a:Nat)]:: .box bp 119 (rwP h rc rl rk rg)::rgR rg M::rkS h rk::zbb h rl::rcR h rc:: .glob 2 156 y5:: .glob 4 305 y7:: .glob 5 308 y2:: .glob 3 246 u0:: .glob 1 175 zaf:: .glob 0 171 [mpv rO]:: .obj rO oK:: [])) by
          refine y8.mono (y8.perm ((pt2 _ _ _ _).trans (.cons _ ((pt2 _ _ _ _).trans (.cons _ ((pt6 _ _ _ _ _ _ _ _).trans (.cons _ ((pt6 _ _ _ _ _ _ _ _).trans (.cons _ ((pt6 _ _ _ _ _ _ _ _).trans (.cons _ ((pt6 _ _ _ _ _ _ _ _).trans (.cons _ ((pt6 _ _ _ _ _ _ _ _).trans (.cons _ ((pt6 _ _ _ _ _ _ _ _).trans (.cons _ ((pt6 _ _ _ _ _ _ _ _).trans (.cons _ ((pt6 _ _ _ _ _ _ _ _).trans (.cons _ ((pt6 _ _ _ _ _ _ _ _).trans (.cons _ ((pt6 _ _ _ _ _ _ _ _).trans (.cons _ (pt6 _ _ _ _ _ _ _ _))))))))))))))))))))))))) (zwy h la hc a ha (yv l) bp ba rc rl rk rg [] (zml h) rO oK hK (fun _ (_:SV)=>True) (fun _=>False) (fun pre (s:SV)=>lp .ready none:: .defs q:: .box b8 29 [.v s.v]:: .row s.v 1 3 ((pre.map Conf.t).map zac):: .box b6 119 (rwP h rc rl rk rg):: .box b2 28 (w7 h):: []) (fun _=> []) ⟨none,0,0⟩ trivial hy)) ?_
          rintro _ _ ⟨s,M,hM,⟨-,rfl⟩|⟨hF,_⟩⟩
          ·exact ⟨none,.ready,_,((zw6 _ _ _ _ _ _ _ _ _ _ _ _ _ _ _).trans (.cons _ (zw6 _ _ _ _ _ _ _ _ _ _ _ _ _ _ _))),by simp,rfl,s,M,rfl⟩
          ·exact hF.elim
         intro pre d rest s M hL _ hM
         have hlen:pre.length < (zb5 h h.evs[a] a).length:=by rw [hL,List.length_append,List.length_cons];omega
         refine y0.perm (zw6 _ _ _ _ _ _ _ _ _ _ _ _ _ _ _) (y0.ventE ?_)
         refine zey hlp rfl rfl ?_
         refine rn ?_;refine z8 rfl (y3 rfl fun b9=> ?_)
         refine rn ?_;refine ⟨[(9,pZ b9),(8,pZ b8)],.box b9 41 (k8 d):: .box ba 3 [iv (a:Nat)]:: .box bp 119 (rwP h rc rl rk rg)::rgR rg M::rkS h rk::zbb h rl::rcR h rc:: .glob 2 156 y5:: .glob 4 305 y7:: .glob 5 308 y2:: .glob 3 246 u0:: .glob 1 175 zaf:: .glob 0 171 [mpv rO]:: .obj rO oK:: .defs q:: .box b8 29 [.v s.v]:: .row s.v 1 3 ((pre.map Conf.t).map zac):: .box b6 119 (rwP h rc rl rk rg):: .box b2 28 (w7 h):: [],v8 (zaz (pt1 _ _ _)) es,?_⟩
         refine rn ?_;refine qv rfl rfl (q6 rfl rfl) ?_
         refine z8 rfl (u4 rfl rfl (by simp only [oM,List.length_cons,List.length_nil];omega) rfl (fun s65=> ?_) (zgt [d.t]))
         refine j8 s65 fun sv hsv=> ?_
         subst hsv
         refine rn ?_;exact zem (.refl _) ⟨_,_,.trans (.perm ((pt1 _ _ _).trans (.cons _ ((pt1 _ _ _).trans (.cons _ ((pt1 _ _ _).trans (.cons _ ((pt1 _ _ _).trans (.cons _ ((pt1 _ _ _).trans (.cons _ ((pt1 _ _ _).trans (.cons _ ((pt1 _ _ _).trans (.cons _ ((pt1 _ _ _).trans (.cons _ ((pt1 _ _ _).trans (.cons _ ((pt1 _ _ _).trans (.cons _ ((pt1 _ _ _).trans (.cons _ ((pt1 _ _ _).trans (.cons _ ((pt1 _ _ _).trans (.cons _ (pt1 _ _ _))))))))))))))))))))))))))) _) (.drop [_] _ _),sv,.inl ⟨rfl,trivial,by rw [List.map_append,List.map_append];rfl⟩⟩
        ·obtain ⟨_,s,M,rfl⟩:=hK'
         refine rn ?_;refine z8 rfl (v7 rfl rfl (zgf (y0.of_fun (yat s _ (by rw [oM];omega)))) rfl ?_)
         rintro _ _ ⟨rfl,rfl⟩
         refine rn ?_;refine z8 rfl (v7 rfl rfl (zax (y0.of_fun (yd5 s _ (by rw [(zcl _).length_eq,oM];omega)))) rfl ?_)
         rintro _ _ ⟨s',rfl,rfl⟩
         refine rn ?_;exact zi1 (.refl _) (.cons _ _ _ _ (.tmp _ _ rfl) (.cons _ _ _ _ (.tmp _ _ rfl) .nil)) (.trans (.perm (.cons _ (.cons _ (.cons _ (.cons _ (.cons _ (.cons _ ((pt7 _ _ _ _ _ _ _ _ _).trans (.cons _ ((pt8 _ _ _ _ _ _ _ _ _ _).trans (.cons _ ((pt8 _ _ _ _ _ _ _ _ _ _).trans (.cons _ (pt7 _ _ _ _ _ _ _ _ _))))))))))))) _) (.drop [_,_,_,_,_,_,_,_,_] _ _)) ⟨s',by rw [(ypg hc ha hn).2];rfl,by rw [(ypg hc ha hn).1];rfl⟩
        ·obtain ⟨hc',_⟩:=hK'
         exact absurd hc' (by simp)
 ·refine rn ?_;refine z8 rfl (y3 rfl fun b6=> ?_)
  refine rn ?_;refine z7 rfl (fun hc16=> ?_) (fun hc16=> ?_)
  ·refine rn ?_;exact zb2 rfl rfl (.trans (.drop [_,_] _ _) (zah 1 3 _)) ⟨⟨none,0,0⟩,by rw [(yuh hc).2];rfl,by rw [(yuh hc).1];rfl⟩
  ·first|cases hc16|exact absurd hc16 (by decide)|(exfalso;simp_all;done)
theorem rwOver (h:Hist) (la:Lim 4611686018427387904 h) (rO:Nat) (oK:Obj) (hK:KO oK) (n:Int):y8 Tryz.prog 35 [.agg (w7 h),iv n] (.glob 2 156 y5:: .glob 4 305 y7:: .glob 5 308 y2:: .glob 3 246 u0:: .glob 1 175 zaf:: .glob 0 171 [mpv rO]:: .obj rO oK:: []) (fun r h'=>h'= .glob 2 156 y5:: .glob 4 305 y7:: .glob 5 308 y2:: .glob 3 246 u0:: .glob 1 175 zaf:: .glob 0 171 [mpv rO]:: .obj rO oK:: []∧r= .tup [za1 (ovO h n),iv (ovC h n)]):=(yl0 h la rO oK hK n).ventR (by rintro _ _ ⟨s,rfl,rfl⟩;exact ⟨_,_,zbf [] [_],rfl,rfl⟩)
theorem yta (n:Int) (l:List Int):decide (atI n 0 l ≥ 0)=l.contains n:=by
 have:=yeo n l
 cases hc:l.contains n with
 |true=>rw [hc] at this;have:=oF this;exact decide_eq_true (by omega)
 |false=>rw [hc] at this;have:=oT this;exact decide_eq_false (by omega)
theorem yrl {p x:Int} {m:Mat} (h:(m.p !=p)=true):zqp p x m=false:=by
 have:(m.p==p)=false:=by simpa using h
 rw [zqp,this];rfl
theorem yrk {p x:Int} {m:Mat} (h:(m.o !=x)=true):zqp p x m=false:=by
 have:(m.o==x)=false:=by simpa using h
 rw [zqp,this,Bool.and_false]
theorem ywq {p x:Int} {m:Mat} (h1:(m.p !=p)=false) (h2:(m.o !=x)=false):zqp p x m=true:=by
 rw [zqp,Bool.and_eq_true];exact ⟨by simpa using h1,by simpa using h2⟩
theorem yrm {h:Hist} {p x:Int} {k:Nat} (hk:k < h.mats.length) (hq:zqp p x h.mats[k]=true) (hz:((h.mats.take k).all fun m=> !zqp p x m)=true):yj4 h p x=some h.mats[k]:=by
 rw [yj4,List.find?_eq_some_iff_getElem]
 exact ⟨hq,k,hk,rfl,fun j hj=>by have:=List.all_eq_true.1 hz h.mats[j] (zi4 (by omega) hj);exact this⟩
theorem yuq {h:Hist} {p x:Int} (hz:(h.mats.all fun m=> !zqp p x m)=true):yj4 h p x=none:=by
 rw [yj4,List.find?_eq_none];intro s hs q
 have:=List.all_eq_true.1 hz s hs
 rw [q] at this;cases this
theorem ys5 {f:Nat→Bool} {k:Nat} (h:(f (k+1) !=f k)=true):chR f (k+1)=chR f k++ [((k+1:Nat):Int)]:=by rw [chR,if_pos (by simpa using h)]
theorem ys6 {f:Nat→Bool} {k:Nat} (h:(f (k+1) !=f k)=false):chR f (k+1)=chR f k:=by rw [chR,if_neg (by simpa using h)];simp
def ycf (l:List Ev) (t:Int) (n:Nat) (scan:List Seen) (j:Nat) (x:Int):Ver:=match zum (scan.take j) x with
 |some v=>v
 |none=>zrn (zdw l t x n)
theorem yjw {l:List Ev} {t x:Int} {n j:Nat} {scan:List Seen} (hj:j < scan.length) (h:(scan[j].o==x)=true):ycf l t n scan (j+1) x=scan[j].v:=by rw [ycf,ya3 hj,if_pos h]
theorem yjx {l:List Ev} {t x:Int} {n j:Nat} {scan:List Seen} (hj:j < scan.length) (h:(scan[j].o==x)=false):ycf l t n scan (j+1) x=ycf l t n scan j x:=by rw [ycf,ya3 hj,if_neg (by rw [h];decide),ycf]
theorem yq7 (l:List Ev) (t x:Int) (n:Nat) (scan:List Seen):ycf l t n scan 0 x=zrn (zdw l t x n):=rfl
theorem yq6 (l:List Ev) (t x:Int) (n:Nat) (scan:List Seen):ycf l t n scan scan.length x=ye6 l t n scan x:=by rw [ycf,List.take_length];rfl
theorem yp2 {s:Seen} {x:Int} (h:(s.o==x)=true):zam s= [iv x,iv s.v.t,iv s.v.k]:=by rw [zam,eq_of_beq h]
theorem zld (h:Hist) (la:Lim 1000000 h) (p x n:Int) (h0:0≤n) (h1:n≤(zde h x).length):y8 Tryz.prog 162 [.agg (w7 h),iv p,iv x,iv n] [] (fun r h'=>h'= []∧r=bv (zt6 h p x n)):=by
 refine z6 Tryz.func162 rfl rfl rfl ?_
 have lm:=la.mats
 have lI:=znl la x
 refine rn ?_;refine z8 rfl (w9 rfl rfl rfl fun b4=> ?_)
 refine rn ?_;refine zcy (h.mats.length) (fun k:Nat=>((h.mats.take k).all fun m=> !zqp p x m)=true) (fun k=> [(14,iv k)]) [(1,_),(2,_),(3,_),(4,_),(12,_),(13,_)] rfl ?_
 intro k lk zk
 refine rn ?_;refine z7 rfl (fun hc15=> ?_) (fun hc15=> ?_)
 ·have hk:=za3 hc15
  have rk:=zal (f:=zd3) hk
  have lT:=la.matts h.mats[k] (List.getElem_mem hk)
  refine rn ?_;refine z8 rfl (y3 rfl fun b10=> ?_)
  refine rn ?_;refine w6 (fun hg4_4=> ?_) (fun hg4_4=> ?_)
  ·refine rn ?_;refine zc0 rfl ?_;have hq:zqp p x h.mats[k]=false:=by first|exact yrl hg4_4|exact yrk hc27
   refine rn ?_;exact ⟨hk,by rw [zmn hk,zk,hq];rfl,eA⟩
  ·refine rn ?_;refine z7 rfl (fun hc27=> ?_) (fun hc27=> ?_)
   ·have hq:zqp p x h.mats[k]=false:=by first|exact yrl hg4_4|exact yrk hc27
    refine rn ?_;exact ⟨hk,by rw [zmn hk,zk,hq];rfl,eA⟩
   ·have hq:zqp p x h.mats[k]=true:=ywq hg4_4 hc27
    have hf:=yrm hk hq zk
    refine rn ?_;refine z7 rfl (fun hc29=> ?_) (fun hc29=> ?_)
    ·have hn:n=0:=eq_of_beq hc29
     refine rn ?_;refine rq 2 ?_
     exact ⟨rfl,congrArg bv (by rw [zt6,hf,mtM,if_pos hn])⟩
    ·have hn:n≠0:=beq_eq_false_iff_ne.1 hc29
     obtain ⟨a,ha,ea⟩:∃a:Nat,a < (zde h x).length∧n=(a:Int)+1:=⟨(n - 1).toNat,by omega,by omega⟩
     subst ea
     have ra:=zal (f:=zac) ha
     refine rn ?_;refine k9 9 rfl ?_
     refine rn ?_;refine dv rfl rfl (by exact y1 rfl rfl (u5 (zhk h la x) (Sbs.refl _))) ?_
     refine dq rfl rfl qrA ?_;refine dq rfl rfl (zjq (zci rfl rfl rfl (by omega)) (show iv ((a:Int)+1 - 1)=iv (a:Int) by rw [Int.add_sub_cancel])) ?_
     refine rn ?_;refine qv rfl rfl (y1 rfl rfl (u5 (ygq h.mats[k].ts (zde h x)[a] (Nat.le_trans lT (by decide))) (Sbs.refl _))) ?_
     refine rn ?_;refine rq 2 ?_
     exact ⟨rfl,congrArg bv (by rw [yta,zt6,hf,mtM,if_neg (by omega),Int.add_sub_cancel,Int.toNat_natCast,List.getElem?_eq_getElem ha];rfl)⟩
 ·have qk:=za4 hc15 lk
  rw [qk,List.take_length] at zk
  refine rn ?_;refine rq 1 ?_
  exact ⟨rfl,congrArg bv (by rw [zt6,yuq zk];rfl)⟩
theorem zsg (h:Hist) (la:Lim 1000000 h) (p x:Int):y8 Tryz.prog 120 [.agg (w7 h),iv p,iv x] [] (fun r h'=>h'= []∧r=za1 (chR (fun k:Nat=>zt6 h p x (k:Int)) (zde h x).length)):=by
 refine z6 Tryz.func120 rfl rfl rfl ?_
 have lI:=znl la x
 refine rn ?_;refine z8 rfl (w9 rfl rfl rfl fun b3=> ?_)
 refine rn ?_;refine ze2 (zde h x).length (fun k s=>⟨[(8,iv ((k:Int)+1)),(7,.v s.v),(1,iv p),(2,iv x),(3,pZ b3)],.row s.v 1 3 ((chR (fun k:Nat=>zt6 h p x (k:Int)) k).map zac):: .box b3 28 (w7 h):: [],[]⟩) ⟨none,0,0⟩ (v8 (zao 1 3) es) ?_
 intro k s lk
 refine rn ?_;refine qv rfl rfl (y1 rfl rfl (u5 (zhk h la x) (Sbs.refl _))) ?_
 refine rn ?_;refine z7 rfl (fun hc14=> ?_) (fun hc14=> ?_)
 ·have hk:k < (zde h x).length:=by have q:=oT hc14;rw [oM] at q;omega
  have hcs:((k+1:Nat):Int)=(k:Int)+1:=by omega
  refine rn ?_;refine k9 10 rfl ?_
  refine rn ?_;refine dv rfl rfl (by exact y1 rfl rfl (u5 (zld h la p x ((k:Int)+1) (by omega) (by omega)) (Sbs.refl _))) ?_
  refine dq rfl rfl qrA ?_;refine dq rfl rfl qrA ?_;refine dq rfl rfl qrA ?_;refine dq rfl rfl qrA ?_;refine dq rfl rfl (zjq (zci rfl rfl rfl (by omega)) (show iv ((k:Int)+1 - 1)=iv (k:Int) by rw [Int.add_sub_cancel])) ?_
  refine rn ?_;refine qv rfl rfl (y1 rfl rfl (u5 (zld h la p x (k:Int) (by omega) (by omega)) (Sbs.refl _))) ?_
  refine qq rfl rfl (zm7 rfl rfl) ?_
  refine rn ?_;refine z7 rfl (fun hc28=> ?_) (fun hc28=> ?_)
  ·refine rn ?_;refine qv rfl rfl (q6 rfl rfl) ?_
   refine z8 rfl (u4 rfl rfl (by simp only [oM,List.length_cons,List.length_nil];have:=chR_len (fun k:Nat=>zt6 h p x (k:Int)) k;omega) rfl (fun s32=> ?_) (zgt [(k:Int)+1]))
   refine j8 s32 fun sv hsv=> ?_
   subst hsv
   refine q1 ?_;refine u9 ?_;refine zi7 ?_;refine zai ?_;refine y4 ?_;refine q1 ?_;refine qq rfl rfl (zci rfl rfl rfl (by omega)) ?_
   refine rn ?_;first|exact ⟨hk,sv,by rw [ys5 (f:=fun k:Nat=>zt6 h p x (k:Int)) (by rw [hcs];exact hc28),List.map_append,hcs];exact eA⟩|exact ⟨hk,s,by rw [ys6 (f:=fun k:Nat=>zt6 h p x (k:Int)) (by rw [hcs];exact hc28),hcs];exact eA⟩
  ·refine za2 ?_;refine zi7 ?_;refine zai ?_;refine y4 ?_;refine q1 ?_;refine qq rfl rfl (zci rfl rfl rfl (by omega)) ?_
   refine rn ?_;first|exact ⟨hk,sv,by rw [ys5 (f:=fun k:Nat=>zt6 h p x (k:Int)) (by rw [hcs];exact hc28),List.map_append,hcs];exact eA⟩|exact ⟨hk,s,by rw [ys6 (f:=fun k:Nat=>zt6 h p x (k:Int)) (by rw [hcs];exact hc28),hcs];exact eA⟩
 ·have qk:k=(zde h x).length:=by have q:=oF hc14;rw [oM] at q;omega
  refine rn ?_;exact j9 rfl (.trans zc1 (.drop [_] _ _)) ⟨rfl,by rw [qk];rfl⟩
theorem ygk (h:Hist) (la:Lim 1000000 h) (a:Nat) (ha:a < h.evs.length):y8 Tryz.prog 118 [.agg (w7 h),iv (a:Int)] [] (fun r h'=>h'= []∧r=zfg (zat h h.evs[a] a)):=by
 refine z6 Tryz.func118 rfl rfl rfl ?_
 have be:=la.evs
 have bo:=la.os
 have bs:=la.scans h.evs[a] (List.getElem_mem ha)
 refine rn ?_;refine z8 rfl (w9 rfl rfl rfl fun b2=> ?_)
 refine q1 ?_;refine u9 (zai ?_)
 refine w8 (y4 ?_)
 refine q1 ?_;refine u9 (zai ?_)
 refine w8 (y4 ?_)
 refine q1 ?_;refine q1 ?_;refine q1 ?_;refine qq rfl rfl (zav rfl rfl (Int.natCast_nonneg a) (by rw [Int.toNat_natCast];exact zal (f:=evR) ha)) ?_
 refine rn ?_;refine z8 rfl (y3 rfl fun b6=> ?_)
 refine rn ?_;refine ze2 h.os.length (fun k s=>⟨[(21,iv k),(5,.v s.v),(1,iv (a:Int)),(2,pZ b2),(6,pZ b6),(20,iv (h.os.map zfe).length)],.row s.v 3 70 (((upR k).map fun x:Int=>(⟨x,ye6 h.evs h.evs[a].t a h.evs[a].scan x⟩:Seen)).map zam):: .box b6 60 (evR h.evs[a]):: .box b2 28 (w7 h):: [],[]⟩) ⟨none,0,0⟩ (v8 (zao 3 70) es) ?_
 intro k s lk
 refine rn ?_;refine z7 rfl (fun hc22=> ?_) (fun hc22=> ?_)
 ·have hk:k < h.os.length:=by have q:=oT hc22;rw [oM] at q;omega
  refine za2 ?_;refine zai ?_;refine w8 ?_;refine zcz ?_;refine w8 (y4 ?_)
  refine q1 ?_;refine q1 ?_;refine u9 (zai ?_)
  refine w8 (y4 ?_)
  refine q1 ?_;refine qq rfl rfl (zae (out:= [iv (k:Int),iv 0,iv 0]) rfl (by rfl)) ?_
  refine z8 rfl (y3 rfl fun b8=> ?_)
  first|refine z8 rfl (k7 rfl rfl rfl ?_)|refine z8 rfl (zan rfl rfl rfl rfl (Nat.le_of_ble_eq_true rfl) ?_)
  refine u9 (zai ?_)
  refine w8 ?_;refine w8 (y4 ?_)
  refine q1 ?_;refine q1 ?_;refine q1 ?_;refine qq rfl rfl (zm6 (k:=a) (rows':=(h.evs.take a).map evR) rfl rfl (by rw [oM];omega) List.map_take.symm) ?_
  refine rn ?_;refine zcn (h.evs.take a).length (fun _=>True) (fun j=>⟨[(31,iv j),(1,iv (a:Int)),(2,pZ b2),(5,.v s.v),(6,pZ b6),(7,iv (k:Int)),(8,pZ b8),(20,iv (h.os.map zfe).length),(21,iv k),(29,zq5 (h.evs.take a)),(30,iv ((h.evs.take a).map evR).length)],.box b8 70 [iv (k:Int),iv (zrn (zdw (h.evs.take a) h.evs[a].t (k:Int) j)).t,iv (zrn (zdw (h.evs.take a) h.evs[a].t (k:Int) j)).k]:: .row s.v 3 70 (((upR k).map fun x:Int=>(⟨x,ye6 h.evs h.evs[a].t a h.evs[a].scan x⟩:Seen)).map zam):: .box b6 60 (evR h.evs[a]):: .box b2 28 (w7 h):: [],[]⟩) trivial eA ?_
  intro j lj _
  refine rn ?_;refine z7 rfl (fun hc32=> ?_) (fun hc32=> ?_)
  ·have hj:=za3 hc32
   have rj:=zal (f:=evR) hj
   have bj:=hj
   rw [List.length_take] at bj
   refine rn ?_;refine z8 rfl (y3 rfl fun b10=> ?_)
   refine rn ?_;refine w6 (fun hg10_5=> ?_) (fun hg10_5=> ?_)
   ·refine rn ?_;refine w6 (fun hg10_10=> ?_) (fun hg10_10=> ?_)
    ·refine rn ?_;refine z7 rfl (fun hc50=> ?_) (fun hc50=> ?_)
     ·have hw:zar h.evs[a].t (k:Int) (h.evs.take a)[j]=true:=by rw [zar,Bool.and_comm ((h.evs.take a)[j].kind==2)];first|(rw [hg10_5,hg10_10,hc50];rfl)|(rw [hg10_5,hg10_10];rfl)|(rw [hg10_5];rfl)|(rw [hg10_5,hc50];rfl)
      refine rn ?_;first|exact ⟨hj,trivial,by rw [zpb hj hw];exact eA⟩|exact ⟨hj,trivial,by rw [zgx hj hw];exact eA⟩
     ·have hw:zar h.evs[a].t (k:Int) (h.evs.take a)[j]=false:=by rw [zar,Bool.and_comm ((h.evs.take a)[j].kind==2)];first|(rw [hg10_5,hg10_10,hc50];rfl)|(rw [hg10_5,hg10_10];rfl)|(rw [hg10_5];rfl)|(rw [hg10_5,hc50];rfl)
      refine rn ?_;first|exact ⟨hj,trivial,by rw [zpb hj hw];exact eA⟩|exact ⟨hj,trivial,by rw [zgx hj hw];exact eA⟩
    ·refine rn ?_;refine zfu rfl ?_;have hw:zar h.evs[a].t (k:Int) (h.evs.take a)[j]=false:=by rw [zar,Bool.and_comm ((h.evs.take a)[j].kind==2)];first|(rw [hg10_5,hg10_10,hc50];rfl)|(rw [hg10_5,hg10_10];rfl)|(rw [hg10_5];rfl)|(rw [hg10_5,hc50];rfl)
     refine rn ?_;first|exact ⟨hj,trivial,by rw [zpb hj hw];exact eA⟩|exact ⟨hj,trivial,by rw [zgx hj hw];exact eA⟩
   ·refine rn ?_;refine zfu rfl ?_;have hw:zar h.evs[a].t (k:Int) (h.evs.take a)[j]=false:=by rw [zar,Bool.and_comm ((h.evs.take a)[j].kind==2)];first|(rw [hg10_5,hg10_10,hc50];rfl)|(rw [hg10_5,hg10_10];rfl)|(rw [hg10_5];rfl)|(rw [hg10_5,hc50];rfl)
    refine rn ?_;first|exact ⟨hj,trivial,by rw [zpb hj hw];exact eA⟩|exact ⟨hj,trivial,by rw [zgx hj hw];exact eA⟩
  ·have qj:=za4 hc32 lj
   rw [qj,←zpm,←ygb ha,←yq7 h.evs h.evs[a].t (k:Int) a h.evs[a].scan]
   refine rn ?_;refine zcn h.evs[a].scan.length (fun _=>True) (fun u=>⟨[(58,iv u),(1,iv (a:Int)),(2,pZ b2),(5,.v s.v),(6,pZ b6),(7,iv (k:Int)),(8,pZ b8),(20,iv (h.os.map zfe).length),(21,iv k),(56,zfg h.evs[a].scan),(57,iv (h.evs[a].scan.map zam).length)],.box b8 70 [iv (k:Int),iv (ycf h.evs h.evs[a].t a h.evs[a].scan u (k:Int)).t,iv (ycf h.evs h.evs[a].t a h.evs[a].scan u (k:Int)).k]:: .row s.v 3 70 (((upR k).map fun x:Int=>(⟨x,ye6 h.evs h.evs[a].t a h.evs[a].scan x⟩:Seen)).map zam):: .box b6 60 (evR h.evs[a]):: .box b2 28 (w7 h):: [],[]⟩) trivial eA ?_
   intro u lu _
   refine rn ?_;refine z7 rfl (fun hc59=> ?_) (fun hc59=> ?_)
   ·have hu:=za3 hc59
    have ru:=zal (f:=zam) hu
    refine rn ?_;refine z8 rfl (y3 rfl fun b12=> ?_)
    refine rn ?_;refine z7 rfl (fun hc65=> ?_) (fun hc65=> ?_)
    ·have ho:=yp2 hc65
     refine rn ?_;first|exact ⟨hu,trivial,by rw [ho,yjw hu hc65];exact eA⟩|exact ⟨hu,trivial,by rw [yjx hu hc65];exact eA⟩
    ·refine rn ?_;first|exact ⟨hu,trivial,by rw [ho,yjw hu hc65];exact eA⟩|exact ⟨hu,trivial,by rw [yjx hu hc65];exact eA⟩
   ·have qu:=za4 hc59 lu
    rw [qu,yq6]
    refine rn ?_;refine qv rfl rfl (q6 rfl rfl) ?_
    refine z8 rfl (u4 rfl rfl (by simp only [oM,upR,List.length_range,List.length_cons,List.length_nil];omega) rfl (fun s71=> ?_) (by exact zh8 [(⟨(k:Int),ye6 h.evs h.evs[a].t a h.evs[a].scan (k:Int)⟩:Seen)]))
    refine j8 s71 fun sv hsv=> ?_
    subst hsv
    refine rn ?_;exact ⟨hk,sv,by rw [zro,List.map_append,List.map_append,List.map_singleton,List.map_singleton];exact eA⟩
 ·have qk:k=h.os.length:=by have q:=oF hc22;rw [oM] at q;omega
  subst qk
  refine rn ?_;exact j9 rfl (.trans zc1 (.drop [_,_] _ _)) ⟨rfl,rfl⟩
theorem yr6 {h:Hist} (hc:u6 h=0) {x:Int} (h0:0≤x) (h1:x < h.os.length):(zde h x).length≤3000:=by
 rw [←zpg (zbd.1 hc) h0 h1];exact zs6 hc h0 h1
def chR (h:Hist) (f t:Int) (k:Nat):List Int:=(upR k).filter fun x=>decide (atI f 0 (zde h x) ≥ 0) && decide (atI t 0 (zde h x) > atI f 0 (zde h x))
theorem chR_len (h:Hist) (f t:Int) (k:Nat):(chR h f t k).length≤k:=by
 refine Nat.le_trans (List.length_filter_le _ _) ?_
 rw [upR,oM,List.length_range];exact Nat.le_refl _
theorem zqg (h:Hist) (x:Int) (v:Ver):zcc h x v=((rkR h x v).getD 0,(rkR h x v).isSome):=by
 rw [zcc,rkR]
 by_cases hv:v=⟨0,0⟩
 ·rw [if_pos hv,if_pos hv];rfl
 ·rw [if_neg hv,if_neg hv]
  by_cases hf:zbr (fun t=>zkz h x t==v) 0 (zde h x) ≥ 0
  ·rw [if_pos hf,if_pos (show zbr (rkQ h x v) 0 (zde h x) ≥ 0 from hf)];rfl
  ·rw [if_neg hf,if_neg (show ¬zbr (rkQ h x v) 0 (zde h x) ≥ 0 from hf)];rfl
theorem ymi {h:Hist} {e:Ev} {a:Nat} (h1:(!(zcc h e.o e.v).2)=true):zha h e a= []:=by
 rw [zqg] at h1
 rw [zha]
 cases hr:rkR h e.o e.v with
 |none=>rfl
 |some r=>rw [hr] at h1;simp at h1
theorem ypd {h:Hist} {x:Int} {v:Ver} (h1:(!(zcc h x v).2)=false):∃r,rkR h x v=some r∧(zcc h x v).1=r∧0≤r:=by
 rw [zqg] at h1
 cases hr:rkR h x v with
 |none=>rw [hr] at h1;simp at h1
 |some r=>exact ⟨r,rfl,by rw [zqg,hr];rfl,ybi hr⟩
theorem ymh {h:Hist} {e:Ev} {a:Nat} (h1:(!(zcc h e.o e.v).2)=false) (h2:(!(zea h e.o (zcc h e.o e.v).1).isSome)=true):zha h e a= []:=by
 obtain ⟨r,hr,e1,r0⟩:=ypd h1
 rw [e1,zea,if_pos r0] at h2
 rw [zha,hr]
 simp only
 cases hq:(zde h e.o)[r.toNat]? with
 |none=>rfl
 |some t=>rw [hq] at h2;simp at h2
theorem ymg {h:Hist} {e:Ev} {a:Nat} (h1:(!(zcc h e.o e.v).2)=false) (h2:(!(zea h e.o (zcc h e.o e.v).1).isSome)=false) (h3:((zea h e.o (zcc h e.o e.v).1).getD 0==e.t)=true):zha h e a= []:=by
 obtain ⟨r,hr,e1,r0⟩:=ypd h1
 rw [e1,zea,if_pos r0] at h2 h3
 rw [zha,hr]
 simp only
 cases hq:(zde h e.o)[r.toNat]? with
 |none=>rfl
 |some t=>rw [hq] at h3;simp only;exact if_pos h3
theorem ywe {h:Hist} {e:Ev} {a:Nat} (h1:(!(zcc h e.o e.v).2)=false) (h2:(!(zea h e.o (zcc h e.o e.v).1).isSome)=false) (h3:((zea h e.o (zcc h e.o e.v).1).getD 0==e.t)=false):
 zha h e a= [⟨e.t,(zea h e.o (zcc h e.o e.v).1).getD 0,3,a,zeb h ((zea h e.o (zcc h e.o e.v).1).getD 0) e.o,e.o,0⟩]:=by
 obtain ⟨r,hr,e1,r0⟩:=ypd h1
 rw [e1,zea,if_pos r0] at h2 h3 ⊢
 rw [zha,hr]
 simp only
 cases hq:(zde h e.o)[r.toNat]? with
 |none=>rw [hq] at h2;simp at h2
 |some t=>
  rw [hq] at h3
  simp only
  rw [if_neg (by rw [show (t==e.t)=false from h3];decide)];rfl
def scT (h:Hist) (s:Seen) (k:Int):Int:=((zde h s.o)[(k - 1).toNat]?).getD 0
theorem ylu {h:Hist} {e:Ev} {a:Nat} {s:Seen} {k:Int} (h1:(!(zcc h s.o s.v).2)=true):ze6 h e a s k=none:=by
 rw [zqg] at h1
 rw [ze6]
 cases hr:rkR h s.o s.v with
 |none=>rfl
 |some r=>rw [hr] at h1;simp at h1
theorem ylt {h:Hist} {e:Ev} {a:Nat} {s:Seen} {k:Int} (h1:(!(zcc h s.o s.v).2)=false) (h2:decide (k≤(zcc h s.o s.v).1)=true):ze6 h e a s k=none:=by
 obtain ⟨r,hr,e1,r0⟩:=ypd h1
 rw [e1] at h2
 rw [ze6,hr];simp only;rw [if_pos (oT h2)]
theorem yls {h:Hist} {e:Ev} {a:Nat} {s:Seen} {k:Int} (h1:(!(zcc h s.o s.v).2)=false) (h2:decide (k≤(zcc h s.o s.v).1)=false) (h3:(scT h s k==e.t)=true):ze6 h e a s k=none:=by
 obtain ⟨r,hr,e1,r0⟩:=ypd h1
 rw [e1] at h2
 rw [ze6,hr];simp only;rw [if_neg (oF h2)];exact if_pos h3
theorem yv8 {h:Hist} {e:Ev} {a:Nat} {s:Seen} {k:Int} (h1:(!(zcc h s.o s.v).2)=false) (h2:decide (k≤(zcc h s.o s.v).1)=false) (h3:(scT h s k==e.t)=false):ze6 h e a s k=some ⟨e.t,scT h s k,4,a,zeb h (scT h s k) s.o,s.o,e.p⟩:=by
 obtain ⟨r,hr,e1,r0⟩:=ypd h1
 rw [e1] at h2
 rw [ze6,hr];simp only;rw [if_neg (oF h2),if_neg (by rw [show (((zde h s.o)[(k - 1).toNat]?).getD 0==e.t)=false from h3];decide)];rfl
theorem yea {h:Hist} (hc:u6 h=0) {x:Int} (h0:0≤x) (h1:x < h.os.length) (p:Int):(zie h p x).length≤3000:=by
 rw [zie]
 exact Nat.le_trans (H.chR_len _ _) (yr6 hc h0 h1)
theorem zx2 {f:Nat→Bool} {k:Int}:∀{n:Nat},k∈H.chR f n→1≤k∧k≤n
 |0,hk=>by simp [H.chR] at hk
 |n+1,hk=>by
  rw [H.chR,List.mem_append] at hk
  rcases hk with hk|hk
  ·have:=zx2 hk;omega
  ·split at hk
   ·rw [List.mem_singleton] at hk;omega
   ·cases hk
def scP (h:Hist) (e:Ev) (a i:Nat):List Conf:=((zat h e a).take i).flatMap fun s=>(zie h e.p s.o).filterMap (ze6 h e a s)
theorem yt1 {h:Hist} {e:Ev} {a i:Nat} (hi:i < (zat h e a).length):scP h e a (i+1)=scP h e a i++(zie h e.p (zat h e a)[i].o).filterMap (ze6 h e a (zat h e a)[i]):=by
 rw [scP,List.take_succ_eq_append_getElem hi,List.flatMap_append];simp [scP]
theorem ylw {h:Hist} {e:Ev} {a:Nat}:scP h e a (zat h e a).length=zr5 h e a:=by rw [scP,List.take_length];rfl
theorem ylv {h:Hist} (hc:u6 h=0) (e:Ev) (a i:Nat):(scP h e a i).length≤9000000:=by
 have lO:=(zes hc).os
 have h1:=zkx (fun s=>(zie h e.p s.o).filterMap (ze6 h e a s)) 3000 ((zat h e a).take i) fun s hs=>by
  obtain ⟨⟨o0,o1⟩,_⟩:=zqb (List.mem_of_mem_take hs)
  exact Nat.le_trans (List.length_filterMap_le _ _) (yea hc o0 o1 _)
 have h2:((zat h e a).take i).length≤3000:=Nat.le_trans (List.length_take_le' _ _) (by rw [zmw];omega)
 rw [scP];omega
theorem ydf {h:Hist} (hc:u6 h=0) {a:Nat} (ha:a < h.evs.length):(zeq h h.evs[a] a).length≤16000000:=by rw [←zvr (zbd.1 hc) (List.getElem_mem ha)];exact zmi hc ha
def ovK (h:Hist) (e:Ev) (a k:Nat):List Int:=(upR k).filter fun t=>(zeq h e a).any fun c=>c.t==t
theorem yui {h:Hist} {e:Ev} {a k:Nat} {w:Bool} (hw:w=(zeq h e a).any fun c=>c.t==(k:Int)) (ht:w=true):ovK h e a (k+1)=ovK h e a k++ [(k:Int)]:=by
 rw [ovK,zro,List.filter_append,List.filter_cons_of_pos (by rw [←hw,ht])];rfl
theorem yuj {h:Hist} {e:Ev} {a k:Nat} {w:Bool} (hw:w=(zeq h e a).any fun c=>c.t==(k:Int)) (ht:w=false):ovK h e a (k+1)=ovK h e a k:=by
 rw [ovK,zro,List.filter_append,List.filter_cons_of_neg (by rw [←hw,ht];decide)];simp [ovK]
theorem ym7 (h:Hist) (e:Ev) (a k:Nat):(ovK h e a k).length≤k:=by
 refine Nat.le_trans (List.length_filter_le _ _) ?_
 rw [upR,oM,List.length_range];exact Nat.le_refl _
theorem yja {l:List Conf} {q:Conf→Bool} {j:Nat} (hj:j < l.length):(l.take (j+1)).any q=((l.take j).any q||q l[j]):=by
 rw [List.take_succ_eq_append_getElem hj,List.any_append];simp
theorem ybq (h:Hist) (la:Lim 1000000 h) (a:Nat) (ha:a < h.evs.length):y8 Tryz.prog 138 [.agg (w7 h),iv (a:Int)] [] (fun r h'=>h'= []∧r=ziu (zha h h.evs[a] a)):=by
 refine z6 Tryz.func138 rfl rfl rfl ?_
 have ra:=zal (f:=evR) ha
 refine rn ?_;refine z8 rfl (w9 rfl rfl rfl fun b2=> ?_)
 refine rn ?_;refine z8 rfl (y3 rfl fun b5=> ?_)
 refine rn ?_;refine qv rfl rfl (y1 rfl rfl (u5 (zse h la h.evs[a].o h.evs[a].v) (Sbs.refl _))) ?_
 refine rn ?_;refine qv rfl rfl (y1 rfl rfl (u5 (ybr h la h.evs[a].o (zcc h h.evs[a].o h.evs[a].v).1) (Sbs.refl _))) ?_
 refine rn ?_;refine w6 (fun hg4_2=> ?_) (fun hg4_2=> ?_)
 ·refine rn ?_;refine zc0 rfl ?_;have hw:zha h h.evs[a] a= []:=by
   first
   |exact ymi hg4_2
   |exact ymh hg4_2 hg4_6
   |exact ymg hg4_2 hg4_6 hc46
  refine rn ?_;exact j9 rfl (.trans (.drop [_,_] _ _) (.le (Sb.nil false 7).le)) ⟨rfl,by rw [hw];rfl⟩
 ·refine rn ?_;refine w6 (fun hg4_6=> ?_) (fun hg4_6=> ?_)
  ·refine rn ?_;refine zc0 rfl ?_;have hw:zha h h.evs[a] a= []:=by
    first
    |exact ymi hg4_2
    |exact ymh hg4_2 hg4_6
    |exact ymg hg4_2 hg4_6 hc46
   refine rn ?_;exact j9 rfl (.trans (.drop [_,_] _ _) (.le (Sb.nil false 7).le)) ⟨rfl,by rw [hw];rfl⟩
  ·refine rn ?_;refine z7 rfl (fun hc46=> ?_) (fun hc46=> ?_)
   ·have hw:zha h h.evs[a] a= []:=by
     first
     |exact ymi hg4_2
     |exact ymh hg4_2 hg4_6
     |exact ymg hg4_2 hg4_6 hc46
    refine rn ?_;exact j9 rfl (.trans (.drop [_,_] _ _) (.le (Sb.nil false 7).le)) ⟨rfl,by rw [hw];rfl⟩
   ·have hw:zha h h.evs[a] a= [⟨h.evs[a].t,((zea h h.evs[a].o (zcc h h.evs[a].o h.evs[a].v).1).getD 0),3,a,zeb h ((zea h h.evs[a].o (zcc h h.evs[a].o h.evs[a].v).1).getD 0) h.evs[a].o,h.evs[a].o,0⟩]:=ywe hg4_2 hg4_6 hc46
    refine rn ?_;refine qv rfl rfl (y1 rfl rfl (u5 (zkn h la.evs ((zea h h.evs[a].o (zcc h h.evs[a].o h.evs[a].v).1).getD 0) h.evs[a].o) (Sbs.refl _))) ?_
    refine rn ?_;refine z8 rfl (y3 rfl fun b10=> ?_)
    first|refine z8 rfl (k7 rfl rfl rfl ?_)|refine z8 rfl (zan rfl rfl rfl rfl (Nat.le_of_ble_eq_true rfl) ?_)
    refine q1 ?_;refine q1 ?_;refine u9 (zai ?_)
    refine w8 (y4 ?_)
    refine q1 ?_;refine q1 ?_;refine q1 ?_;refine q1 ?_;refine q1 ?_;refine q1 ?_;refine q1 ?_;refine qq rfl rfl (zae (out:=k8 ⟨h.evs[a].t,((zea h h.evs[a].o (zcc h h.evs[a].o h.evs[a].v).1).getD 0),3,a,zeb h ((zea h h.evs[a].o (zcc h h.evs[a].o h.evs[a].v).1).getD 0) h.evs[a].o,h.evs[a].o,0⟩) rfl (by rfl)) ?_
    refine qv rfl rfl (q6 rfl rfl) ?_
    refine rn ?_;exact j9 rfl (.trans (.drop [_,_,_] _ _) (.le (Sb.lists (rows:= [k8 ⟨h.evs[a].t,((zea h h.evs[a].o (zcc h h.evs[a].o h.evs[a].v).1).getD 0),3,a,zeb h ((zea h h.evs[a].o (zcc h h.evs[a].o h.evs[a].v).1).getD 0) h.evs[a].o,h.evs[a].o,0⟩]) (rows':= [k8 ⟨h.evs[a].t,((zea h h.evs[a].o (zcc h h.evs[a].o h.evs[a].v).1).getD 0),3,a,zeb h ((zea h h.evs[a].o (zcc h h.evs[a].o h.evs[a].v).1).getD 0) h.evs[a].o,h.evs[a].o,0⟩]) (by simp) ⟨⟨.refl _,.refl _,.refl _,.refl _,.refl _,.refl _,.refl _,trivial⟩,trivial⟩).le)) ⟨rfl,by rw [hw];rfl⟩
theorem zyx (h:Hist) (la:Lim 1000000 h) (hc:u6 h=0) (a:Nat) (ha:a < h.evs.length):y8 Tryz.prog 139 [.agg (w7 h),iv (a:Int)] [] (fun r h'=>∃s:SV,h'= [.row s.v 7 41 ((zr5 h h.evs[a] a).map k8)]∧r= .v s.v):=by
 refine z6 Tryz.func139 rfl rfl rfl ?_
 have ra:=zal (f:=evR) ha
 have hsl:(zat h h.evs[a] a).length≤3000:=by rw [zmw];have:=(zes hc).os;omega
 refine rn ?_;refine z8 rfl (w9 rfl rfl rfl fun b2=> ?_)
 refine rn ?_;refine z8 rfl (y3 rfl fun b6=> ?_)
 refine rn ?_;refine qv rfl rfl (y1 rfl rfl (u5 (ygk h la a ha) (Sbs.refl _))) ?_
 refine rn ?_;refine ze2 (zat h h.evs[a] a).length (fun i s=>⟨[(26,iv i),(5,.v s.v),(1,iv (a:Int)),(2,pZ b2),(6,pZ b6),(24,zfg (zat h h.evs[a] a)),(25,iv ((zat h h.evs[a] a).map zam).length)],.row s.v 7 41 ((scP h h.evs[a] a i).map k8):: .box b6 60 (evR h.evs[a]):: .box b2 28 (w7 h):: [],[]⟩) ⟨none,0,0⟩ (v8 (zao 7 41) es) ?_
 intro i s li
 refine rn ?_;refine z7 rfl (fun hc27=> ?_) (fun hc27=> ?_)
 ·have hi:=za3 hc27
  have ri:=zal (f:=zam) hi
  obtain ⟨⟨o0,o1⟩,_⟩:=zqb (List.getElem_mem hi)
  have hgl:=yea hc o0 o1 h.evs[a].p
  have hil:=yr6 hc o0 o1
  have hpl:=ylv hc h.evs[a] a i
  refine rn ?_;refine z8 rfl (y3 rfl fun b8=> ?_)
  refine rn ?_;refine qv rfl rfl (y1 rfl rfl (u5 (zse h la (zat h h.evs[a] a)[i].o (zat h h.evs[a] a)[i].v) (Sbs.refl _))) ?_
  refine rn ?_;refine qv rfl rfl (y1 rfl rfl (y0.pure (R:=fun r=>r=za1 (zie h h.evs[a].p (zat h h.evs[a] a)[i].o)) (y0.of_fun (zsg h la h.evs[a].p (zat h h.evs[a] a)[i].o)))) ?_
  refine rn ?_;refine ze2 (zie h h.evs[a].p (zat h h.evs[a] a)[i].o).length (fun j s=>⟨[(46,iv j),(5,.v s.v),(1,iv (a:Int)),(2,pZ b2),(6,pZ b6),(8,pZ b8),(9,iv (zcc h (zat h h.evs[a] a)[i].o (zat h h.evs[a] a)[i].v).1),(10,bv (zcc h (zat h h.evs[a] a)[i].o (zat h h.evs[a] a)[i].v).2),(24,zfg (zat h h.evs[a] a)),(25,iv ((zat h h.evs[a] a).map zam).length),(26,iv i),(44,za1 (zie h h.evs[a].p (zat h h.evs[a] a)[i].o)),(45,iv ((zie h h.evs[a].p (zat h h.evs[a] a)[i].o).map zac).length)],.box b8 70 (zam (zat h h.evs[a] a)[i]):: .row s.v 7 41 ((scP h h.evs[a] a i++((zie h h.evs[a].p (zat h h.evs[a] a)[i].o).take j).filterMap (ze6 h h.evs[a] a (zat h h.evs[a] a)[i])).map k8):: .box b6 60 (evR h.evs[a]):: .box b2 28 (w7 h):: [],[]⟩) s (by rw [List.take_zero,List.filterMap_nil,List.append_nil];exact es) ?_
  intro j s lj
  refine rn ?_;refine z7 rfl (fun hc47=> ?_) (fun hc47=> ?_)
  ·have hj:=za3 hc47
   have rj:=zal (f:=zac) hj
   obtain ⟨k0,k1⟩:=zx2 (List.getElem_mem hj:(zie h h.evs[a].p (zat h h.evs[a] a)[i].o)[j]∈H.chR _ _)
   have hkl:((zie h h.evs[a].p (zat h h.evs[a] a)[i].o)[j] - 1).toNat < ((zde h (zat h h.evs[a] a)[i].o).map zac).length:=by rw [oM];omega
   have rkk:((zde h (zat h h.evs[a] a)[i].o).map zac)[((zie h h.evs[a].p (zat h h.evs[a] a)[i].o)[j] - 1).toNat]? =some (zac (scT h (zat h h.evs[a] a)[i] (zie h h.evs[a].p (zat h h.evs[a] a)[i].o)[j])):=by rw [List.getElem?_map,scT,List.getElem?_eq_getElem (by rw [oM] at hkl;exact hkl)];rfl
   have hfl:=Nat.le_trans (List.length_filterMap_le (ze6 h h.evs[a] a (zat h h.evs[a] a)[i]) ((zie h h.evs[a].p (zat h h.evs[a] a)[i].o).take j)) (List.length_take_le _ _)
   refine rn ?_;refine qv rfl rfl (y1 rfl rfl (u5 (zhk h la (zat h h.evs[a] a)[i].o) (Sbs.refl _))) ?_
   refine q1 ?_;refine qq rfl rfl (zci rfl rfl rfl (by omega)) ?_
   refine qq rfl rfl (zav rfl rfl (by omega) rkk) ?_
   refine rn ?_;refine w6 (fun hg11_2=> ?_) (fun hg11_2=> ?_)
   ·refine rn ?_;refine zc0 rfl ?_;have hw:ze6 h h.evs[a] a (zat h h.evs[a] a)[i] (zie h h.evs[a].p (zat h h.evs[a] a)[i].o)[j]=none:=by
     first
     |exact ylu hg11_2
     |exact ylt hg11_2 hg11_7
     |exact yls hg11_2 hg11_7 hc70
    refine rn ?_;exact ⟨hj,s,by rw [yol hj hw];exact eA⟩
   ·refine rn ?_;refine w6 (fun hg11_7=> ?_) (fun hg11_7=> ?_)
    ·refine rn ?_;refine zc0 rfl ?_;have hw:ze6 h h.evs[a] a (zat h h.evs[a] a)[i] (zie h h.evs[a].p (zat h h.evs[a] a)[i].o)[j]=none:=by
      first
      |exact ylu hg11_2
      |exact ylt hg11_2 hg11_7
      |exact yls hg11_2 hg11_7 hc70
     refine rn ?_;exact ⟨hj,s,by rw [yol hj hw];exact eA⟩
    ·refine rn ?_;refine z7 rfl (fun hc70=> ?_) (fun hc70=> ?_)
     ·have hw:ze6 h h.evs[a] a (zat h h.evs[a] a)[i] (zie h h.evs[a].p (zat h h.evs[a] a)[i].o)[j]=none:=by
       first
       |exact ylu hg11_2
       |exact ylt hg11_2 hg11_7
       |exact yls hg11_2 hg11_7 hc70
      refine rn ?_;exact ⟨hj,s,by rw [yol hj hw];exact eA⟩
     ·have hw:ze6 h h.evs[a] a (zat h h.evs[a] a)[i] (zie h h.evs[a].p (zat h h.evs[a] a)[i].o)[j]=some ⟨h.evs[a].t,(scT h (zat h h.evs[a] a)[i] (zie h h.evs[a].p (zat h h.evs[a] a)[i].o)[j]),4,a,zeb h (scT h (zat h h.evs[a] a)[i] (zie h h.evs[a].p (zat h h.evs[a] a)[i].o)[j]) (zat h h.evs[a] a)[i].o,(zat h h.evs[a] a)[i].o,h.evs[a].p⟩:=yv8 hg11_2 hg11_7 hc70
      refine rn ?_;refine qv rfl rfl (y1 rfl rfl (u5 (zkn h la.evs (scT h (zat h h.evs[a] a)[i] (zie h h.evs[a].p (zat h h.evs[a] a)[i].o)[j]) (zat h h.evs[a] a)[i].o) (Sbs.refl _))) ?_
      refine rn ?_;refine z8 rfl (y3 rfl fun b14=> ?_)
      first|refine z8 rfl (k7 rfl rfl rfl ?_)|refine z8 rfl (zan rfl rfl rfl rfl (Nat.le_of_ble_eq_true rfl) ?_)
      refine q1 ?_;refine q1 ?_;refine u9 (zai ?_)
      refine y4 ?_;refine q1 ?_;refine q1 ?_;refine q1 ?_;refine q1 ?_;refine q1 ?_;refine q1 ?_;refine q1 ?_;refine q1 ?_;refine q1 ?_;refine q1 ?_;refine qq rfl rfl (zae (out:=k8 ⟨h.evs[a].t,(scT h (zat h h.evs[a] a)[i] (zie h h.evs[a].p (zat h h.evs[a] a)[i].o)[j]),4,a,zeb h (scT h (zat h h.evs[a] a)[i] (zie h h.evs[a].p (zat h h.evs[a] a)[i].o)[j]) (zat h h.evs[a] a)[i].o,(zat h h.evs[a] a)[i].o,h.evs[a].p⟩) rfl (by rfl)) ?_
      refine qv rfl rfl (q6 rfl rfl) ?_
      refine z8 rfl (u4 rfl rfl (by simp only [oM,List.length_append,List.length_cons,List.length_nil];omega) rfl (fun s92=> ?_) (ze9 [⟨h.evs[a].t,(scT h (zat h h.evs[a] a)[i] (zie h h.evs[a].p (zat h h.evs[a] a)[i].o)[j]),4,a,zeb h (scT h (zat h h.evs[a] a)[i] (zie h h.evs[a].p (zat h h.evs[a] a)[i].o)[j]) (zat h h.evs[a] a)[i].o,(zat h h.evs[a] a)[i].o,h.evs[a].p⟩]))
      refine j8 s92 fun sv hsv=> ?_
      subst hsv
      refine rn ?_;exact ⟨hj,sv,by rw [ysl hj hw,←List.append_assoc,List.map_append (l₁:=(scP h h.evs[a] a i++((zie h h.evs[a].p (zat h h.evs[a] a)[i].o).take j).filterMap (ze6 h h.evs[a] a (zat h h.evs[a] a)[i])))];exact eA⟩
  ·have qj:=za4 hc47 lj
   refine rn ?_;exact ⟨hi,s,by rw [yt1 hi];rw [qj,List.take_length];exact eA⟩
 ·have qi:=za4 hc27 li
  refine rn ?_;exact j9 rfl (.trans (.perm ((pt1 _ _ _).trans (.cons _ (pt1 _ _ _))) _) (.drop [_,_] _ _)) ⟨s,by rw [qi,ylw],rfl⟩
theorem ybp (h:Hist) (la:Lim 1000000 h) (hc:u6 h=0) (a:Nat) (ha:a < h.evs.length):y8 Tryz.prog 139 [.agg (w7 h),iv (a:Int)] [] (fun r h'=>h'= []∧r=ziu (zr5 h h.evs[a] a)):=(zyx h la hc a ha).ventR (by rintro _ _ ⟨s,rfl,rfl⟩;exact ⟨_,_,zc1,rfl,rfl⟩)
theorem yoh {h:Hist} {e:Ev} {a:Nat} (hm:zf1 h.evs e.t 5=false):zeq h e a= []:=by rw [zeq,if_neg (by rw [hm];decide)]
theorem yog {h:Hist} {e:Ev} {a:Nat} (hm:zf1 h.evs e.t 5=true) (h3:e.kind=3):zeq h e a=zha h e a:=by rw [zeq,if_pos hm,if_pos h3]
theorem yof {h:Hist} {e:Ev} {a:Nat} (hm:zf1 h.evs e.t 5=true) (h3:e.kind≠3) (h4:e.kind=4):zeq h e a=zr5 h e a:=by rw [zeq,if_pos hm,if_neg h3,if_pos h4]
theorem yoe {h:Hist} {e:Ev} {a:Nat} (hm:zf1 h.evs e.t 5=true) (h3:e.kind≠3) (h4:e.kind≠4):zeq h e a= []:=by rw [zeq,if_pos hm,if_neg h3,if_neg h4]
theorem ybs (h:Hist) (la:Lim 1000000 h) (hc:u6 h=0) (a:Nat) (ha:a < h.evs.length):y8 Tryz.prog 92 [.agg (w7 h),iv (a:Int)] [] (fun r h'=>h'= []∧r=ziu (zeq h h.evs[a] a)):=by
 refine z6 Tryz.func92 rfl rfl rfl ?_
 have ra:=zal (f:=evR) ha
 refine rn ?_;refine z8 rfl (w9 rfl rfl rfl fun b2=> ?_)
 refine rn ?_;refine z8 rfl (y3 rfl fun b5=> ?_)
 refine rn ?_;refine qv rfl rfl (y1 rfl rfl (u5 (zqf h h.evs[a].t (la.mono (by decide):Lim 4611686018427387904 h)) (Sbs.refl _))) ?_
 refine rn ?_;refine z7 rfl (fun hc11=> ?_) (fun hc11=> ?_)
 ·have hm:zf1 h.evs h.evs[a].t 5=false:=by simpa using hc11
  refine rn ?_;exact j9 rfl (.trans (.drop [_,_] _ _) (.le (Sb.nil false 7).le)) ⟨rfl,by rw [yoh hm];rfl⟩
 ·have hm:zf1 h.evs h.evs[a].t 5=true:=by simpa using hc11
  refine rn ?_;refine z7 rfl (fun hc17=> ?_) (fun hc17=> ?_)
  ·have h3:h.evs[a].kind=3:=by simpa using hc17
   refine rn ?_;refine qv rfl rfl (y1 rfl rfl (u5 (ybq h la a ha) (Sbs.refl _))) ?_
   refine rn ?_;exact j9 rfl (.drop [_,_] _ _) ⟨rfl,by rw [yog hm h3];rfl⟩
  ·have h3:h.evs[a].kind≠3:=by simpa using hc17
   refine rn ?_;refine z7 rfl (fun hc24=> ?_) (fun hc24=> ?_)
   ·have h4:h.evs[a].kind=4:=by simpa using hc24
    refine rn ?_;refine qv rfl rfl (y1 rfl rfl (u5 (ybp h la hc a ha) (Sbs.refl _))) ?_
    refine rn ?_;exact j9 rfl (.drop [_,_] _ _) ⟨rfl,by rw [yof hm h3 h4];rfl⟩
   ·have h4:h.evs[a].kind≠4:=by simpa using hc24
    refine rn ?_;exact j9 rfl (.trans (.drop [_,_] _ _) (.le (Sb.nil false 7).le)) ⟨rfl,by rw [yoe hm h3 h4];rfl⟩
theorem yn4 {n m:Int} (h:isB n m=true):0≤n∧n < m:=by rw [isB,Bool.and_eq_true,decide_eq_true_eq,decide_eq_true_eq] at h;exact h
theorem yn5 {n m:Int} (h:isB n m=false):¬(0≤n∧n < m):=fun q=>by rw [isB,decide_eq_true q.1,decide_eq_true q.2] at h;cases h
theorem zyz (h:Hist) (la:Lim 1000000 h) (hc:u6 h=0) (a:Nat) (ha:a < h.evs.length):y8 Tryz.prog 37 [.agg (w7 h),iv (a:Int)] [] (fun r h'=>∃s:SV,h'= [.row s.v 1 3 ((ym5 h h.evs[a] a).map zac)]∧r= .v s.v):=by
 refine z6 Tryz.func37 rfl rfl rfl ?_
 have hlen:=ydf hc ha
 refine rn ?_;refine z8 rfl (w9 rfl rfl rfl fun b2=> ?_)
 refine rn ?_;have lT:=(zes hc).ts
 refine ze2 h.ts.length (fun k s=>⟨[(13,iv k),(5,.v s.v),(1,iv (a:Int)),(2,pZ b2),(12,iv (h.ts.map zfe).length)],.row s.v 1 3 ((ovK h h.evs[a] a k).map zac):: .box b2 28 (w7 h):: [],[]⟩) ⟨none,0,0⟩ (v8 (zao 1 3) es) ?_
 intro k s lk
 refine rn ?_;refine z7 rfl (fun hc14=> ?_) (fun hc14=> ?_)
 ·have hk:k < h.ts.length:=by have q:=oT hc14;rw [oM] at q;omega
  have hkl:=ym7 h h.evs[a] a k
  refine rn ?_;refine qv rfl rfl (y1 rfl rfl (u5 (ybs h la hc a ha) (Sbs.refl _))) ?_
  refine rn ?_;refine zcn (zeq h h.evs[a] a).length (fun _=>True) (fun j=>⟨[(20,iv j),(7,bv (((zeq h h.evs[a] a).take j).any fun c=>c.t==(k:Int))),(1,iv (a:Int)),(2,pZ b2),(5,.v s.v),(6,iv k),(12,iv (h.ts.map zfe).length),(13,iv k),(18,ziu (zeq h h.evs[a] a)),(19,iv ((zeq h h.evs[a] a).map k8).length)],.row s.v 1 3 ((ovK h h.evs[a] a k).map zac):: .box b2 28 (w7 h):: [],[]⟩) trivial es ?_
  intro j lj _
  refine rn ?_;refine z7 rfl (fun hc21=> ?_) (fun hc21=> ?_)
  ·have hj:=za3 hc21
   have rj:=zal (f:=k8) hj
   refine rn ?_;refine z8 rfl (y3 rfl fun b9=> ?_)
   refine rn ?_;refine w6 (fun hg9_1=> ?_) (fun hg9_1=> ?_)
   ·refine rn ?_;first|exact ⟨hj,trivial,by rw [yja hj,hg9_1,Bool.true_or];exact eA⟩|exact ⟨hj,trivial,by rw [yja hj,hg9_1,Bool.false_or];exact eA⟩
   ·refine rn ?_;first|exact ⟨hj,trivial,by rw [yja hj,hg9_1,Bool.true_or];exact eA⟩|exact ⟨hj,trivial,by rw [yja hj,hg9_1,Bool.false_or];exact eA⟩
  ·have qj:=za4 hc21 lj
   refine rn ?_;refine z7 rfl (fun hc32=> ?_) (fun hc32=> ?_)
   ·have hw:=yui (k:=k) (e:=h.evs[a]) (a:=a) (h:=h) (w:=(((zeq h h.evs[a] a).take j).any fun c=>c.t==(k:Int))) (by rw [qj,List.take_length]) hc32
    refine rn ?_;refine qv rfl rfl (q6 rfl rfl) ?_
    refine z8 rfl (u4 rfl rfl (by simp only [oM,List.length_cons,List.length_nil];omega) rfl (fun s36=> ?_) (zgt [(k:Int)]))
    refine j8 s36 fun sv hsv=> ?_
    subst hsv
    refine rn ?_;first|exact ⟨hk,sv,by rw [hw,List.map_append];exact eA⟩|exact ⟨hk,s,by rw [hw];exact eA⟩
   ·have hw:=yuj (k:=k) (e:=h.evs[a]) (a:=a) (h:=h) (w:=(((zeq h h.evs[a] a).take j).any fun c=>c.t==(k:Int))) (by rw [qj,List.take_length]) hc32
    refine rn ?_;first|exact ⟨hk,sv,by rw [hw,List.map_append];exact eA⟩|exact ⟨hk,s,by rw [hw];exact eA⟩
 ·have qk:k=h.ts.length:=by have q:=oF hc14;rw [oM] at q;omega
  refine rn ?_;exact j9 rfl (.trans (.perm (zdj [_] [_]) _) (.drop [_] _ _)) ⟨s,by rw [qk];rfl,rfl⟩
theorem zsf (h:Hist) (la:Lim 1000000 h) (hc:u6 h=0) (a:Nat) (ha:a < h.evs.length):y8 Tryz.prog 37 [.agg (w7 h),iv (a:Int)] [] (fun r h'=>h'= []∧r=za1 (zzk h h.evs[a] a)):=(zyz h la hc a ha).ventR (by rintro _ _ ⟨s,rfl,rfl⟩;exact ⟨_,_,zc1,rfl,by rw [yba (zbd.1 hc) ha];rfl⟩)
theorem zzj (l:List Ev):(l.map evR).take (min (l.map evR).length 60)=(l.take 60).map evR:=by
 rw [oM,←List.map_take,Nat.min_comm,←List.take_take,List.take_length]
theorem yq8 (h:Hist) (la:Big h):y8 Tryz.prog 31 [.agg (w7 h)] [] (fun r h'=>∃(sE sO sM:SV) (E:List (SV×Ev)),E.map (·.2)=(h.evs.take 60)∧h'= .row sE.v 9 60 (E.map ypj):: .row sO.v 2 87 (h.ords.map zeg):: .row sM.v 4 109 (h.mats.map zd3)::scR 70 E∧r= .agg [zdg h.ts,zdg h.ss,zdg h.os,zdg h.ps,.v sE.v,.v sO.v,.v sM.v,zuc h.wants]):=by
 refine z6 Tryz.func31 rfl rfl rfl ?_
 refine rn ?_;refine z8 rfl (w9 rfl rfl rfl fun b1=> ?_)
 refine z8 rfl (y3 rfl fun b2=> ?_)
 refine rn ?_;refine zyd 15 rfl ?_
 refine mq rfl rfl qrA ?_;refine mq rfl rfl qrA ?_;refine mq rfl rfl qrA ?_;refine mq rfl rfl qrA ?_;refine mq rfl rfl qrA ?_;refine mq rfl rfl (ymw (h.evs.map evR).length 60 rfl rfl) ?_
 refine mq rfl rfl (zm6 (rows':=(h.evs.take 60).map evR) rfl rfl (Nat.min_le_left _ _) (zzj h.evs)) ?_
 refine yho (ynf 9 60 ((h.evs.take 60).map evR)) rfl rfl rfl (zxe (y0.of_fun (zz2 _ (by rw [oM,List.length_take];omega) (yjz _)))) ?_
 refine rn ?_;refine yho (ynf 2 87 (h.ords.map zeg)) rfl rfl rfl (zxe (y0.of_fun (ztu _ (by rw [oM];have:=la.ords;omega) (ym9 _)))) ?_
 refine rn ?_;refine yho (ynf 4 109 (h.mats.map zd3)) rfl rfl rfl (zxe (y0.of_fun (ztv _ (by rw [oM];have:=la.mats;omega) (yna _)))) ?_
 refine rn ?_;refine yvu ⟨.refl _,?_⟩
 refine rn ?_;refine zqr fun s11=> ?_
 refine rn ?_;refine zqr fun s14=> ?_
 refine rn ?_;refine zqr fun s17=> ?_
 refine rn0 ?_;refine w8 ?_;refine w8 ?_;refine zgj (zaz ((pt3 _ _ _ _ _).trans (.cons _ ((pt3 _ _ _ _ _).trans (.cons _ ((pt2 _ _ _ _).trans (.cons _ (pt1 _ _ _)))))))) ?_
 refine rn ?_;refine zaa (fun x:Nat×List (SV×Ev)=>x.1≤(h.evs.take 60).length∧x.2.map (·.2)=(h.evs.take 60).take x.1) (fun x=>⟨[(24,iv x.1),(23,iv ((h.evs.take 60).map evR).length),(1,pZ b1),(2,pZ b2)],.box b2 28 zs9:: .box b1 28 [zdg h.ts,zdg h.ss,zdg h.os,zdg h.ps,.v s11.v,.v s14.v,.v s17.v,zuc h.wants]:: .row s11.v 9 60 (x.2.map ypj++((h.evs.take 60).drop x.1).map evR):: .row s14.v 2 87 (h.ords.map zeg):: .row s17.v 4 109 (h.mats.map zd3)::scR 70 x.2,[]⟩) (fun x=>(h.evs.take 60).length - x.1) (0,[]) ⟨by omega,rfl⟩
  (v6 (.cons _ _ _ rfl (.cons _ _ _ rfl (.cons _ _ _ rfl (.cons _ _ _ rfl (.nil)))))) ?_
 rintro ⟨k,x⟩ ⟨hk,hx⟩
 simp only at hk hx
 have hxl:=yhm hx hk
 refine rn ?_;refine z7 rfl (fun hc25=> ?_) (fun hc25=> ?_)
 ·have hk2:k < (h.evs.take 60).length:=by have q:=oT hc25;rw [oM] at q;omega
  obtain ⟨e,he⟩:∃e,e=(h.evs.take 60)[k]:=⟨_,rfl⟩
  have hd:=List.drop_eq_getElem_cons hk2
  rw [←he] at hd
  have hrow:(x.map ypj++((h.evs.take 60).drop k).map evR)[k]? =some (evR e):=ynm hxl hd
  have hmem:e∈(h.evs.take 60):=by rw [he];exact List.getElem_mem hk2
  have hle:(h.evs.take 60).length≤60:=by rw [List.length_take];omega
  have hk3:k < (x.map ypj++((h.evs.take 60).drop k).map evR).length:=by rw [ynl hxl hk];exact hk2
  refine rn ?_;refine zyd 10 rfl ?_
  refine mq rfl rfl qrA ?_;refine mq rfl rfl qrA ?_;refine mq rfl rfl qrA ?_;refine mq rfl rfl qrA ?_;refine mq rfl rfl qrA ?_;refine mq rfl rfl qrA ?_;refine mq rfl rfl (zc4 rfl rfl hk3) ?_
  refine mq rfl rfl qrA ?_;refine mq rfl rfl (zcu rfl hrow rfl) ?_
  refine yho (ynf 3 70 (e.scan.map zam)) rfl rfl rfl (zxe (y0.of_fun (zrb _ (by rw [oM];have:=(la.scans e (List.mem_of_mem_take hmem));omega) (zh8 _)))) ?_
  refine yvu ⟨.refl _,?_⟩
  refine rn ?_;refine zqr fun s36=> ?_
  refine rn2 ?_;refine qq rfl rfl (zc4 rfl rfl hk3) ?_
  refine rn ?_;refine z8 rfl (zu8 rfl rfl rfl hrow rfl (Nat.le_of_ble_eq_true rfl) ?_)
  refine rn ?_;have hset:=ynk (f:=ypj) (g:=evR) (a:=(s36,e)) (r:=(evR e).take 8++ [.v s36.v]++(evR e).drop (8+1)) hxl hd rfl
  have htl:scR 70 (x++ [(s36,e)])=scR 70 x++ [.row s36.v 3 70 (e.scan.map zam)]:=by simp [scR]
  exact ⟨(k+1,x++ [(s36,e)]),⟨by omega,yhl hx hk2 he⟩,by simp only [htl];exact v8 (zaz (zdj [_] _)) (by rw [←hset];exact (v6 (.cons _ _ _ rfl (.cons _ _ _ rfl (.cons _ _ _ rfl (.cons _ _ _ rfl (.nil))))))),by simp only;omega⟩
 ·obtain rfl:k=(h.evs.take 60).length:=by
   have q:=oF hc25
   rw [oM] at q
   omega
  rw [List.take_length] at hx
  rw [List.drop_length,List.map_nil,List.append_nil]
  refine rn ?_;exact ze0 (.cons _ _ _ _ (.agg _ _ _ _ _ _ _ rfl inferInstance inferInstance inferInstance rfl) .nil) (.drop [_,_] _ _) ⟨s11,s14,s17,x,hx,rfl,rfl⟩
theorem ym3 (h:Hist) (la:Big h):y8 Tryz.prog 31 [.agg (w7 h)] [] (fun r h'=>h'= []∧r= .agg (w7 (zap h))):=
 (yq8 h la).ventR (by
  rintro _ _ ⟨sE,sO,sM,E,hE,rfl,rfl⟩
  exact ⟨_,_,zu2 [] sE.v sO.v sM.v (zap h) E 60 87 109 70 _ hE (by simp) (by simp [zap]) (by simp [zap]) (fun r hr=>by simp [hr]),rfl,rfl⟩)
def yds (e:Ev):List AV:= [iv e.kind,iv e.t,iv e.s,iv e.l,iv e.o,iv e.v.t,iv e.v.k,iv e.p,.v (.slice none 0 0)]
theorem ynb (l:List Ev):∀r∈l.map yds,r.all AV.one=true:=by
 intro r hr;obtain ⟨a,_,rfl⟩:=List.mem_map.1 hr;rfl
theorem yf6  :y8 Tryz.prog 83 [] [] (fun r h'=>∃s:SV,h'= [.row s.v 9 60 ((srE 2).map yds)]∧r= .agg [.list true 1 [[sv (wT 48)],[sv (wT 49)],[sv (wT 50)]],.list true 1 [[sv zx6]],.list true 1 [[sv bxx]],.list true 1 [[sv bPP]],.v s.v,.list true 2 [[iv 0,.list true 1 [[iv 1],[iv 2]]]],.list true 4 [[iv 0,iv 0,bv false,.list true 1 [[iv 2]]]],.v (.slice none 0 0)]):=by
 refine z6 Tryz.func83 rfl rfl rfl ?_
 refine rn ?_;refine z8 rfl (y3 rfl fun b0=> ?_)
 refine rn ?_;refine qv rfl rfl (q6 rfl rfl) ?_
 refine qv rfl rfl (q6 rfl rfl) ?_
 refine qv rfl rfl (q6 rfl rfl) ?_
 refine qv rfl rfl (q6 rfl rfl) ?_
 refine rn ?_;refine z8 rfl (y3 rfl fun b1=> ?_)
 first|refine z8 rfl (k7 rfl rfl rfl ?_)|refine z8 rfl (zan rfl rfl rfl rfl (Nat.le_of_ble_eq_true rfl) ?_)
 refine u9 (zai ?_)
 refine w8 (y4 ?_)
 refine qq rfl rfl (zae (out:=yds (ypl 0)) rfl (by rfl)) ?_
 refine qq rfl rfl (zae (out:=yds (⟨3,0,0,0,0,⟨0,0⟩,0,[]⟩)) rfl (by rfl)) ?_
 refine qq rfl rfl (zae (out:=yds (⟨4,0,0,0,0,⟨0,0⟩,0,[]⟩)) rfl (by rfl)) ?_
 refine qq rfl rfl (zae (out:=yds (ypk 0)) rfl (by rfl)) ?_
 refine z8 rfl (zdv (rows:=(srE 0).map yds) rfl rfl rfl (fun s12=> ?_))
 refine j8 s12 fun sw hsw=> ?_
 subst hsw
 refine rn ?_;refine ze2 2 (fun k s=>⟨[(2,iv (k+1:Nat)),(0,pZ b0),(1,pZ b1)],.row s.v 9 60 ((srE k).map yds):: .box b1 28 [.list true 1 [[sv (wT 48)],[sv (wT 49)],[sv (wT 50)]],.list true 1 [[sv zx6]],.list true 1 [[sv bxx]],.list true 1 [[sv bPP]],.v s.v,.v (.slice none 0 0),.v (.slice none 0 0),.v (.slice none 0 0)]:: .box b0 28 zs9:: [],[]⟩) sw es ?_
 intro k s lk
 refine rn ?_;refine z7 rfl (fun hc15=> ?_) (fun hc15=> ?_)
 ·have hk:k < 2:=by have q:=oT hc15;omega
  have hb:=yld k
  refine za2 ?_;refine zai ?_;refine w8 ?_;refine zcz ?_;refine y4 ?_;refine q1 ?_;refine q1 ?_;refine q1 ?_;refine qq rfl rfl (zae (out:=yds (ypl (k+1:Nat))) rfl (by rfl)) ?_
  refine q1 ?_;refine q1 ?_;refine qq rfl rfl (zae (out:= [iv (k+1:Nat),iv 1]) rfl (by rfl)) ?_
  refine qq rfl rfl (zae (out:=yds (ytr (k+1:Nat) 0)) rfl (by rfl)) ?_
  refine q1 ?_;refine qq rfl rfl (zae (out:=yds (ypk (k+1:Nat))) rfl (by rfl)) ?_
  refine qv rfl rfl (q6 rfl rfl) ?_
  refine z8 rfl (u4 rfl rfl (by simp only [oM,List.length_append,List.length_cons,List.length_nil];omega) rfl (fun s29=> ?_) (ynb [ypl (k+1:Nat),ytr (k+1:Nat) 0,ypk (k+1:Nat)]))
  refine j8 s29 fun sw hsw=> ?_
  subst hsw
  refine rn ?_;exact ⟨hk,sw,by rw [ypy,List.map_append];exact eA⟩
 ·have qk:k=2:=by have q:=oF hc15;omega
  refine rn ?_;refine qv rfl rfl (q6 rfl rfl) ?_
  refine rn ?_;refine qv rfl rfl (q6 rfl rfl) ?_
  refine rn ?_;refine qv rfl rfl (q6 rfl rfl) ?_
  refine rn ?_;refine qv rfl rfl (q6 rfl rfl) ?_
  refine rn ?_;exact ze0 (.cons _ _ _ _ (.agg _ _ _ _ _ _ _ rfl inferInstance inferInstance inferInstance rfl) .nil) (.trans (.perm ((pt1 _ _ _).trans (.cons _ (pt1 _ _ _))) _) (.drop [_,_] _ _)) ⟨s,by rw [qk],rfl⟩
theorem zuj:y8 Tryz.prog 83 [] [] (fun r h'=>h'= []∧r= .agg (w7 rwH)):=
 yf6.ventR (by
  rintro _ _ ⟨s,rfl,rfl⟩
  exact ⟨_,_,.trans (zcr [.list true 1 [[sv (wT 48)],[sv (wT 49)],[sv (wT 50)]],.list true 1 [[sv zx6]],.list true 1 [[sv bxx]],.list true 1 [[sv bPP]]] [.list true 2 [[iv 0,.list true 1 [[iv 1],[iv 2]]]],.list true 4 [[iv 0,iv 0,bv false,.list true 1 [[iv 2]]]],.v (.slice none 0 0)]) (.le (Sb.aggs (bs:=w7 rwH) (by exact ⟨.unfull,.unfull,.unfull,.unfull,(.lists (by simp) ⟨⟨.refl _,.refl _,.refl _,.refl _,.refl _,.refl _,.refl _,.refl _,.nil _ _,trivial⟩,⟨.refl _,.refl _,.refl _,.refl _,.refl _,.refl _,.refl _,.refl _,.nil _ _,trivial⟩,⟨.refl _,.refl _,.refl _,.refl _,.refl _,.refl _,.refl _,.refl _,.nil _ _,trivial⟩,⟨.refl _,.refl _,.refl _,.refl _,.refl _,.refl _,.refl _,.refl _,.nil _ _,trivial⟩,⟨.refl _,.refl _,.refl _,.refl _,.refl _,.refl _,.refl _,.refl _,.nil _ _,trivial⟩,⟨.refl _,.refl _,.refl _,.refl _,.refl _,.refl _,.refl _,.refl _,.nil _ _,trivial⟩,⟨.refl _,.refl _,.refl _,.refl _,.refl _,.refl _,.refl _,.refl _,.nil _ _,trivial⟩,⟨.refl _,.refl _,.refl _,.refl _,.refl _,.refl _,.refl _,.refl _,.nil _ _,trivial⟩,⟨.refl _,.refl _,.refl _,.refl _,.refl _,.refl _,.refl _,.refl _,.nil _ _,trivial⟩,⟨.refl _,.refl _,.refl _,.refl _,.refl _,.refl _,.refl _,.refl _,.nil _ _,trivial⟩,trivial⟩),(.lists (by simp) ⟨⟨.refl _,.unfull,trivial⟩,trivial⟩),(.lists (by simp) ⟨⟨.refl _,.refl _,.refl _,.unfull,trivial⟩,trivial⟩),.nil _ _,trivial⟩)).le),rfl,rfl⟩)
theorem yut:Lim 4611686018427387904 rwH:=⟨by decide,by decide,by decide,by decide,by decide,by decide,by decide,by decide,by decide,by decide,by decide⟩
abbrev yp5:Conf:=⟨0,1,3,1,5,0,0⟩
abbrev yvn:Conf:=⟨0,2,4,2,8,0,0⟩
theorem ygd:rwJ rwH yp5=true:=yqb (yqa zhf rfl (by decide) yge)
theorem rA1 (rO:Nat) (oK:Obj) (hK:KO oK):y8 Tryz.prog 32 [.agg (w7 rwH)] (.glob 2 156 y5:: .glob 4 305 y7:: .glob 5 308 y2:: .glob 3 246 u0:: .glob 1 175 zaf:: .glob 0 171 [mpv rO]:: .obj rO oK:: []) (fun r h'=>h'= .glob 2 156 y5:: .glob 4 305 y7:: .glob 5 308 y2:: .glob 3 246 u0:: .glob 1 175 zaf:: .glob 0 171 [mpv rO]:: .obj rO oK:: []∧r= .tup [ziu [yp5],iv 0]):=(yqc rwH yut rO oK hK).mono fun _ _ q=>⟨q.1,by rw [q.2,ybd zhf,ya9,zhf]⟩
theorem rA2 (rO:Nat) (oK:Obj) (hK:KO oK):y8 Tryz.prog 33 [.agg (w7 rwH)] (.glob 2 156 y5:: .glob 4 305 y7:: .glob 5 308 y2:: .glob 3 246 u0:: .glob 1 175 zaf:: .glob 0 171 [mpv rO]:: .obj rO oK:: []) (fun r h'=>h'= .glob 2 156 y5:: .glob 4 305 y7:: .glob 5 308 y2:: .glob 3 246 u0:: .glob 1 175 zaf:: .glob 0 171 [mpv rO]:: .obj rO oK:: []∧r= .tup [ziu [yvn],iv 0]):=(yly rwH yut rO oK hK).mono fun _ _ q=>⟨q.1,by rw [q.2,ybd zhf,ya7,zhf]⟩
theorem rA3 (rO:Nat) (oK:Obj) (hK:KO oK):y8 Tryz.prog 40 [.agg (w7 rwH),.agg (k8 yp5)] (.glob 2 156 y5:: .glob 4 305 y7:: .glob 5 308 y2:: .glob 3 246 u0:: .glob 1 175 zaf:: .glob 0 171 [mpv rO]:: .obj rO oK:: []) (fun r h'=>h'= .glob 2 156 y5:: .glob 4 305 y7:: .glob 5 308 y2:: .glob 3 246 u0:: .glob 1 175 zaf:: .glob 0 171 [mpv rO]:: .obj rO oK:: []∧r=bv true):=(yp9 rwH yut rO oK hK yp5).mono fun _ _ q=>⟨q.1,by rw [q.2,ygd]⟩
theorem rEq {f g:Bool} (c:Conf):y8 Tryz.prog 19 [.list f 7 [k8 c],.list g 7 [k8 c]] [] (fun r h'=>h'= []∧r=bv true):=ysx [c] (by show 1≤_;decide)
theorem yk4 (rO:Nat) (oK:Obj) (hK:KO oK):y8 Tryz.prog 30 [] (.glob 2 156 y5:: .glob 4 305 y7:: .glob 5 308 y2:: .glob 3 246 u0:: .glob 1 175 zaf:: .glob 0 171 [mpv rO]:: .obj rO oK:: []) (fun r h'=>h'= .glob 2 156 y5:: .glob 4 305 y7:: .glob 5 308 y2:: .glob 3 246 u0:: .glob 1 175 zaf:: .glob 0 171 [mpv rO]:: .obj rO oK:: []∧r=bv true):=by
 refine z6 Tryz.func30 rfl rfl rfl ?_
 refine rn ?_;refine qv rfl rfl (y1 rfl rfl (y0.pure (R:=fun r=>r= .agg (w7 rwH)) (y0.of_fun zuj))) ?_
 refine qv rfl rfl (y1 rfl rfl (y0.of_fun (rA1 rO oK hK))) ?_
 refine rn ?_;refine qv rfl rfl (y1 rfl rfl (y0.pure (R:=fun r=>r= .agg (w7 rwH)) (y0.of_fun zuj))) ?_
 refine qv rfl rfl (y1 rfl rfl (y0.of_fun (rA2 rO oK hK))) ?_
 refine q1 ?_;refine q1 ?_;refine q1 ?_;refine q1 ?_;refine q1 ?_;refine u9 (zai ?_)
 refine w8 (y4 ?_)
 refine qq rfl rfl (zae (out:=k8 yp5) rfl (by rfl)) ?_
 refine z8 rfl (y3 rfl fun b5=> ?_)
 refine rn ?_;refine k9 21 rfl ?_
 refine rn ?_;refine dv rfl rfl (q6 rfl rfl) ?_
 refine dv rfl rfl (by exact y1 rfl rfl (y0.pure (R:=fun r=>r=bv true) (y0.of_fun (rEq _)))) ?_
 refine dq rfl rfl qrA ?_;refine dq rfl rfl qrA ?_;refine dq rfl rfl qrA ?_;refine dq rfl rfl (zae (out:=k8 yvn) rfl (by rfl)) ?_
 refine dv rfl rfl (q6 rfl rfl) ?_
 refine dv rfl rfl (by exact y1 rfl rfl (y0.pure (R:=fun r=>r=bv true) (y0.of_fun (rEq _)))) ?_
 refine rn ?_;refine dv rfl rfl (by exact y1 rfl rfl (y0.pure (R:=fun r=>r= .agg (w7 rwH)) (y0.of_fun zuj))) ?_
 refine rn ?_;refine qv rfl rfl (y1 rfl rfl (y0.qt (y0.of_fun (rA3 rO oK hK)) ((pt1 _ _ _).trans (.cons _ ((pt1 _ _ _).trans (.cons _ ((pt1 _ _ _).trans (.cons _ ((pt1 _ _ _).trans (.cons _ ((pt1 _ _ _).trans (.cons _ ((pt1 _ _ _).trans (.cons _ (pt1 _ _ _))))))))))))))) ?_
 refine rn ?_;refine rq 1 ?_
 exact ⟨rfl,rfl⟩
theorem yjr (h:Hist) (la:Lim 4611686018427387904 h):y8 Tryz.prog 26 [.agg (w7 h),.agg (w7 h)] [] (fun r h'=>h'= []∧r=bv true):=(ymf h h la la).mono fun _ _ q=>⟨q.1,by rw [q.2,zyr]⟩
theorem ym6 (h:Hist) (n:Int):(ovO h n).length≤4611686018427387904:=by
 rw [ovO]
 split
 ·rename_i he
  have hc:u6 h=0:=by
   by_cases hc:u6 h=0
   ·exact hc
   ·rw [ovC,if_neg hc] at he;exact he
  split
  ·rename_i e hq
   obtain ⟨hl,rfl⟩:=List.getElem?_eq_some_iff.1 hq
   refine Nat.le_trans (zj7 _) ?_
   rw [(zcl _).length_eq,oM]
   exact Nat.le_trans (zmi hc hl) (by decide)
  ·exact Nat.zero_le _
 ·exact Nat.zero_le _
theorem yu6 {f g:Bool} (l:List Int) (hl:l.length≤4611686018427387904):y8 Tryz.prog 25 [.list f 1 (l.map zac),.list g 1 (l.map zac)] [] (fun r h'=>h'= []∧r=bv true):=(yiq l l hl hl).mono fun _ _ q=>⟨q.1,by rw [q.2,zgg zme];simp⟩
theorem yl1 (x:Hist) (l:List Int) (lb:Big x) (hl:l.length≤4611686018427387904) (rO:Nat) (oK:Obj) (hK:KO oK):y8 Tryz.prog 6 [.agg (w7 x),za1 l] (.glob 2 156 y5:: .glob 4 305 y7:: .glob 5 308 y2:: .glob 3 246 u0:: .glob 1 175 zaf:: .glob 0 171 [mpv rO]:: .obj rO oK:: []) (fun r h'=>h'= .glob 2 156 y5:: .glob 4 305 y7:: .glob 5 308 y2:: .glob 3 246 u0:: .glob 1 175 zaf:: .glob 0 171 [mpv rO]:: .obj rO oK:: []∧r=bv true):=by
 refine z6 Tryz.func6 rfl rfl rfl ?_
 refine rn ?_;refine z8 rfl (w9 rfl rfl rfl fun b2=> ?_)
 refine rn ?_;refine qv rfl rfl (y1 rfl rfl (y0.qt (y0.of_fun (yk4 rO oK hK)) ((pt1 _ _ _).trans (.cons _ ((pt1 _ _ _).trans (.cons _ ((pt1 _ _ _).trans (.cons _ ((pt1 _ _ _).trans (.cons _ ((pt1 _ _ _).trans (.cons _ ((pt1 _ _ _).trans (.cons _ (pt1 _ _ _))))))))))))))) ?_
 refine rn ?_;refine z7 rfl (fun hc15=> ?_) (fun hc15=> ?_)
 ·exact absurd hc15 (by decide)
 ·refine rn ?_;refine qv rfl rfl (y1 rfl rfl (u5 (ym3 x lb) (Sbs.refl _))) ?_
  refine z8 rfl (y3 rfl fun b5=> ?_)
  refine rn ?_;refine qv rfl rfl (y1 rfl rfl (u5 (zy4 (zap x) (zfa lb.lim)) (Sbs.refl _))) ?_
  refine rn ?_;refine zcy (l.length) (fun j:Nat=>True) (fun j=> [(22,iv j)]) [(2,_),(5,_),(6,_),(20,_),(21,_)] trivial ?_
  intro j lj _
  refine rn ?_;refine z7 rfl (fun hc23=> ?_) (fun hc23=> ?_)
  ·have hj:=za3 hc23
   have rj:=zal (f:=zac) hj
   generalize l[j]=n at rj
   refine rn ?_;refine z7 rfl (fun hc28=> ?_) (fun hc28=> ?_)
   ·refine rn ?_;refine k9 3 rfl ?_
    refine rn ?_;refine dv rfl rfl (by exact y1 rfl rfl (u5 (ym3 x lb) (Sbs.refl _))) ?_
    refine rn ?_;refine qv rfl rfl (y1 rfl rfl (u5 (yjr (zap x) (zfa lb.lim)) (Sbs.refl _))) ?_
    refine rn ?_;first|(refine rq 2 ?_;exact ⟨rfl,rfl⟩)|(refine rq 3 ?_;exact ⟨rfl,rfl⟩)
   ·refine rn ?_;refine qv rfl rfl (y1 rfl rfl (y0.qt (y0.of_fun (rwOver (zap x) (zfa lb.lim) rO oK hK n)) ((pt2 _ _ _ _).trans (.cons _ ((pt2 _ _ _ _).trans (.cons _ ((pt2 _ _ _ _).trans (.cons _ ((pt2 _ _ _ _).trans (.cons _ ((pt2 _ _ _ _).trans (.cons _ ((pt2 _ _ _ _).trans (.cons _ (pt2 _ _ _ _))))))))))))))) ?_
    refine q1 ?_;refine q1 ?_;refine q1 ?_;refine q1 ?_;refine q1 ?_;refine u9 (zai ?_)
    refine w8 (y4 ?_)
    refine qq rfl rfl (zhl (fun w O v hr=>Sb.rel (Sb.nil false 1) hr) (zsq rfl)) ?_
    refine rn0 ?_;refine w8 (y4 ?_)
    refine rn0 ?_;refine zpx (⟨[(11,za1 (ovO (zap x) n)),(12,iv (ovC (zap x) n)),(9,za1 (ovO (zap x) n)),(10,iv (ovC (zap x) n)),(2,pZ b2),(5,pZ b5),(6,iv (u6 (zap x))),(20,za1 l),(21,iv (l.map zac).length),(22,iv j)],.box b5 28 (w7 (zap x)):: .box b2 28 (w7 x):: .glob 2 156 y5:: .glob 4 305 y7:: .glob 5 308 y2:: .glob 3 246 u0:: .glob 1 175 zaf:: .glob 0 171 [mpv rO]:: .obj rO oK:: [],[]⟩) ?_ ?_
    ·refine rn ?_;refine z7 rfl (fun hc37=> ?_) (fun hc37=> ?_)
     ·have hc:u6 (zap x)=0:=eq_of_beq hc37
      refine rn ?_;refine qv rfl rfl (y1 rfl rfl (u5 (zij n ((zap x).evs.map evR).length) (Sbs.refl _))) ?_
      refine rn ?_;refine z7 rfl (fun hc42=> ?_) (fun hc42=> ?_)
      ·have hn0:=yn4 hc42
       rw [oM] at hn0
       obtain ⟨a,rfl⟩:∃a:Nat,n=(a:Int):=⟨n.toNat,by omega⟩
       have ha:a < (zap x).evs.length:=by omega
       have ra:=zal (f:=evR) ha
       refine rn ?_;refine z8 rfl (y3 rfl fun b13=> ?_)
       refine rn ?_;refine w6 (fun hg16_3=> ?_) (fun hg16_3=> ?_)
       ·refine rn ?_;refine qv rfl rfl (y1 rfl rfl (u5 (zqf (zap x) (zap x).evs[a].t (zfa lb.lim)) (Sbs.refl _))) ?_
        refine rn ?_;refine z7 rfl (fun hc61=> ?_) (fun hc61=> ?_)
        ·have hkd:(zap x).evs[a].kind=3∨(zap x).evs[a].kind=4:=by
          first
          |(have q:(zap x).evs[a].kind=3:=(by simpa using hg16_3);exact .inl q)
          |(have q:(zap x).evs[a].kind=4:=(by simpa using hg16_8);exact .inr q)
         have hm:zf1 (zap x).evs (zap x).evs[a].t 5=true:=hc61
         have hn:OvB (zap x) (a:Int):=⟨a,rfl,ha,hm,hkd⟩
         have hq:=ypg hc ha hn
         refine rn ?_;refine qv rfl rfl (y1 rfl rfl (u5 (zsf (zap x) ((zes hc).mono (by decide):Lim 1000000 (zap x)) hc a ha) (Sbs.refl _))) ?_
         refine rn ?_;rw [hq.1,hq.2]
         exact eA
        ·first
         |(have q3:(zap x).evs[a].kind≠3:=(by simpa using hg16_3);have q4:(zap x).evs[a].kind≠4:=(by simpa using hg16_8);have hn:=zu3 ha q3 q4)
         |have hn:=zu4 ha hc61
         have hq:=yaa hc hn
         refine rn ?_;rw [hq.1,hq.2]
         exact eA
       ·refine rn ?_;refine w6 (fun hg16_8=> ?_) (fun hg16_8=> ?_)
        ·refine rn ?_;refine qv rfl rfl (y1 rfl rfl (u5 (zqf (zap x) (zap x).evs[a].t (zfa lb.lim)) (Sbs.refl _))) ?_
         refine rn ?_;refine z7 rfl (fun hc61=> ?_) (fun hc61=> ?_)
         ·have hkd:(zap x).evs[a].kind=3∨(zap x).evs[a].kind=4:=by
           first
           |(have q:(zap x).evs[a].kind=3:=(by simpa using hg16_3);exact .inl q)
           |(have q:(zap x).evs[a].kind=4:=(by simpa using hg16_8);exact .inr q)
          have hm:zf1 (zap x).evs (zap x).evs[a].t 5=true:=hc61
          have hn:OvB (zap x) (a:Int):=⟨a,rfl,ha,hm,hkd⟩
          have hq:=ypg hc ha hn
          refine rn ?_;refine qv rfl rfl (y1 rfl rfl (u5 (zsf (zap x) ((zes hc).mono (by decide):Lim 1000000 (zap x)) hc a ha) (Sbs.refl _))) ?_
          refine rn ?_;rw [hq.1,hq.2]
          exact eA
         ·first
          |(have q3:(zap x).evs[a].kind≠3:=(by simpa using hg16_3);have q4:(zap x).evs[a].kind≠4:=(by simpa using hg16_8);have hn:=zu3 ha q3 q4)
          |have hn:=zu4 ha hc61
          have hq:=yaa hc hn
          refine rn ?_;rw [hq.1,hq.2]
          exact eA
        ·refine rn ?_;refine z7 rfl (fun hc61=> ?_) (fun hc61=> ?_)
         ·first|cases hc61|exact absurd hc61 (by decide)|(exfalso;simp_all;done)
         ·first
          |(have q3:(zap x).evs[a].kind≠3:=(by simpa using hg16_3);have q4:(zap x).evs[a].kind≠4:=(by simpa using hg16_8);have hn:=zu3 ha q3 q4)
          |have hn:=zu4 ha hc61
          have hq:=yaa hc hn
          refine rn ?_;rw [hq.1,hq.2]
          exact eA
      ·have hn0:=yn5 hc42
       rw [oM] at hn0
       have hn:¬OvB (zap x) n:=fun ⟨a,e,ha,_⟩=>hn0 (by omega)
       have hq:=yaa hc hn
       refine rn ?_;rw [hq.1,hq.2]
       exact eA
     ·have hc:u6 (zap x)≠0:=by simpa using hc37
      have hq:=yuh (n:=n) hc
      refine rn ?_;rw [hq.1,hq.2]
      exact eA
    ·refine w8 (y4 ?_)
     refine q1 ?_;refine q1 ?_;refine qq rfl rfl (zcw (c:=false) rfl rfl (congrArg some (bne_self_eq_false _))) ?_
     refine rn ?_;refine qv rfl rfl (y1 rfl rfl (u5 (yu6 (ovO (zap x) n) (ym6 _ _)) (Sbs.refl _))) ?_
     refine rn ?_;refine z7 rfl (fun hc73=> ?_) (fun hc73=> ?_)
     ·first|cases hc73|exact absurd hc73 (by decide)|(exfalso;simp_all;done)
     ·refine rn ?_;exact ⟨hj,trivial,eA⟩
  ·have qj:=za4 hc23 lj
   refine rn ?_;refine k9 3 rfl ?_
   refine rn ?_;refine dv rfl rfl (by exact y1 rfl rfl (u5 (ym3 x lb) (Sbs.refl _))) ?_
   refine rn ?_;refine qv rfl rfl (y1 rfl rfl (u5 (yjr (zap x) (zfa lb.lim)) (Sbs.refl _))) ?_
   refine rn ?_;first|(refine rq 2 ?_;exact ⟨rfl,rfl⟩)|(refine rq 3 ?_;exact ⟨rfl,rfl⟩)
end Go.Proofs
