/- A region that draws its order, with two new boxes among it and a store into the first. Conditions: the program draws freely ('mixedOrders'). -/
import Derived.Test.YtfmcbdjnmlcacaaGreatDoorRScC
set_option linter.unusedSimpArgs false
set_option linter.unusedVariables false
namespace Go.Ab
open Go
def ymt (T:TypeId) (H:List Res) (he:List Res):Prop:=he=H∨(∃b c,he= .box b T c::H)∨∃b c b' c',he= .box b T c:: .box b' T c'::H
abbrev bp (b:Nat):AV:=pZ b
theorem yl7 {nt:Nat} {t t':Fr} {h:List Res} {ds:List Nat} (hs:∀i,lk t' i=lk t i):Ent nt ⟨t,h,ds⟩ ⟨t',h,ds⟩:=
 ⟨fun _ h=>h,fun X ac w hsim=>⟨hsim.heap,hsim.size,fun i av e=>hsim.fr i av (by rw [←hs];exact e),hsim.defs⟩⟩
theorem yek {B B':Fr} (h:∀i,lk B i=lk B' i):∀{A:Fr} {i:Nat},lk (A++B) i=lk (A++B') i
 | [],i=>h i
 |(j,a)::r,i=>by
  simp only [List.cons_append,lk]
  split
  ·rfl
  ·exact yek h
theorem yk6 {di dj:Nat} {x y:AV} {t:Fr} (hdd:Nat.beq dj di=false) (i:Nat):lk ([(di,x),(dj,y)]++t) i=lk ([(dj,y),(di,x)]++t) i:=by
 simp only [List.cons_append,List.nil_append,lk]
 cases e1:Nat.beq di i with
 |false=>rfl
 |true=>
  cases e2:Nat.beq dj i with
  |false=>rfl
  |true=>
   rw [Nat.eq_of_beq_eq_true e1,Nat.eq_of_beq_eq_true e2] at hdd
   simp at hdd
theorem zz2 {P:Program} {ro:Option Nat} {nt rid:Nat} {Q:Exit→St→Prop} {l:List Oper} {t:Fr} {h:List Res} {dsl:List Nat} (n i j k di dj:Nat) (T:TypeId) {m:Nat} {zs:List Value} {y:Operand} (V:List AV)
 {ti tj tk:TypeId} {pi pj pk:String} {ai aj ak:Array Edge} [hm:Mixed P] [hz:Zer P T zs] [Siz P T m] (hc:zo6 l n [i,j,k] []=true)
 (hi:l[i]? =some ⟨some di,.alloc T,ti,pi,ai,none⟩) (hj:l[j]? =some ⟨some dj,.alloc T,tj,pj,aj,none⟩) (hkk:l[k]? =some ⟨none,.store T (.tmp di) y,tk,pk,ak,none⟩)
 (hik:(zmp l k (u4 l k)).any (Nat.beq i)=true) (h1:Nat.beq i j=false) (h2:Nat.beq i k=false) (h3:Nat.beq j k=false) (hdi:dok nt (some di)=true) (hdj:dok nt (some dj)=true) (hVc:(AV.agg V).cellsOf=some V) (hV:V.length=m) (hzm:zs.length=m) (hdd:Nat.beq dj di=false) (hn:(Nat.blt i n && (Nat.blt j n && Nat.blt k n))=true)
 (hk:zc1 P ro nt (ymt T h) l [i,j,k] (fun _=>zdb l n) t (l.take n) 0 [] (fun E=>
  (∀ee u,(∃b,ee= [(di,bp b)])∨(∃b c,ee= [(dj,bp c),(di,bp b)])∨(∃b c,ee= [(di,bp b),(dj,bp c)])→
   ev (zft (zby l ⟨none,.store T (.tmp di) y,tk,pk,ak,none⟩) E++(zft (zby l ⟨none,.store T (.tmp di) y,tk,pk,ak,none⟩) ee++(zof (zdb l n) t++u))) (.tmp di)=lk ee di∧
   ev (zft (zby l ⟨none,.store T (.tmp di) y,tk,pk,ak,none⟩) E++(zft (zby l ⟨none,.store T (.tmp di) y,tk,pk,ak,none⟩) ee++(zof (zdb l n) t++u))) y=some (.agg V))∧
  ∀b c,zb7 P ro nt l.toArray (l.drop n) Q ⟨(E++ [(di,bp b),(dj,bp c)])++t,.box b T V:: .box c T (zs.map .v)::h,dsl⟩)):
 aw P ro nt (.region rid l.toArray true) Q ⟨t,h,dsl⟩:=by
 have hij:i≠j:=fun e=>by subst e;simp at h1
 have hik':i≠k:=fun e=>by subst e;simp at h2
 have hjk:j≠k:=fun e=>by subst e;simp at h3
 have hmem:i∈zmp l k (u4 l k):=by
  obtain ⟨x,hx,e⟩:=List.any_eq_true.1 hik
  rw [Nat.eq_of_beq_eq_true e];exact hx
 simp only [Bool.and_eq_true] at hn
 have ni:=Nat.le_of_ble_eq_true hn.1
 have nj:=Nat.le_of_ble_eq_true hn.2.1
 have nk:=Nat.le_of_ble_eq_true hn.2.2
 refine zup n [i,j,k] [] (ymt T h) hc ?_
 have hmono:∀(os:List Oper) (q:Nat) (e:Fr) (K K':Fr→Prop),(∀e,K e→K' e)→zc1 P ro nt (ymt T h) l ([i,j,k]++ []) (fun _=>zdb l n) t os q e K→zc1 P ro nt (ymt T h) l ([i,j,k]++ []) (fun _=>zdb l n) t os q e K':=by
  intro os
  induction os with
  |nil=>intro q e K K' h hk;exact h _ hk
  |cons o os ih=>
   intro q e K K' h hk
   rcases hk with ⟨h1,h2⟩|⟨h1,d,av,h2,h3⟩
   ·exact .inl ⟨h1,ih _ _ _ _ h h2⟩
   ·exact .inr ⟨h1,d,av,h2,ih _ _ _ _ h h3⟩
 refine hmono _ _ _ _ _ (fun E hE=> ?_) hk
 obtain ⟨hE1,hE2⟩:=hE
 have Z:=zs.map AV.v
 refine ⟨fun L ee he=>(L= []∧ee= []∧he=h)∨(∃b,L= [i]∧ee= [(di,bp b)]∧he= .box b T (zs.map .v)::h)∨(∃c,L= [j]∧ee= [(dj,bp c)]∧he= .box c T (zs.map .v)::h)∨
  (∃b c,L= [j,i]∧ee= [(dj,bp c),(di,bp b)]∧he= .box c T (zs.map .v):: .box b T (zs.map .v)::h)∨(∃b c,L= [i,j]∧ee= [(di,bp b),(dj,bp c)]∧he= .box b T (zs.map .v):: .box c T (zs.map .v)::h)∨
  (∃b,L= [k,i]∧ee= [(di,bp b)]∧he= .box b T V::h)∨(∃b c,(L= [k,j,i]∨L= [j,k,i])∧ee= [(dj,bp c),(di,bp b)]∧he= .box c T (zs.map .v):: .box b T V::h)∨
  (∃b c,L= [k,i,j]∧ee= [(di,bp b),(dj,bp c)]∧he= .box b T V:: .box c T (zs.map .v)::h),.inl ⟨rfl,rfl,rfl⟩,?_,?_,?_⟩
 ·rintro L ee he (⟨_,_,rfl⟩|⟨b,_,_,rfl⟩|⟨c,_,_,rfl⟩|⟨b,c,_,_,rfl⟩|⟨b,c,_,_,rfl⟩|⟨b,_,_,rfl⟩|⟨b,c,_,_,rfl⟩|⟨b,c,_,_,rfl⟩)
  ·exact .inl rfl
  ·exact .inr (.inl ⟨_,_,rfl⟩)
  ·exact .inr (.inl ⟨_,_,rfl⟩)
  ·exact .inr (.inr ⟨_,_,_,_,rfl⟩)
  ·exact .inr (.inr ⟨_,_,_,_,rfl⟩)
  ·exact .inr (.inl ⟨_,_,rfl⟩)
  ·exact .inr (.inr ⟨_,_,_,_,rfl⟩)
  ·exact .inr (.inr ⟨_,_,_,_,rfl⟩)
 ·intro L ee he hJ q o hq hL ho hb u
  have hq':q=i∨q=j∨q=k:=by simpa using hq
  rcases hq' with rfl|rfl|rfl
  ·obtain rfl:_=o:=Option.some.inj (hi.symm.trans ho)
   rcases hJ with ⟨rfl,rfl,rfl⟩|⟨b,rfl,rfl,rfl⟩|⟨c,rfl,rfl,rfl⟩|⟨b,c,rfl,rfl,rfl⟩|⟨b,c,rfl,rfl,rfl⟩|⟨b,rfl,rfl,rfl⟩|⟨b,c,rfl|rfl,rfl,rfl⟩|⟨b,c,rfl,rfl,rfl⟩
   ·exact y7 hdi fun b=>⟨_,_,rfl,.inr (.inl ⟨b,rfl,rfl,rfl⟩)⟩
   ·exact absurd (by simp) hL
   ·exact y7 hdi fun b=>⟨_,_,rfl,.inr (.inr (.inr (.inr (.inl ⟨b,c,rfl,rfl,rfl⟩))))⟩
   all_goals exact absurd (by simp) hL
  ·obtain rfl:_=o:=Option.some.inj (hj.symm.trans ho)
   rcases hJ with ⟨rfl,rfl,rfl⟩|⟨b,rfl,rfl,rfl⟩|⟨c,rfl,rfl,rfl⟩|⟨b,c,rfl,rfl,rfl⟩|⟨b,c,rfl,rfl,rfl⟩|⟨b,rfl,rfl,rfl⟩|⟨b,c,rfl|rfl,rfl,rfl⟩|⟨b,c,rfl,rfl,rfl⟩
   ·exact y7 hdj fun c=>⟨_,_,rfl,.inr (.inr (.inl ⟨c,rfl,rfl,rfl⟩))⟩
   ·exact y7 hdj fun c=>⟨_,_,rfl,.inr (.inr (.inr (.inl ⟨b,c,rfl,rfl,rfl⟩)))⟩
   ·exact absurd (by simp) hL
   ·exact absurd (by simp) hL
   ·exact absurd (by simp) hL
   ·exact y7 hdj fun c=>⟨_,_,rfl,.inr (.inr (.inr (.inr (.inr (.inr (.inl ⟨b,c,.inr rfl,rfl,rfl⟩))))))⟩
   all_goals exact absurd (by simp) hL
  ·obtain rfl:_=o:=Option.some.inj (hkk.symm.trans ho)
   have hin:i∈L:=hb i hmem (by simp)
   have hl:∀(b:Nat) (r:Fr),lk ((di,bp b)::r) di=some (bp b):=fun b r=>by simp [lk]
   have hl2:∀(b c:Nat),lk [(dj,bp c),(di,bp b)] di=some (bp b):=fun b c=>by
    show (match Nat.beq dj di with|true=>some (bp c)|false=>lk [(di,bp b)] di)=_
    rw [hdd];exact hl b []
   rcases hJ with ⟨rfl,rfl,rfl⟩|⟨b,rfl,rfl,rfl⟩|⟨c,rfl,rfl,rfl⟩|⟨b,c,rfl,rfl,rfl⟩|⟨b,c,rfl,rfl,rfl⟩|⟨b,rfl,rfl,rfl⟩|⟨b,c,rfl|rfl,rfl,rfl⟩|⟨b,c,rfl,rfl,rfl⟩
   ·cases hin
   ·obtain ⟨a1,a2⟩:=hE1 [(di,bp b)] u (.inl ⟨b,rfl⟩)
    rw [hl] at a1
    exact j5 a1 a2 hVc ⟨.any,_,rfl,.inr (.inr (.inr (.inr (.inr (.inl ⟨b,rfl,rfl,rfl⟩)))))⟩ hV (by simp [hzm])
   ·exact absurd (by simpa using hin) hij
   ·obtain ⟨a1,a2⟩:=hE1 [(dj,bp c),(di,bp b)] u (.inr (.inl ⟨b,c,rfl⟩))
    rw [hl2] at a1
    exact j5 a1 a2 hVc ⟨.any,_,rfl,.inr (.inr (.inr (.inr (.inr (.inr (.inl ⟨b,c,.inl rfl,rfl,rfl⟩))))))⟩ hV (by simp [hzm])
   ·obtain ⟨a1,a2⟩:=hE1 [(di,bp b),(dj,bp c)] u (.inr (.inr ⟨b,c,rfl⟩))
    rw [hl] at a1
    exact j5 a1 a2 hVc ⟨.any,_,rfl,.inr (.inr (.inr (.inr (.inr (.inr (.inr ⟨b,c,rfl,rfl,rfl⟩))))))⟩ hV (by simp [hzm])
   all_goals exact absurd (by simp) hL
 ·intro L ee he hJ hall
  have ai:=hall i (by simp) ni
  have aj:=hall j (by simp) nj
  have ak:=hall k (by simp) nk
  refine ln ?_;rcases hJ with ⟨rfl,rfl,rfl⟩|⟨b,rfl,rfl,rfl⟩|⟨c,rfl,rfl,rfl⟩|⟨b,c,rfl,rfl,rfl⟩|⟨b,c,rfl,rfl,rfl⟩|⟨b,rfl,rfl,rfl⟩|⟨b,c,_,rfl,rfl⟩|⟨b,c,rfl,rfl,rfl⟩
  ·cases ai
  ·exact absurd (by simpa using ak) (Ne.symm hik')
  ·exact absurd (by simpa using ak) (Ne.symm hjk)
  ·exact absurd (show k=j∨k=i by simpa using ak) (fun q=>q.elim (Ne.symm hjk) (Ne.symm hik'))
  ·exact absurd (show k=i∨k=j by simpa using ak) (fun q=>q.elim (Ne.symm hik') (Ne.symm hjk))
  ·exact absurd (show j=k∨j=i by simpa using aj) (fun q=>q.elim hjk (Ne.symm hij))
  ·refine zgv (v8 (zag (.swap _ _ _)) (yl7 fun q=> ?_)) (hE2 b c)
   rw [List.append_assoc,List.append_assoc]
   refine yek fun q=> ?_
   exact yk6 hdd q
  ·exact hE2 b c
theorem z8.lendG {P:Program} {fv fv':AV} {args args':List AV} {h:List Res} {R:AV→List Res→Prop} (hc:z8 P fv' args' [] R) (hR:∀r h',R r h'→Scal r∧∀x∈h',ymr x)
 (hf:BLe h fv fv') (hle:yi9 h args args'):z8 P fv args h (fun r h'=>∃h'',h'=h''++h∧R r h''):=by
 intro X w v vs hh hv ha
 refine (hc noX w v vs (zp5 w) (by rw [zou];exact hf X w v hh hv) (by rw [zou];exact hle.rels hh ha)).mono ?_
 rintro e w' ⟨u,av,h',e1,hRr,hrel,hh',hk⟩
 obtain ⟨hs1,hs2⟩:=hR _ _ hRr
 have hold:∀b,b < w.heap.size→w'.heap[b]? =w.heap[b]? ∧b ∉ u9 h':=fun b hb=>hk.same b hb (by simp [u9])
 have happ:u9 (h'++h)=u9 h'++u9 h:=by simp [u9,List.flatMap_append]
 have hkk:∀b,¬OO h X b→b < w.heap.size→w'.heap[b]? =w.heap[b]? ∧¬OO (h'++h) X b:=fun b hb hl=>by
  refine ⟨(hold b hl).1,fun q=> ?_⟩
  rcases q with q|q
  ·rw [happ,List.mem_append] at q
   rcases q with q|q
   ·exact (hold b hl).2 q
   ·exact hb (.inl q)
  ·exact hb (.inr q)
 have hh2:HRel X w' (h'++h):=by
  refine ⟨?_,fun b hb=> ?_,fun b hb=>Nat.lt_of_lt_of_le (hh.xlt b hb) hk.size,fun r hr=> ?_⟩
  ·rw [happ,List.nodup_append]
   exact ⟨hh'.nodup,hh.nodup,fun x hx y hy q=>(hold y (hh.lt y hy).1).2 (q ▸ hx)⟩
  ·rw [happ,List.mem_append] at hb
   rcases hb with hb|hb
   ·exact ⟨(hh'.lt b hb).1,fun hx=>(hold b (hh.xlt b hx)).2 hb⟩
   ·exact ⟨Nat.lt_of_lt_of_le (hh.lt b hb).1 hk.size,(hh.lt b hb).2⟩
  ·rcases List.mem_append.1 hr with hr|hr
   ·exact hs2 r hr (hh'.holds r hr)
   ·exact Res.holds_keep hk.size hkk (fun b hb=>(hold b (hh.lt b (j9.2 ⟨r,hr,hb⟩)).1).1) (hh.holds r hr)
 refine ⟨u,av,_,e1,⟨_,rfl,hRr⟩,hs1.rel hrel,hh2,⟨hk.size,fun b hb ho=>⟨(hold b hb).1,fun q=> ?_⟩,hk.env⟩⟩
 rw [happ,List.mem_append] at q
 exact q.elim (hold b hb).2 ho
end Go.Ab
namespace Go.H
open Go Go.Ab
abbrev iv (n:Int):AV:= .v (.int .i64 n)
abbrev bv (b:Bool):AV:= .v (.bool b)
abbrev sv (s:ByteArray):AV:= .v (.string s)
structure Ver where
 t:Int
 k:Int
 deriving DecidableEq
structure Seen where
 o:Int
 v:Ver
 deriving DecidableEq
structure Ev where
 kind:Int
 t:Int
 s:Int
 l:Int
 o:Int
 v:Ver
 p:Int
 scan:List Seen
 deriving DecidableEq
structure Ord where
 o:Int
 ts:List Int
 deriving DecidableEq
structure Mat where
 p:Int
 o:Int
 first:Bool
 ts:List Int
 deriving DecidableEq
structure Wan where
 s:Int
 bits:Int
 deriving DecidableEq
structure Hist where
 ts:List ByteArray
 ss:List ByteArray
 os:List ByteArray
 ps:List ByteArray
 evs:List Ev
 ords:List Ord
 mats:List Mat
 wants:List Wan
def zbs (n:Int):List AV:= [iv n]
def zmd (s:ByteArray):List AV:= [sv s]
def yat (v:Ver):List AV:= [iv v.t,iv v.k]
def zax (s:Seen):List AV:= [iv s.o,iv s.v.t,iv s.v.k]
def zb5 (l:List Int):AV:= .list false 1 (l.map zbs)
def zcw (l:List ByteArray):AV:= .list false 1 (l.map zmd)
def zjd (l:List Seen):AV:= .list false 3 (l.map zax)
def evR (e:Ev):List AV:= [iv e.kind,iv e.t,iv e.s,iv e.l,iv e.o,iv e.v.t,iv e.v.k,iv e.p,zjd e.scan]
def zet (o:Ord):List AV:= [iv o.o,zb5 o.ts]
def zee (m:Mat):List AV:= [iv m.p,iv m.o,bv m.first,zb5 m.ts]
def zgk (w:Wan):List AV:= [iv w.s,iv w.bits]
def zza (l:List Ev):AV:= .list false 9 (l.map evR)
def ygz (l:List Ord):AV:= .list false 2 (l.map zet)
def ycs (l:List Mat):AV:= .list false 4 (l.map zee)
def zux (l:List Wan):AV:= .list false 2 (l.map zgk)
def y9 (h:Hist):List AV:= [zcw h.ts,zcw h.ss,zcw h.os,zcw h.ps,zza h.evs,ygz h.ords,ycs h.mats,zux h.wants]
def zjj (h:Hist):List AV:= [zcw h.ts,zcw h.ss,zcw h.os,zcw h.ps]
def zbf {α:Type} (p:α→Bool) (i:Nat):List α→Int
 | []=> -1
 |x::r=>if p x then i else zbf p (i+1) r
theorem zd0 {α:Type} (p:α→Bool):∀(l:List α) (i:Nat),decide (zbf p i l ≥ 0)=l.any p
 | [],i=>by simp [zbf]
 |x::r,i=>by
  simp only [zbf,List.any_cons]
  split
  ·rename_i h;simp [h]
  ·rename_i h;simp [h,zd0 p r (i+1)]
theorem zhp {α:Type} (p:α→Bool):∀(l:List α),(!l.any fun a=> !p a)=l.all p
 | []=>rfl
 |x::r=>by
  have:=zhp p r
  simp only [List.any_cons,List.all_cons,Bool.not_or,Bool.not_not,this]
def zut {α β:Type} (p:α→β→Bool):List α→List β→Bool
 |x::xs,y::ys=>p x y && zut p xs ys
 |_,_=>true
theorem zsz {α β:Type} (p:α→β→Bool) (m:List β):zut p [] m=true:=by cases m <;> rfl
def eqF {α β:Type} (p:α→β→Bool) (l:List α) (m:List β):Bool:=l.length==m.length && zut p l m
def zje (a b:Seen):Bool:= [a.o,a.v.t,a.v.k]== [b.o,b.v.t,b.v.k]
theorem ycj {b:Bool} (h:(!b)=true):b=false:=by simpa using h
theorem yck {b:Bool} (h:(!b)=false):b=true:=by simpa using h
theorem zzf {α:Type} [DecidableEq α] {p:α→α→Bool} (hp:∀a b,p a b=decide (a=b)):∀(l m:List α),eqF p l m=decide (l=m)
 | [],[]=>by simp [eqF,zut]
 |x::xs,[]=>by simp [eqF]
 | [],y::ys=>by simp [eqF]
 |x::xs,y::ys=>by
  have:=zzf hp xs ys
  simp only [eqF] at this
  simp only [eqF,zut,List.length_cons,hp]
  by_cases h:x=y
  ·subst h
   simp only [decide_true,Bool.true_and,List.cons.injEq,true_and]
   rw [←this]
   congr 1
   simp
  ·simp [h]
def zx3 (c:Int):Bool:=decide (c ≥ 48) && decide (c≤57)
def yhp (c:Int):Bool:=c==95||(decide (c ≥ 97) && decide (c≤122))||(decide (c ≥ 65) && decide (c≤90))||decide (c ≥ 128)
def zd4 (l:List ByteArray) (n:Int):Bool:=decide (n ≥ 0) && decide (n < l.length)
def zwk (ts:List ByteArray) (v:Ver):Bool:=if v.k==0 then v.t==0 else zd4 ts v.t && decide (v.k > 0) && decide (v.k≤999)
def yk9 (l:Int):Int:=if decide (l < 1)||decide (l > 4) then 190 else 0
def yia (a b:Ev):Bool:=a.kind==b.kind && a.t==b.t && a.s==b.s && a.l==b.l && a.o==b.o && [a.v.t,a.v.k]== [b.v.t,b.v.k] && a.p==b.p && eqF zje a.scan b.scan
structure Lim (N:Nat) (h:Hist):Prop where
 ts:h.ts.length≤N
 ss:h.ss.length≤N
 os:h.os.length≤N
 ps:h.ps.length≤N
 evs:h.evs.length≤N
 ords:h.ords.length≤N
 mats:h.mats.length≤N
 wants:h.wants.length≤N
 scans:∀e∈h.evs,e.scan.length≤N
 ordts:∀o∈h.ords,o.ts.length≤N
 matts:∀m∈h.mats,m.ts.length≤N
structure Big (h:Hist):Prop where
 lim:Lim 4611686018427387904 h
 ts:h.ts.length≤8796093022208
 ss:h.ss.length≤8796093022208
 os:h.os.length≤8796093022208
 ps:h.ps.length≤8796093022208
 ords:h.ords.length≤4398046511104
 mats:h.mats.length≤2932031007402
 wants:h.wants.length≤8796093022208
 scans:∀e∈h.evs,e.scan.length≤5864062014805
 ordts:∀o∈h.ords,o.ts.length≤17592186044416
 matts:∀m∈h.mats,m.ts.length≤17592186044416
def nmK (h:Hist):Nat→List ByteArray
 |0=>h.ts
 |1=>h.ss
 |2=>h.os
 |_=>h.ps
theorem zx4 (h:Hist) {k:Nat} (hk:k < 4):(zjj h)[k]? =some (zcw (nmK h k)):=by
 match k,hk with
 |0,_=>rfl
 |1,_=>rfl
 |2,_=>rfl
 |3,_=>rfl
theorem Lim.nm {N:Nat} {h:Hist} (l:Lim N h) (k:Nat):(nmK h k).length≤N:=by
 match k with
 |0=>exact l.ts
 |1=>exact l.ss
 |2=>exact l.os
 |k+3=>exact l.ps
def zds (h:Hist) (e:Ev):Bool:=zd4 h.ss e.s && yk9 e.l==0
def zbk (h:Hist) (e:Ev):Bool:=zd4 h.os e.o && zwk h.ts e.v && e.v.t==e.t && decide (e.v.k > 0)
def zdz (h:Hist) (e:Ev):Bool:=zd4 h.os e.o && zwk h.ts e.v
def zin (h:Hist) (s:Seen):Bool:=zd4 h.os s.o && zwk h.ts s.v
def zck (h:Hist) (e:Ev):Bool:=zd4 h.ps e.p && decide ((e.scan.length:Int)≤40) && e.scan.all (zin h)
def zha (h:Hist) (e:Ev):Ev×Bool:=
 if e.kind=1 then (⟨0,0,e.s,e.l,0,⟨0,0⟩,0,[]⟩,zds h e) else
 if e.kind=2 then (⟨0,0,0,0,e.o,e.v,0,[]⟩,zbk h e) else
 if e.kind=3 then (⟨0,0,0,0,e.o,e.v,0,[]⟩,zdz h e) else
 if e.kind=4 then (⟨0,0,0,0,0,⟨0,0⟩,e.p,e.scan⟩,zck h e) else
 (⟨0,0,0,0,0,⟨0,0⟩,0,[]⟩,true)
def zdw (h:Hist) (e:Ev):Bool:=
 !(decide (e.kind < 1)||decide (e.kind ≥ 7)|| !zd4 h.ts e.t) && ((zha h e).2 && yia {(zha h e).1 with kind:=e.kind,t:=e.t} e)
theorem zzw (h:Hist) (e:Ev) {N:Nat} (he:e.scan.length≤N):(zha h e).1.scan.length≤N:=by
 unfold zha;repeat' split
 all_goals simp [he]
def tsB (h:Hist) (ts:List Int):Bool:=decide ((ts.length:Int)≤300) && ts.all (zd4 h.ts)
def zwd (h:Hist) (r:Ord):Bool:=zd4 h.os r.o && tsB h r.ts
def ycx (h:Hist) (r:Mat):Bool:=zd4 h.ps r.p && zd4 h.os r.o && tsB h r.ts
def yd0 (h:Hist) (r:Wan):Bool:=zd4 h.ss r.s && decide (r.bits ≥ 0) && decide (r.bits≤15)
def bt (s:ByteArray) (i:Nat):Int:=if h:i < s.size then ((s[i]'h).toNat:Int) else 0
def zcf (i:Nat):Int:=
 if i < 128 then 240 else if i < 194 then 241 else if i < 224 then 2 else if i=224 then 19 else if i < 237 then 3 else if i=237 then 35 else
 if i < 240 then 3 else if i=240 then 52 else if i < 244 then 4 else if i=244 then 68 else 241
def y3:List AV:=(List.range 256).map fun i=> .v (.int .u8 (zcf i))
def zbz:Nat→Int
 |1=>160
 |3=>144
 |_=>128
def zb0:Nat→Int
 |2=>159
 |4=>143
 |_=>191
def y1:List AV:= [.v (.int .u8 128),.v (.int .u8 191),.v (.int .u8 160),.v (.int .u8 191),.v (.int .u8 128),.v (.int .u8 159),.v (.int .u8 144),.v (.int .u8 191),.v (.int .u8 128),.v (.int .u8 143)]++List.replicate 22 (.v (.int .u8 0))
def y2:List AV:= [iv 300,iv 60,iv 300,iv 60]
def bI (op:BinOp) (k:IntKind) (x y:Int):Int:=(ydr op k x y).getD 0
def sI (op:BinOp) (k:IntKind) (x y:Int):Int:=(zww op k x y).getD 0
def zcm (b m sh:Int):Int:=if sh=0 then IntKind.i32.wrap (bI .and .u8 b m) else sI .shl .i32 (IntKind.i32.wrap (bI .and .u8 b m)) sh
def zi4 (x:Int):Int:=sI .shr .i32 (sI .shl .i32 (IntKind.i32.wrap x) 31) 31
def y5 (s:ByteArray):Int×Int:=
 if s.size < 1 then (65533,0) else
 let x:=zcf (bt s 0).toNat
 if x ≥ 240 then (bI .or .i32 (bI .andNot .i32 (IntKind.i32.wrap (bt s 0)) (zi4 x)) (bI .and .i32 65533 (zi4 x)),1) else
 let sz:=x % 8
 let acc:=(x / 16).toNat
 if (s.size:Int) < sz then (65533,1) else
 if bt s 1 < zbz acc∨zb0 acc < bt s 1 then (65533,1) else
 if sz≤2 then (bI .or .i32 (zcm (bt s 0) 31 6) (zcm (bt s 1) 63 0),2) else
 if bt s 2 < 128∨191 < bt s 2 then (65533,1) else
 if sz≤3 then (bI .or .i32 (bI .or .i32 (zcm (bt s 0) 15 12) (zcm (bt s 1) 63 6)) (zcm (bt s 2) 63 0),3) else
 if bt s 3 < 128∨191 < bt s 3 then (65533,1) else
 (bI .or .i32 (bI .or .i32 (bI .or .i32 (zcm (bt s 0) 7 18) (zcm (bt s 1) 63 12)) (zcm (bt s 2) 63 6)) (zcm (bt s 3) 63 0),4)
def zia (s:ByteArray):Int×Int:=if 0 < s.size∧bt s 0 < 128 then (bt s 0,1) else y5 s
theorem zfo (s:ByteArray) (i:Nat):0≤bt s i:=by unfold bt;split <;> omega
theorem zfn (s:ByteArray) (i:Nat):bt s i < 256:=by
 unfold bt;split
 ·rename_i h;have:=(s[i]'h).toNat_lt;omega
 ·omega
section
variable {P:Program} {dst:Option Tmp} {ty:TypeId} {pos:String} {after:Array Edge} {guard:Option (Nat×Bool)} {x y:Operand} {h:List Res} {f:Operand→Option AV}
theorem u7 {T:TypeId} (i:Nat) {s:ByteArray} (hx:f x=some (.v (.string s))) (hy:f y=some (.v (.int .i64 i))) [Und P T .string] (hi:i < s.size):
 QR P h f ⟨dst,.index T x y,ty,pos,after,guard⟩ (.v (.int .u8 (bt s i))):=by
 have:=zpo (P:=P) (h:=h) (T:=T) (dst:=dst) (ty:=ty) (pos:=pos) (after:=after) (guard:=guard) hx hy hi
 have e:bt s i=((s[i]'hi).toNat:Int):=by simp [bt,hi]
 rw [e];exact this
theorem j6 {T E:TypeId} {n b o sz:Nat} {i:Int} {kk:IntKind} (hx:f x=some (.v (.pointer (some ⟨b,o,none⟩)))) (hy:f y=some (.v (.int kk i))) [Und P T (.array n E)] [Siz P E sz] (h0:0≤i) (hi:i < n):
 QR P h f ⟨dst,.indexAddr T x y,ty,pos,after,guard⟩ (.v (.pointer (some ⟨b,o+i.toNat * sz,none⟩))):=
 zah (i:=i.toNat) hx (by rw [Int.toNat_of_nonneg h0];exact hy) (by omega)
end
theorem zci {i:Int} (h0:0≤i) (h1:i < 256):y3[0+i.toNat * 1]? =some (.v (.int .u8 (zcf i.toNat))):=by
 simp [y3,show i.toNat < 256 by omega]
def yk8:Nat→Nat
 |0=>300
 |1=>60
 |2=>300
 |_=>60
theorem zsa {k:Nat} (hk:k < 4):y2[0+k * 1]? =some (iv (yk8 k)):=by
 match k,hk with
 |0,_=>rfl
 |1,_=>rfl
 |2,_=>rfl
 |3,_=>rfl
theorem zp9 (i:Nat):zcf i=240∨zcf i=241∨zcf i=2∨zcf i=19∨zcf i=3∨zcf i=35∨zcf i=52∨zcf i=4∨zcf i=68:=by
 unfold zcf;repeat' split
 all_goals simp
theorem zzx (s:ByteArray) (i:Nat):IntKind.i32.wrap (bt s i)=bt s i:=by
 have h0:=zfo s i;have h1:=zfn s i
 have e:bt s i % (2 ^ IntKind.i32.bits:Int)=bt s i:=Int.emod_eq_of_lt h0 (show bt s i < 4294967296 by omega)
 unfold IntKind.wrap
 simp only [e]
 rw [if_neg]
 intro q
 have q2:bt s i ≥ (2 ^ (IntKind.i32.bits - 1):Int):=by simpa using (Bool.and_eq_true_iff.1 q).2
 have:(2 ^ (IntKind.i32.bits - 1):Int)=2147483648:=by decide
 omega
theorem zwp {s:ByteArray} (h:(s.toList !=(ByteArray.mk #[]).toList)=true):0 < s.size:=by
 refine Nat.pos_of_ne_zero fun q=> ?_
 have e:s=⟨#[]⟩:=by cases s;congr 1;exact Array.eq_empty_of_size_eq_zero q
 rw [e] at h;simp at h
theorem yd3 {s:ByteArray} (h:(s.toList !=(ByteArray.mk #[]).toList)=false):¬0 < s.size:=by
 intro q
 have e:s.toList=(ByteArray.mk #[]).toList:=by simpa using h
 rw [ByteArray.toList_eq,ByteArray.toList_eq] at e
 have:s.size=0:=by
  have h2:=congrArg List.length e
  simpa using h2
 omega
def zrf (s:ByteArray) (i:Nat) (c:Int):Bool:=c !=65533||decide ((zia (s.extract i s.size)).2 > 1)
theorem zo0 (s:ByteArray) (i:Nat):0 < (Utf8.decode s i).2:=by
 simp only [Utf8.decode]
 repeat' split
 all_goals simp
def zdt (s:ByteArray) (p:Nat→Int→Bool) (pos:Nat):Nat:=
 if h:pos < s.size then
  if p pos (Utf8.decode s pos).1 then zdt s p (pos+(Utf8.decode s pos).2) else pos
 else s.size
 termination_by s.size - pos
 decreasing_by have:=zo0 s pos;omega
theorem zo1 {s:ByteArray} {p:Nat→Int→Bool} {k:Nat} (h:k < s.size) (hp:p k (Utf8.decode s k).1=true):zdt s p k=zdt s p (k+(Utf8.decode s k).2):=by
 rw [zdt,dif_pos h,if_pos hp]
theorem zrb {s:ByteArray} {p:Nat→Int→Bool} {k:Nat} (h:k < s.size) (hp:p k (Utf8.decode s k).1=false):zdt s p k=k:=by
 rw [zdt,dif_pos h,if_neg (by simp [hp])]
theorem zmq {s:ByteArray} {p:Nat→Int→Bool} {k:Nat} (h:¬k < s.size):zdt s p k=s.size:=by
 rw [zdt,dif_neg h]
def zfq (s:ByteArray) (goes:Int→Bool) (i:Nat) (c:Int):Bool:=zrf s i c && goes c
def zll (c:Int):Bool:=yhp c||zx3 c
def zil (s:ByteArray):Bool:=(!(s.toList== [])) && decide ((s.size:Int)≤24) && (!zx3 (bt s 0)) && ((zdt s (zfq s zll) 0:Int)==s.size)
def zeq:List ByteArray→List ByteArray→Bool
 |_,[]=>true
 |met,s::r=>zil s && (!ycp s met) && zeq (met++ [s]) r
def zjk (most:Nat) (l:List ByteArray):Bool:=decide ((l.length:Int)≤most) && zeq [] l
def zwv (h:Hist):Bool:=decide ((h.evs.length:Int)≤3000) && decide (max (max (h.ords.length:Int) h.mats.length) h.wants.length≤3000)
def okK (h:Hist):Nat→Bool
 |0=>zwv h
 |k+1=>okK h k && zjk (yk8 k) (nmK h k)
def za2 (h:Hist):Bool:=
 okK h 4 && h.evs.all (zdw h) && h.ords.all (zwd h) && h.mats.all (ycx h) && h.wants.all (yd0 h)
theorem ztc (h:Hist):okK h 0=(decide (((h.evs.map evR).length:Int)≤3000) && decide (max (max ((h.ords.map zet).length:Int) (h.mats.map zee).length) (h.wants.map zgk).length≤3000)):=by
 simp [okK,zwv]
theorem zh3 {h:Hist} {k:Nat} (hk:okK h k=false):∀n,okK h (k+n)=false
 |0=>hk
 |n+1=>by
  have ih:=zh3 hk n
  show (okK h (k+n) && _)=false
  rw [ih,Bool.false_and]
def okj (h:Hist) (k j:Nat):Bool:=okK h k && decide (((nmK h k).length:Int)≤yk8 k)
theorem yee (h:Hist) (k:Nat):okj h k 0=(okK h k && decide ((((nmK h k).map zmd).length:Int)≤yk8 k)):=by simp [okj]
theorem ynt {o:Bool} {l m r:List ByteArray} {x:ByteArray} (hf:zeq [] l=zeq m (x::r)) (h:(o && zil x && !ycp x m)=false):o=false∨zeq [] l=false:=by
 cases o with
 |false=>exact .inl rfl
 |true=>rw [Bool.true_and] at h;rw [hf,zeq,h,Bool.false_and];exact .inr rfl
theorem ykw {o a b:Bool} (h:(o && a && !b)=true):o=true∧a=true∧b=false:=by
 cases o <;> cases a <;> cases b <;> simp_all
theorem yku {h:Hist} {k:Nat} (h0:zeq [] (nmK h k)=true):okj h k 0=okK h (k+1):=by
 simp [okj,okK,zjk,h0]
theorem ykv {h:Hist} {k:Nat} (hk:k < 4) (h0:okj h k 0=false∨zeq [] (nmK h k)=false):okK h 4=false:=by
 have h1:okK h (k+1)=false:=by
  rcases h0 with h0|h0
  ·simp only [okK,zjk];simp only [okj] at h0;rw [←Bool.and_assoc,h0,Bool.false_and]
  ·simp [okK,zjk,h0]
 have:=zh3 h1 (3 - k)
 rwa [show k+1+(3 - k)=4 by omega] at this
def zf4 (v:Ver):List (Nat×Int):=if decide (v.k > 0) then [(0,v.t)] else []
def zw1 (s:Seen):List (Nat×Int):=(2,s.o)::zf4 s.v
def zf7 (e:Ev):List (Nat×Int):=if e.kind=1 then [(1,e.s)] else if e.kind=2∨e.kind=3 then (2,e.o)::zf4 e.v else if e.kind=4 then [(3,e.p)] else []
theorem zym {e:Ev} (h:e.kind=1):zf7 e= [(1,e.s)]:=by rw [zf7,if_pos h]
theorem zle {e:Ev} (h:e.kind=2∨e.kind=3):zf7 e=(2,e.o)::zf4 e.v:=by rw [zf7,if_neg (by omega),if_pos h]
theorem zyl {e:Ev} (h:e.kind=4):zf7 e= [(3,e.p)]:=by rw [zf7,if_neg (by omega),if_neg (by omega),if_pos h]
theorem zyn {e:Ev} (h1:e.kind≠1) (h2:e.kind≠2) (h3:e.kind≠3) (h4:e.kind≠4):zf7 e= []:=by rw [zf7,if_neg h1,if_neg (by omega),if_neg h4]
def evL (e:Ev):List (Nat×Int):=(0,e.t)::(zf7 e++e.scan.flatMap zw1)
def tsL (l:List Int):List (Nat×Int):=l.map fun t=>(0,t)
def yg0 (r:Ord):List (Nat×Int):=(2,r.o)::tsL r.ts
def ycu (r:Mat):List (Nat×Int):=(3,r.p)::(2,r.o)::tsL r.ts
def yai (r:Wan):List (Nat×Int):= [(1,r.s)]
def zc9 (h:Hist):List (Nat×Int):=h.evs.flatMap evL++(h.ords.flatMap yg0++(h.mats.flatMap ycu++h.wants.flatMap yai))
def goes {σ α:Type} (step:σ→α→Option σ):Option σ→List α→Option σ
 |st,[]=>st
 |st,x::r=>goes step (st.bind fun s=>step s x) r
theorem zlh {σ α:Type} (step:σ→α→Option σ):∀(l m:List α) (st:Option σ),goes step st (l++m)=goes step (goes step st l) m
 | [],m,st=>rfl
 |x::l,m,st=>zlh step l m _
def Rem {σ α:Type} (step:σ→α→Option σ) (ok:α→Prop) (st:Option σ) (l:List α) (F:Option σ):Prop:=goes step st l=F∧∀x∈l,ok x
section
variable {σ α:Type} {step:σ→α→Option σ} {ok:α→Prop} {st F:Option σ} {l m:List α} {x:α}
theorem Rem.cons (h:Rem step ok st (x::l) F):ok x∧Rem step ok (goes step st [x]) l F:=⟨h.2 x (by simp),h.1,fun y hy=>h.2 y (by simp [hy])⟩
theorem Rem.app (h:Rem step ok st (l++m) F):(∀x∈l,ok x)∧Rem step ok (goes step st l) m F:=⟨fun y hy=>h.2 y (by simp [hy]),by rw [←zlh];exact h.1,fun y hy=>h.2 y (by simp [hy])⟩
theorem Rem.fin (h:Rem step ok st [] F):st=F:=h.1
end
def zd6 (m:List Int) (x:Nat×Int):Option (List Int):=
 let a:=m.getD x.1 0
 if x.2 > a then none else some (m.set x.1 (max a (x.2+1)))
def zpx (h:Hist):Option (List Int):=goes zd6 (some [0,0,0,0]) (zc9 h)
def zvn (h:Hist):List Int:= [h.ts.length,h.ss.length,h.os.length,h.ps.length]
def zfs (h:Hist):Bool:=za2 h && (zpx h==some (zvn h))
def zdi (h:Hist):Int:=if zfs h then 0 else 210
def ylk:Hist:=⟨[],[],[],[],[],[],[],[]⟩
def ofL (t:Int):Nat→List Ev→List Int
 |_,[]=> []
 |i,e::r=>if e.t=t then (i:Int)::ofL t (i+1) r else ofL t (i+1) r
def ymg (l:List Ev) (t:Int):Bool:=l.any fun e=>e.t==t && e.kind==1
def ynr (l:List Ev) (t:Int):Bool:=l.any fun e=>e.t==t && (e.kind==5||e.kind==6)
def ymn (t:Nat):Ev:=⟨6,t,0,0,0,⟨0,0⟩,0,[]⟩
def ykr (h:Hist):List Nat:=(List.range h.ts.length).filter fun t=>ymg h.evs t && !ynr h.evs t
def yez (h:Hist):Hist:={h with evs:=h.evs++(ykr h).map ymn}
def zzn (h:Hist):Int:=if zfs h then (if h.evs.length+(ykr h).length≤3000 then 0 else 6) else 210
def yey (h:Hist):Hist:=if zzn h=0 then yez h else ylk
def ofR (h:Hist) (t:Int):List Int:=if zfs h then ofL t 0 h.evs else []
def zo2 {σ α:Type} (f:σ→α→α×σ):σ→List α→List α×σ
 |s,[]=>([],s)
 |s,x::r=>((f s x).1::(zo2 f (f s x).2 r).1,(zo2 f (f s x).2 r).2)
section
variable {σ:Type} (f:σ→Nat→Int→Int×σ)
def zwo (s:σ) (v:Ver):Ver×σ:=if decide (v.k > 0) then (⟨(f s 0 v.t).1,v.k⟩,(f s 0 v.t).2) else (v,s)
def yau (s:σ) (x:Seen):Seen×σ:=
 let a:=f s 2 x.o
 let b:=zwo f a.2 x.v
 (⟨a.1,b.1⟩,b.2)
def yav (s:σ) (e:Ev):Ev×σ:=
 if e.kind=1 then let a:=f s 1 e.s;({e with s:=a.1},a.2) else
 if e.kind=2∨e.kind=3 then let a:=f s 2 e.o;let b:=zwo f a.2 e.v;({e with o:=a.1,v:=b.1},b.2) else
 if e.kind=4 then let a:=f s 3 e.p;({e with p:=a.1},a.2) else (e,s)
def yjd (s:σ) (e:Ev):Ev×σ:=
 let a:=f s 0 e.t
 let b:=yav f a.2 {e with t:=a.1}
 let c:=zo2 (yau f) b.2 e.scan
 ({b.1 with scan:=c.1},c.2)
def yd2 (s:σ) (l:List Int):List Int×σ:=zo2 (fun s n=>f s 0 n) s l
def yfh (s:σ) (r:Ord):Ord×σ:=
 let a:=f s 2 r.o
 let b:=yd2 f a.2 r.ts
 (⟨a.1,b.1⟩,b.2)
def yfi (s:σ) (r:Mat):Mat×σ:=
 let a:=f s 3 r.p
 let b:=f a.2 2 r.o
 let c:=yd2 f b.2 r.ts
 (⟨a.1,b.1,r.first,c.1⟩,c.2)
def yfg (s:σ) (r:Wan):Wan×σ:=let a:=f s 1 r.s;(⟨a.1,r.bits⟩,a.2)
def ym9 (s:σ) (h:Hist):Hist×σ:=
 let a:=zo2 (yjd f) s h.evs
 let b:=zo2 (yfh f) a.2 h.ords
 let c:=zo2 (yfi f) b.2 h.mats
 let d:=zo2 (yfg f) c.2 h.wants
 ({h with evs:=a.1,ords:=b.1,mats:=c.1,wants:=d.1},d.2)
end
def ykj (n:Int):Nat→List Int→Option Nat
 |_,[]=>none
 |i,x::r=>if x=n then some i else ykj n (i+1) r
abbrev yi8:=List (List Int)
def yg6 (k:yi8) (sort:Nat) (n:Int):Int×yi8:=
 match ykj n 0 (k.getD sort []) with
 |some i=>((i:Int),k)
 |none=>(((k.getD sort []).length:Int),k.set sort (k.getD sort []++ [n]))
def yns:yi8:= [[],[],[],[]]
def ztr (l:List ByteArray) (n:Int):ByteArray:=l.getD n.toNat ⟨#[]⟩
def yg5 (h:Hist):Hist:=
 let r:=ym9 yg6 yns h
 {r.1 with ts:=(r.2.getD 0 []).map (ztr h.ts),ss:=(r.2.getD 1 []).map (ztr h.ss),os:=(r.2.getD 2 []).map (ztr h.os),ps:=(r.2.getD 3 []).map (ztr h.ps)}
def numR (h:Hist):Hist:=if za2 h then yg5 h else ylk
def yoy (h:Hist):Int:=if za2 h then 0 else 210
theorem zw2 (a b:Seen):zje a b=decide (a=b):=by
 obtain ⟨ao,at_,ak⟩:=a;obtain ⟨bo,bt_,bk⟩:=b
 simp only [zje,Seen.mk.injEq,Ver.mk.injEq]
 by_cases h1:ao=bo <;> by_cases h2:at_=bt_ <;> by_cases h3:ak=bk <;> simp [h1,h2,h3]
theorem yh9 (a b:Ev):yia a b=decide (a=b):=by
 obtain ⟨a1,a2,a3,a4,a5,⟨a6,a7⟩,a8,a9⟩:=a;obtain ⟨b1,b2,b3,b4,b5,⟨b6,b7⟩,b8,b9⟩:=b
 simp only [yia,zzf zw2,Ev.mk.injEq,Ver.mk.injEq]
 rw [Bool.eq_iff_iff]
 simp [and_assoc]
def OkN (h:Hist) (x:Nat×Int):Prop:=x.1 < 4∧0≤x.2∧x.2 < (nmK h x.1).length
theorem za1 (l:List ByteArray) (n:Int):zd4 l n=true ↔ 0≤n∧n < l.length:=by simp [zd4]
theorem zr8 {h:Hist} {v:Ver} (hv:zwk h.ts v=true):∀x∈zf4 v,OkN h x:=by
 intro x hx
 unfold zf4 at hx
 split at hx
 ·rename_i hk
  have hk':v.k > 0:=oT hk
  simp only [List.mem_singleton] at hx
  subst hx
  unfold zwk at hv
  rw [if_neg (by simp;omega)] at hv
  simp only [Bool.and_eq_true,za1] at hv
  exact ⟨by simp,hv.1.1.1,hv.1.1.2⟩
 ·simp at hx
theorem seen_ok {h:Hist} {s:Seen} (hs:zin h s=true):∀x∈zw1 s,OkN h x:=by
 simp only [zin,Bool.and_eq_true,za1] at hs
 intro x hx
 simp only [zw1,List.mem_cons] at hx
 rcases hx with rfl|hx
 ·exact ⟨by simp,hs.1.1,hs.1.2⟩
 ·exact zr8 hs.2 x hx
theorem zb2 {h:Hist} {e:Ev} (he:zdw h e=true):1≤e.kind∧e.kind < 7∧zd4 h.ts e.t=true∧(zha h e).2=true∧{(zha h e).1 with kind:=e.kind,t:=e.t}=e:=by
 simp only [zdw,yh9,Bool.and_eq_true,Bool.not_eq_true',Bool.or_eq_false_iff,decide_eq_true_eq,decide_eq_false_iff_not,Bool.not_eq_false'] at he
 exact ⟨by omega,by omega,he.1.2,he.2.1,he.2.2⟩
theorem yog {h:Hist} {e:Ev} (he:zdw h e=true):∀x∈evL e,OkN h x:=by
 obtain ⟨h1,h7,ht,hc,hq⟩:=zb2 he
 have ht':=(za1 _ _).1 ht
 intro x hx
 simp only [evL,List.mem_cons,List.mem_append] at hx
 rcases hx with rfl|hx
 ·exact ⟨by simp,ht'.1,ht'.2⟩
 unfold zha at hc hq
 by_cases k1:e.kind=1
 ·rw [if_pos k1] at hc hq
  simp only [zds,Bool.and_eq_true,za1] at hc
  have hs:e.scan= []:=by rw [←hq]
  rw [hs,zym k1] at hx
  simp only [List.mem_singleton,List.flatMap_nil,List.not_mem_nil,or_false] at hx
  subst hx;exact ⟨by simp,hc.1.1,hc.1.2⟩
 rw [if_neg k1] at hc hq
 by_cases k2:e.kind=2
 ·rw [if_pos k2] at hc hq
  simp only [zbk,Bool.and_eq_true,za1] at hc
  have hs:e.scan= []:=by rw [←hq]
  rw [hs,zle (.inl k2)] at hx
  simp only [List.mem_cons,List.flatMap_nil,List.not_mem_nil,or_false] at hx
  rcases hx with rfl|hx
  ·exact ⟨by simp,hc.1.1.1.1,hc.1.1.1.2⟩
  ·exact zr8 hc.1.1.2 x hx
 rw [if_neg k2] at hc hq
 by_cases k3:e.kind=3
 ·rw [if_pos k3] at hc hq
  simp only [zdz,Bool.and_eq_true,za1] at hc
  have hs:e.scan= []:=by rw [←hq]
  rw [hs,zle (.inr k3)] at hx
  simp only [List.mem_cons,List.flatMap_nil,List.not_mem_nil,or_false] at hx
  rcases hx with rfl|hx
  ·exact ⟨by simp,hc.1.1,hc.1.2⟩
  ·exact zr8 hc.2 x hx
 rw [if_neg k3] at hc hq
 by_cases k4:e.kind=4
 ·rw [if_pos k4] at hc hq
  simp only [zck,Bool.and_eq_true,za1,List.all_eq_true] at hc
  rw [zyl k4] at hx
  simp only [List.mem_singleton,List.mem_flatMap] at hx
  rcases hx with rfl|⟨s,hs,hx⟩
  ·exact ⟨by simp,hc.1.1.1,hc.1.1.2⟩
  ·exact seen_ok (hc.2 s hs) x hx
 rw [if_neg k4] at hc hq
 have hs:e.scan= []:=by rw [←hq]
 rw [hs,zyn k1 k2 k3 k4] at hx
 simp at hx
theorem yjc {h:Hist} {ts:List Int} (ht:tsB h ts=true):∀x∈tsL ts,OkN h x:=by
 simp only [tsB,Bool.and_eq_true,List.all_eq_true,za1] at ht
 intro x hx
 simp only [tsL,List.mem_map] at hx
 obtain ⟨t,h1,rfl⟩:=hx
 exact ⟨by simp,(ht.2 t h1).1,(ht.2 t h1).2⟩
theorem zdv {h:Hist} (hs:za2 h=true):okK h 4=true∧(∀e∈h.evs,zdw h e=true)∧(∀r∈h.ords,zwd h r=true)∧(∀r∈h.mats,ycx h r=true)∧∀r∈h.wants,yd0 h r=true:=by
 simp only [za2,Bool.and_eq_true,List.all_eq_true] at hs
 exact ⟨hs.1.1.1.1,hs.1.1.1.2,hs.1.1.2,hs.1.2,hs.2⟩
theorem zwx {h:Hist} (hs:za2 h=true):∀x∈zc9 h,OkN h x:=by
 obtain ⟨_,h1,h2,h3,h4⟩:=zdv hs
 intro x hx
 simp only [zc9,List.mem_append,List.mem_flatMap] at hx
 rcases hx with ⟨e,he,hx⟩|⟨r,hr,hx⟩|⟨r,hr,hx⟩|⟨r,hr,hx⟩
 ·exact yog (h1 e he) x hx
 ·have:=h2 r hr
  simp only [zwd,Bool.and_eq_true,za1] at this
  simp only [yg0,List.mem_cons] at hx
  rcases hx with rfl|hx
  ·exact ⟨by simp,this.1.1,this.1.2⟩
  ·exact yjc this.2 x hx
 ·have:=h3 r hr
  simp only [ycx,Bool.and_eq_true,za1] at this
  simp only [ycu,List.mem_cons] at hx
  rcases hx with rfl|rfl|hx
  ·exact ⟨by simp,this.1.1.1,this.1.1.2⟩
  ·exact ⟨by simp,this.1.2.1,this.1.2.2⟩
  ·exact yjc this.2 x hx
 ·have:=h4 r hr
  simp only [yd0,Bool.and_eq_true,za1] at this
  simp only [yai,List.mem_singleton] at hx
  subst hx
  exact ⟨by simp,this.1.1.1,this.1.1.2⟩
theorem yn7 {m:List Int} (hl:m.length=4) {k:Nat} (hk:k < 4):(m.map iv)[0+k * 1]? =some (iv (m.getD k 0)):=by
 have h:k < m.length:=by omega
 simp [h]
theorem ypg {m:List Int} (hl:m.length=4) {k:Nat} (hk:k < 4) (v:Int):(m.map iv).take (0+k * 1)++ [iv v]++(m.map iv).drop (0+k * 1+1)=(m.set k v).map iv:=by
 match m,hl with
 | [a,b,c,d],_=>
   match k,hk with
   |0,_=>rfl
   |1,_=>rfl
   |2,_=>rfl
   |3,_=>rfl
theorem ydo {h:Hist} (hs:za2 h=false):zdi h=210:=by simp [zdi,zfs,hs]
theorem zv2 {h:Hist} (hm:zpx h=none):zdi h=210:=by
 have e:(zpx h==some (zvn h))=false:=by rw [hm];rfl
 rw [zdi,zfs,e,Bool.and_false];rfl
theorem yc2 (h:Hist) {k:Nat} (hk:k < 4):(zvn h).getD k 0=(nmK h k).length:=by
 match k,hk with
 |0,_=>rfl
 |1,_=>rfl
 |2,_=>rfl
 |3,_=>rfl
theorem ydp {h:Hist} {m:List Int} (hm:zpx h=some m) {k:Nat} (hk:k < 4) (hne:m.getD k 0≠(nmK h k).length):zdi h=210:=by
 have e:(zpx h==some (zvn h))=false:=by
  rw [hm]
  simp only [Option.some_beq_some,beq_eq_false_iff_ne]
  rintro rfl
  exact hne (yc2 h hk)
 rw [zdi,zfs,e,Bool.and_false];rfl
theorem ydq {h:Hist} (hs:za2 h=true) {m:List Int} (hm:zpx h=some m) (hl:m.length=4) (he:∀k,k < 4→m.getD k 0=(nmK h k).length):zdi h=0:=by
 have e:m=zvn h:=by
  match m,hl with
  | [a,b,c,d],_=>
    have h0:=he 0 (by omega);have h1:=he 1 (by omega);have h2:=he 2 (by omega);have h3:=he 3 (by omega)
    simp [nmK] at h0 h1 h2 h3
    simp [zvn,h0,h1,h2,h3]
 rw [zdi,zfs,hs,hm,e];simp
theorem zzt {h:Hist}:zdi h=0 ↔ zfs h=true:=by unfold zdi;split <;> simp_all
def yi4 (p:SV×Ev):List AV:= [iv p.2.kind,iv p.2.t,iv p.2.s,iv p.2.l,iv p.2.o,iv p.2.v.t,iv p.2.v.k,iv p.2.p,.v p.1.v]
structure NV where
 vT:SV
 vS:SV
 vO:SV
 vP:SV
structure OH where
 vE:SV
 vR:SV
 vM:SV
 vW:SV
 ts:List ByteArray
 ss:List ByteArray
 os:List ByteArray
 ps:List ByteArray
 evs:List (SV×Ev)
 ords:List (SV×Ord)
 mats:List (SV×Mat)
 wants:List Wan
def scR (T:TypeId) (l:List (SV×Ev)):List Res:=l.map fun p=> .row p.1.v 3 T (p.2.scan.map zax)
def yeg:AV:= .v (.slice none 0 0)
def zp6:List AV:= [yeg,yeg,yeg,yeg,yeg,yeg,yeg,yeg]
theorem zk9 {α:Type} {R:α→List AV} (h:∀a,(R a).all AV.one=true) (l:List α):∀r∈l.map R,r.all AV.one=true:=by
 intro r hr;obtain ⟨a,_,rfl⟩:=List.mem_map.1 hr;exact h a
theorem ziu (l:List Int):∀r∈l.map zbs,r.all AV.one=true:=zk9 (fun a=>rfl) l
theorem zh2 (l:List Seen):∀r∈l.map zax,r.all AV.one=true:=zk9 (fun a=>rfl) l
theorem ykt (l:List Ev):∀r∈l.map evR,r.all AV.one=true:=zk9 (fun a=>rfl) l
theorem yg1 (l:List Ord):∀r∈l.map zet,r.all AV.one=true:=zk9 (fun a=>rfl) l
theorem yg2 (l:List Mat):∀r∈l.map zee,r.all AV.one=true:=zk9 (fun a=>rfl) l
section
variable {α β:Type} {f:α→List AV} {g:β→List AV} {xs:List α} {l:List β} {k:Nat} {b:β} {a:α} {r:List AV}
theorem yhd (hl:xs.length=k) (hk:k≤l.length):(xs.map f++(l.drop k).map g).length=l.length:=by
 simp [hl];omega
theorem yhe (hl:xs.length=k) (hd:l.drop k=b::l.drop (k+1)):(xs.map f++(l.drop k).map g)[k]? =some (g b):=by
 rw [hd,List.getElem?_append_right (by simp [hl])];simp [hl]
theorem yhc (hl:xs.length=k) (hd:l.drop k=b::l.drop (k+1)) (hr:r=f a):(xs.map f++(l.drop k).map g).set k r=(xs++ [a]).map f++(l.drop (k+1)).map g:=by
 subst hl hr
 rw [hd,List.set_append_right _ _ (by simp)]
 simp
theorem ycn {snd:α→β} (h:xs.map snd=l.take k) (hk:k≤l.length):xs.length=k:=by
 have:=congrArg List.length h;simp at this;omega
theorem ycm {snd:α→β} (h:xs.map snd=l.take k) (hk:k < l.length) (ha:snd a=l[k]):(xs++ [a]).map snd=l.take (k+1):=by
 rw [List.map_append,h,List.take_succ_eq_append_getElem hk];simp [ha]
end
theorem zuz {h:Hist} (hs:za2 h=true):Lim 3000 h:=by
 obtain ⟨h0,h1,h2,h3,h4⟩:=zdv hs
 have hk:∀k,k < 4→okK h (k+1)=true:=fun k hk=>by
  cases hq:okK h (k+1) with
  |true=>rfl
  |false=>
   have:=zh3 hq (3 - k)
   rw [show k+1+(3 - k)=4 by omega,h0] at this;cases this
 have hn:∀k,k < 4→(nmK h k).length≤300:=fun k hk4=>by
  have:=hk k hk4
  simp only [okK,zjk,Bool.and_eq_true,decide_eq_true_eq] at this
  have h5:yk8 k≤300:=by
   match k,hk4 with
   |0,_=>decide
   |1,_=>decide
   |2,_=>decide
   |3,_=>decide
  omega
 have hz:okK h 0=true:=by
  cases hq:okK h 0 with
  |true=>rfl
  |false=>have:=zh3 hq 4;rw [h0] at this;cases this
 simp only [okK,zwv,Bool.and_eq_true,decide_eq_true_eq] at hz
 refine ⟨by have:=hn 0 (by omega);simp [nmK] at this;omega,by have:=hn 1 (by omega);simp [nmK] at this;omega,by have:=hn 2 (by omega);simp [nmK] at this;omega,by have:=hn 3 (by omega);simp [nmK] at this;omega,by omega,by omega,by omega,by omega,fun e he=> ?_,fun o ho=> ?_,fun m hm=> ?_⟩
 ·obtain ⟨_,_,_,hc,hq⟩:=zb2 (h1 e he)
  rw [←hq]
  show (zha h e).1.scan.length≤3000
  unfold zha at hc ⊢
  repeat' split
  all_goals first|(simp only [List.length_nil];omega)|skip
  rename_i g1 g2 g3 g4
  rw [if_neg g1,if_neg g2,if_neg g3,if_pos g4] at hc
  simp only [zck,Bool.and_eq_true,decide_eq_true_eq] at hc
  show e.scan.length≤3000
  omega
 ·have:=h2 o ho
  simp only [zwd,tsB,Bool.and_eq_true,decide_eq_true_eq] at this
  omega
 ·have:=h3 m hm
  simp only [ycx,tsB,Bool.and_eq_true,decide_eq_true_eq] at this
  omega
section
variable {σ α:Type} (f:σ→Nat→Int→Int×σ)
end
section
variable {α:Type} {f:α→List AV} {A B:List α} {k:Nat} {b a:α} {r:List AV}
end
def zl2 (b:Bool):List AV:= [bv b]
structure KOk (h:Hist) (k:yi8):Prop where
 four:k.length=4
 nd:∀s,(k.getD s []).Nodup
 lt:∀s,∀n∈k.getD s [],0≤n∧n < (nmK h s).length
theorem zj7:∀{N:Nat} {l:List Nat},l.Nodup→(∀n∈l,n < N)→l.length≤N
 |0,[],_,_=>Nat.le_refl _
 |0,x::l,_,h=>absurd (h x (by simp)) (Nat.not_lt_zero _)
 |N+1,l,hn,h=>by
  by_cases hm:N∈l
  ·have e:(l.erase N).length=l.length - 1:=List.length_erase_of_mem hm
   have:=zj7 (N:=N) (l:=l.erase N) (hn.erase N) (fun n hn'=>by
    have h1:=h n (List.mem_of_mem_erase hn')
    have h2:n≠N:=fun q=>by subst q;exact (List.Nodup.not_mem_erase hn) hn'
    omega)
   omega
  ·have:=zj7 (N:=N) (l:=l) hn (fun n hn'=>by
    have h1:=h n hn'
    have h2:n≠N:=fun q=>by subst q;exact hm hn'
    omega)
   omega
section
variable {w:World} {O O':Nat→Prop}
def CT (w:World) (O O':Nat→Prop):List AV→List AV→Prop
 | [],[]=>True
 |a::as,b::bs=>(∀u,Rel w O a u→Rel w O' b u)∧CT w O O' as bs
 |_,_=>False
theorem CT.len:∀{as bs:List AV},CT w O O' as bs→bs.length=as.length
 | [],[],_=>rfl
 |_::_,_::_,h=>by simp [CT.len h.2]
 | [],_::_,h=>h.elim
 |_::_,[],h=>h.elim
theorem CT.get:∀{as bs:List AV},CT w O O' as bs→∀j (k:j < as.length) (k':j < bs.length) u,Rel w O as[j] u→Rel w O' bs[j] u
 |_::_,_::_,h,0,_,_,u,r=>h.1 u r
 |_::_,_::_,h,j+1,k,k',u,r=>CT.get h.2 j (by simpa using k) (by simpa using k') u r
theorem sc (x:Value):∀u,Rel w O (.v x) u→Rel w O' (.v x) u:=fun u r=>(Scal.v x).rel r
theorem sn {x:Value} {b:AV} (h:Rel w O' b x):∀u,Rel w O (.v x) u→Rel w O' b u:=fun u r=>by rw [r.v_eq];exact h
theorem yfj {X:Nat→Prop} {H:List Res} (hh:HRel X w H) {s:Value} {sz:Nat} {T:TypeId} {α:Type} {f g:α→List AV} {l:List α} (hm: .row s sz T (l.map f)∈H) (hO:∀b∈(Res.row s sz T (l.map f)).own,¬O' b)
 (hc:∀a∈l,CT w (OO H X) O' (f a) (g a)):Rel w O' (.list false sz (l.map g)) s:=by
 refine zro hh hm hO (by simp) (fun i h h'=> ?_) (fun i h h' j k k' u r=> ?_)
 ·simp only [List.getElem_map];exact (hc _ (List.getElem_mem _)).len
 ·simp only [List.getElem_map] at k k' r ⊢
  exact (hc _ (List.getElem_mem _)).get j k k' u r
end
def bT:ByteArray:=⟨#[116]⟩
def bS:ByteArray:=⟨#[115]⟩
def bX:ByteArray:=⟨#[120]⟩
def bY:ByteArray:=⟨#[121]⟩
def zg4:Hist:=⟨[bT],[bS],[bX],[],[⟨1,0,0,1,0,⟨0,0⟩,0,[]⟩,⟨2,0,0,0,0,⟨0,1⟩,0,[]⟩,⟨5,0,0,0,0,⟨0,0⟩,0,[]⟩],[],[],[]⟩
theorem toList_inj {a b:ByteArray} (h:a.toList=b.toList):a=b:=by
 rw [ByteArray.toList_eq,ByteArray.toList_eq] at h
 cases a;cases b;congr 1;exact Array.ext' h
theorem zj2 {s:ByteArray} {c:Nat} (h1:s.size=1) (hc:c < 128) (hl:yhp c=true) (hd:Utf8.decode s 0=(c,1)) (hne:(s.toList== [])=false) (hb:bt s 0=c) (hn:zx3 c=false):zil s=true:=by
 have hp:zfq s zll 0 ((Utf8.decode s 0).1:Nat)=true:=by
  rw [hd]
  have h2:(((c:Nat):Int) !=65533)=true:=by simp;omega
  simp only [zfq,zrf,zll,hl,h2,Bool.true_or,Bool.and_true]
 have hw:zdt s (zfq s zll) 0=s.size:=by
  rw [zo1 (by omega) hp,hd]
  exact zmq (by simp;omega)
 simp only [zil,hne,hb,hn,hw,h1];decide
theorem zwg:zil bT=true:=zj2 (c:=116) rfl (by decide) (by decide) (by decide) (by rw [ByteArray.toList_eq];rfl) (by decide) (by decide)
theorem zwh:zil bS=true:=zj2 (c:=115) rfl (by decide) (by decide) (by decide) (by rw [ByteArray.toList_eq];rfl) (by decide) (by decide)
theorem zwf:zil bX=true:=zj2 (c:=120) rfl (by decide) (by decide) (by decide) (by rw [ByteArray.toList_eq];rfl) (by decide) (by decide)
theorem yja:zil bY=true:=zj2 (c:=121) rfl (by decide) (by decide) (by decide) (by rw [ByteArray.toList_eq];rfl) (by decide) (by decide)
def zr0:Hist:={zg4 with evs:=zg4.evs.take 2}
def zm5:Hist:={zg4 with os:= [bY,bX],evs:= [⟨1,0,0,1,0,⟨0,0⟩,0,[]⟩,⟨2,0,0,0,1,⟨0,1⟩,0,[]⟩,⟨5,0,0,0,0,⟨0,0⟩,0,[]⟩]}
theorem xy:ycp bX [bY]=false:=by decide
theorem zo9:za2 zg4=true:=by
 have h:okK zg4 4=true:=by
  simp only [okK,nmK,zjk,zg4,zeq,zwg,zwh,zwf,List.length_singleton,List.length_nil];decide
 rw [za2,h];decide
theorem zri:za2 zr0=true:=by
 have h:okK zr0 4=true:=by
  simp only [okK,nmK,zjk,zr0,zg4,zeq,zwg,zwh,zwf,List.length_singleton,List.length_nil];decide
 rw [za2,h];decide
theorem zjc:za2 zm5=true:=by
 have h:okK zm5 4=true:=by
  simp only [okK,nmK,zjk,zm5,zg4,zeq,zwg,zwh,zwf,yja,List.length_cons,List.length_nil,List.nil_append,xy];decide
 rw [za2,h];decide
theorem zyb:zfs zg4=true:=by rw [zfs,zo9];decide
theorem ycr:zfs zr0=true:=by rw [zfs,zri];decide
theorem w1:zzn zr0=0:=by rw [zzn,ycr];decide
theorem w2:ofR zg4 0= [0,1,2]:=by rw [ofR,zyb];decide
theorem w3:yoy zm5=0:=by rw [yoy,zjc];rfl
theorem w4:zdi zm5=210:=by
 have:zfs zm5=false:=by rw [zfs,zjc];decide
 rw [zdi,this];rfl
theorem w5:yey zr0=yez zr0:=by rw [yey,if_pos w1]
theorem znu {N:Nat} {l:List Nat} (h:l.Nodup) (hl:∀i∈l,i < N):l.length≤N:=zj7 h hl
theorem zrz (G:List Res) (sE sO sM:Value) (h:Hist) (E:List (SV×Ev)) (T40 T54 T57 T52:TypeId) (H:List Res) (hE:E.map (·.2)=h.evs)
 (h5: .row sE 9 T40 (E.map yi4)∈H) (h6: .row sO 2 T54 (h.ords.map zet)∈H) (h7: .row sM 4 T57 (h.mats.map zee)∈H) (h9:∀r∈scR T52 E,r∈H):
 zhb (G++H) (.agg [zcw h.ts,zcw h.ss,zcw h.os,zcw h.ps,.v sE,.v sO,.v sM,zux h.wants]) G (.agg (y9 h)):=by
 refine ⟨fun x hx=>by rw [w6];exact List.mem_append_left _ hx,fun X w v hh hr=> ?_⟩
 have hG:HRel X w G:=HRel.drop (h:=H) (hh.perm List.perm_append_comm)
 refine ⟨hG,?_⟩
 have hmem:∀r∈H,r∈G++H:=fun r hr=>List.mem_append_right _ hr
 have hout:∀r∈H,∀x∈r.own,¬OO G X x:=fun r hr x hx q=>by
  have hxH:x∈u9 H:=j9.2 ⟨r,hr,hx⟩
  have hn:=hh.nodup
  rw [w6,List.nodup_append] at hn
  rcases q with q|q
  ·exact hn.2.2 x q x hxH rfl
  ·exact (hh.lt x (by rw [w6];exact List.mem_append_right _ hxH)).2 q
 have lo:∀av u,Rel w (OO (G++H) X) av u→Rel w (OO G X) av u:=fun av u r=>r.loose fun x hx=>hx.imp (fun q=>by rw [w6];exact List.mem_append_left _ q) id
 have S:∀{α:Type} {s:Value} {sz:Nat} {T:TypeId} {f g:α→List AV} {l:List α},.row s sz T (l.map f)∈H→(∀a∈l,CT w (OO (G++H) X) (OO G X) (f a) (g a))→Rel w (OO G X) (.list false sz (l.map g)) s:=
  fun hm hc=>yfj hh (hmem _ hm) (hout _ hm) hc
 have evs:Rel w (OO G X) (zza h.evs) sE:=by
  have:=S (g:=fun p=>evR p.2) h5 fun p hp=>⟨sc _,sc _,sc _,sc _,sc _,sc _,sc _,sc _,sn (S (f:=zax) (g:=zax) (h9 _ (List.mem_map.2 ⟨p,hp,rfl⟩)) fun a _=>⟨sc _,sc _,sc _,trivial⟩),trivial⟩
  rw [←hE]
  show Rel w (OO G X) (.list false 9 ((E.map (·.2)).map evR)) sE
  rw [List.map_map];exact this
 have ords:Rel w (OO G X) (ygz h.ords) sO:=S (f:=zet) (g:=zet) h6 fun a _=>⟨sc _,lo _,trivial⟩
 have mats:Rel w (OO G X) (ycs h.mats) sM:=S (f:=zee) (g:=zee) h7 fun a _=>⟨sc _,sc _,sc _,lo _,trivial⟩
 have hcells:CT w (OO (G++H) X) (OO G X) [zcw h.ts,zcw h.ss,zcw h.os,zcw h.ps,.v sE,.v sO,.v sM,zux h.wants] (y9 h):=⟨lo _,lo _,lo _,lo _,sn evs,sn ords,sn mats,lo _,trivial⟩
 cases hr with
 |agg _ ds hl2 hc2=>exact .agg _ ds (by rw [hcells.len];exact hl2) fun j a b=>hcells.get j (by rw [←hcells.len];exact a) a _ (hc2 j (by rw [←hcells.len];exact a) b)
def atI (n:Int):Nat→List Int→Int
 |_,[]=> -1
 |i,x::r=>if x=n then (i:Int) else atI n (i+1) r
set_option maxRecDepth 20000
abbrev Rw:=Nat→List Int
def ymm (l:List Int) (n:Int):List Int:=if atI n 0 l ≥ 0 then l else l++ [n]
def ypx (l:List Int) (v:Ver):List Int:=if v.k=0 then l else ymm l v.t
def zhu (L:Rw) (x:Nat×Int):Rw:=fun i=>match Nat.beq i x.1 with
 |true=>ymm (L i) x.2
 |false=>L i
def yjf (L:Rw) (v:Ver):Rw:=fun i=>match Nat.beq i 0 with
 |true=>ypx (L i) v
 |false=>L i
def stepS (L:Rw) (s:Seen):Rw:=yjf (zhu L (2,s.o)) s.v
def yna (L:Rw) (e:Ev):Rw:=
 if e.kind=1 then zhu L (1,e.s) else if e.kind=2∨e.kind=3 then yjf (zhu L (2,e.o)) e.v else if e.kind=4 then zhu L (3,e.p) else L
def stepE (L:Rw) (e:Ev):Rw:=e.scan.foldl stepS (yna (zhu L (0,e.t)) e)
def ypy (L:Rw) (t:Int):Rw:=zhu L (0,t)
def stepM (L:Rw) (r:Mat):Rw:=r.ts.foldl ypy (zhu (zhu L (3,r.p)) (2,r.o))
def upR (n:Nat):List Int:=(List.range n).map fun i:Nat=>(i:Int)
theorem zsw (n:Int):∀(l:List Int) (i:Nat),atI n i l ≥ 0 ↔ n∈l
 | [],i=>by simp [atI]
 |x::r,i=>by
  unfold atI
  split
  ·rename_i h;simp [h]
  ·rename_i h
   rw [zsw n r (i+1),List.mem_cons]
   constructor
   ·intro k;exact .inr k
   ·rintro (k|k)
    ·exact absurd k.symm h
    ·exact k
theorem ydy (l:List Int) (n:Int):ymm l n=if n∈l then l else l++ [n]:=by
 unfold ymm
 by_cases h:n∈l
 ·rw [if_pos ((zsw n l 0).2 h),if_pos h]
 ·rw [if_neg (fun q=>h ((zsw n l 0).1 q)),if_neg h]
theorem ya4 (L:Rw) (x:Nat×Int):zhu L x x.1=ymm (L x.1) x.2:=by
 unfold zhu;rw [Nat.beq_refl]
theorem ya3 (L:Rw) (x:Nat×Int) {i:Nat} (h:i≠x.1):zhu L x i=L i:=by
 unfold zhu
 rw [show Nat.beq i x.1=false from by
  cases q:Nat.beq i x.1 with
  |false=>rfl
  |true=>exact absurd (Nat.eq_of_beq_eq_true q) h]
theorem grow (xs:List (Nat×Int)):∀(L:Rw) (s:Nat),∃m,xs.foldl zhu L s=L s++m:=by
 induction xs with
 |nil=>intro L s;exact ⟨[],by simp⟩
 |cons x xs ih=>
  intro L s
  obtain ⟨m,hm⟩:=ih (zhu L x) s
  rw [List.foldl_cons,hm]
  by_cases h:s=x.1
  ·subst h
   rw [ya4,ydy]
   split
   ·exact ⟨m,rfl⟩
   ·exact ⟨x.2::m,by simp⟩
  ·rw [ya3 _ _ h];exact ⟨m,rfl⟩
def zox (L:Rw) (m:List Int):Prop:=m.length=4∧∀s,s < 4→0≤m.getD s 0∧L s=upR (m.getD s 0).toNat
theorem yk1 {h:Hist} (hm:zfs h=true):∀e∈h.evs,0≤e.t∧e.t < h.ts.length:=by
 intro e he
 have hs:za2 h=true:=by unfold zfs at hm;simp only [Bool.and_eq_true] at hm;exact hm.1
 have:=(zdv hs).2.1 e he
 obtain ⟨_,_,ht,_⟩:=zb2 this
 exact (za1 _ _).1 ht
def zhq (l:List Ev) (t c:Int):Bool:= !(l.all fun e=> !(e.t==t && e.kind==c))
theorem zfl (l:List Ev) (t c:Int):zhq l t c=l.any fun e=>e.t==t && e.kind==c:=by
 induction l with
 |nil=>rfl
 |cons e l ih=>
  rw [List.any_cons,←ih,zhq,List.all_cons,Bool.not_and,Bool.not_not];rfl
def zl5 (l:List Ev) (t:Int):Bool:=zhq l t 1
def zxy (l:List Ev) (t:Int):Bool:=l.any fun y=>y.t==t && (y.kind==5||y.kind==6)
def zhs (l:List Ev) (t x:Int):List Ev:=l.filter fun y=>y.kind==2 && y.t==t && y.o==x
def zsb (l:List Ev) (t x:Int):Option Ver:=((zhs l t x).getLast?).map Ev.v
def zkr (l:List Ev) (x:Int) (v:Ver):Bool:=l.any fun y=>y.kind==2 && y.o==x && y.v==v
def zdm (e:Ev):List Seen:=if e.kind=3 then [⟨e.o,e.v⟩] else e.scan
def za6 (rule:Nat) (e:Ev) (l:List Ev):Bool:=
 match rule with
 |1=>zl5 l e.t==(e.kind==1)
 |2=>zxy l e.t
 |3=>e.kind==2 && e.v.k !=((zhs l e.t e.o).length:Int)+1
 |4=>(zdm e).any fun s=>decide (s.v.k > 0) && !zkr l s.o s.v
 |5=>(zdm e).any fun s=>match zsb l e.t s.o with|some v=>v !=s.v|none=>false
 |6=> !decide ((e.scan.map Seen.o).Nodup)
 |_=>false
def zg2 (rule:Nat) (e:Ev) (l:List Ev):Bool:=
 match rule with
 |1=>zl5 l e.t && e.kind==1|| !zl5 l e.t && e.kind !=1
 |2=>zxy l e.t
 |3=>e.kind==2 && e.v.k !=((zhs l e.t e.o).length:Int)+1
 |4=>(zdm e).any fun s=> !(s.v.k==0||zkr l s.o s.v)
 |5=>(zdm e).any fun s=>match (zhs l e.t s.o).getLast? with|some y=>y.v !=s.v|none=>false
 |6=>(List.range (zdm e).length).any fun i=>((zdm e).take i).any fun p=>some p.o==((zdm e)[i]?).map Seen.o
 |_=>false
theorem yfa (e:Ev) (l:List Ev):za6 1 e l=zg2 1 e l:=by
 simp only [za6,zg2]
 cases zl5 l e.t <;> cases h:(e.kind==1) <;> simp_all
theorem yd1 {ts:List ByteArray} {v:Ver} (h:zwk ts v=true):0≤v.k:=by
 unfold zwk at h
 split at h
 ·rename_i h0;simp at h0;omega
 ·simp only [Bool.and_eq_true,decide_eq_true_eq] at h;omega
theorem ye9 {e:Ev} {l:List Ev} (h:∀s∈zdm e,0≤s.v.k):za6 4 e l=zg2 4 e l:=by
 simp only [za6,zg2]
 rw [Bool.eq_iff_iff]
 simp only [List.any_eq_true,Bool.and_eq_true,decide_eq_true_eq,Bool.not_eq_true',Bool.or_eq_false_iff,beq_eq_false_iff_ne]
 constructor
 ·rintro ⟨s,hs,h0,h1⟩;exact ⟨s,hs,by omega,h1⟩
 ·rintro ⟨s,hs,h0,h1⟩;exact ⟨s,hs,by have:=h s hs;omega,h1⟩
theorem ye8 (e:Ev) (l:List Ev):za6 5 e l=zg2 5 e l:=by
 simp only [za6,zg2,zsb]
 congr 1;funext s
 cases (zhs l e.t s.o).getLast? <;> rfl
theorem yib (l:List Seen):((List.range l.length).any fun i=>(l.take i).any fun p=>some p.o==(l[i]?).map Seen.o)= !decide ((l.map Seen.o).Nodup):=by
 rw [Bool.eq_iff_iff]
 simp only [List.any_eq_true,List.mem_range,Bool.not_eq_true',decide_eq_false_iff_not,beq_iff_eq]
 rw [show (l.map Seen.o).Nodup ↔ _ from List.pairwise_iff_getElem]
 constructor
 ·rintro ⟨i,hi,p,hp,he⟩ hn
  obtain ⟨j,hj,rfl⟩:=List.mem_iff_getElem.1 hp
  rw [List.length_take] at hj
  refine hn j i (by simp;omega) (by simpa using hi) (by omega) ?_
  rw [List.getElem?_eq_getElem hi,List.getElem_take] at he
  rw [List.getElem_map,List.getElem_map]
  exact Option.some.inj he
 ·intro hn
  simp only [Classical.not_forall] at hn
  obtain ⟨i,j,hi,hj,hij,he⟩:=hn
  have hi':=hi;have hj':=hj
  rw [oM] at hi' hj'
  have he:=Classical.not_not.1 he
  rw [List.getElem_map,List.getElem_map] at he
  refine ⟨j,hj',l[i],?_,?_⟩
  ·rw [List.mem_take_iff_getElem];exact ⟨i,by omega,rfl⟩
  ·rw [List.getElem?_eq_getElem hj',Option.map_some,he]
theorem ye7 {e:Ev} {l:List Ev} (h:e.kind=3→e.scan= []):za6 6 e l=zg2 6 e l:=by
 simp only [za6,zg2]
 rw [yib]
 unfold zdm
 split
 ·rename_i h2;rw [h h2];rfl
 ·rfl
theorem zzb {h:Hist} {e:Ev} (he:zdw h e=true):(∀s∈zdm e,0≤s.v.k)∧(e.kind=3→e.scan= []):=by
 obtain ⟨h1,h7,ht,hc,hq⟩:=zb2 he
 refine ⟨fun s hs=> ?_,fun h3=> ?_⟩
 ·unfold zdm at hs
  split at hs
  ·rename_i h3
   rw [List.mem_singleton] at hs;subst hs
   rw [zha,if_neg (by omega),if_neg (by omega),if_pos h3] at hc
   simp only [zdz,Bool.and_eq_true] at hc
   exact yd1 hc.2
  ·rename_i h3
   by_cases h4:e.kind=4
   ·rw [zha,if_neg (by omega),if_neg (by omega),if_neg h3,if_pos h4] at hc
    simp only [zck,Bool.and_eq_true,List.all_eq_true] at hc
    have:=hc.2 s hs
    simp only [zin,Bool.and_eq_true] at this
    exact yd1 this.2
   ·have:e.scan= []:=by
     rw [←hq];simp only [zha]
     repeat' split
     all_goals first|rfl|omega
    rw [this] at hs;cases hs
 ·rw [←hq];simp only [zha,if_neg (show ¬e.kind=1 by omega),if_neg (show ¬e.kind=2 by omega),if_pos h3]
def srt (l:List Int):List Int:=l.mergeSort (fun x y=>decide (x≤y))
def zbm:List Int→List Int
 | []=> []
 | [x]=> [x]
 |x::y::r=>if x=y then zbm (y::r) else x::zbm (y::r)
theorem ze6 (z:Int):∀l:List Int,z∈zbm l ↔ z∈l
 | []=>Iff.rfl
 | [x]=>Iff.rfl
 |x::y::r=>by
  rw [zbm]
  split
  ·rename_i h;subst h;rw [ze6 z (x::r)];simp
  ·rw [List.mem_cons,ze6 z (y::r),List.mem_cons (a:=z) (b:=x)]
theorem zie:∀l:List Int,l.Pairwise (· ≤ ·)→(zbm l).Pairwise (· < ·)
 | [],_=> .nil
 | [x],_=>by simp [zbm]
 |x::y::r,h=>by
  rw [zbm]
  obtain ⟨h1,h2⟩:=List.pairwise_cons.1 h
  split
  ·exact zie _ h2
  ·rename_i hne
   refine List.pairwise_cons.2 ⟨fun z hz=> ?_,zie _ h2⟩
   rw [ze6] at hz
   obtain ⟨h3,h4⟩:=List.pairwise_cons.1 h2
   have hxy:=h1 y (by simp)
   rcases List.mem_cons.1 hz with rfl|hz
   ·omega
   ·have:=h3 z hz;omega
theorem zls:∀l:List Int,(zbm l).length≤l.length
 | []=>by simp [zbm]
 | [x]=>by simp [zbm]
 |x::y::r=>by
  rw [zbm];have:=zls (y::r)
  split <;> simp only [List.length_cons] at * <;> omega
theorem znh:∀l:List Int,(zbm l).length=l.length→zbm l=l
 | [],_=>rfl
 | [x],_=>rfl
 |x::y::r,h=>by
  rw [zbm] at h ⊢
  have hl:=zls (y::r)
  split at h
  ·simp only [List.length_cons] at h hl;omega
  ·rename_i hne
   rw [if_neg hne,znh (y::r) (by simpa using h)]
theorem zch (l:List Int):(srt l).Perm l:=List.mergeSort_perm _ _
theorem zwr (l:List Int):(srt l).Pairwise (· ≤ ·):=by
 have:=List.pairwise_mergeSort (le:=fun x y:Int=>decide (x≤y)) (by intro a b c;simp;omega) (by intro a b;simp;omega) l
 exact this.imp (by simp)
theorem zka {l:List Int} (h:l.Pairwise (· < ·)):l.Nodup:=h.imp (fun h e=>by omega)
theorem zlr:∀l:List Int,l.Nodup→zbm l=l
 | [],_=>rfl
 | [x],_=>rfl
 |x::y::r,h=>by
  obtain ⟨h1,h2⟩:=List.nodup_cons.1 h
  rw [zbm,if_neg (by rintro rfl;exact h1 (by simp)),zlr _ h2]
theorem zvi (l:List Int):(zbm (srt l)).length=l.length ↔ l.Nodup:=by
 have hl:(srt l).length=l.length:=(zch l).length_eq
 constructor
 ·intro h
  have e:=znh (srt l) (by rw [h,hl])
  have:=zka (zie _ (zwr l))
  rw [e] at this
  exact (zch l).nodup_iff.1 this
 ·intro h
  rw [zlr _ ((zch l).nodup_iff.2 h),hl]
theorem yk5:∀(l m:List Int),l.Pairwise (· < ·)→m.Pairwise (· < ·)→(∀z,z∈l ↔ z∈m)→l=m:=by
 intro l m hl hm h
 refine List.Perm.eq_of_pairwise (le:=(· ≤ ·)) (fun a b _ _ h1 h2=>by omega) (hl.imp (fun h=>by omega)) (hm.imp (fun h=>by omega)) ?_
 exact (List.perm_ext_iff_of_nodup (zka hl) (zka hm)).2 h
def zam (l:List Ev) (x:Int):List Int:=zbm (srt ((l.filter fun e=>e.kind==2 && e.o==x && l.any fun y=>y.t==e.t && y.kind==5).map Ev.t))
def zd3 (h:Hist) (x:Int):List Int:=((upR h.ts.length).filter fun t=>(h.evs.any fun e=>e.kind==2 && e.t==t && e.o==x) && zhq h.evs t 5)
theorem zuw {h:Hist} (ht:∀e∈h.evs,0≤e.t∧e.t < h.ts.length) (x:Int) (hu:(upR h.ts.length).Pairwise (· < ·)) (hm:∀z,z∈upR h.ts.length ↔ 0≤z∧z < h.ts.length):zam h.evs x=zd3 h x:=by
 refine yk5 _ _ (zie _ (zwr _)) (hu.filter _) fun z=> ?_
 rw [zam,ze6,(zch _).mem_iff]
 simp only [zd3,zfl,List.mem_map,List.mem_filter,hm,Bool.and_eq_true,List.any_eq_true,beq_iff_eq]
 constructor
 ·rintro ⟨e,⟨he,⟨h2,h3⟩,y,hy,h4,h5⟩,rfl⟩
  exact ⟨ht e he,⟨e,he,⟨h2,rfl⟩,h3⟩,y,hy,h4,h5⟩
 ·rintro ⟨_,⟨e,he,⟨h2,rfl⟩,h3⟩,y,hy,h4,h5⟩
  exact ⟨e,⟨he,⟨h2,h3⟩,y,hy,h4,h5⟩,rfl⟩
def zr1 (ts f:List Int):Bool:=decide ((zbm (srt ts)).length=ts.length) && !ts.any fun t=> !f.contains t
def zku (ts f:List Int):Bool:=decide ts.Nodup && ts.all fun t=>f.contains t
theorem zlb (ts f:List Int):zr1 ts f=zku ts f:=by
 unfold zr1 zku
 rw [Bool.eq_iff_iff]
 simp only [Bool.and_eq_true,decide_eq_true_eq,zvi,List.all_eq_true,Bool.not_eq_true',List.any_eq_false,Bool.not_eq_true,Bool.not_eq_false',Bool.not_eq_false]
theorem zj8:∀(ts f:List Int),ts.Nodup→(∀t∈ts,t∈f)→ts.length≤f.length
 | [],f,_,_=>by simp
 |t::r,f,hn,hs=>by
  obtain ⟨h1,h2⟩:=List.nodup_cons.1 hn
  have ht:=hs t (by simp)
  have:=zj8 r (f.erase t) h2 (fun z hz=>(List.mem_erase_of_ne (by rintro rfl;exact h1 hz)).2 (hs z (by simp [hz])))
  rw [List.length_erase_of_mem ht] at this
  have:=List.length_pos_of_mem ht
  rw [List.length_cons];omega
theorem ztb {ts f:List Int} (hf:f.Nodup) (h:zku ts f=true):decide (ts.length=f.length)=zku f ts:=by
 simp only [zku,Bool.and_eq_true,decide_eq_true_eq,List.all_eq_true,List.contains_iff_mem] at h
 rw [Bool.eq_iff_iff]
 simp only [zku,Bool.and_eq_true,decide_eq_true_eq,List.all_eq_true,List.contains_iff_mem]
 constructor
 ·intro e
  refine ⟨hf,fun t ht=>Classical.byContradiction fun hn=> ?_⟩
  have:=zj8 (t::ts) f (List.nodup_cons.2 ⟨hn,h.1⟩) (fun z hz=>by rcases List.mem_cons.1 hz with rfl|hz;exact ht;exact h.2 z hz)
  rw [List.length_cons] at this;omega
 ·rintro ⟨_,hs⟩
  exact Nat.le_antisymm (zj8 _ _ h.1 h.2) (zj8 _ _ hf hs)
theorem zwm (n:Nat) (z:Int):z∈upR n ↔ 0≤z∧z < n:=by
 simp only [upR,List.mem_map,List.mem_range]
 constructor
 ·rintro ⟨i,hi,rfl⟩;omega
 ·rintro ⟨h0,h1⟩;exact ⟨z.toNat,by omega,by omega⟩
theorem yjb (n:Nat):(upR n).Pairwise (· < ·):=by
 rw [upR,List.pairwise_map]
 exact List.pairwise_lt_range.imp (fun h=>by omega)
theorem zdo {h:Hist} (hm:zfs h=true) (x:Int):zam h.evs x=zd3 h x:=
 zuw (yk1 hm) x (yjb _) (zwm _)
theorem zfa (l:List Ev) (x:Int):(zam l x).Nodup:=zka (zie _ (zwr _))
def zf3 (h:Hist) (i:Nat) (r:Ord):Bool:=((h.ords.take i).any fun p=>p.o==r.o)|| !zr1 r.ts (zam h.evs r.o)|| !decide (r.ts.length=(zam h.evs r.o).length)
def zx1 (h:Hist) (i:Nat) (r:Ord):Bool:=((h.ords.take i).any fun p=>p.o==r.o)|| !zku r.ts (zd3 h r.o)|| !zku (zd3 h r.o) r.ts
theorem ycf {h:Hist} (hm:zfs h=true) (i:Nat) (r:Ord):zf3 h i r=zx1 h i r:=by
 unfold zf3 zx1
 rw [zlb,←zdo hm]
 cases hs:zku r.ts (zam h.evs r.o) with
 |false=>simp
 |true=>rw [ztb (zfa _ _) hs]
def zn2 (h:Hist) (x:Int):Bool:=decide (1 < (zam h.evs x).length) && !h.ords.any fun r=>r.o==x
def yhb (h:Hist) (x:Int):Bool:= !(h.ords.any fun r=>r.o==x) && decide (2≤(zd3 h x).length)
theorem yha {h:Hist} (hm:zfs h=true) (x:Int):zn2 h x=yhb h x:=by
 unfold zn2 yhb
 rw [←zdo hm,Bool.and_comm]
 rfl
def zjl (h:Hist) (i:Nat) (r:Mat):Bool:=((h.mats.take i).any fun p=>p.p==r.p && p.o==r.o)|| !zr1 r.ts (zam h.evs r.o)
def zyc (h:Hist) (i:Nat) (r:Mat):Bool:=((h.mats.take i).any fun p=>p.p==r.p && p.o==r.o)|| !zku r.ts (zd3 h r.o)
theorem yct {h:Hist} (hm:zfs h=true) (i:Nat) (r:Mat):zjl h i r=zyc h i r:=by
 unfold zjl zyc;rw [zlb,←zdo hm]
def zrc (h:Hist) (i:Nat) (r:Wan):Bool:=((h.wants.take i).any fun p=>p.s==r.s)|| !h.evs.any fun e=>e.kind==1 && e.s==r.s
def zc8 {α:Type} (w:Nat→α→Bool):Nat→List α→Option Nat
 |_,[]=>none
 |i,x::r=>if w i x then some i else zc8 w (i+1) r
theorem zey {α:Type} {w v:Nat→α→Bool}:∀(l:List α) (i:Nat),(∀x∈l,∀i,w i x=v i x)→zc8 w i l=zc8 v i l
 | [],_,_=>rfl
 |x::r,i,h=>by rw [zc8,zc8,h x (by simp),zey r (i+1) (fun y hy=>h y (by simp [hy]))]
def zcd (h:Hist) (rule:Nat):Option Nat:=
 match rule with
 |7=>zc8 (zf3 h) 0 h.ords
 |8=>zc8 (fun x _=>zn2 h (x:Int)) 0 h.os
 |9=>zc8 (zjl h) 0 h.mats
 |10=>zc8 (zrc h) 0 h.wants
 |r=>zc8 (fun i e=>za6 r e (h.evs.take i)) 0 h.evs
def ztn (h:Hist) (rule:Nat):Option Nat:=
 match rule with
 |7=>zc8 (zx1 h) 0 h.ords
 |8=>zc8 (fun x _=>yhb h (x:Int)) 0 h.os
 |9=>zc8 (zyc h) 0 h.mats
 |10=>zc8 (zrc h) 0 h.wants
 |r=>zc8 (fun i e=>zg2 r e (h.evs.take i)) 0 h.evs
theorem yar {h:Hist} {e:Ev} (he:zdw h e=true) (l:List Ev):∀r,za6 r e l=zg2 r e l
 |0=>rfl
 |1=>yfa e l
 |2=>rfl
 |3=>rfl
 |4=>ye9 (zzb he).1
 |5=>ye8 e l
 |6=>ye7 (zzb he).2
 |_+7=>rfl
theorem yb5 {h:Hist} (hm:zfs h=true) (rule:Nat):zcd h rule=ztn h rule:=by
 have hs:za2 h=true:=by unfold zfs at hm;simp only [Bool.and_eq_true] at hm;exact hm.1
 have hE:=(zdv hs).2.1
 unfold zcd ztn
 split
 ·exact zey _ _ fun r _ i=>ycf hm i r
 ·exact zey _ _ fun r _ i=>yha hm _
 ·exact zey _ _ fun r _ i=>yct hm i r
 ·rfl
 ·exact zey _ _ fun e he i=>yar (hE e he) _ _
def zbn (p:Nat→Option Nat):List Nat→Option (Nat×Nat)
 | []=>none
 |r::l=>match p r with|some i=>some (r,i)|none=>zbn p l
def rules10:List Nat:= [1,2,3,4,5,6,7,8,9,10]
theorem ydg {h:Hist} (hm:zfs h=true):zbn (zcd h) rules10=zbn (ztn h) rules10:=by
 rw [show zcd h=ztn h from funext (yb5 hm)]
theorem znb {p:Nat→Option Nat}:∀{l:List Nat},zbn p l=none→∀q∈l,p q=none
 | [],_,q,hq=>by cases hq
 |a::l,h,q,hq=>by
  rw [zbn] at h
  cases ha:p a with
  |some j=>rw [ha] at h;cases h
  |none=>rw [ha] at h;rcases List.mem_cons.1 hq with rfl|hq;exact ha;exact znb h q hq
theorem zhx {α:Type} {w:Nat→α→Bool}:∀(l:List α) (i:Nat),zc8 w i l=none ↔ ∀j,(h:j < l.length)→w (i+j) l[j]=false
 | [],i=>by simp [zc8]
 |x::r,i=>by
  rw [zc8]
  constructor
  ·intro h j hj
   split at h
   ·cases h
   ·rename_i h0
    cases j with
    |zero=>simpa using h0
    |succ j=>
     have:=(zhx r (i+1)).1 h j (by simpa using hj)
     rw [show i+(j+1)=i+1+j by omega];exact this
  ·intro h
   have h0:w i x=false:=h 0 (Nat.zero_lt_succ _)
   rw [if_neg (by rw [h0];decide)]
   refine (zhx r (i+1)).2 fun j hj=> ?_
   have:=h (j+1) (by simpa using hj)
   rw [show i+1+j=i+(j+1) by omega];exact this
theorem zmz {k:Nat} (h1:1≤k) (h2:k≤10):rules10.drop (k - 1)=k::rules10.drop k:=by
 have:∀k,k < 11→1≤k→rules10.drop (k - 1)=k::rules10.drop k:=by decide
 exact this k (by omega) h1
theorem zvt {p:Nat→Option Nat} {k:Nat} (h1:1≤k) (h2:k≤10) (hz:zbn p rules10=zbn p (rules10.drop (k - 1))) (hp:p k=none):zbn p rules10=zbn p (rules10.drop (k+1 - 1)):=by
 rw [hz,zmz h1 h2,zbn,hp];rfl
theorem zy5 {p:Nat→Option Nat} {k i:Nat} (h1:1≤k) (h2:k≤10) (hz:zbn p rules10=zbn p (rules10.drop (k - 1))) (hp:p k=some i):zbn p rules10=some (k,i):=by
 rw [hz,zmz h1 h2,zbn,hp]
theorem zvu {p:Nat→Option Nat} {k:Nat} (h1:11≤k) (h2:k≤11) (hz:zbn p rules10=zbn p (rules10.drop (k - 1))):zbn p rules10=none:=by
 obtain rfl:k=11:=by omega
 rw [hz];rfl
def zjs (h:Hist):Option (Nat×Nat):=zbn (zcd h) rules10
def yo4:Option (Nat×Nat)→List AV
 |some (r,i)=> [iv r,iv i]
 |none=> [iv 0,iv 0]
def zap (h:Hist):Bool:=zfs h && (zjs h).isNone
def zgt (h:Hist):AV:=if zfs h=true then .tup [.agg (yo4 (zjs h)),bv (zjs h).isSome,iv 0] else .tup [.agg [iv 0,iv 0],bv false,iv 210]
def ypt:Option Nat→Int
 |some n=>n
 |none=>0
theorem yik (o:Option (Nat×Nat)):∃i j,yo4 o= [iv i,iv j]:=by
 cases o with
 |none=>exact ⟨_,_,rfl⟩
 |some p=>exact ⟨_,_,rfl⟩
theorem zqa (h:Hist):∃i j b e,zgt h= .tup [.agg [iv i,iv j],bv b,iv e]∧zap h=((e==0) && !b):=by
 unfold zgt zap
 obtain ⟨i,j,hb⟩:=yik (zjs h)
 by_cases hm:zfs h=true
 ·rw [if_pos hm,hm,hb];refine ⟨_,_,_,_,rfl,?_⟩;cases zjs h <;> rfl
 ·rw [if_neg hm,Bool.eq_false_iff.2 hm];exact ⟨_,_,_,_,rfl,rfl⟩
theorem zdu {h:Hist} (hs:zap h=true):zfs h=true∧zbn (zcd h) rules10=none:=by
 unfold zap at hs
 simp only [Bool.and_eq_true,Option.isNone_iff_eq_none] at hs
 exact hs
section
variable (ρ:Nat→Int→Int)
end
section
variable {σ:Type} {f:σ→Nat→Int→Int×σ} {ρ:Nat→Int→Int}
variable (f) in
def after:σ→List (Nat×Int)→σ
 |s,[]=>s
 |s,x::l=>after (f s x.1 x.2).2 l
end
section
variable (ρ:Nat→Int→Int)
end
structure Cnt (k:yi8) (m:List Int):Prop where
 k4:k.length=4
 m4:m.length=4
 eq:∀s,s < 4→m.getD s 0=(k.getD s []).length
def yj1 (m:Nat):List Int:=(List.range m).map Int.ofNat
structure Rng (k:yi8) (m:List Int):Prop where
 cnt:Cnt k m
 rg:∀s,s < 4→k.getD s []=yj1 (k.getD s []).length
section
variable {h:Hist} (hs:za2 h=true)
include hs
end
section
variable {h n:Hist} {ρ:Nat→Int→Int}
end
def zbt (t x:Int) (e:Ev):Bool:=e.kind==2 && e.t==t && e.o==x
def zs1 (h:Hist) (x:Int) (k:Nat):List Int:=(upR k).filter fun t=>h.evs.any (zbt t x) && zhq h.evs t 5
theorem yff (k:Nat):upR (k+1)=upR k++ [(k:Int)]:=by simp [upR,List.range_succ]
theorem zoy (h:Hist) (x:Int) (k:Nat):(zs1 h x k).length≤k:=by
 have:(zs1 h x k).length≤(upR k).length:=List.length_filter_le _ _
 simpa [upR] using this
section
variable {h:Hist} {i:Nat}
end
theorem zkl (h:Hist) (x:Int):(zd3 h x).length≤h.ts.length:=zoy h x _
section
variable {l:List Ev} {t x:Int} {k:Nat}
end
theorem zj3 (a b:Ver):([a.t,a.k]== [b.t,b.k])=(a==b):=by
 cases a;cases b
 rw [Bool.eq_iff_iff];simp
end Go.H
