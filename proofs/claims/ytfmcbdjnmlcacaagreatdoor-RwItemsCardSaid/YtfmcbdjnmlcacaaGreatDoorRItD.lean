/- A region that draws its order, with two new boxes among it and a store into the first. Conditions: the program draws freely ('mixedOrders'). -/
import Derived.Test.YtfmcbdjnmlcacaaGreatDoorRItC
set_option linter.unusedSimpArgs false
set_option linter.unusedVariables false
namespace Go.Ab
open Go
def ym3 (T:TypeId) (H:List Res) (he:List Res):Prop:=he=H∨(∃b c,he= .box b T c::H)∨∃b c b' c',he= .box b T c:: .box b' T c'::H
abbrev bp (b:Nat):AV:=pZ b
theorem ymg {nt:Nat} {t t':Fr} {h:List Res} {ds:List Nat} (hs:∀i,lk t' i=lk t i):Ent nt ⟨t,h,ds⟩ ⟨t',h,ds⟩:=
 ⟨fun _ h=>h,fun X ac w hsim=>⟨hsim.heap,hsim.size,fun i av e=>hsim.fr i av (by rw [←hs];exact e),hsim.defs⟩⟩
theorem yen {B B':Fr} (h:∀i,lk B i=lk B' i):∀{A:Fr} {i:Nat},lk (A++B) i=lk (A++B') i
 | [],i=>h i
 |(j,a)::r,i=>by
  simp only [List.cons_append,lk]
  split
  ·rfl
  ·exact yen h
theorem yle {di dj:Nat} {x y:AV} {t:Fr} (hdd:Nat.beq dj di=false) (i:Nat):lk ([(di,x),(dj,y)]++t) i=lk ([(dj,y),(di,x)]++t) i:=by
 simp only [List.cons_append,List.nil_append,lk]
 cases e1:Nat.beq di i with
 |false=>rfl
 |true=>
  cases e2:Nat.beq dj i with
  |false=>rfl
  |true=>
   rw [Nat.eq_of_beq_eq_true e1,Nat.eq_of_beq_eq_true e2] at hdd
   simp at hdd
theorem zz4 {P:Program} {ro:Option Nat} {nt rid:Nat} {Q:Exit→St→Prop} {l:List Oper} {t:Fr} {h:List Res} {dsl:List Nat} (n i j k di dj:Nat) (T:TypeId) {m:Nat} {zs:List Value} {y:Operand} (V:List AV)
 {ti tj tk:TypeId} {pi pj pk:String} {ai aj ak:Array Edge} [hm:Mixed P] [hz:Zer P T zs] [Siz P T m] (hc:zpc l n [i,j,k] []=true)
 (hi:l[i]? =some ⟨some di,.alloc T,ti,pi,ai,none⟩) (hj:l[j]? =some ⟨some dj,.alloc T,tj,pj,aj,none⟩) (hkk:l[k]? =some ⟨none,.store T (.tmp di) y,tk,pk,ak,none⟩)
 (hik:(zmn l k (u5 l k)).any (Nat.beq i)=true) (h1:Nat.beq i j=false) (h2:Nat.beq i k=false) (h3:Nat.beq j k=false) (hdi:dok nt (some di)=true) (hdj:dok nt (some dj)=true) (hVc:(AV.agg V).cellsOf=some V) (hV:V.length=m) (hzm:zs.length=m) (hdd:Nat.beq dj di=false) (hn:(Nat.blt i n && (Nat.blt j n && Nat.blt k n))=true)
 (hk:zc1 P ro nt (ym3 T h) l [i,j,k] (fun _=>zdc l n) t (l.take n) 0 [] (fun E=>
  (∀ee u,(∃b,ee= [(di,bp b)])∨(∃b c,ee= [(dj,bp c),(di,bp b)])∨(∃b c,ee= [(di,bp b),(dj,bp c)])→
   ev (zfq (zbz l ⟨none,.store T (.tmp di) y,tk,pk,ak,none⟩) E++(zfq (zbz l ⟨none,.store T (.tmp di) y,tk,pk,ak,none⟩) ee++(zok (zdc l n) t++u))) (.tmp di)=lk ee di∧
   ev (zfq (zbz l ⟨none,.store T (.tmp di) y,tk,pk,ak,none⟩) E++(zfq (zbz l ⟨none,.store T (.tmp di) y,tk,pk,ak,none⟩) ee++(zok (zdc l n) t++u))) y=some (.agg V))∧
  ∀b c,zb7 P ro nt l.toArray (l.drop n) Q ⟨(E++ [(di,bp b),(dj,bp c)])++t,.box b T V:: .box c T (zs.map .v)::h,dsl⟩)):
 aw P ro nt (.region rid l.toArray true) Q ⟨t,h,dsl⟩:=by
 have hij:i≠j:=fun e=>by subst e;simp at h1
 have hik':i≠k:=fun e=>by subst e;simp at h2
 have hjk:j≠k:=fun e=>by subst e;simp at h3
 have hmem:i∈zmn l k (u5 l k):=by
  obtain ⟨x,hx,e⟩:=List.any_eq_true.1 hik
  rw [Nat.eq_of_beq_eq_true e];exact hx
 simp only [Bool.and_eq_true] at hn
 have ni:=Nat.le_of_ble_eq_true hn.1
 have nj:=Nat.le_of_ble_eq_true hn.2.1
 have nk:=Nat.le_of_ble_eq_true hn.2.2
 refine zuq n [i,j,k] [] (ym3 T h) hc ?_
 have hmono:∀(os:List Oper) (q:Nat) (e:Fr) (K K':Fr→Prop),(∀e,K e→K' e)→zc1 P ro nt (ym3 T h) l ([i,j,k]++ []) (fun _=>zdc l n) t os q e K→zc1 P ro nt (ym3 T h) l ([i,j,k]++ []) (fun _=>zdc l n) t os q e K':=by
  intro os
  induction os with
  |nil=>intro q e K K' h hk;exact h _ hk
  |cons o os ih=>
   intro q e K K' h hk
   rcases hk with ⟨h1,h2⟩|⟨h1,d,av,h2,h3⟩
   ·exact .inl ⟨h1,ih _ _ _ _ h h2⟩
   ·exact .inr ⟨h1,d,av,h2,ih _ _ _ _ h h3⟩
 refine hmono _ _ _ _ _ (fun E hE=> ?_) hk
 obtain ⟨hE1,hE2⟩:=hE
 have Z:=zs.map AV.v
 refine ⟨fun L ee he=>(L= []∧ee= []∧he=h)∨(∃b,L= [i]∧ee= [(di,bp b)]∧he= .box b T (zs.map .v)::h)∨(∃c,L= [j]∧ee= [(dj,bp c)]∧he= .box c T (zs.map .v)::h)∨
  (∃b c,L= [j,i]∧ee= [(dj,bp c),(di,bp b)]∧he= .box c T (zs.map .v):: .box b T (zs.map .v)::h)∨(∃b c,L= [i,j]∧ee= [(di,bp b),(dj,bp c)]∧he= .box b T (zs.map .v):: .box c T (zs.map .v)::h)∨
  (∃b,L= [k,i]∧ee= [(di,bp b)]∧he= .box b T V::h)∨(∃b c,(L= [k,j,i]∨L= [j,k,i])∧ee= [(dj,bp c),(di,bp b)]∧he= .box c T (zs.map .v):: .box b T V::h)∨
  (∃b c,L= [k,i,j]∧ee= [(di,bp b),(dj,bp c)]∧he= .box b T V:: .box c T (zs.map .v)::h),.inl ⟨rfl,rfl,rfl⟩,?_,?_,?_⟩
 ·rintro L ee he (⟨_,_,rfl⟩|⟨b,_,_,rfl⟩|⟨c,_,_,rfl⟩|⟨b,c,_,_,rfl⟩|⟨b,c,_,_,rfl⟩|⟨b,_,_,rfl⟩|⟨b,c,_,_,rfl⟩|⟨b,c,_,_,rfl⟩)
  ·exact .inl rfl
  ·exact .inr (.inl ⟨_,_,rfl⟩)
  ·exact .inr (.inl ⟨_,_,rfl⟩)
  ·exact .inr (.inr ⟨_,_,_,_,rfl⟩)
  ·exact .inr (.inr ⟨_,_,_,_,rfl⟩)
  ·exact .inr (.inl ⟨_,_,rfl⟩)
  ·exact .inr (.inr ⟨_,_,_,_,rfl⟩)
  ·exact .inr (.inr ⟨_,_,_,_,rfl⟩)
 ·intro L ee he hJ q o hq hL ho hb u
  have hq':q=i∨q=j∨q=k:=by simpa using hq
  rcases hq' with rfl|rfl|rfl
  ·obtain rfl:_=o:=Option.some.inj (hi.symm.trans ho)
   rcases hJ with ⟨rfl,rfl,rfl⟩|⟨b,rfl,rfl,rfl⟩|⟨c,rfl,rfl,rfl⟩|⟨b,c,rfl,rfl,rfl⟩|⟨b,c,rfl,rfl,rfl⟩|⟨b,rfl,rfl,rfl⟩|⟨b,c,rfl|rfl,rfl,rfl⟩|⟨b,c,rfl,rfl,rfl⟩
   ·exact y6 hdi fun b=>⟨_,_,rfl,.inr (.inl ⟨b,rfl,rfl,rfl⟩)⟩
   ·exact absurd (by simp) hL
   ·exact y6 hdi fun b=>⟨_,_,rfl,.inr (.inr (.inr (.inr (.inl ⟨b,c,rfl,rfl,rfl⟩))))⟩
   all_goals exact absurd (by simp) hL
  ·obtain rfl:_=o:=Option.some.inj (hj.symm.trans ho)
   rcases hJ with ⟨rfl,rfl,rfl⟩|⟨b,rfl,rfl,rfl⟩|⟨c,rfl,rfl,rfl⟩|⟨b,c,rfl,rfl,rfl⟩|⟨b,c,rfl,rfl,rfl⟩|⟨b,rfl,rfl,rfl⟩|⟨b,c,rfl|rfl,rfl,rfl⟩|⟨b,c,rfl,rfl,rfl⟩
   ·exact y6 hdj fun c=>⟨_,_,rfl,.inr (.inr (.inl ⟨c,rfl,rfl,rfl⟩))⟩
   ·exact y6 hdj fun c=>⟨_,_,rfl,.inr (.inr (.inr (.inl ⟨b,c,rfl,rfl,rfl⟩)))⟩
   ·exact absurd (by simp) hL
   ·exact absurd (by simp) hL
   ·exact absurd (by simp) hL
   ·exact y6 hdj fun c=>⟨_,_,rfl,.inr (.inr (.inr (.inr (.inr (.inr (.inl ⟨b,c,.inr rfl,rfl,rfl⟩))))))⟩
   all_goals exact absurd (by simp) hL
  ·obtain rfl:_=o:=Option.some.inj (hkk.symm.trans ho)
   have hin:i∈L:=hb i hmem (by simp)
   have hl:∀(b:Nat) (r:Fr),lk ((di,bp b)::r) di=some (bp b):=fun b r=>by simp [lk]
   have hl2:∀(b c:Nat),lk [(dj,bp c),(di,bp b)] di=some (bp b):=fun b c=>by
    show (match Nat.beq dj di with|true=>some (bp c)|false=>lk [(di,bp b)] di)=_
    rw [hdd];exact hl b []
   rcases hJ with ⟨rfl,rfl,rfl⟩|⟨b,rfl,rfl,rfl⟩|⟨c,rfl,rfl,rfl⟩|⟨b,c,rfl,rfl,rfl⟩|⟨b,c,rfl,rfl,rfl⟩|⟨b,rfl,rfl,rfl⟩|⟨b,c,rfl|rfl,rfl,rfl⟩|⟨b,c,rfl,rfl,rfl⟩
   ·cases hin
   ·obtain ⟨a1,a2⟩:=hE1 [(di,bp b)] u (.inl ⟨b,rfl⟩)
    rw [hl] at a1
    exact j8 a1 a2 hVc ⟨.any,_,rfl,.inr (.inr (.inr (.inr (.inr (.inl ⟨b,rfl,rfl,rfl⟩)))))⟩ hV (by simp [hzm])
   ·exact absurd (by simpa using hin) hij
   ·obtain ⟨a1,a2⟩:=hE1 [(dj,bp c),(di,bp b)] u (.inr (.inl ⟨b,c,rfl⟩))
    rw [hl2] at a1
    exact j8 a1 a2 hVc ⟨.any,_,rfl,.inr (.inr (.inr (.inr (.inr (.inr (.inl ⟨b,c,.inl rfl,rfl,rfl⟩))))))⟩ hV (by simp [hzm])
   ·obtain ⟨a1,a2⟩:=hE1 [(di,bp b),(dj,bp c)] u (.inr (.inr ⟨b,c,rfl⟩))
    rw [hl] at a1
    exact j8 a1 a2 hVc ⟨.any,_,rfl,.inr (.inr (.inr (.inr (.inr (.inr (.inr ⟨b,c,rfl,rfl,rfl⟩))))))⟩ hV (by simp [hzm])
   all_goals exact absurd (by simp) hL
 ·intro L ee he hJ hall
  have ai:=hall i (by simp) ni
  have aj:=hall j (by simp) nj
  have ak:=hall k (by simp) nk
  refine ln ?_;rcases hJ with ⟨rfl,rfl,rfl⟩|⟨b,rfl,rfl,rfl⟩|⟨c,rfl,rfl,rfl⟩|⟨b,c,rfl,rfl,rfl⟩|⟨b,c,rfl,rfl,rfl⟩|⟨b,rfl,rfl,rfl⟩|⟨b,c,_,rfl,rfl⟩|⟨b,c,rfl,rfl,rfl⟩
  ·cases ai
  ·exact absurd (by simpa using ak) (Ne.symm hik')
  ·exact absurd (by simpa using ak) (Ne.symm hjk)
  ·exact absurd (show k=j∨k=i by simpa using ak) (fun q=>q.elim (Ne.symm hjk) (Ne.symm hik'))
  ·exact absurd (show k=i∨k=j by simpa using ak) (fun q=>q.elim (Ne.symm hik') (Ne.symm hjk))
  ·exact absurd (show j=k∨j=i by simpa using aj) (fun q=>q.elim hjk (Ne.symm hij))
  ·refine zgv (v8 (zah (.swap _ _ _)) (ymg fun q=> ?_)) (hE2 b c)
   rw [List.append_assoc,List.append_assoc]
   refine yen fun q=> ?_
   exact yle hdd q
  ·exact hE2 b c
theorem y0.lendG {P:Program} {fv fv':AV} {args args':List AV} {h:List Res} {R:AV→List Res→Prop} (hc:y0 P fv' args' [] R) (hR:∀r h',R r h'→Scal r∧∀x∈h',ym1 x)
 (hf:BLe h fv fv') (hle:yje h args args'):y0 P fv args h (fun r h'=>∃h'',h'=h''++h∧R r h''):=by
 intro X w v vs hh hv ha
 refine (hc noX w v vs (zqa w) (by rw [zo1];exact hf X w v hh hv) (by rw [zo1];exact hle.rels hh ha)).mono ?_
 rintro e w' ⟨u,av,h',e1,hRr,hrel,hh',hk⟩
 obtain ⟨hs1,hs2⟩:=hR _ _ hRr
 have hold:∀b,b < w.heap.size→w'.heap[b]? =w.heap[b]? ∧b ∉ u9 h':=fun b hb=>hk.same b hb (by simp [u9])
 have happ:u9 (h'++h)=u9 h'++u9 h:=by simp [u9,List.flatMap_append]
 have hkk:∀b,¬OO h X b→b < w.heap.size→w'.heap[b]? =w.heap[b]? ∧¬OO (h'++h) X b:=fun b hb hl=>by
  refine ⟨(hold b hl).1,fun q=> ?_⟩
  rcases q with q|q
  ·rw [happ,List.mem_append] at q
   rcases q with q|q
   ·exact (hold b hl).2 q
   ·exact hb (.inl q)
  ·exact hb (.inr q)
 have hh2:HRel X w' (h'++h):=by
  refine ⟨?_,fun b hb=> ?_,fun b hb=>Nat.lt_of_lt_of_le (hh.xlt b hb) hk.size,fun r hr=> ?_⟩
  ·rw [happ,List.nodup_append]
   exact ⟨hh'.nodup,hh.nodup,fun x hx y hy q=>(hold y (hh.lt y hy).1).2 (q ▸ hx)⟩
  ·rw [happ,List.mem_append] at hb
   rcases hb with hb|hb
   ·exact ⟨(hh'.lt b hb).1,fun hx=>(hold b (hh.xlt b hx)).2 hb⟩
   ·exact ⟨Nat.lt_of_lt_of_le (hh.lt b hb).1 hk.size,(hh.lt b hb).2⟩
  ·rcases List.mem_append.1 hr with hr|hr
   ·exact hs2 r hr (hh'.holds r hr)
   ·exact Res.holds_keep hk.size hkk (fun b hb=>(hold b (hh.lt b (k7.2 ⟨r,hr,hb⟩)).1).1) (hh.holds r hr)
 refine ⟨u,av,_,e1,⟨_,rfl,hRr⟩,hs1.rel hrel,hh2,⟨hk.size,fun b hb ho=>⟨(hold b hb).1,fun q=> ?_⟩,hk.env⟩⟩
 rw [happ,List.mem_append] at q
 exact q.elim (hold b hb).2 ho
end Go.Ab
namespace Go.H
open Go Go.Ab
abbrev iv (n:Int):AV:= .v (.int .i64 n)
abbrev bv (b:Bool):AV:= .v (.bool b)
abbrev sv (s:ByteArray):AV:= .v (.string s)
structure Ver where
 t:Int
 k:Int
 deriving DecidableEq
structure Seen where
 o:Int
 v:Ver
 deriving DecidableEq
structure Ev where
 kind:Int
 t:Int
 s:Int
 l:Int
 o:Int
 v:Ver
 p:Int
 scan:List Seen
 deriving DecidableEq
structure Ord where
 o:Int
 ts:List Int
 deriving DecidableEq
structure Mat where
 p:Int
 o:Int
 first:Bool
 ts:List Int
 deriving DecidableEq
structure Wan where
 s:Int
 bits:Int
 deriving DecidableEq
structure Hist where
 ts:List ByteArray
 ss:List ByteArray
 os:List ByteArray
 ps:List ByteArray
 evs:List Ev
 ords:List Ord
 mats:List Mat
 wants:List Wan
def zbo (n:Int):List AV:= [iv n]
def zmc (s:ByteArray):List AV:= [sv s]
def yav (v:Ver):List AV:= [iv v.t,iv v.k]
def za2 (s:Seen):List AV:= [iv s.o,iv s.v.t,iv s.v.k]
def zb5 (l:List Int):AV:= .list false 1 (l.map zbo)
def zcv (l:List ByteArray):AV:= .list false 1 (l.map zmc)
def zk1 (l:List Seen):AV:= .list false 3 (l.map za2)
def evR (e:Ev):List AV:= [iv e.kind,iv e.t,iv e.s,iv e.l,iv e.o,iv e.v.t,iv e.v.k,iv e.p,zk1 e.scan]
def zew (o:Ord):List AV:= [iv o.o,zb5 o.ts]
def zei (m:Mat):List AV:= [iv m.p,iv m.o,bv m.first,zb5 m.ts]
def zgk (w:Wan):List AV:= [iv w.s,iv w.bits]
def zwj (l:List Ev):AV:= .list false 9 (l.map evR)
def yg4 (l:List Ord):AV:= .list false 2 (l.map zew)
def ycv (l:List Mat):AV:= .list false 4 (l.map zei)
def zuy (l:List Wan):AV:= .list false 2 (l.map zgk)
def y9 (h:Hist):List AV:= [zcv h.ts,zcv h.ss,zcv h.os,zcv h.ps,zwj h.evs,yg4 h.ords,ycv h.mats,zuy h.wants]
def zjn (h:Hist):List AV:= [zcv h.ts,zcv h.ss,zcv h.os,zcv h.ps]
def za9 {α:Type} (p:α→Bool) (i:Nat):List α→Int
 | []=> -1
 |x::r=>if p x then i else za9 p (i+1) r
theorem zds {α:Type} (p:α→Bool):∀(l:List α) (i:Nat),decide (za9 p i l ≥ 0)=l.any p
 | [],i=>by simp [za9]
 |x::r,i=>by
  simp only [za9,List.any_cons]
  split
  ·rename_i h;simp [h]
  ·rename_i h;simp [h,zds p r (i+1)]
theorem zhq {α:Type} (p:α→Bool):∀(l:List α),(!l.any fun a=> !p a)=l.all p
 | []=>rfl
 |x::r=>by
  have:=zhq p r
  simp only [List.any_cons,List.all_cons,Bool.not_or,Bool.not_not,this]
def zuu {α β:Type} (p:α→β→Bool):List α→List β→Bool
 |x::xs,y::ys=>p x y && zuu p xs ys
 |_,_=>true
theorem zs1 {α β:Type} (p:α→β→Bool) (m:List β):zuu p [] m=true:=by cases m <;> rfl
def eqF {α β:Type} (p:α→β→Bool) (l:List α) (m:List β):Bool:=l.length==m.length && zuu p l m
def zjh (a b:Seen):Bool:= [a.o,a.v.t,a.v.k]== [b.o,b.v.t,b.v.k]
theorem ycm {b:Bool} (h:(!b)=true):b=false:=by simpa using h
theorem ycn {b:Bool} (h:(!b)=false):b=true:=by simpa using h
theorem zzk {α:Type} [DecidableEq α] {p:α→α→Bool} (hp:∀a b,p a b=decide (a=b)):∀(l m:List α),eqF p l m=decide (l=m)
 | [],[]=>by simp [eqF,zuu]
 |x::xs,[]=>by simp [eqF]
 | [],y::ys=>by simp [eqF]
 |x::xs,y::ys=>by
  have:=zzk hp xs ys
  simp only [eqF] at this
  simp only [eqF,zuu,List.length_cons,hp]
  by_cases h:x=y
  ·subst h
   simp only [decide_true,Bool.true_and,List.cons.injEq,true_and]
   rw [←this]
   congr 1
   simp
  ·simp [h]
def zx8 (c:Int):Bool:=decide (c ≥ 48) && decide (c≤57)
def yhr (c:Int):Bool:=c==95||(decide (c ≥ 97) && decide (c≤122))||(decide (c ≥ 65) && decide (c≤90))||decide (c ≥ 128)
def zd9 (l:List ByteArray) (n:Int):Bool:=decide (n ≥ 0) && decide (n < l.length)
def zwq (ts:List ByteArray) (v:Ver):Bool:=if v.k==0 then v.t==0 else zd9 ts v.t && decide (v.k > 0) && decide (v.k≤999)
def ylh (l:Int):Int:=if decide (l < 1)||decide (l > 4) then 190 else 0
def yig (a b:Ev):Bool:=a.kind==b.kind && a.t==b.t && a.s==b.s && a.l==b.l && a.o==b.o && [a.v.t,a.v.k]== [b.v.t,b.v.k] && a.p==b.p && eqF zjh a.scan b.scan
structure Lim (N:Nat) (h:Hist):Prop where
 ts:h.ts.length≤N
 ss:h.ss.length≤N
 os:h.os.length≤N
 ps:h.ps.length≤N
 evs:h.evs.length≤N
 ords:h.ords.length≤N
 mats:h.mats.length≤N
 wants:h.wants.length≤N
 scans:∀e∈h.evs,e.scan.length≤N
 ordts:∀o∈h.ords,o.ts.length≤N
 matts:∀m∈h.mats,m.ts.length≤N
structure Big (h:Hist):Prop where
 lim:Lim 4611686018427387904 h
 ts:h.ts.length≤8796093022208
 ss:h.ss.length≤8796093022208
 os:h.os.length≤8796093022208
 ps:h.ps.length≤8796093022208
 ords:h.ords.length≤4398046511104
 mats:h.mats.length≤2932031007402
 wants:h.wants.length≤8796093022208
 scans:∀e∈h.evs,e.scan.length≤5864062014805
 ordts:∀o∈h.ords,o.ts.length≤17592186044416
 matts:∀m∈h.mats,m.ts.length≤17592186044416
def nmK (h:Hist):Nat→List ByteArray
 |0=>h.ts
 |1=>h.ss
 |2=>h.os
 |_=>h.ps
theorem zx9 (h:Hist) {k:Nat} (hk:k < 4):(zjn h)[k]? =some (zcv (nmK h k)):=by
 match k,hk with
 |0,_=>rfl
 |1,_=>rfl
 |2,_=>rfl
 |3,_=>rfl
theorem Lim.nm {N:Nat} {h:Hist} (l:Lim N h) (k:Nat):(nmK h k).length≤N:=by
 match k with
 |0=>exact l.ts
 |1=>exact l.ss
 |2=>exact l.os
 |k+3=>exact l.ps
def zdu (h:Hist) (e:Ev):Bool:=zd9 h.ss e.s && ylh e.l==0
def zbm (h:Hist) (e:Ev):Bool:=zd9 h.os e.o && zwq h.ts e.v && e.v.t==e.t && decide (e.v.k > 0)
def zd1 (h:Hist) (e:Ev):Bool:=zd9 h.os e.o && zwq h.ts e.v
def zis (h:Hist) (s:Seen):Bool:=zd9 h.os s.o && zwq h.ts s.v
def zcj (h:Hist) (e:Ev):Bool:=zd9 h.ps e.p && decide ((e.scan.length:Int)≤40) && e.scan.all (zis h)
def zhb (h:Hist) (e:Ev):Ev×Bool:=
 if e.kind=1 then (⟨0,0,e.s,e.l,0,⟨0,0⟩,0,[]⟩,zdu h e) else
 if e.kind=2 then (⟨0,0,0,0,e.o,e.v,0,[]⟩,zbm h e) else
 if e.kind=3 then (⟨0,0,0,0,e.o,e.v,0,[]⟩,zd1 h e) else
 if e.kind=4 then (⟨0,0,0,0,0,⟨0,0⟩,e.p,e.scan⟩,zcj h e) else
 (⟨0,0,0,0,0,⟨0,0⟩,0,[]⟩,true)
def zdy (h:Hist) (e:Ev):Bool:=
 !(decide (e.kind < 1)||decide (e.kind ≥ 7)|| !zd9 h.ts e.t) && ((zhb h e).2 && yig {(zhb h e).1 with kind:=e.kind,t:=e.t} e)
theorem zzz (h:Hist) (e:Ev) {N:Nat} (he:e.scan.length≤N):(zhb h e).1.scan.length≤N:=by
 unfold zhb;repeat' split
 all_goals simp [he]
def tsB (h:Hist) (ts:List Int):Bool:=decide ((ts.length:Int)≤300) && ts.all (zd9 h.ts)
def zwh (h:Hist) (r:Ord):Bool:=zd9 h.os r.o && tsB h r.ts
def yc0 (h:Hist) (r:Mat):Bool:=zd9 h.ps r.p && zd9 h.os r.o && tsB h r.ts
def yd4 (h:Hist) (r:Wan):Bool:=zd9 h.ss r.s && decide (r.bits ≥ 0) && decide (r.bits≤15)
def bt (s:ByteArray) (i:Nat):Int:=if h:i < s.size then ((s[i]'h).toNat:Int) else 0
def zcg (i:Nat):Int:=
 if i < 128 then 240 else if i < 194 then 241 else if i < 224 then 2 else if i=224 then 19 else if i < 237 then 3 else if i=237 then 35 else
 if i < 240 then 3 else if i=240 then 52 else if i < 244 then 4 else if i=244 then 68 else 241
def y3:List AV:=(List.range 256).map fun i=> .v (.int .u8 (zcg i))
def zb0:Nat→Int
 |1=>160
 |3=>144
 |_=>128
def zb1:Nat→Int
 |2=>159
 |4=>143
 |_=>191
def y1:List AV:= [.v (.int .u8 128),.v (.int .u8 191),.v (.int .u8 160),.v (.int .u8 191),.v (.int .u8 128),.v (.int .u8 159),.v (.int .u8 144),.v (.int .u8 191),.v (.int .u8 128),.v (.int .u8 143)]++List.replicate 22 (.v (.int .u8 0))
def y2:List AV:= [iv 300,iv 60,iv 300,iv 60]
def bI (op:BinOp) (k:IntKind) (x y:Int):Int:=(ydv op k x y).getD 0
def sI (op:BinOp) (k:IntKind) (x y:Int):Int:=(zw2 op k x y).getD 0
def zcl (b m sh:Int):Int:=if sh=0 then IntKind.i32.wrap (bI .and .u8 b m) else sI .shl .i32 (IntKind.i32.wrap (bI .and .u8 b m)) sh
def zi8 (x:Int):Int:=sI .shr .i32 (sI .shl .i32 (IntKind.i32.wrap x) 31) 31
def y5 (s:ByteArray):Int×Int:=
 if s.size < 1 then (65533,0) else
 let x:=zcg (bt s 0).toNat
 if x ≥ 240 then (bI .or .i32 (bI .andNot .i32 (IntKind.i32.wrap (bt s 0)) (zi8 x)) (bI .and .i32 65533 (zi8 x)),1) else
 let sz:=x % 8
 let acc:=(x / 16).toNat
 if (s.size:Int) < sz then (65533,1) else
 if bt s 1 < zb0 acc∨zb1 acc < bt s 1 then (65533,1) else
 if sz≤2 then (bI .or .i32 (zcl (bt s 0) 31 6) (zcl (bt s 1) 63 0),2) else
 if bt s 2 < 128∨191 < bt s 2 then (65533,1) else
 if sz≤3 then (bI .or .i32 (bI .or .i32 (zcl (bt s 0) 15 12) (zcl (bt s 1) 63 6)) (zcl (bt s 2) 63 0),3) else
 if bt s 3 < 128∨191 < bt s 3 then (65533,1) else
 (bI .or .i32 (bI .or .i32 (bI .or .i32 (zcl (bt s 0) 7 18) (zcl (bt s 1) 63 12)) (zcl (bt s 2) 63 6)) (zcl (bt s 3) 63 0),4)
def zie (s:ByteArray):Int×Int:=if 0 < s.size∧bt s 0 < 128 then (bt s 0,1) else y5 s
theorem zfl (s:ByteArray) (i:Nat):0≤bt s i:=by unfold bt;split <;> omega
theorem zfk (s:ByteArray) (i:Nat):bt s i < 256:=by
 unfold bt;split
 ·rename_i h;have:=(s[i]'h).toNat_lt;omega
 ·omega
section
variable {P:Program} {dst:Option Tmp} {ty:TypeId} {pos:String} {after:Array Edge} {guard:Option (Nat×Bool)} {x y:Operand} {h:List Res} {f:Operand→Option AV}
theorem u7 {T:TypeId} (i:Nat) {s:ByteArray} (hx:f x=some (.v (.string s))) (hy:f y=some (.v (.int .i64 i))) [Und P T .string] (hi:i < s.size):
 QR P h f ⟨dst,.index T x y,ty,pos,after,guard⟩ (.v (.int .u8 (bt s i))):=by
 have:=zpt (P:=P) (h:=h) (T:=T) (dst:=dst) (ty:=ty) (pos:=pos) (after:=after) (guard:=guard) hx hy hi
 have e:bt s i=((s[i]'hi).toNat:Int):=by simp [bt,hi]
 rw [e];exact this
theorem j7 {T E:TypeId} {n b o sz:Nat} {i:Int} {kk:IntKind} (hx:f x=some (.v (.pointer (some ⟨b,o,none⟩)))) (hy:f y=some (.v (.int kk i))) [Und P T (.array n E)] [Siz P E sz] (h0:0≤i) (hi:i < n):
 QR P h f ⟨dst,.indexAddr T x y,ty,pos,after,guard⟩ (.v (.pointer (some ⟨b,o+i.toNat * sz,none⟩))):=
 zai (i:=i.toNat) hx (by rw [Int.toNat_of_nonneg h0];exact hy) (by omega)
end
theorem zci {i:Int} (h0:0≤i) (h1:i < 256):y3[0+i.toNat * 1]? =some (.v (.int .u8 (zcg i.toNat))):=by
 simp [y3,show i.toNat < 256 by omega]
def ylg:Nat→Nat
 |0=>300
 |1=>60
 |2=>300
 |_=>60
theorem zsd {k:Nat} (hk:k < 4):y2[0+k * 1]? =some (iv (ylg k)):=by
 match k,hk with
 |0,_=>rfl
 |1,_=>rfl
 |2,_=>rfl
 |3,_=>rfl
theorem zqe (i:Nat):zcg i=240∨zcg i=241∨zcg i=2∨zcg i=19∨zcg i=3∨zcg i=35∨zcg i=52∨zcg i=4∨zcg i=68:=by
 unfold zcg;repeat' split
 all_goals simp
theorem zz0 (s:ByteArray) (i:Nat):IntKind.i32.wrap (bt s i)=bt s i:=by
 have h0:=zfl s i;have h1:=zfk s i
 have e:bt s i % (2 ^ IntKind.i32.bits:Int)=bt s i:=Int.emod_eq_of_lt h0 (show bt s i < 4294967296 by omega)
 unfold IntKind.wrap
 simp only [e]
 rw [if_neg]
 intro q
 have q2:bt s i ≥ (2 ^ (IntKind.i32.bits - 1):Int):=by simpa using (Bool.and_eq_true_iff.1 q).2
 have:(2 ^ (IntKind.i32.bits - 1):Int)=2147483648:=by decide
 omega
theorem zwv {s:ByteArray} (h:(s.toList !=(ByteArray.mk #[]).toList)=true):0 < s.size:=by
 refine Nat.pos_of_ne_zero fun q=> ?_
 have e:s=⟨#[]⟩:=by cases s;congr 1;exact Array.eq_empty_of_size_eq_zero q
 rw [e] at h;simp at h
theorem yd8 {s:ByteArray} (h:(s.toList !=(ByteArray.mk #[]).toList)=false):¬0 < s.size:=by
 intro q
 have e:s.toList=(ByteArray.mk #[]).toList:=by simpa using h
 rw [ByteArray.toList_eq,ByteArray.toList_eq] at e
 have:s.size=0:=by
  have h2:=congrArg List.length e
  simpa using h2
 omega
def zrk (s:ByteArray) (i:Nat) (c:Int):Bool:=c !=65533||decide ((zie (s.extract i s.size)).2 > 1)
theorem zo7 (s:ByteArray) (i:Nat):0 < (Utf8.decode s i).2:=by
 simp only [Utf8.decode]
 repeat' split
 all_goals simp
def zdv (s:ByteArray) (p:Nat→Int→Bool) (pos:Nat):Nat:=
 if h:pos < s.size then
  if p pos (Utf8.decode s pos).1 then zdv s p (pos+(Utf8.decode s pos).2) else pos
 else s.size
 termination_by s.size - pos
 decreasing_by have:=zo7 s pos;omega
theorem zo8 {s:ByteArray} {p:Nat→Int→Bool} {k:Nat} (h:k < s.size) (hp:p k (Utf8.decode s k).1=true):zdv s p k=zdv s p (k+(Utf8.decode s k).2):=by
 rw [zdv,dif_pos h,if_pos hp]
theorem zrg {s:ByteArray} {p:Nat→Int→Bool} {k:Nat} (h:k < s.size) (hp:p k (Utf8.decode s k).1=false):zdv s p k=k:=by
 rw [zdv,dif_pos h,if_neg (by simp [hp])]
theorem zmo {s:ByteArray} {p:Nat→Int→Bool} {k:Nat} (h:¬k < s.size):zdv s p k=s.size:=by
 rw [zdv,dif_neg h]
def zfn (s:ByteArray) (goes:Int→Bool) (i:Nat) (c:Int):Bool:=zrk s i c && goes c
def zln (c:Int):Bool:=yhr c||zx8 c
def ziq (s:ByteArray):Bool:=(!(s.toList== [])) && decide ((s.size:Int)≤24) && (!zx8 (bt s 0)) && ((zdv s (zfn s zln) 0:Int)==s.size)
def zes:List ByteArray→List ByteArray→Bool
 |_,[]=>true
 |met,s::r=>ziq s && (!ycs s met) && zes (met++ [s]) r
def zjo (most:Nat) (l:List ByteArray):Bool:=decide ((l.length:Int)≤most) && zes [] l
def zw1 (h:Hist):Bool:=decide ((h.evs.length:Int)≤3000) && decide (max (max (h.ords.length:Int) h.mats.length) h.wants.length≤3000)
def okK (h:Hist):Nat→Bool
 |0=>zw1 h
 |k+1=>okK h k && zjo (ylg k) (nmK h k)
def za5 (h:Hist):Bool:=
 okK h 4 && h.evs.all (zdy h) && h.ords.all (zwh h) && h.mats.all (yc0 h) && h.wants.all (yd4 h)
theorem zte (h:Hist):okK h 0=(decide (((h.evs.map evR).length:Int)≤3000) && decide (max (max ((h.ords.map zew).length:Int) (h.mats.map zei).length) (h.wants.map zgk).length≤3000)):=by
 simp [okK,zw1]
theorem zh7 {h:Hist} {k:Nat} (hk:okK h k=false):∀n,okK h (k+n)=false
 |0=>hk
 |n+1=>by
  have ih:=zh7 hk n
  show (okK h (k+n) && _)=false
  rw [ih,Bool.false_and]
def okj (h:Hist) (k j:Nat):Bool:=okK h k && decide (((nmK h k).length:Int)≤ylg k)
theorem yej (h:Hist) (k:Nat):okj h k 0=(okK h k && decide ((((nmK h k).map zmc).length:Int)≤ylg k)):=by simp [okj]
theorem yn3 {o:Bool} {l m r:List ByteArray} {x:ByteArray} (hf:zes [] l=zes m (x::r)) (h:(o && ziq x && !ycs x m)=false):o=false∨zes [] l=false:=by
 cases o with
 |false=>exact .inl rfl
 |true=>rw [Bool.true_and] at h;rw [hf,zes,h,Bool.false_and];exact .inr rfl
theorem yk1 {o a b:Bool} (h:(o && a && !b)=true):o=true∧a=true∧b=false:=by
 cases o <;> cases a <;> cases b <;> simp_all
theorem ykz {h:Hist} {k:Nat} (h0:zes [] (nmK h k)=true):okj h k 0=okK h (k+1):=by
 simp [okj,okK,zjo,h0]
theorem yk0 {h:Hist} {k:Nat} (hk:k < 4) (h0:okj h k 0=false∨zes [] (nmK h k)=false):okK h 4=false:=by
 have h1:okK h (k+1)=false:=by
  rcases h0 with h0|h0
  ·simp only [okK,zjo];simp only [okj] at h0;rw [←Bool.and_assoc,h0,Bool.false_and]
  ·simp [okK,zjo,h0]
 have:=zh7 h1 (3 - k)
 rwa [show k+1+(3 - k)=4 by omega] at this
def zf3 (v:Ver):List (Nat×Int):=if decide (v.k > 0) then [(0,v.t)] else []
def zw7 (s:Seen):List (Nat×Int):=(2,s.o)::zf3 s.v
def zf6 (e:Ev):List (Nat×Int):=if e.kind=1 then [(1,e.s)] else if e.kind=2∨e.kind=3 then (2,e.o)::zf3 e.v else if e.kind=4 then [(3,e.p)] else []
theorem zyt {e:Ev} (h:e.kind=1):zf6 e= [(1,e.s)]:=by rw [zf6,if_pos h]
theorem zlg {e:Ev} (h:e.kind=2∨e.kind=3):zf6 e=(2,e.o)::zf3 e.v:=by rw [zf6,if_neg (by omega),if_pos h]
theorem zys {e:Ev} (h:e.kind=4):zf6 e= [(3,e.p)]:=by rw [zf6,if_neg (by omega),if_neg (by omega),if_pos h]
theorem zyu {e:Ev} (h1:e.kind≠1) (h2:e.kind≠2) (h3:e.kind≠3) (h4:e.kind≠4):zf6 e= []:=by rw [zf6,if_neg h1,if_neg (by omega),if_neg h4]
def evL (e:Ev):List (Nat×Int):=(0,e.t)::(zf6 e++e.scan.flatMap zw7)
def tsL (l:List Int):List (Nat×Int):=l.map fun t=>(0,t)
def yg5 (r:Ord):List (Nat×Int):=(2,r.o)::tsL r.ts
def ycx (r:Mat):List (Nat×Int):=(3,r.p)::(2,r.o)::tsL r.ts
def yak (r:Wan):List (Nat×Int):= [(1,r.s)]
def zda (h:Hist):List (Nat×Int):=h.evs.flatMap evL++(h.ords.flatMap yg5++(h.mats.flatMap ycx++h.wants.flatMap yak))
def goes {σ α:Type} (step:σ→α→Option σ):Option σ→List α→Option σ
 |st,[]=>st
 |st,x::r=>goes step (st.bind fun s=>step s x) r
theorem zlj {σ α:Type} (step:σ→α→Option σ):∀(l m:List α) (st:Option σ),goes step st (l++m)=goes step (goes step st l) m
 | [],m,st=>rfl
 |x::l,m,st=>zlj step l m _
def Rem {σ α:Type} (step:σ→α→Option σ) (ok:α→Prop) (st:Option σ) (l:List α) (F:Option σ):Prop:=goes step st l=F∧∀x∈l,ok x
section
variable {σ α:Type} {step:σ→α→Option σ} {ok:α→Prop} {st F:Option σ} {l m:List α} {x:α}
theorem Rem.cons (h:Rem step ok st (x::l) F):ok x∧Rem step ok (goes step st [x]) l F:=⟨h.2 x (by simp),h.1,fun y hy=>h.2 y (by simp [hy])⟩
theorem Rem.app (h:Rem step ok st (l++m) F):(∀x∈l,ok x)∧Rem step ok (goes step st l) m F:=⟨fun y hy=>h.2 y (by simp [hy]),by rw [←zlj];exact h.1,fun y hy=>h.2 y (by simp [hy])⟩
theorem Rem.fin (h:Rem step ok st [] F):st=F:=h.1
end
def zeb (m:List Int) (x:Nat×Int):Option (List Int):=
 let a:=m.getD x.1 0
 if x.2 > a then none else some (m.set x.1 (max a (x.2+1)))
def zp2 (h:Hist):Option (List Int):=goes zeb (some [0,0,0,0]) (zda h)
def zvr (h:Hist):List Int:= [h.ts.length,h.ss.length,h.os.length,h.ps.length]
def zfp (h:Hist):Bool:=za5 h && (zp2 h==some (zvr h))
def zdk (h:Hist):Int:=if zfp h then 0 else 210
def ylt:Hist:=⟨[],[],[],[],[],[],[],[]⟩
def ofL (t:Int):Nat→List Ev→List Int
 |_,[]=> []
 |i,e::r=>if e.t=t then (i:Int)::ofL t (i+1) r else ofL t (i+1) r
def ymq (l:List Ev) (t:Int):Bool:=l.any fun e=>e.t==t && e.kind==1
def yn0 (l:List Ev) (t:Int):Bool:=l.any fun e=>e.t==t && (e.kind==5||e.kind==6)
def ymx (t:Nat):Ev:=⟨6,t,0,0,0,⟨0,0⟩,0,[]⟩
def ykw (h:Hist):List Nat:=(List.range h.ts.length).filter fun t=>ymq h.evs t && !yn0 h.evs t
def ye2 (h:Hist):Hist:={h with evs:=h.evs++(ykw h).map ymx}
def zzr (h:Hist):Int:=if zfp h then (if h.evs.length+(ykw h).length≤3000 then 0 else 6) else 210
def ye1 (h:Hist):Hist:=if zzr h=0 then ye2 h else ylt
def ofR (h:Hist) (t:Int):List Int:=if zfp h then ofL t 0 h.evs else []
def zo9 {σ α:Type} (f:σ→α→α×σ):σ→List α→List α×σ
 |s,[]=>([],s)
 |s,x::r=>((f s x).1::(zo9 f (f s x).2 r).1,(zo9 f (f s x).2 r).2)
section
variable {σ:Type} (f:σ→Nat→Int→Int×σ)
def zwu (s:σ) (v:Ver):Ver×σ:=if decide (v.k > 0) then (⟨(f s 0 v.t).1,v.k⟩,(f s 0 v.t).2) else (v,s)
def yaw (s:σ) (x:Seen):Seen×σ:=
 let a:=f s 2 x.o
 let b:=zwu f a.2 x.v
 (⟨a.1,b.1⟩,b.2)
def yax (s:σ) (e:Ev):Ev×σ:=
 if e.kind=1 then let a:=f s 1 e.s;({e with s:=a.1},a.2) else
 if e.kind=2∨e.kind=3 then let a:=f s 2 e.o;let b:=zwu f a.2 e.v;({e with o:=a.1,v:=b.1},b.2) else
 if e.kind=4 then let a:=f s 3 e.p;({e with p:=a.1},a.2) else (e,s)
def yji (s:σ) (e:Ev):Ev×σ:=
 let a:=f s 0 e.t
 let b:=yax f a.2 {e with t:=a.1}
 let c:=zo9 (yaw f) b.2 e.scan
 ({b.1 with scan:=c.1},c.2)
def yd6 (s:σ) (l:List Int):List Int×σ:=zo9 (fun s n=>f s 0 n) s l
def yfl (s:σ) (r:Ord):Ord×σ:=
 let a:=f s 2 r.o
 let b:=yd6 f a.2 r.ts
 (⟨a.1,b.1⟩,b.2)
def yfm (s:σ) (r:Mat):Mat×σ:=
 let a:=f s 3 r.p
 let b:=f a.2 2 r.o
 let c:=yd6 f b.2 r.ts
 (⟨a.1,b.1,r.first,c.1⟩,c.2)
def yfk (s:σ) (r:Wan):Wan×σ:=let a:=f s 1 r.s;(⟨a.1,r.bits⟩,a.2)
def yni (s:σ) (h:Hist):Hist×σ:=
 let a:=zo9 (yji f) s h.evs
 let b:=zo9 (yfl f) a.2 h.ords
 let c:=zo9 (yfm f) b.2 h.mats
 let d:=zo9 (yfk f) c.2 h.wants
 ({h with evs:=a.1,ords:=b.1,mats:=c.1,wants:=d.1},d.2)
end
def ykn (n:Int):Nat→List Int→Option Nat
 |_,[]=>none
 |i,x::r=>if x=n then some i else ykn n (i+1) r
abbrev yjd:=List (List Int)
def yhb (k:yjd) (sort:Nat) (n:Int):Int×yjd:=
 match ykn n 0 (k.getD sort []) with
 |some i=>((i:Int),k)
 |none=>(((k.getD sort []).length:Int),k.set sort (k.getD sort []++ [n]))
def yn2:yjd:= [[],[],[],[]]
def zts (l:List ByteArray) (n:Int):ByteArray:=l.getD n.toNat ⟨#[]⟩
def yha (h:Hist):Hist:=
 let r:=yni yhb yn2 h
 {r.1 with ts:=(r.2.getD 0 []).map (zts h.ts),ss:=(r.2.getD 1 []).map (zts h.ss),os:=(r.2.getD 2 []).map (zts h.os),ps:=(r.2.getD 3 []).map (zts h.ps)}
def numR (h:Hist):Hist:=if za5 h then yha h else ylt
def yo8 (h:Hist):Int:=if za5 h then 0 else 210
theorem zw8 (a b:Seen):zjh a b=decide (a=b):=by
 obtain ⟨ao,at_,ak⟩:=a;obtain ⟨bo,bt_,bk⟩:=b
 simp only [zjh,Seen.mk.injEq,Ver.mk.injEq]
 by_cases h1:ao=bo <;> by_cases h2:at_=bt_ <;> by_cases h3:ak=bk <;> simp [h1,h2,h3]
theorem yif (a b:Ev):yig a b=decide (a=b):=by
 obtain ⟨a1,a2,a3,a4,a5,⟨a6,a7⟩,a8,a9⟩:=a;obtain ⟨b1,b2,b3,b4,b5,⟨b6,b7⟩,b8,b9⟩:=b
 simp only [yig,zzk zw8,Ev.mk.injEq,Ver.mk.injEq]
 rw [Bool.eq_iff_iff]
 simp [and_assoc]
def OkN (h:Hist) (x:Nat×Int):Prop:=x.1 < 4∧0≤x.2∧x.2 < (nmK h x.1).length
theorem za1 (l:List ByteArray) (n:Int):zd9 l n=true ↔ 0≤n∧n < l.length:=by simp [zd9]
theorem zsb {h:Hist} {v:Ver} (hv:zwq h.ts v=true):∀x∈zf3 v,OkN h x:=by
 intro x hx
 unfold zf3 at hx
 split at hx
 ·rename_i hk
  have hk':v.k > 0:=oT hk
  simp only [List.mem_singleton] at hx
  subst hx
  unfold zwq at hv
  rw [if_neg (by simp;omega)] at hv
  simp only [Bool.and_eq_true,za1] at hv
  exact ⟨by simp,hv.1.1.1,hv.1.1.2⟩
 ·simp at hx
theorem seen_ok {h:Hist} {s:Seen} (hs:zis h s=true):∀x∈zw7 s,OkN h x:=by
 simp only [zis,Bool.and_eq_true,za1] at hs
 intro x hx
 simp only [zw7,List.mem_cons] at hx
 rcases hx with rfl|hx
 ·exact ⟨by simp,hs.1.1,hs.1.2⟩
 ·exact zsb hs.2 x hx
theorem zb3 {h:Hist} {e:Ev} (he:zdy h e=true):1≤e.kind∧e.kind < 7∧zd9 h.ts e.t=true∧(zhb h e).2=true∧{(zhb h e).1 with kind:=e.kind,t:=e.t}=e:=by
 simp only [zdy,yif,Bool.and_eq_true,Bool.not_eq_true',Bool.or_eq_false_iff,decide_eq_true_eq,decide_eq_false_iff_not,Bool.not_eq_false'] at he
 exact ⟨by omega,by omega,he.1.2,he.2.1,he.2.2⟩
theorem yoq {h:Hist} {e:Ev} (he:zdy h e=true):∀x∈evL e,OkN h x:=by
 obtain ⟨h1,h7,ht,hc,hq⟩:=zb3 he
 have ht':=(za1 _ _).1 ht
 intro x hx
 simp only [evL,List.mem_cons,List.mem_append] at hx
 rcases hx with rfl|hx
 ·exact ⟨by simp,ht'.1,ht'.2⟩
 unfold zhb at hc hq
 by_cases k1:e.kind=1
 ·rw [if_pos k1] at hc hq
  simp only [zdu,Bool.and_eq_true,za1] at hc
  have hs:e.scan= []:=by rw [←hq]
  rw [hs,zyt k1] at hx
  simp only [List.mem_singleton,List.flatMap_nil,List.not_mem_nil,or_false] at hx
  subst hx;exact ⟨by simp,hc.1.1,hc.1.2⟩
 rw [if_neg k1] at hc hq
 by_cases k2:e.kind=2
 ·rw [if_pos k2] at hc hq
  simp only [zbm,Bool.and_eq_true,za1] at hc
  have hs:e.scan= []:=by rw [←hq]
  rw [hs,zlg (.inl k2)] at hx
  simp only [List.mem_cons,List.flatMap_nil,List.not_mem_nil,or_false] at hx
  rcases hx with rfl|hx
  ·exact ⟨by simp,hc.1.1.1.1,hc.1.1.1.2⟩
  ·exact zsb hc.1.1.2 x hx
 rw [if_neg k2] at hc hq
 by_cases k3:e.kind=3
 ·rw [if_pos k3] at hc hq
  simp only [zd1,Bool.and_eq_true,za1] at hc
  have hs:e.scan= []:=by rw [←hq]
  rw [hs,zlg (.inr k3)] at hx
  simp only [List.mem_cons,List.flatMap_nil,List.not_mem_nil,or_false] at hx
  rcases hx with rfl|hx
  ·exact ⟨by simp,hc.1.1,hc.1.2⟩
  ·exact zsb hc.2 x hx
 rw [if_neg k3] at hc hq
 by_cases k4:e.kind=4
 ·rw [if_pos k4] at hc hq
  simp only [zcj,Bool.and_eq_true,za1,List.all_eq_true] at hc
  rw [zys k4] at hx
  simp only [List.mem_singleton,List.mem_flatMap] at hx
  rcases hx with rfl|⟨s,hs,hx⟩
  ·exact ⟨by simp,hc.1.1.1,hc.1.1.2⟩
  ·exact seen_ok (hc.2 s hs) x hx
 rw [if_neg k4] at hc hq
 have hs:e.scan= []:=by rw [←hq]
 rw [hs,zyu k1 k2 k3 k4] at hx
 simp at hx
theorem yjh {h:Hist} {ts:List Int} (ht:tsB h ts=true):∀x∈tsL ts,OkN h x:=by
 simp only [tsB,Bool.and_eq_true,List.all_eq_true,za1] at ht
 intro x hx
 simp only [tsL,List.mem_map] at hx
 obtain ⟨t,h1,rfl⟩:=hx
 exact ⟨by simp,(ht.2 t h1).1,(ht.2 t h1).2⟩
theorem zdx {h:Hist} (hs:za5 h=true):okK h 4=true∧(∀e∈h.evs,zdy h e=true)∧(∀r∈h.ords,zwh h r=true)∧(∀r∈h.mats,yc0 h r=true)∧∀r∈h.wants,yd4 h r=true:=by
 simp only [za5,Bool.and_eq_true,List.all_eq_true] at hs
 exact ⟨hs.1.1.1.1,hs.1.1.1.2,hs.1.1.2,hs.1.2,hs.2⟩
theorem zw3 {h:Hist} (hs:za5 h=true):∀x∈zda h,OkN h x:=by
 obtain ⟨_,h1,h2,h3,h4⟩:=zdx hs
 intro x hx
 simp only [zda,List.mem_append,List.mem_flatMap] at hx
 rcases hx with ⟨e,he,hx⟩|⟨r,hr,hx⟩|⟨r,hr,hx⟩|⟨r,hr,hx⟩
 ·exact yoq (h1 e he) x hx
 ·have:=h2 r hr
  simp only [zwh,Bool.and_eq_true,za1] at this
  simp only [yg5,List.mem_cons] at hx
  rcases hx with rfl|hx
  ·exact ⟨by simp,this.1.1,this.1.2⟩
  ·exact yjh this.2 x hx
 ·have:=h3 r hr
  simp only [yc0,Bool.and_eq_true,za1] at this
  simp only [ycx,List.mem_cons] at hx
  rcases hx with rfl|rfl|hx
  ·exact ⟨by simp,this.1.1.1,this.1.1.2⟩
  ·exact ⟨by simp,this.1.2.1,this.1.2.2⟩
  ·exact yjh this.2 x hx
 ·have:=h4 r hr
  simp only [yd4,Bool.and_eq_true,za1] at this
  simp only [yak,List.mem_singleton] at hx
  subst hx
  exact ⟨by simp,this.1.1.1,this.1.1.2⟩
theorem yoh {m:List Int} (hl:m.length=4) {k:Nat} (hk:k < 4):(m.map iv)[0+k * 1]? =some (iv (m.getD k 0)):=by
 have h:k < m.length:=by omega
 simp [h]
theorem ypq {m:List Int} (hl:m.length=4) {k:Nat} (hk:k < 4) (v:Int):(m.map iv).take (0+k * 1)++ [iv v]++(m.map iv).drop (0+k * 1+1)=(m.set k v).map iv:=by
 match m,hl with
 | [a,b,c,d],_=>
   match k,hk with
   |0,_=>rfl
   |1,_=>rfl
   |2,_=>rfl
   |3,_=>rfl
theorem yds {h:Hist} (hs:za5 h=false):zdk h=210:=by simp [zdk,zfp,hs]
theorem zv7 {h:Hist} (hm:zp2 h=none):zdk h=210:=by
 have e:(zp2 h==some (zvr h))=false:=by rw [hm];rfl
 rw [zdk,zfp,e,Bool.and_false];rfl
theorem yc5 (h:Hist) {k:Nat} (hk:k < 4):(zvr h).getD k 0=(nmK h k).length:=by
 match k,hk with
 |0,_=>rfl
 |1,_=>rfl
 |2,_=>rfl
 |3,_=>rfl
theorem ydt {h:Hist} {m:List Int} (hm:zp2 h=some m) {k:Nat} (hk:k < 4) (hne:m.getD k 0≠(nmK h k).length):zdk h=210:=by
 have e:(zp2 h==some (zvr h))=false:=by
  rw [hm]
  simp only [Option.some_beq_some,beq_eq_false_iff_ne]
  rintro rfl
  exact hne (yc5 h hk)
 rw [zdk,zfp,e,Bool.and_false];rfl
theorem ydu {h:Hist} (hs:za5 h=true) {m:List Int} (hm:zp2 h=some m) (hl:m.length=4) (he:∀k,k < 4→m.getD k 0=(nmK h k).length):zdk h=0:=by
 have e:m=zvr h:=by
  match m,hl with
  | [a,b,c,d],_=>
    have h0:=he 0 (by omega);have h1:=he 1 (by omega);have h2:=he 2 (by omega);have h3:=he 3 (by omega)
    simp [nmK] at h0 h1 h2 h3
    simp [zvr,h0,h1,h2,h3]
 rw [zdk,zfp,hs,hm,e];simp
theorem zzx {h:Hist}:zdk h=0 ↔ zfp h=true:=by unfold zdk;split <;> simp_all
def yi8 (p:SV×Ev):List AV:= [iv p.2.kind,iv p.2.t,iv p.2.s,iv p.2.l,iv p.2.o,iv p.2.v.t,iv p.2.v.k,iv p.2.p,.v p.1.v]
structure NV where
 vT:SV
 vS:SV
 vO:SV
 vP:SV
structure OH where
 vE:SV
 vR:SV
 vM:SV
 vW:SV
 ts:List ByteArray
 ss:List ByteArray
 os:List ByteArray
 ps:List ByteArray
 evs:List (SV×Ev)
 ords:List (SV×Ord)
 mats:List (SV×Mat)
 wants:List Wan
def scR (T:TypeId) (l:List (SV×Ev)):List Res:=l.map fun p=> .row p.1.v 3 T (p.2.scan.map za2)
def yel:AV:= .v (.slice none 0 0)
def zqb:List AV:= [yel,yel,yel,yel,yel,yel,yel,yel]
theorem zlc {α:Type} {R:α→List AV} (h:∀a,(R a).all AV.one=true) (l:List α):∀r∈l.map R,r.all AV.one=true:=by
 intro r hr;obtain ⟨a,_,rfl⟩:=List.mem_map.1 hr;exact h a
theorem ziy (l:List Int):∀r∈l.map zbo,r.all AV.one=true:=zlc (fun a=>rfl) l
theorem zh6 (l:List Seen):∀r∈l.map za2,r.all AV.one=true:=zlc (fun a=>rfl) l
theorem yky (l:List Ev):∀r∈l.map evR,r.all AV.one=true:=zlc (fun a=>rfl) l
theorem yg6 (l:List Ord):∀r∈l.map zew,r.all AV.one=true:=zlc (fun a=>rfl) l
theorem yg7 (l:List Mat):∀r∈l.map zei,r.all AV.one=true:=zlc (fun a=>rfl) l
section
variable {α β:Type} {f:α→List AV} {g:β→List AV} {xs:List α} {l:List β} {k:Nat} {b:β} {a:α} {r:List AV}
theorem yhi (hl:xs.length=k) (hk:k≤l.length):(xs.map f++(l.drop k).map g).length=l.length:=by
 simp [hl];omega
theorem yhj (hl:xs.length=k) (hd:l.drop k=b::l.drop (k+1)):(xs.map f++(l.drop k).map g)[k]? =some (g b):=by
 rw [hd,List.getElem?_append_right (by simp [hl])];simp [hl]
theorem yhh (hl:xs.length=k) (hd:l.drop k=b::l.drop (k+1)) (hr:r=f a):(xs.map f++(l.drop k).map g).set k r=(xs++ [a]).map f++(l.drop (k+1)).map g:=by
 subst hl hr
 rw [hd,List.set_append_right _ _ (by simp)]
 simp
theorem ycq {snd:α→β} (h:xs.map snd=l.take k) (hk:k≤l.length):xs.length=k:=by
 have:=congrArg List.length h;simp at this;omega
theorem ycp {snd:α→β} (h:xs.map snd=l.take k) (hk:k < l.length) (ha:snd a=l[k]):(xs++ [a]).map snd=l.take (k+1):=by
 rw [List.map_append,h,List.take_succ_eq_append_getElem hk];simp [ha]
end
theorem zu1 {h:Hist} (hs:za5 h=true):Lim 3000 h:=by
 obtain ⟨h0,h1,h2,h3,h4⟩:=zdx hs
 have hk:∀k,k < 4→okK h (k+1)=true:=fun k hk=>by
  cases hq:okK h (k+1) with
  |true=>rfl
  |false=>
   have:=zh7 hq (3 - k)
   rw [show k+1+(3 - k)=4 by omega,h0] at this;cases this
 have hn:∀k,k < 4→(nmK h k).length≤300:=fun k hk4=>by
  have:=hk k hk4
  simp only [okK,zjo,Bool.and_eq_true,decide_eq_true_eq] at this
  have h5:ylg k≤300:=by
   match k,hk4 with
   |0,_=>decide
   |1,_=>decide
   |2,_=>decide
   |3,_=>decide
  omega
 have hz:okK h 0=true:=by
  cases hq:okK h 0 with
  |true=>rfl
  |false=>have:=zh7 hq 4;rw [h0] at this;cases this
 simp only [okK,zw1,Bool.and_eq_true,decide_eq_true_eq] at hz
 refine ⟨by have:=hn 0 (by omega);simp [nmK] at this;omega,by have:=hn 1 (by omega);simp [nmK] at this;omega,by have:=hn 2 (by omega);simp [nmK] at this;omega,by have:=hn 3 (by omega);simp [nmK] at this;omega,by omega,by omega,by omega,by omega,fun e he=> ?_,fun o ho=> ?_,fun m hm=> ?_⟩
 ·obtain ⟨_,_,_,hc,hq⟩:=zb3 (h1 e he)
  rw [←hq]
  show (zhb h e).1.scan.length≤3000
  unfold zhb at hc ⊢
  repeat' split
  all_goals first|(simp only [List.length_nil];omega)|skip
  rename_i g1 g2 g3 g4
  rw [if_neg g1,if_neg g2,if_neg g3,if_pos g4] at hc
  simp only [zcj,Bool.and_eq_true,decide_eq_true_eq] at hc
  show e.scan.length≤3000
  omega
 ·have:=h2 o ho
  simp only [zwh,tsB,Bool.and_eq_true,decide_eq_true_eq] at this
  omega
 ·have:=h3 m hm
  simp only [yc0,tsB,Bool.and_eq_true,decide_eq_true_eq] at this
  omega
section
variable {σ α:Type} (f:σ→Nat→Int→Int×σ)
end
section
variable {α:Type} {f:α→List AV} {A B:List α} {k:Nat} {b a:α} {r:List AV}
end
def zl2 (b:Bool):List AV:= [bv b]
structure KOk (h:Hist) (k:yjd):Prop where
 four:k.length=4
 nd:∀s,(k.getD s []).Nodup
 lt:∀s,∀n∈k.getD s [],0≤n∧n < (nmK h s).length
theorem zkc:∀{N:Nat} {l:List Nat},l.Nodup→(∀n∈l,n < N)→l.length≤N
 |0,[],_,_=>Nat.le_refl _
 |0,x::l,_,h=>absurd (h x (by simp)) (Nat.not_lt_zero _)
 |N+1,l,hn,h=>by
  by_cases hm:N∈l
  ·have e:(l.erase N).length=l.length - 1:=List.length_erase_of_mem hm
   have:=zkc (N:=N) (l:=l.erase N) (hn.erase N) (fun n hn'=>by
    have h1:=h n (List.mem_of_mem_erase hn')
    have h2:n≠N:=fun q=>by subst q;exact (List.Nodup.not_mem_erase hn) hn'
    omega)
   omega
  ·have:=zkc (N:=N) (l:=l) hn (fun n hn'=>by
    have h1:=h n hn'
    have h2:n≠N:=fun q=>by subst q;exact hm hn'
    omega)
   omega
section
variable {w:World} {O O':Nat→Prop}
def CT (w:World) (O O':Nat→Prop):List AV→List AV→Prop
 | [],[]=>True
 |a::as,b::bs=>(∀u,Rel w O a u→Rel w O' b u)∧CT w O O' as bs
 |_,_=>False
theorem CT.len:∀{as bs:List AV},CT w O O' as bs→bs.length=as.length
 | [],[],_=>rfl
 |_::_,_::_,h=>by simp [CT.len h.2]
 | [],_::_,h=>h.elim
 |_::_,[],h=>h.elim
theorem CT.get:∀{as bs:List AV},CT w O O' as bs→∀j (k:j < as.length) (k':j < bs.length) u,Rel w O as[j] u→Rel w O' bs[j] u
 |_::_,_::_,h,0,_,_,u,r=>h.1 u r
 |_::_,_::_,h,j+1,k,k',u,r=>CT.get h.2 j (by simpa using k) (by simpa using k') u r
theorem sc (x:Value):∀u,Rel w O (.v x) u→Rel w O' (.v x) u:=fun u r=>(Scal.v x).rel r
theorem sn {x:Value} {b:AV} (h:Rel w O' b x):∀u,Rel w O (.v x) u→Rel w O' b u:=fun u r=>by rw [r.v_eq];exact h
theorem yfn {X:Nat→Prop} {H:List Res} (hh:HRel X w H) {s:Value} {sz:Nat} {T:TypeId} {α:Type} {f g:α→List AV} {l:List α} (hm: .row s sz T (l.map f)∈H) (hO:∀b∈(Res.row s sz T (l.map f)).own,¬O' b)
 (hc:∀a∈l,CT w (OO H X) O' (f a) (g a)):Rel w O' (.list false sz (l.map g)) s:=by
 refine zrr hh hm hO (by simp) (fun i h h'=> ?_) (fun i h h' j k k' u r=> ?_)
 ·simp only [List.getElem_map];exact (hc _ (List.getElem_mem _)).len
 ·simp only [List.getElem_map] at k k' r ⊢
  exact (hc _ (List.getElem_mem _)).get j k k' u r
end
def bT:ByteArray:=⟨#[116]⟩
def bS:ByteArray:=⟨#[115]⟩
def bX:ByteArray:=⟨#[120]⟩
def bY:ByteArray:=⟨#[121]⟩
def zg4:Hist:=⟨[bT],[bS],[bX],[],[⟨1,0,0,1,0,⟨0,0⟩,0,[]⟩,⟨2,0,0,0,0,⟨0,1⟩,0,[]⟩,⟨5,0,0,0,0,⟨0,0⟩,0,[]⟩],[],[],[]⟩
theorem toList_inj {a b:ByteArray} (h:a.toList=b.toList):a=b:=by
 rw [ByteArray.toList_eq,ByteArray.toList_eq] at h
 cases a;cases b;congr 1;exact Array.ext' h
theorem zj7 {s:ByteArray} {c:Nat} (h1:s.size=1) (hc:c < 128) (hl:yhr c=true) (hd:Utf8.decode s 0=(c,1)) (hne:(s.toList== [])=false) (hb:bt s 0=c) (hn:zx8 c=false):ziq s=true:=by
 have hp:zfn s zln 0 ((Utf8.decode s 0).1:Nat)=true:=by
  rw [hd]
  have h2:(((c:Nat):Int) !=65533)=true:=by simp;omega
  simp only [zfn,zrk,zln,hl,h2,Bool.true_or,Bool.and_true]
 have hw:zdv s (zfn s zln) 0=s.size:=by
  rw [zo8 (by omega) hp,hd]
  exact zmo (by simp;omega)
 simp only [ziq,hne,hb,hn,hw,h1];decide
theorem zwm:ziq bT=true:=zj7 (c:=116) rfl (by decide) (by decide) (by decide) (by rw [ByteArray.toList_eq];rfl) (by decide) (by decide)
theorem zwn:ziq bS=true:=zj7 (c:=115) rfl (by decide) (by decide) (by decide) (by rw [ByteArray.toList_eq];rfl) (by decide) (by decide)
theorem zwl:ziq bX=true:=zj7 (c:=120) rfl (by decide) (by decide) (by decide) (by rw [ByteArray.toList_eq];rfl) (by decide) (by decide)
theorem yjf:ziq bY=true:=zj7 (c:=121) rfl (by decide) (by decide) (by decide) (by rw [ByteArray.toList_eq];rfl) (by decide) (by decide)
def zr3:Hist:={zg4 with evs:=zg4.evs.take 2}
def zm3:Hist:={zg4 with os:= [bY,bX],evs:= [⟨1,0,0,1,0,⟨0,0⟩,0,[]⟩,⟨2,0,0,0,1,⟨0,1⟩,0,[]⟩,⟨5,0,0,0,0,⟨0,0⟩,0,[]⟩]}
theorem xy:ycs bX [bY]=false:=by decide
theorem zpf:za5 zg4=true:=by
 have h:okK zg4 4=true:=by
  simp only [okK,nmK,zjo,zg4,zes,zwm,zwn,zwl,List.length_singleton,List.length_nil];decide
 rw [za5,h];decide
theorem zrm:za5 zr3=true:=by
 have h:okK zr3 4=true:=by
  simp only [okK,nmK,zjo,zr3,zg4,zes,zwm,zwn,zwl,List.length_singleton,List.length_nil];decide
 rw [za5,h];decide
theorem zjg:za5 zm3=true:=by
 have h:okK zm3 4=true:=by
  simp only [okK,nmK,zjo,zm3,zg4,zes,zwm,zwn,zwl,yjf,List.length_cons,List.length_nil,List.nil_append,xy];decide
 rw [za5,h];decide
theorem zyj:zfp zg4=true:=by rw [zfp,zpf];decide
theorem ycu:zfp zr3=true:=by rw [zfp,zrm];decide
theorem w1:zzr zr3=0:=by rw [zzr,ycu];decide
theorem w2:ofR zg4 0= [0,1,2]:=by rw [ofR,zyj];decide
theorem w3:yo8 zm3=0:=by rw [yo8,zjg];rfl
theorem w4:zdk zm3=210:=by
 have:zfp zm3=false:=by rw [zfp,zjg];decide
 rw [zdk,this];rfl
theorem w5:ye1 zr3=ye2 zr3:=by rw [ye1,if_pos w1]
theorem znv {N:Nat} {l:List Nat} (h:l.Nodup) (hl:∀i∈l,i < N):l.length≤N:=zkc h hl
theorem zr2 (G:List Res) (sE sO sM:Value) (h:Hist) (E:List (SV×Ev)) (T40 T54 T57 T52:TypeId) (H:List Res) (hE:E.map (·.2)=h.evs)
 (h5: .row sE 9 T40 (E.map yi8)∈H) (h6: .row sO 2 T54 (h.ords.map zew)∈H) (h7: .row sM 4 T57 (h.mats.map zei)∈H) (h9:∀r∈scR T52 E,r∈H):
 zhc (G++H) (.agg [zcv h.ts,zcv h.ss,zcv h.os,zcv h.ps,.v sE,.v sO,.v sM,zuy h.wants]) G (.agg (y9 h)):=by
 refine ⟨fun x hx=>by rw [w6];exact List.mem_append_left _ hx,fun X w v hh hr=> ?_⟩
 have hG:HRel X w G:=HRel.drop (h:=H) (hh.perm List.perm_append_comm)
 refine ⟨hG,?_⟩
 have hmem:∀r∈H,r∈G++H:=fun r hr=>List.mem_append_right _ hr
 have hout:∀r∈H,∀x∈r.own,¬OO G X x:=fun r hr x hx q=>by
  have hxH:x∈u9 H:=k7.2 ⟨r,hr,hx⟩
  have hn:=hh.nodup
  rw [w6,List.nodup_append] at hn
  rcases q with q|q
  ·exact hn.2.2 x q x hxH rfl
  ·exact (hh.lt x (by rw [w6];exact List.mem_append_right _ hxH)).2 q
 have lo:∀av u,Rel w (OO (G++H) X) av u→Rel w (OO G X) av u:=fun av u r=>r.loose fun x hx=>hx.imp (fun q=>by rw [w6];exact List.mem_append_left _ q) id
 have S:∀{α:Type} {s:Value} {sz:Nat} {T:TypeId} {f g:α→List AV} {l:List α},.row s sz T (l.map f)∈H→(∀a∈l,CT w (OO (G++H) X) (OO G X) (f a) (g a))→Rel w (OO G X) (.list false sz (l.map g)) s:=
  fun hm hc=>yfn hh (hmem _ hm) (hout _ hm) hc
 have evs:Rel w (OO G X) (zwj h.evs) sE:=by
  have:=S (g:=fun p=>evR p.2) h5 fun p hp=>⟨sc _,sc _,sc _,sc _,sc _,sc _,sc _,sc _,sn (S (f:=za2) (g:=za2) (h9 _ (List.mem_map.2 ⟨p,hp,rfl⟩)) fun a _=>⟨sc _,sc _,sc _,trivial⟩),trivial⟩
  rw [←hE]
  show Rel w (OO G X) (.list false 9 ((E.map (·.2)).map evR)) sE
  rw [List.map_map];exact this
 have ords:Rel w (OO G X) (yg4 h.ords) sO:=S (f:=zew) (g:=zew) h6 fun a _=>⟨sc _,lo _,trivial⟩
 have mats:Rel w (OO G X) (ycv h.mats) sM:=S (f:=zei) (g:=zei) h7 fun a _=>⟨sc _,sc _,sc _,lo _,trivial⟩
 have hcells:CT w (OO (G++H) X) (OO G X) [zcv h.ts,zcv h.ss,zcv h.os,zcv h.ps,.v sE,.v sO,.v sM,zuy h.wants] (y9 h):=⟨lo _,lo _,lo _,lo _,sn evs,sn ords,sn mats,lo _,trivial⟩
 cases hr with
 |agg _ ds hl2 hc2=>exact .agg _ ds (by rw [hcells.len];exact hl2) fun j a b=>hcells.get j (by rw [←hcells.len];exact a) a _ (hc2 j (by rw [←hcells.len];exact a) b)
def atI (n:Int):Nat→List Int→Int
 |_,[]=> -1
 |i,x::r=>if x=n then (i:Int) else atI n (i+1) r
set_option maxRecDepth 20000
abbrev Rw:=Nat→List Int
def ymw (l:List Int) (n:Int):List Int:=if atI n 0 l ≥ 0 then l else l++ [n]
def yp7 (l:List Int) (v:Ver):List Int:=if v.k=0 then l else ymw l v.t
def zhw (L:Rw) (x:Nat×Int):Rw:=fun i=>match Nat.beq i x.1 with
 |true=>ymw (L i) x.2
 |false=>L i
def yjk (L:Rw) (v:Ver):Rw:=fun i=>match Nat.beq i 0 with
 |true=>yp7 (L i) v
 |false=>L i
def stepS (L:Rw) (s:Seen):Rw:=yjk (zhw L (2,s.o)) s.v
def ynj (L:Rw) (e:Ev):Rw:=
 if e.kind=1 then zhw L (1,e.s) else if e.kind=2∨e.kind=3 then yjk (zhw L (2,e.o)) e.v else if e.kind=4 then zhw L (3,e.p) else L
def stepE (L:Rw) (e:Ev):Rw:=e.scan.foldl stepS (ynj (zhw L (0,e.t)) e)
def yp8 (L:Rw) (t:Int):Rw:=zhw L (0,t)
def stepM (L:Rw) (r:Mat):Rw:=r.ts.foldl yp8 (zhw (zhw L (3,r.p)) (2,r.o))
def upR (n:Nat):List Int:=(List.range n).map fun i:Nat=>(i:Int)
theorem zsy (n:Int):∀(l:List Int) (i:Nat),atI n i l ≥ 0 ↔ n∈l
 | [],i=>by simp [atI]
 |x::r,i=>by
  unfold atI
  split
  ·rename_i h;simp [h]
  ·rename_i h
   rw [zsy n r (i+1),List.mem_cons]
   constructor
   ·intro k;exact .inr k
   ·rintro (k|k)
    ·exact absurd k.symm h
    ·exact k
theorem yd2 (l:List Int) (n:Int):ymw l n=if n∈l then l else l++ [n]:=by
 unfold ymw
 by_cases h:n∈l
 ·rw [if_pos ((zsy n l 0).2 h),if_pos h]
 ·rw [if_neg (fun q=>h ((zsy n l 0).1 q)),if_neg h]
theorem ya5 (L:Rw) (x:Nat×Int):zhw L x x.1=ymw (L x.1) x.2:=by
 unfold zhw;rw [Nat.beq_refl]
theorem ya4 (L:Rw) (x:Nat×Int) {i:Nat} (h:i≠x.1):zhw L x i=L i:=by
 unfold zhw
 rw [show Nat.beq i x.1=false from by
  cases q:Nat.beq i x.1 with
  |false=>rfl
  |true=>exact absurd (Nat.eq_of_beq_eq_true q) h]
theorem grow (xs:List (Nat×Int)):∀(L:Rw) (s:Nat),∃m,xs.foldl zhw L s=L s++m:=by
 induction xs with
 |nil=>intro L s;exact ⟨[],by simp⟩
 |cons x xs ih=>
  intro L s
  obtain ⟨m,hm⟩:=ih (zhw L x) s
  rw [List.foldl_cons,hm]
  by_cases h:s=x.1
  ·subst h
   rw [ya5,yd2]
   split
   ·exact ⟨m,rfl⟩
   ·exact ⟨x.2::m,by simp⟩
  ·rw [ya4 _ _ h];exact ⟨m,rfl⟩
def zo4 (L:Rw) (m:List Int):Prop:=m.length=4∧∀s,s < 4→0≤m.getD s 0∧L s=upR (m.getD s 0).toNat
theorem yk7 {h:Hist} (hm:zfp h=true):∀e∈h.evs,0≤e.t∧e.t < h.ts.length:=by
 intro e he
 have hs:za5 h=true:=by unfold zfp at hm;simp only [Bool.and_eq_true] at hm;exact hm.1
 have:=(zdx hs).2.1 e he
 obtain ⟨_,_,ht,_⟩:=zb3 this
 exact (za1 _ _).1 ht
def zhs (l:List Ev) (t c:Int):Bool:= !(l.all fun e=> !(e.t==t && e.kind==c))
theorem zfh (l:List Ev) (t c:Int):zhs l t c=l.any fun e=>e.t==t && e.kind==c:=by
 induction l with
 |nil=>rfl
 |cons e l ih=>
  rw [List.any_cons,←ih,zhs,List.all_cons,Bool.not_and,Bool.not_not];rfl
def zl5 (l:List Ev) (t:Int):Bool:=zhs l t 1
def zx3 (l:List Ev) (t:Int):Bool:=l.any fun y=>y.t==t && (y.kind==5||y.kind==6)
def zhu (l:List Ev) (t x:Int):List Ev:=l.filter fun y=>y.kind==2 && y.t==t && y.o==x
def zse (l:List Ev) (t x:Int):Option Ver:=((zhu l t x).getLast?).map Ev.v
def zkv (l:List Ev) (x:Int) (v:Ver):Bool:=l.any fun y=>y.kind==2 && y.o==x && y.v==v
def zdo (e:Ev):List Seen:=if e.kind=3 then [⟨e.o,e.v⟩] else e.scan
def zba (rule:Nat) (e:Ev) (l:List Ev):Bool:=
 match rule with
 |1=>zl5 l e.t==(e.kind==1)
 |2=>zx3 l e.t
 |3=>e.kind==2 && e.v.k !=((zhu l e.t e.o).length:Int)+1
 |4=>(zdo e).any fun s=>decide (s.v.k > 0) && !zkv l s.o s.v
 |5=>(zdo e).any fun s=>match zse l e.t s.o with|some v=>v !=s.v|none=>false
 |6=> !decide ((e.scan.map Seen.o).Nodup)
 |_=>false
def zg3 (rule:Nat) (e:Ev) (l:List Ev):Bool:=
 match rule with
 |1=>zl5 l e.t && e.kind==1|| !zl5 l e.t && e.kind !=1
 |2=>zx3 l e.t
 |3=>e.kind==2 && e.v.k !=((zhu l e.t e.o).length:Int)+1
 |4=>(zdo e).any fun s=> !(s.v.k==0||zkv l s.o s.v)
 |5=>(zdo e).any fun s=>match (zhu l e.t s.o).getLast? with|some y=>y.v !=s.v|none=>false
 |6=>(List.range (zdo e).length).any fun i=>((zdo e).take i).any fun p=>some p.o==((zdo e)[i]?).map Seen.o
 |_=>false
theorem yfe (e:Ev) (l:List Ev):zba 1 e l=zg3 1 e l:=by
 simp only [zba,zg3]
 cases zl5 l e.t <;> cases h:(e.kind==1) <;> simp_all
theorem yd5 {ts:List ByteArray} {v:Ver} (h:zwq ts v=true):0≤v.k:=by
 unfold zwq at h
 split at h
 ·rename_i h0;simp at h0;omega
 ·simp only [Bool.and_eq_true,decide_eq_true_eq] at h;omega
theorem yfd {e:Ev} {l:List Ev} (h:∀s∈zdo e,0≤s.v.k):zba 4 e l=zg3 4 e l:=by
 simp only [zba,zg3]
 rw [Bool.eq_iff_iff]
 simp only [List.any_eq_true,Bool.and_eq_true,decide_eq_true_eq,Bool.not_eq_true',Bool.or_eq_false_iff,beq_eq_false_iff_ne]
 constructor
 ·rintro ⟨s,hs,h0,h1⟩;exact ⟨s,hs,by omega,h1⟩
 ·rintro ⟨s,hs,h0,h1⟩;exact ⟨s,hs,by have:=h s hs;omega,h1⟩
theorem yfc (e:Ev) (l:List Ev):zba 5 e l=zg3 5 e l:=by
 simp only [zba,zg3,zse]
 congr 1;funext s
 cases (zhu l e.t s.o).getLast? <;> rfl
theorem yih (l:List Seen):((List.range l.length).any fun i=>(l.take i).any fun p=>some p.o==(l[i]?).map Seen.o)= !decide ((l.map Seen.o).Nodup):=by
 rw [Bool.eq_iff_iff]
 simp only [List.any_eq_true,List.mem_range,Bool.not_eq_true',decide_eq_false_iff_not,beq_iff_eq]
 rw [show (l.map Seen.o).Nodup ↔ _ from List.pairwise_iff_getElem]
 constructor
 ·rintro ⟨i,hi,p,hp,he⟩ hn
  obtain ⟨j,hj,rfl⟩:=List.mem_iff_getElem.1 hp
  rw [List.length_take] at hj
  refine hn j i (by simp;omega) (by simpa using hi) (by omega) ?_
  rw [List.getElem?_eq_getElem hi,List.getElem_take] at he
  rw [List.getElem_map,List.getElem_map]
  exact Option.some.inj he
 ·intro hn
  simp only [Classical.not_forall] at hn
  obtain ⟨i,j,hi,hj,hij,he⟩:=hn
  have hi':=hi;have hj':=hj
  rw [oM] at hi' hj'
  have he:=Classical.not_not.1 he
  rw [List.getElem_map,List.getElem_map] at he
  refine ⟨j,hj',l[i],?_,?_⟩
  ·rw [List.mem_take_iff_getElem];exact ⟨i,by omega,rfl⟩
  ·rw [List.getElem?_eq_getElem hj',Option.map_some,he]
theorem yfb {e:Ev} {l:List Ev} (h:e.kind=3→e.scan= []):zba 6 e l=zg3 6 e l:=by
 simp only [zba,zg3]
 rw [yih]
 unfold zdo
 split
 ·rename_i h2;rw [h h2];rfl
 ·rfl
theorem zzg {h:Hist} {e:Ev} (he:zdy h e=true):(∀s∈zdo e,0≤s.v.k)∧(e.kind=3→e.scan= []):=by
 obtain ⟨h1,h7,ht,hc,hq⟩:=zb3 he
 refine ⟨fun s hs=> ?_,fun h3=> ?_⟩
 ·unfold zdo at hs
  split at hs
  ·rename_i h3
   rw [List.mem_singleton] at hs;subst hs
   rw [zhb,if_neg (by omega),if_neg (by omega),if_pos h3] at hc
   simp only [zd1,Bool.and_eq_true] at hc
   exact yd5 hc.2
  ·rename_i h3
   by_cases h4:e.kind=4
   ·rw [zhb,if_neg (by omega),if_neg (by omega),if_neg h3,if_pos h4] at hc
    simp only [zcj,Bool.and_eq_true,List.all_eq_true] at hc
    have:=hc.2 s hs
    simp only [zis,Bool.and_eq_true] at this
    exact yd5 this.2
   ·have:e.scan= []:=by
     rw [←hq];simp only [zhb]
     repeat' split
     all_goals first|rfl|omega
    rw [this] at hs;cases hs
 ·rw [←hq];simp only [zhb,if_neg (show ¬e.kind=1 by omega),if_neg (show ¬e.kind=2 by omega),if_pos h3]
def srt (l:List Int):List Int:=l.mergeSort (fun x y=>decide (x≤y))
def zbn:List Int→List Int
 | []=> []
 | [x]=> [x]
 |x::y::r=>if x=y then zbn (y::r) else x::zbn (y::r)
theorem zem (z:Int):∀l:List Int,z∈zbn l ↔ z∈l
 | []=>Iff.rfl
 | [x]=>Iff.rfl
 |x::y::r=>by
  rw [zbn]
  split
  ·rename_i h;subst h;rw [zem z (x::r)];simp
  ·rw [List.mem_cons,zem z (y::r),List.mem_cons (a:=z) (b:=x)]
theorem zii:∀l:List Int,l.Pairwise (· ≤ ·)→(zbn l).Pairwise (· < ·)
 | [],_=> .nil
 | [x],_=>by simp [zbn]
 |x::y::r,h=>by
  rw [zbn]
  obtain ⟨h1,h2⟩:=List.pairwise_cons.1 h
  split
  ·exact zii _ h2
  ·rename_i hne
   refine List.pairwise_cons.2 ⟨fun z hz=> ?_,zii _ h2⟩
   rw [zem] at hz
   obtain ⟨h3,h4⟩:=List.pairwise_cons.1 h2
   have hxy:=h1 y (by simp)
   rcases List.mem_cons.1 hz with rfl|hz
   ·omega
   ·have:=h3 z hz;omega
theorem zgf:∀l:List Int,(zbn l).length≤l.length
 | []=>by simp [zbn]
 | [x]=>by simp [zbn]
 |x::y::r=>by
  rw [zbn];have:=zgf (y::r)
  split <;> simp only [List.length_cons] at * <;> omega
theorem znf:∀l:List Int,(zbn l).length=l.length→zbn l=l
 | [],_=>rfl
 | [x],_=>rfl
 |x::y::r,h=>by
  rw [zbn] at h ⊢
  have hl:=zgf (y::r)
  split at h
  ·simp only [List.length_cons] at h hl;omega
  ·rename_i hne
   rw [if_neg hne,znf (y::r) (by simpa using h)]
theorem zbr (l:List Int):(srt l).Perm l:=List.mergeSort_perm _ _
theorem zwx (l:List Int):(srt l).Pairwise (· ≤ ·):=by
 have:=List.pairwise_mergeSort (le:=fun x y:Int=>decide (x≤y)) (by intro a b c;simp;omega) (by intro a b;simp;omega) l
 exact this.imp (by simp)
theorem zkf {l:List Int} (h:l.Pairwise (· < ·)):l.Nodup:=h.imp (fun h e=>by omega)
theorem zls:∀l:List Int,l.Nodup→zbn l=l
 | [],_=>rfl
 | [x],_=>rfl
 |x::y::r,h=>by
  obtain ⟨h1,h2⟩:=List.nodup_cons.1 h
  rw [zbn,if_neg (by rintro rfl;exact h1 (by simp)),zls _ h2]
theorem zvm (l:List Int):(zbn (srt l)).length=l.length ↔ l.Nodup:=by
 have hl:(srt l).length=l.length:=(zbr l).length_eq
 constructor
 ·intro h
  have e:=znf (srt l) (by rw [h,hl])
  have:=zkf (zii _ (zwx l))
  rw [e] at this
  exact (zbr l).nodup_iff.1 this
 ·intro h
  rw [zls _ ((zbr l).nodup_iff.2 h),hl]
theorem yld:∀(l m:List Int),l.Pairwise (· < ·)→m.Pairwise (· < ·)→(∀z,z∈l ↔ z∈m)→l=m:=by
 intro l m hl hm h
 refine List.Perm.eq_of_pairwise (le:=(· ≤ ·)) (fun a b _ _ h1 h2=>by omega) (hl.imp (fun h=>by omega)) (hm.imp (fun h=>by omega)) ?_
 exact (List.perm_ext_iff_of_nodup (zkf hl) (zkf hm)).2 h
def zam (l:List Ev) (x:Int):List Int:=zbn (srt ((l.filter fun e=>e.kind==2 && e.o==x && l.any fun y=>y.t==e.t && y.kind==5).map Ev.t))
def zd8 (h:Hist) (x:Int):List Int:=((upR h.ts.length).filter fun t=>(h.evs.any fun e=>e.kind==2 && e.t==t && e.o==x) && zhs h.evs t 5)
theorem zux {h:Hist} (ht:∀e∈h.evs,0≤e.t∧e.t < h.ts.length) (x:Int) (hu:(upR h.ts.length).Pairwise (· < ·)) (hm:∀z,z∈upR h.ts.length ↔ 0≤z∧z < h.ts.length):zam h.evs x=zd8 h x:=by
 refine yld _ _ (zii _ (zwx _)) (hu.filter _) fun z=> ?_
 rw [zam,zem,(zbr _).mem_iff]
 simp only [zd8,zfh,List.mem_map,List.mem_filter,hm,Bool.and_eq_true,List.any_eq_true,beq_iff_eq]
 constructor
 ·rintro ⟨e,⟨he,⟨h2,h3⟩,y,hy,h4,h5⟩,rfl⟩
  exact ⟨ht e he,⟨e,he,⟨h2,rfl⟩,h3⟩,y,hy,h4,h5⟩
 ·rintro ⟨_,⟨e,he,⟨h2,rfl⟩,h3⟩,y,hy,h4,h5⟩
  exact ⟨e,⟨he,⟨h2,h3⟩,y,hy,h4,h5⟩,rfl⟩
def zr4 (ts f:List Int):Bool:=decide ((zbn (srt ts)).length=ts.length) && !ts.any fun t=> !f.contains t
def zky (ts f:List Int):Bool:=decide ts.Nodup && ts.all fun t=>f.contains t
theorem zle (ts f:List Int):zr4 ts f=zky ts f:=by
 unfold zr4 zky
 rw [Bool.eq_iff_iff]
 simp only [Bool.and_eq_true,decide_eq_true_eq,zvm,List.all_eq_true,Bool.not_eq_true',List.any_eq_false,Bool.not_eq_true,Bool.not_eq_false',Bool.not_eq_false]
theorem zkd:∀(ts f:List Int),ts.Nodup→(∀t∈ts,t∈f)→ts.length≤f.length
 | [],f,_,_=>by simp
 |t::r,f,hn,hs=>by
  obtain ⟨h1,h2⟩:=List.nodup_cons.1 hn
  have ht:=hs t (by simp)
  have:=zkd r (f.erase t) h2 (fun z hz=>(List.mem_erase_of_ne (by rintro rfl;exact h1 hz)).2 (hs z (by simp [hz])))
  rw [List.length_erase_of_mem ht] at this
  have:=List.length_pos_of_mem ht
  rw [List.length_cons];omega
theorem ztd {ts f:List Int} (hf:f.Nodup) (h:zky ts f=true):decide (ts.length=f.length)=zky f ts:=by
 simp only [zky,Bool.and_eq_true,decide_eq_true_eq,List.all_eq_true,List.contains_iff_mem] at h
 rw [Bool.eq_iff_iff]
 simp only [zky,Bool.and_eq_true,decide_eq_true_eq,List.all_eq_true,List.contains_iff_mem]
 constructor
 ·intro e
  refine ⟨hf,fun t ht=>Classical.byContradiction fun hn=> ?_⟩
  have:=zkd (t::ts) f (List.nodup_cons.2 ⟨hn,h.1⟩) (fun z hz=>by rcases List.mem_cons.1 hz with rfl|hz;exact ht;exact h.2 z hz)
  rw [List.length_cons] at this;omega
 ·rintro ⟨_,hs⟩
  exact Nat.le_antisymm (zkd _ _ h.1 h.2) (zkd _ _ hf hs)
theorem zws (n:Nat) (z:Int):z∈upR n ↔ 0≤z∧z < n:=by
 simp only [upR,List.mem_map,List.mem_range]
 constructor
 ·rintro ⟨i,hi,rfl⟩;omega
 ·rintro ⟨h0,h1⟩;exact ⟨z.toNat,by omega,by omega⟩
theorem yjg (n:Nat):(upR n).Pairwise (· < ·):=by
 rw [upR,List.pairwise_map]
 exact List.pairwise_lt_range.imp (fun h=>by omega)
theorem zdq {h:Hist} (hm:zfp h=true) (x:Int):zam h.evs x=zd8 h x:=
 zux (yk7 hm) x (yjg _) (zws _)
theorem ze9 (l:List Ev) (x:Int):(zam l x).Nodup:=zkf (zii _ (zwx _))
def zf2 (h:Hist) (i:Nat) (r:Ord):Bool:=((h.ords.take i).any fun p=>p.o==r.o)|| !zr4 r.ts (zam h.evs r.o)|| !decide (r.ts.length=(zam h.evs r.o).length)
def zx6 (h:Hist) (i:Nat) (r:Ord):Bool:=((h.ords.take i).any fun p=>p.o==r.o)|| !zky r.ts (zd8 h r.o)|| !zky (zd8 h r.o) r.ts
theorem yci {h:Hist} (hm:zfp h=true) (i:Nat) (r:Ord):zf2 h i r=zx6 h i r:=by
 unfold zf2 zx6
 rw [zle,←zdq hm]
 cases hs:zky r.ts (zam h.evs r.o) with
 |false=>simp
 |true=>rw [ztd (ze9 _ _) hs]
def zn5 (h:Hist) (x:Int):Bool:=decide (1 < (zam h.evs x).length) && !h.ords.any fun r=>r.o==x
def yhg (h:Hist) (x:Int):Bool:= !(h.ords.any fun r=>r.o==x) && decide (2≤(zd8 h x).length)
theorem yhf {h:Hist} (hm:zfp h=true) (x:Int):zn5 h x=yhg h x:=by
 unfold zn5 yhg
 rw [←zdq hm,Bool.and_comm]
 rfl
def zjp (h:Hist) (i:Nat) (r:Mat):Bool:=((h.mats.take i).any fun p=>p.p==r.p && p.o==r.o)|| !zr4 r.ts (zam h.evs r.o)
def zyk (h:Hist) (i:Nat) (r:Mat):Bool:=((h.mats.take i).any fun p=>p.p==r.p && p.o==r.o)|| !zky r.ts (zd8 h r.o)
theorem ycw {h:Hist} (hm:zfp h=true) (i:Nat) (r:Mat):zjp h i r=zyk h i r:=by
 unfold zjp zyk;rw [zle,←zdq hm]
def zrh (h:Hist) (i:Nat) (r:Wan):Bool:=((h.wants.take i).any fun p=>p.s==r.s)|| !h.evs.any fun e=>e.kind==1 && e.s==r.s
def zc9 {α:Type} (w:Nat→α→Bool):Nat→List α→Option Nat
 |_,[]=>none
 |i,x::r=>if w i x then some i else zc9 w (i+1) r
theorem ze0 {α:Type} {w v:Nat→α→Bool}:∀(l:List α) (i:Nat),(∀x∈l,∀i,w i x=v i x)→zc9 w i l=zc9 v i l
 | [],_,_=>rfl
 |x::r,i,h=>by rw [zc9,zc9,h x (by simp),ze0 r (i+1) (fun y hy=>h y (by simp [hy]))]
def zce (h:Hist) (rule:Nat):Option Nat:=
 match rule with
 |7=>zc9 (zf2 h) 0 h.ords
 |8=>zc9 (fun x _=>zn5 h (x:Int)) 0 h.os
 |9=>zc9 (zjp h) 0 h.mats
 |10=>zc9 (zrh h) 0 h.wants
 |r=>zc9 (fun i e=>zba r e (h.evs.take i)) 0 h.evs
def zto (h:Hist) (rule:Nat):Option Nat:=
 match rule with
 |7=>zc9 (zx6 h) 0 h.ords
 |8=>zc9 (fun x _=>yhg h (x:Int)) 0 h.os
 |9=>zc9 (zyk h) 0 h.mats
 |10=>zc9 (zrh h) 0 h.wants
 |r=>zc9 (fun i e=>zg3 r e (h.evs.take i)) 0 h.evs
theorem yat {h:Hist} {e:Ev} (he:zdy h e=true) (l:List Ev):∀r,zba r e l=zg3 r e l
 |0=>rfl
 |1=>yfe e l
 |2=>rfl
 |3=>rfl
 |4=>yfd (zzg he).1
 |5=>yfc e l
 |6=>yfb (zzg he).2
 |_+7=>rfl
theorem yb7 {h:Hist} (hm:zfp h=true) (rule:Nat):zce h rule=zto h rule:=by
 have hs:za5 h=true:=by unfold zfp at hm;simp only [Bool.and_eq_true] at hm;exact hm.1
 have hE:=(zdx hs).2.1
 unfold zce zto
 split
 ·exact ze0 _ _ fun r _ i=>yci hm i r
 ·exact ze0 _ _ fun r _ i=>yhf hm _
 ·exact ze0 _ _ fun r _ i=>ycw hm i r
 ·rfl
 ·exact ze0 _ _ fun e he i=>yat (hE e he) _ _
def zbp (p:Nat→Option Nat):List Nat→Option (Nat×Nat)
 | []=>none
 |r::l=>match p r with|some i=>some (r,i)|none=>zbp p l
def rules10:List Nat:= [1,2,3,4,5,6,7,8,9,10]
theorem ydk {h:Hist} (hm:zfp h=true):zbp (zce h) rules10=zbp (zto h) rules10:=by
 rw [show zce h=zto h from funext (yb7 hm)]
theorem zm9 {p:Nat→Option Nat}:∀{l:List Nat},zbp p l=none→∀q∈l,p q=none
 | [],_,q,hq=>by cases hq
 |a::l,h,q,hq=>by
  rw [zbp] at h
  cases ha:p a with
  |some j=>rw [ha] at h;cases h
  |none=>rw [ha] at h;rcases List.mem_cons.1 hq with rfl|hq;exact ha;exact zm9 h q hq
theorem zh1 {α:Type} {w:Nat→α→Bool}:∀(l:List α) (i:Nat),zc9 w i l=none ↔ ∀j,(h:j < l.length)→w (i+j) l[j]=false
 | [],i=>by simp [zc9]
 |x::r,i=>by
  rw [zc9]
  constructor
  ·intro h j hj
   split at h
   ·cases h
   ·rename_i h0
    cases j with
    |zero=>simpa using h0
    |succ j=>
     have:=(zh1 r (i+1)).1 h j (by simpa using hj)
     rw [show i+(j+1)=i+1+j by omega];exact this
  ·intro h
   have h0:w i x=false:=h 0 (Nat.zero_lt_succ _)
   rw [if_neg (by rw [h0];decide)]
   refine (zh1 r (i+1)).2 fun j hj=> ?_
   have:=h (j+1) (by simpa using hj)
   rw [show i+1+j=i+(j+1) by omega];exact this
theorem zmx {k:Nat} (h1:1≤k) (h2:k≤10):rules10.drop (k - 1)=k::rules10.drop k:=by
 have:∀k,k < 11→1≤k→rules10.drop (k - 1)=k::rules10.drop k:=by decide
 exact this k (by omega) h1
theorem zvy {p:Nat→Option Nat} {k:Nat} (h1:1≤k) (h2:k≤10) (hz:zbp p rules10=zbp p (rules10.drop (k - 1))) (hp:p k=none):zbp p rules10=zbp p (rules10.drop (k+1 - 1)):=by
 rw [hz,zmx h1 h2,zbp,hp];rfl
theorem zzb {p:Nat→Option Nat} {k i:Nat} (h1:1≤k) (h2:k≤10) (hz:zbp p rules10=zbp p (rules10.drop (k - 1))) (hp:p k=some i):zbp p rules10=some (k,i):=by
 rw [hz,zmx h1 h2,zbp,hp]
theorem zvz {p:Nat→Option Nat} {k:Nat} (h1:11≤k) (h2:k≤11) (hz:zbp p rules10=zbp p (rules10.drop (k - 1))):zbp p rules10=none:=by
 obtain rfl:k=11:=by omega
 rw [hz];rfl
def zjw (h:Hist):Option (Nat×Nat):=zbp (zce h) rules10
def ype:Option (Nat×Nat)→List AV
 |some (r,i)=> [iv r,iv i]
 |none=> [iv 0,iv 0]
def zaq (h:Hist):Bool:=zfp h && (zjw h).isNone
def zgt (h:Hist):AV:=if zfp h=true then .tup [.agg (ype (zjw h)),bv (zjw h).isSome,iv 0] else .tup [.agg [iv 0,iv 0],bv false,iv 210]
def yp3:Option Nat→Int
 |some n=>n
 |none=>0
theorem yio (o:Option (Nat×Nat)):∃i j,ype o= [iv i,iv j]:=by
 cases o with
 |none=>exact ⟨_,_,rfl⟩
 |some p=>exact ⟨_,_,rfl⟩
theorem zqf (h:Hist):∃i j b e,zgt h= .tup [.agg [iv i,iv j],bv b,iv e]∧zaq h=((e==0) && !b):=by
 unfold zgt zaq
 obtain ⟨i,j,hb⟩:=yio (zjw h)
 by_cases hm:zfp h=true
 ·rw [if_pos hm,hm,hb];refine ⟨_,_,_,_,rfl,?_⟩;cases zjw h <;> rfl
 ·rw [if_neg hm,Bool.eq_false_iff.2 hm];exact ⟨_,_,_,_,rfl,rfl⟩
theorem zdw {h:Hist} (hs:zaq h=true):zfp h=true∧zbp (zce h) rules10=none:=by
 unfold zaq at hs
 simp only [Bool.and_eq_true,Option.isNone_iff_eq_none] at hs
 exact hs
section
variable (ρ:Nat→Int→Int)
end
section
variable {σ:Type} {f:σ→Nat→Int→Int×σ} {ρ:Nat→Int→Int}
variable (f) in
def after:σ→List (Nat×Int)→σ
 |s,[]=>s
 |s,x::l=>after (f s x.1 x.2).2 l
end
section
variable (ρ:Nat→Int→Int)
end
structure Cnt (k:yjd) (m:List Int):Prop where
 k4:k.length=4
 m4:m.length=4
 eq:∀s,s < 4→m.getD s 0=(k.getD s []).length
def yj5 (m:Nat):List Int:=(List.range m).map Int.ofNat
structure Rng (k:yjd) (m:List Int):Prop where
 cnt:Cnt k m
 rg:∀s,s < 4→k.getD s []=yj5 (k.getD s []).length
section
variable {h:Hist} (hs:za5 h=true)
include hs
end
section
variable {h n:Hist} {ρ:Nat→Int→Int}
end
def zbv (t x:Int) (e:Ev):Bool:=e.kind==2 && e.t==t && e.o==x
def zs3 (h:Hist) (x:Int) (k:Nat):List Int:=(upR k).filter fun t=>h.evs.any (zbv t x) && zhs h.evs t 5
theorem yfj (k:Nat):upR (k+1)=upR k++ [(k:Int)]:=by simp [upR,List.range_succ]
theorem zo5 (h:Hist) (x:Int) (k:Nat):(zs3 h x k).length≤k:=by
 have:(zs3 h x k).length≤(upR k).length:=List.length_filter_le _ _
 simpa [upR] using this
section
variable {h:Hist} {i:Nat}
end
theorem zkr (h:Hist) (x:Int):(zd8 h x).length≤h.ts.length:=zo5 h x _
section
variable {l:List Ev} {t x:Int} {k:Nat}
end
theorem zj8 (a b:Ver):([a.t,a.k]== [b.t,b.k])=(a==b):=by
 cases a;cases b
 rw [Bool.eq_iff_iff];simp
end Go.H
