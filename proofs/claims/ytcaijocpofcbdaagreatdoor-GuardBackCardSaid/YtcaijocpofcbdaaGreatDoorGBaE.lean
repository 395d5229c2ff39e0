/- A history in memory of its own, given up, reads as plain lists. Conditions: none. -/
import Derived.Test.YtcaijocpofcbdaaGreatDoorGBaD
set_option linter.unusedSectionVars false
set_option linter.unusedSimpArgs false
set_option linter.unusedVariables false
namespace Go.H
open Go Go.Ab
section
variable {w:World} {O O':Nat→Prop}
def CT (w:World) (O O':Nat→Prop):List AV→List AV→Prop
 | [],[]=>True
 |a::xs,b::bs=>(∀u,Rel w O a u→Rel w O' b u)∧CT w O O' xs bs
 |_,_=>False
theorem CT.len:∀{xs bs:List AV},CT w O O' xs bs→bs.length=xs.length
 | [],[],_=>rfl
 |_::_,_::_,h=>by simp [CT.len h.2]
 | [],_::_,h=>h.elim
 |_::_,[],h=>h.elim
theorem CT.get:∀{xs bs:List AV},CT w O O' xs bs→∀j (k:j < xs.length) (k':j < bs.length) u,Rel w O xs[j] u→Rel w O' bs[j] u
 |_::_,_::_,h,0,_,_,u,r=>h.1 u r
 |_::_,_::_,h,j+1,k,k',u,r=>CT.get h.2 j (by simpa using k) (by simpa using k') u r
theorem sc (x:Value):∀u,Rel w O (.v x) u→Rel w O' (.v x) u:=fun u r=>(Scal.v x).rel r
theorem sn {x:Value} {b:AV} (h:Rel w O' b x):∀u,Rel w O (.v x) u→Rel w O' b u:=fun u r=>by rw [r.v_eq];exact h
theorem ydg {X:Nat→Prop} {H:List Res} (hh:HRel X w H) {s:Value} {sz:Nat} {T:TypeId} {α:Type} {f g:α→List AV} {l:List α} (hm: .row s sz T (l.map f)∈H) (hO:∀b∈(Res.row s sz T (l.map f)).own,¬O' b)
 (hc:∀a∈l,CT w (OO H X) O' (f a) (g a)):Rel w O' (.list false sz (l.map g)) s:=by
 refine zqq hh hm hO (by simp) (fun i h h'=> ?_) (fun i h h' j k k' u r=> ?_)
 ·simp only [List.getElem_map];exact (hc _ (List.getElem_mem _)).len
 ·simp only [List.getElem_map] at k k' r ⊢
  exact (hc _ (List.getElem_mem _)).get j k k' u r
end
def bT:ByteArray:=⟨#[116]⟩
def bS:ByteArray:=⟨#[115]⟩
def bX:ByteArray:=⟨#[120]⟩
def bY:ByteArray:=⟨#[121]⟩
def zgj:Hist:=⟨[bT],[bS],[bX],[],[⟨1,0,0,1,0,⟨0,0⟩,0,[]⟩,⟨2,0,0,0,0,⟨0,1⟩,0,[]⟩,⟨5,0,0,0,0,⟨0,0⟩,0,[]⟩],[],[],[]⟩
def cutS (s:ByteArray):ByteArray:=s.extract 0 (min s.size 40)
def zld (most:Nat) (l:List ByteArray):List ByteArray:=(l.take most).map cutS
theorem take_min {α β:Type} (f:α→β) (l:List α) (n:Nat):(l.map f).take (min l.length n)=(l.take n).map f:=by
 rw [←List.map_take]
 rcases Nat.le_total l.length n with h|h
 ·rw [Nat.min_eq_left h,List.take_of_length_le (Nat.le_refl _),List.take_of_length_le h]
 ·rw [Nat.min_eq_right h]
theorem ydi {α:Type} {l:List α} {k n:Nat} {e:α} (h:k < l.length) (hn:k < n) (he:e=l[k]):l.take (min (k+1) n)=l.take (min k n)++ [e]:=by
 rw [Nat.min_eq_left (by omega),Nat.min_eq_left (by omega),List.take_succ_eq_append_getElem h,he]
theorem ydh {α:Type} {l:List α} {k n:Nat} (hn:¬k < n):l.take (min (k+1) n)=l.take (min k n):=by
 rw [Nat.min_eq_right (by omega),Nat.min_eq_right (by omega)]
theorem zvm {α:Type} (l:List α) (n:Nat):l.take (min l.length n)=l.take n:=by
 rcases Nat.le_total l.length n with h|h
 ·rw [Nat.min_eq_left h,List.take_of_length_le (Nat.le_refl _),List.take_of_length_le h]
 ·rw [Nat.min_eq_right h]
theorem zvl {α:Type} (l:List α) (k n:Nat):(l.take (min k n)).length≤n:=by simp;omega
theorem ztz {a b:ByteArray} (h:a.toList=b.toList):a=b:=by
 rw [ByteArray.toList_eq,ByteArray.toList_eq] at h
 cases a;cases b;congr 1;exact Array.ext' h
theorem zzb (a b:ByteArray):zoh a b=decide (a=b):=by
 unfold zoh
 by_cases h:a=b
 ·subst h;simp
 ·rw [decide_eq_false h,beq_eq_false_iff_ne];exact fun q=>h (ztz q)
theorem znf (a b:Int):zo6 a b=decide (a=b):=rfl
theorem zy3 (a b:Wan):zoe a b=decide (a=b):=by
 obtain ⟨a1,a2⟩:=a;obtain ⟨b1,b2⟩:=b
 rw [Bool.eq_iff_iff];simp [zoe]
theorem zz9 (a b:Ord):zkf a b=decide (a=b):=by
 obtain ⟨a1,a2⟩:=a;obtain ⟨b1,b2⟩:=b
 rw [Bool.eq_iff_iff];simp [zkf,zgp znf]
theorem yal (a b:Mat):zoz a b=decide (a=b):=by
 obtain ⟨a1,a2,a3,a4⟩:=a;obtain ⟨b1,b2,b3,b4⟩:=b
 rw [Bool.eq_iff_iff];simp [zoz,zgp znf,and_assoc]
theorem zok (a b:Hist):zmx a b=true ↔ a=b:=by
 obtain ⟨a1,a2,a3,a4,a5,a6,a7,a8⟩:=a;obtain ⟨b1,b2,b3,b4,b5,b6,b7,b8⟩:=b
 have e:(List.range 4).all (zm3 ⟨a1,a2,a3,a4,a5,a6,a7,a8⟩ ⟨b1,b2,b3,b4,b5,b6,b7,b8⟩)=(decide (a1=b1) && decide (a2=b2) && decide (a3=b3) && decide (a4=b4)):=by
  simp [List.range_succ,zm3,nmK,zgp zzb,Bool.and_assoc]
 simp only [zmx,e,zgp zz9,zgp yal,zgp zy3,zgp zxo,Bool.and_eq_true,decide_eq_true_eq,Hist.mk.injEq]
 constructor
 ·rintro ⟨⟨⟨⟨⟨⟨⟨h1,h2⟩,h3⟩,h4⟩,h6⟩,h7⟩,h8⟩,h5⟩;exact ⟨h1,h2,h3,h4,h5,h6,h7,h8⟩
 ·rintro ⟨h1,h2,h3,h4,h5,h6,h7,h8⟩;exact ⟨⟨⟨⟨⟨⟨⟨h1,h2⟩,h3⟩,h4⟩,h6⟩,h7⟩,h8⟩,h5⟩
theorem zl2 (a:Hist):zmx a a=true:=(zok a a).2 rfl
theorem zi5 {s:ByteArray} {c:Nat} (h1:s.size=1) (hc:c < 128) (hl:ye5 c=true) (hd:Utf8.decode s 0=(c,1)) (hne:(s.toList== [])=false) (hb:bt s 0=c) (hn:zwh c=false):wordB s=true:=by
 have hp:zfg s zk1 0 ((Utf8.decode s 0).1:Nat)=true:=by
  rw [hd]
  have h2:(((c:Nat):Int) !=65533)=true:=by simp;omega
  simp only [zfg,zqh,zk1,hl,h2,Bool.true_or,Bool.and_true]
 have hw:zde s (zfg s zk1) 0=s.size:=by
  rw [zod (by omega) hp,hd]
  exact zlu (by simp;omega)
 simp only [wordB,hne,hb,hn,hw,h1];decide
theorem zu7:wordB bT=true:=zi5 (c:=116) rfl (by decide) (by decide) (by decide) (by rw [ByteArray.toList_eq];rfl) (by decide) (by decide)
theorem zu8:wordB bS=true:=zi5 (c:=115) rfl (by decide) (by decide) (by decide) (by rw [ByteArray.toList_eq];rfl) (by decide) (by decide)
theorem zu6:wordB bX=true:=zi5 (c:=120) rfl (by decide) (by decide) (by decide) (by rw [ByteArray.toList_eq];rfl) (by decide) (by decide)
theorem yg3:wordB bY=true:=zi5 (c:=121) rfl (by decide) (by decide) (by decide) (by rw [ByteArray.toList_eq];rfl) (by decide) (by decide)
def zq2:Hist:={zgj with evs:=zgj.evs.take 2}
def zma:Hist:={zgj with os:= [bY,bX],evs:= [⟨1,0,0,1,0,⟨0,0⟩,0,[]⟩,⟨2,0,0,0,1,⟨0,1⟩,0,[]⟩,⟨5,0,0,0,0,⟨0,0⟩,0,[]⟩]}
theorem xy:yaj bX [bY]=false:=by decide
theorem zoi:zav zgj=true:=by
 have h:okK zgj 4=true:=by
  simp only [okK,nmK,zhl,zgj,zea,zu7,zu8,zu6,List.length_singleton,List.length_nil];decide
 rw [zav,h];decide
theorem zqm:zav zq2=true:=by
 have h:okK zq2 4=true:=by
  simp only [okK,nmK,zhl,zq2,zgj,zea,zu7,zu8,zu6,List.length_singleton,List.length_nil];decide
 rw [zav,h];decide
theorem zil:zav zma=true:=by
 have h:okK zma 4=true:=by
  simp only [okK,nmK,zhl,zma,zgj,zea,zu7,zu8,zu6,yg3,List.length_cons,List.length_nil,List.nil_append,xy];decide
 rw [zav,h];decide
theorem zwp:zf9 zgj=true:=by rw [zf9,zoi];decide
theorem yak:zf9 zq2=true:=by rw [zf9,zqm];decide
theorem w1:zxy zq2=0:=by rw [zxy,yak];decide
theorem w2:ofR zgj 0= [0,1,2]:=by rw [ofR,zwp];decide
theorem w3:ynm zma=0:=by rw [ynm,zil];rfl
theorem w4:zck zma=210:=by
 have:zf9 zma=false:=by rw [zf9,zil];decide
 rw [zck,this];rfl
theorem w5:ycq zq2=ycr zq2:=by rw [ycq,if_pos w1]
def isB (n m:Int):Bool:=decide (n ≥ 0) && decide (n < m)
def atI (n:Int):Nat→List Int→Int
 |_,[]=> -1
 |i,x::r=>if x=n then (i:Int) else atI n (i+1) r
set_option maxRecDepth 20000
abbrev Rw:=Nat→List Int
def ykz (l:List Int) (n:Int):List Int:=if atI n 0 l ≥ 0 then l else l++ [n]
def yom (l:List Int) (v:Ver):List Int:=if v.k=0 then l else ykz l v.t
def zhb (L:Rw) (x:Nat×Int):Rw:=fun i=>match Nat.beq i x.1 with
 |true=>ykz (L i) x.2
 |false=>L i
def yhk (L:Rw) (v:Ver):Rw:=fun i=>match Nat.beq i 0 with
 |true=>yom (L i) v
 |false=>L i
def stepS (L:Rw) (s:Seen):Rw:=yhk (zhb L (2,s.o)) s.v
def ylr (L:Rw) (e:Ev):Rw:=
 if e.kind=1 then zhb L (1,e.s) else if e.kind=2∨e.kind=3 then yhk (zhb L (2,e.o)) e.v else if e.kind=4 then zhb L (3,e.p) else L
def stepE (L:Rw) (e:Ev):Rw:=e.scan.foldl stepS (ylr (zhb L (0,e.t)) e)
def yon (L:Rw) (t:Int):Rw:=zhb L (0,t)
def stepM (L:Rw) (r:Mat):Rw:=r.ts.foldl yon (zhb (zhb L (3,r.p)) (2,r.o))
def upR (n:Nat):List Int:=(List.range n).map fun i:Nat=>(i:Int)
theorem zrz (n:Int):∀(l:List Int) (i:Nat),atI n i l ≥ 0 ↔ n∈l
 | [],i=>by simp [atI]
 |x::r,i=>by
  unfold atI
  split
  ·rename_i h;simp [h]
  ·rename_i h
   rw [zrz n r (i+1),List.mem_cons]
   constructor
   ·intro k;exact .inr k
   ·rintro (k|k)
    ·exact absurd k.symm h
    ·exact k
theorem ybx (l:List Int) (n:Int):ykz l n=if n∈l then l else l++ [n]:=by
 unfold ykz
 by_cases h:n∈l
 ·rw [if_pos ((zrz n l 0).2 h),if_pos h]
 ·rw [if_neg (fun q=>h ((zrz n l 0).1 q)),if_neg h]
theorem zzd (L:Rw) (x:Nat×Int):zhb L x x.1=ykz (L x.1) x.2:=by
 unfold zhb;rw [Nat.beq_refl]
theorem zzc (L:Rw) (x:Nat×Int) {i:Nat} (h:i≠x.1):zhb L x i=L i:=by
 unfold zhb
 rw [show Nat.beq i x.1=false from by
  cases q:Nat.beq i x.1 with
  |false=>rfl
  |true=>exact absurd (Nat.eq_of_beq_eq_true q) h]
theorem grow (xs:List (Nat×Int)):∀(L:Rw) (s:Nat),∃m,xs.foldl zhb L s=L s++m:=by
 induction xs with
 |nil=>intro L s;exact ⟨[],by simp⟩
 |cons x xs ih=>
  intro L s
  obtain ⟨m,hm⟩:=ih (zhb L x) s
  rw [List.foldl_cons,hm]
  by_cases h:s=x.1
  ·subst h
   rw [zzd,ybx]
   split
   ·exact ⟨m,rfl⟩
   ·exact ⟨x.2::m,by simp⟩
  ·rw [zzc _ _ h];exact ⟨m,rfl⟩
def zob (L:Rw) (m:List Int):Prop:=m.length=4∧∀s,s < 4→0≤m.getD s 0∧L s=upR (m.getD s 0).toNat
theorem ymi {h:Hist} (hm:zf9 h=true):∀e∈h.evs,0≤e.t∧e.t < h.ts.length:=by
 intro e he
 have hs:zav h=true:=by unfold zf9 at hm;simp only [Bool.and_eq_true] at hm;exact hm.1
 have:=(zdg hs).2.1 e he
 obtain ⟨_,_,ht,_⟩:=zg1 this
 exact (zbo _ _).1 ht
def yfh (l:List Ev) (t c:Int):Bool:= !(l.all fun e=> !(e.t==t && e.kind==c))
theorem zjl (l:List Ev) (t c:Int):yfh l t c=l.any fun e=>e.t==t && e.kind==c:=by
 induction l with
 |nil=>rfl
 |cons e l ih=>
  rw [List.any_cons,←ih,yfh,List.all_cons,Bool.not_and,Bool.not_not];rfl
def ztl (l:List Ev) (t:Int):Bool:=yfh l t 1
def zz7 (l:List Ev) (t:Int):Bool:=l.any fun y=>y.t==t && (y.kind==5||y.kind==6)
def zlt (l:List Ev) (t x:Int):List Ev:=l.filter fun y=>y.kind==2 && y.t==t && y.o==x
def zum (l:List Ev) (t x:Int):Option Ver:=((zlt l t x).getLast?).map Ev.v
def zlw (l:List Ev) (x:Int) (v:Ver):Bool:=l.any fun y=>y.kind==2 && y.o==x && y.v==v
def zhc (e:Ev):List Seen:=if e.kind=3 then [⟨e.o,e.v⟩] else e.scan
def zb2 (rule:Nat) (e:Ev) (l:List Ev):Bool:=
 match rule with
 |1=>ztl l e.t==(e.kind==1)
 |2=>zz7 l e.t
 |3=>e.kind==2 && e.v.k !=((zlt l e.t e.o).length:Int)+1
 |4=>(zhc e).any fun s=>decide (s.v.k > 0) && !zlw l s.o s.v
 |5=>(zhc e).any fun s=>match zum l e.t s.o with|some v=>v !=s.v|none=>false
 |6=> !decide ((e.scan.map Seen.o).Nodup)
 |_=>false
def srt (l:List Int):List Int:=l.mergeSort (fun x y=>decide (x≤y))
def za6:List Int→List Int
 | []=> []
 | [x]=> [x]
 |x::y::r=>if x=y then za6 (y::r) else x::za6 (y::r)
theorem zf1 (z:Int):∀l:List Int,z∈za6 l ↔ z∈l
 | []=>Iff.rfl
 | [x]=>Iff.rfl
 |x::y::r=>by
  rw [za6]
  split
  ·rename_i h;subst h;rw [zf1 z (x::r)];simp
  ·rw [List.mem_cons,zf1 z (y::r),List.mem_cons (a:=z) (b:=x)]
theorem zhr:∀l:List Int,l.Pairwise (· ≤ ·)→(za6 l).Pairwise (· < ·)
 | [],_=> .nil
 | [x],_=>by simp [za6]
 |x::y::r,h=>by
  rw [za6]
  obtain ⟨h1,h2⟩:=List.pairwise_cons.1 h
  split
  ·exact zhr _ h2
  ·rename_i hne
   refine List.pairwise_cons.2 ⟨fun z hz=> ?_,zhr _ h2⟩
   rw [zf1] at hz
   obtain ⟨h3,h4⟩:=List.pairwise_cons.1 h2
   have hxy:=h1 y (by simp)
   rcases List.mem_cons.1 hz with rfl|hz
   ·omega
   ·have:=h3 z hz;omega
theorem zk4:∀l:List Int,(za6 l).length≤l.length
 | []=>by simp [za6]
 | [x]=>by simp [za6]
 |x::y::r=>by
  rw [za6];have:=zk4 (y::r)
  split <;> simp only [List.length_cons] at * <;> omega
theorem zmk:∀l:List Int,(za6 l).length=l.length→za6 l=l
 | [],_=>rfl
 | [x],_=>rfl
 |x::y::r,h=>by
  rw [za6] at h ⊢
  have hl:=zk4 (y::r)
  split at h
  ·simp only [List.length_cons] at h hl;omega
  ·rename_i hne
   rw [if_neg hne,zmk (y::r) (by simpa using h)]
theorem zd6 (l:List Int):(srt l).Perm l:=List.mergeSort_perm _ _
theorem zvr (l:List Int):(srt l).Pairwise (· ≤ ·):=by
 have:=List.pairwise_mergeSort (le:=fun x y:Int=>decide (x≤y)) (by intro a b c;simp;omega) (by intro a b;simp;omega) l
 exact this.imp (by simp)
theorem zjg {l:List Int} (h:l.Pairwise (· < ·)):l.Nodup:=h.imp (fun h e=>by omega)
theorem zk3:∀l:List Int,l.Nodup→za6 l=l
 | [],_=>rfl
 | [x],_=>rfl
 |x::y::r,h=>by
  obtain ⟨h1,h2⟩:=List.nodup_cons.1 h
  rw [za6,if_neg (by rintro rfl;exact h1 (by simp)),zk3 _ h2]
theorem zud (l:List Int):(za6 (srt l)).length=l.length ↔ l.Nodup:=by
 have hl:(srt l).length=l.length:=(zd6 l).length_eq
 constructor
 ·intro h
  have e:=zmk (srt l) (by rw [h,hl])
  have:=zjg (zhr _ (zvr l))
  rw [e] at this
  exact (zd6 l).nodup_iff.1 this
 ·intro h
  rw [zk3 _ ((zd6 l).nodup_iff.2 h),hl]
theorem yiz:∀(l m:List Int),l.Pairwise (· < ·)→m.Pairwise (· < ·)→(∀z,z∈l ↔ z∈m)→l=m:=by
 intro l m hl hm h
 refine List.Perm.eq_of_pairwise (le:=(· ≤ ·)) (fun a b _ _ h1 h2=>by omega) (hl.imp (fun h=>by omega)) (hm.imp (fun h=>by omega)) ?_
 exact (List.perm_ext_iff_of_nodup (zjg hl) (zjg hm)).2 h
def zah (l:List Ev) (x:Int):List Int:=za6 (srt ((l.filter fun e=>e.kind==2 && e.o==x && l.any fun y=>y.t==e.t && y.kind==5).map Ev.t))
def zi4 (h:Hist) (x:Int):List Int:=((upR h.ts.length).filter fun t=>(h.evs.any fun e=>e.kind==2 && e.t==t && e.o==x) && yfh h.evs t 5)
theorem ztu {h:Hist} (ht:∀e∈h.evs,0≤e.t∧e.t < h.ts.length) (x:Int) (hu:(upR h.ts.length).Pairwise (· < ·)) (hm:∀z,z∈upR h.ts.length ↔ 0≤z∧z < h.ts.length):zah h.evs x=zi4 h x:=by
 refine yiz _ _ (zhr _ (zvr _)) (hu.filter _) fun z=> ?_
 rw [zah,zf1,(zd6 _).mem_iff]
 simp only [zi4,zjl,List.mem_map,List.mem_filter,hm,Bool.and_eq_true,List.any_eq_true,beq_iff_eq]
 constructor
 ·rintro ⟨e,⟨he,⟨h2,h3⟩,y,hy,h4,h5⟩,rfl⟩
  exact ⟨ht e he,⟨e,he,⟨h2,rfl⟩,h3⟩,y,hy,h4,h5⟩
 ·rintro ⟨_,⟨e,he,⟨h2,rfl⟩,h3⟩,y,hy,h4,h5⟩
  exact ⟨e,⟨he,⟨h2,h3⟩,y,hy,h4,h5⟩,rfl⟩
def zq3 (ts f:List Int):Bool:=decide ((za6 (srt ts)).length=ts.length) && !ts.any fun t=> !f.contains t
def zql (ts f:List Int):Bool:=decide ts.Nodup && ts.all fun t=>f.contains t
theorem zwf (ts f:List Int):zq3 ts f=zql ts f:=by
 unfold zq3 zql
 rw [Bool.eq_iff_iff]
 simp only [Bool.and_eq_true,decide_eq_true_eq,zud,List.all_eq_true,Bool.not_eq_true',List.any_eq_false,Bool.not_eq_true,Bool.not_eq_false',Bool.not_eq_false]
theorem zjb:∀(ts f:List Int),ts.Nodup→(∀t∈ts,t∈f)→ts.length≤f.length
 | [],f,_,_=>by simp
 |t::r,f,hn,hs=>by
  obtain ⟨h1,h2⟩:=List.nodup_cons.1 hn
  have ht:=hs t (by simp)
  have:=zjb r (f.erase t) h2 (fun z hz=>(List.mem_erase_of_ne (by rintro rfl;exact h1 hz)).2 (hs z (by simp [hz])))
  rw [List.length_erase_of_mem ht] at this
  have:=List.length_pos_of_mem ht
  rw [List.length_cons];omega
theorem zzj {ts f:List Int} (hf:f.Nodup) (h:zql ts f=true):decide (ts.length=f.length)=zql f ts:=by
 simp only [zql,Bool.and_eq_true,decide_eq_true_eq,List.all_eq_true,List.contains_iff_mem] at h
 rw [Bool.eq_iff_iff]
 simp only [zql,Bool.and_eq_true,decide_eq_true_eq,List.all_eq_true,List.contains_iff_mem]
 constructor
 ·intro e
  refine ⟨hf,fun t ht=>Classical.byContradiction fun hn=> ?_⟩
  have:=zjb (t::ts) f (List.nodup_cons.2 ⟨hn,h.1⟩) (fun z hz=>by rcases List.mem_cons.1 hz with rfl|hz;exact ht;exact h.2 z hz)
  rw [List.length_cons] at this;omega
 ·rintro ⟨_,hs⟩
  exact Nat.le_antisymm (zjb _ _ h.1 h.2) (zjb _ _ hf hs)
theorem ydb (n:Nat) (z:Int):z∈upR n ↔ 0≤z∧z < n:=by
 simp only [upR,List.mem_map,List.mem_range]
 constructor
 ·rintro ⟨i,hi,rfl⟩;omega
 ·rintro ⟨h0,h1⟩;exact ⟨z.toNat,by omega,by omega⟩
theorem yha (n:Nat):(upR n).Pairwise (· < ·):=by
 rw [upR,List.pairwise_map]
 exact List.pairwise_lt_range.imp (fun h=>by omega)
theorem zjy {h:Hist} (hm:zf9 h=true) (x:Int):zah h.evs x=zi4 h x:=
 ztu (ymi hm) x (yha _) (ydb _)
theorem zg8 (l:List Ev) (x:Int):(zah l x).Nodup:=zjg (zhr _ (zvr _))
def zhi (h:Hist) (i:Nat) (r:Ord):Bool:=((h.ords.take i).any fun p=>p.o==r.o)|| !zq3 r.ts (zah h.evs r.o)|| !decide (r.ts.length=(zah h.evs r.o).length)
def zq7 (h:Hist) (x:Int):Bool:=decide (1 < (zah h.evs x).length) && !h.ords.any fun r=>r.o==x
def zmb (h:Hist) (i:Nat) (r:Mat):Bool:=((h.mats.take i).any fun p=>p.p==r.p && p.o==r.o)|| !zq3 r.ts (zah h.evs r.o)
def zle (h:Hist) (i:Nat) (r:Wan):Bool:=((h.wants.take i).any fun p=>p.s==r.s)|| !h.evs.any fun e=>e.kind==1 && e.s==r.s
def zdh {α:Type} (w:Nat→α→Bool):Nat→List α→Option Nat
 |_,[]=>none
 |i,x::r=>if w i x then some i else zdh w (i+1) r
def zci (h:Hist) (rule:Nat):Option Nat:=
 match rule with
 |7=>zdh (zhi h) 0 h.ords
 |8=>zdh (fun x _=>zq7 h (x:Int)) 0 h.os
 |9=>zdh (zmb h) 0 h.mats
 |10=>zdh (zle h) 0 h.wants
 |r=>zdh (fun i e=>zb2 r e (h.evs.take i)) 0 h.evs
def zbg (p:Nat→Option Nat):List Nat→Option (Nat×Nat)
 | []=>none
 |r::l=>match p r with|some i=>some (r,i)|none=>zbg p l
def rules10:List Nat:= [1,2,3,4,5,6,7,8,9,10]
theorem zib {p:Nat→Option Nat}:∀{l:List Nat},zbg p l=none→∀q∈l,p q=none
 | [],_,q,hq=>by cases hq
 |a::l,h,q,hq=>by
  rw [zbg] at h
  cases ha:p a with
  |some j=>rw [ha] at h;cases h
  |none=>rw [ha] at h;rcases List.mem_cons.1 hq with rfl|hq;exact ha;exact zib h q hq
theorem zep {α:Type} {w:Nat→α→Bool}:∀(l:List α) (i:Nat),zdh w i l=none ↔ ∀j,(h:j < l.length)→w (i+j) l[j]=false
 | [],i=>by simp [zdh]
 |x::r,i=>by
  rw [zdh]
  constructor
  ·intro h j hj
   split at h
   ·cases h
   ·rename_i h0
    cases j with
    |zero=>simpa using h0
    |succ j=>
     have:=(zep r (i+1)).1 h j (by simpa using hj)
     rw [show i+(j+1)=i+1+j by omega];exact this
  ·intro h
   have h0:w i x=false:=h 0 (Nat.zero_lt_succ _)
   rw [if_neg (by rw [h0];decide)]
   refine (zep r (i+1)).2 fun j hj=> ?_
   have:=h (j+1) (by simpa using hj)
   rw [show i+1+j=i+(j+1) by omega];exact this
theorem zl6 {k:Nat} (h1:1≤k) (h2:k≤10):rules10.drop (k - 1)=k::rules10.drop k:=by
 have:∀k,k < 11→1≤k→rules10.drop (k - 1)=k::rules10.drop k:=by decide
 exact this k (by omega) h1
theorem zut {p:Nat→Option Nat} {k:Nat} (h1:1≤k) (h2:k≤10) (hz:zbg p rules10=zbg p (rules10.drop (k - 1))) (hp:p k=none):zbg p rules10=zbg p (rules10.drop (k+1 - 1)):=by
 rw [hz,zl6 h1 h2,zbg,hp];rfl
theorem zxn {p:Nat→Option Nat} {k i:Nat} (h1:1≤k) (h2:k≤10) (hz:zbg p rules10=zbg p (rules10.drop (k - 1))) (hp:p k=some i):zbg p rules10=some (k,i):=by
 rw [hz,zl6 h1 h2,zbg,hp]
theorem zuu {p:Nat→Option Nat} {k:Nat} (h1:11≤k) (h2:k≤11) (hz:zbg p rules10=zbg p (rules10.drop (k - 1))):zbg p rules10=none:=by
 obtain rfl:k=11:=by omega
 rw [hz];rfl
def ziu (h:Hist):Option (Nat×Nat):=zbg (zci h) rules10
def ynp:Option (Nat×Nat)→List AV
 |some (r,i)=> [iv r,iv i]
 |none=> [iv 0,iv 0]
def zbp (h:Hist):Bool:=zf9 h && (ziu h).isNone
def zgb (h:Hist):AV:=if zf9 h=true then .tup [.agg (ynp (ziu h)),bv (ziu h).isSome,iv 0] else .tup [.agg [iv 0,iv 0],bv false,iv 210]
def yoa:Option Nat→Int
 |some n=>n
 |none=>0
theorem yf8 (o:Option (Nat×Nat)):∃i j,ynp o= [iv i,iv j]:=by
 cases o with
 |none=>exact ⟨_,_,rfl⟩
 |some p=>exact ⟨_,_,rfl⟩
theorem zpe (h:Hist):∃i j b e,zgb h= .tup [.agg [iv i,iv j],bv b,iv e]∧zbp h=((e==0) && !b):=by
 unfold zgb zbp
 obtain ⟨i,j,hb⟩:=yf8 (ziu h)
 by_cases hm:zf9 h=true
 ·rw [if_pos hm,hm,hb];refine ⟨_,_,_,_,rfl,?_⟩;cases ziu h <;> rfl
 ·rw [if_neg hm,Bool.eq_false_iff.2 hm];exact ⟨_,_,_,_,rfl,rfl⟩
def zpq (e:Ev):Ev:={e with scan:=e.scan.take 12}
def zrt (r:Ord):Ord:={r with ts:=r.ts.take 14}
def zuw (r:Mat):Mat:={r with ts:=r.ts.take 14}
def zgh (h:Hist):Hist:=⟨zld 12 h.ts,zld 8 h.ss,zld 10 h.os,zld 6 h.ps,(h.evs.take 70).map zpq,(h.ords.take 14).map zrt,(h.mats.take 20).map zuw,h.wants.take 12⟩
theorem zc6 (h:Hist):Lim 100 (zgh h):=by
 refine ⟨?_,?_,?_,?_,?_,?_,?_,?_,?_,?_,?_⟩
 iterate 4 (· simp only [zgh,zld,oM,List.length_take];omega)
 iterate 4 (· simp only [zgh,oM,List.length_take];omega)
 ·intro e he
  simp only [zgh,List.mem_map] at he
  obtain ⟨e',_,rfl⟩:=he
  simp only [zpq,List.length_take];omega
 ·intro e he
  simp only [zgh,List.mem_map] at he
  obtain ⟨e',_,rfl⟩:=he
  simp only [zrt,List.length_take];omega
 ·intro e he
  simp only [zgh,List.mem_map] at he
  obtain ⟨e',_,rfl⟩:=he
  simp only [zuw,List.length_take];omega
theorem zfn {h:Hist} (hs:zbp h=true):zf9 h=true∧zbg (zci h) rules10=none:=by
 unfold zbp at hs
 simp only [Bool.and_eq_true,Option.isNone_iff_eq_none] at hs
 exact hs
section
variable (ρ:Nat→Int→Int)
end
section
variable {σ:Type} {f:σ→Nat→Int→Int×σ} {ρ:Nat→Int→Int}
variable (f) in
def after:σ→List (Nat×Int)→σ
 |s,[]=>s
 |s,x::l=>after (f s x.1 x.2).2 l
end
section
variable (ρ:Nat→Int→Int)
end
structure Cnt (k:yg2) (m:List Int):Prop where
 k4:k.length=4
 m4:m.length=4
 eq:∀s,s < 4→m.getD s 0=(k.getD s []).length
def yh4 (m:Nat):List Int:=(List.range m).map Int.ofNat
structure Rng (k:yg2) (m:List Int):Prop where
 cnt:Cnt k m
 rg:∀s,s < 4→k.getD s []=yh4 (k.getD s []).length
section
variable {h:Hist} (hs:zav h=true)
include hs
end
section
variable {h n:Hist} {ρ:Nat→Int→Int}
end
def zr2 (t x:Int) (e:Ev):Bool:=e.kind==2 && e.t==t && e.o==x
theorem yg9 (k:Nat):upR (k+1)=upR k++ [(k:Int)]:=by simp [upR,List.range_succ]
section
variable {h:Hist} {i:Nat}
end
section
variable {l:List Ev} {t x:Int} {k:Nat}
end
def zjn {α:Type} (f:Nat→Ev→Option α) (l:List Ev):Nat→List α
 |0=> []
 |k+1=>zjn f l k++(match l[k]? with|some e=>(f k e).toList|none=> [])
theorem zxi {α:Type} {f:Nat→Ev→Option α} {l:List Ev} {k:Nat} (h:k < l.length):zjn f l (k+1)=zjn f l k++(f k l[k]).toList:=by
 rw [zjn,List.getElem?_eq_getElem h]
theorem zno {α:Type} (f:Nat→Ev→Option α) (l:List Ev):∀k,(zjn f l k).length≤k
 |0=>by simp [zjn]
 |k+1=>by
  have:=zno f l k
  rw [zjn,List.length_append]
  have:(match l[k]? with|some e=>(f k e).toList|none=> []).length≤1:=by
   cases l[k]? with
   |none=>simp
   |some e=>simp only [];cases f k e <;> simp
  omega
theorem zku {α:Type} {f:Nat→Ev→Option α} {p:Ev→Bool} {g:Ev→α} (hf:∀k e,f k e=if p e=true then some (g e) else none) (l:List Ev):∀k,k≤l.length→zjn f l k=((l.take k).filter p).map g
 |0,_=>by simp [zjn]
 |k+1,h=>by
  have hk:k < l.length:=h
  rw [zxi hk,zku hf l k (by omega),List.take_succ_eq_append_getElem hk,List.filter_append,List.map_append,hf]
  by_cases hp:p l[k]=true
  ·rw [if_pos hp,List.filter_cons_of_pos hp];rfl
  ·rw [if_neg hp,List.filter_cons_of_neg hp];rfl
theorem ya7 {α:Type} {f:Nat→Ev→Option α} {p:Ev→Bool} {g:Ev→α} (hf:∀k e,f k e=if p e=true then some (g e) else none) (l:List Ev):zjn f l l.length=(l.filter p).map g:=by
 rw [zku hf l _ (Nat.le_refl _),List.take_length]
def zul (l:List Ev) (t x:Int):Nat→Option (Ver×Nat)
 |0=>none
 |k+1=>match l[k]? with
  |some e=>if zr2 t x e=true then some (e.v,k) else zul l t x k
  |none=>zul l t x k
def ym0 (l:List Ev) (t x:Int):Option (Ver×Nat):=zul l t x l.length
def ynk:Option (Ver×Nat)→Ver
 |some p=>p.1
 |none=>⟨0,0⟩
def zei (l:List Ev) (s:Int):List Int:=(l.filter fun e=>e.kind==1 && (e.s==s && yfh l e.t 5)).map Ev.t
def yg1 (l:List Ev) (x:Int):List Int:=(l.filter fun e=>e.kind==2 && (e.o==x && yfh l e.t 5)).map Ev.t
def zfi (h:Hist) (x:Int):List Int:=match h.ords.find? (fun o=>o.o==x) with|some o=>o.ts|none=>za6 (yg1 h.evs x)
def ymo (h:Hist) (x:Int):List Int:=match h.ords.find? (fun o=>o.o==x) with|some o=>o.ts|none=>zi4 h x
def u6 (h:Hist):Int:=if zf9 h=true then (if zbp h=true then 0 else 250) else 210
theorem zbb {h:Hist}:u6 h=0 ↔ zbp h=true:=by
 unfold u6
 by_cases hm:zf9 h=true
 ·rw [if_pos hm]
  by_cases hs:zbp h=true
  ·rw [if_pos hs];simp [hs]
  ·rw [if_neg hs];simp [hs]
 ·rw [if_neg hm]
  have:zbp h=false:=by rw [zbp,Bool.eq_false_iff.2 hm];rfl
  simp [this]
theorem zho {α:Type} (p:α→Bool):∀(l:List α) (i:Nat),(match l.find? p with|some x=>∃k,∃hk:k < l.length,za5 p i l=((i+k:Nat):Int)∧l[k]=x∧p x=true|none=>za5 p i l= -1)
 | [],i=>rfl
 |a::r,i=>by
  rw [List.find?_cons]
  cases ha:p a with
  |true=>exact ⟨0,by simp,by rw [za5,if_pos ha];rfl,rfl,ha⟩
  |false=>
   have:=zho p r (i+1)
   rw [za5,if_neg (by rw [ha];decide)]
   dsimp only
   cases hf:r.find? p with
   |some x=>
    rw [hf] at this
    obtain ⟨k,hk,e1,e2,e3⟩:=this
    exact ⟨k+1,by simpa using hk,by rw [e1];congr 1;omega,by simpa using e2,e3⟩
   |none=>
    rw [hf] at this
    exact this
theorem zlz {h:Hist} (hs:zbp h=true) {q:Nat} (h1:1≤q) (h2:q≤10):zci h q=none:=
 zib (zfn hs).2 q (by have:∀k,k < 11→1≤k→k∈rules10:=by decide
                      exact this q (by omega) h1)
theorem zk5 {a:Int}:∀l:List Int,l≠ []→(∀z∈l,z=a)→za6 l= [a]
 | [],h,_=>absurd rfl h
 | [x],_,h=>by rw [h x (by simp)];rfl
 |x::y::r,_,h=>by
  rw [za6,if_pos (by rw [h x (by simp),h y (by simp)])]
  exact zk5 (y::r) (by simp) (fun z hz=>h z (by simp only [List.mem_cons] at hz ⊢;exact .inr hz))
theorem zxz {l:List Int} (h:(za6 (srt l)).length≤1):za6 l=za6 (srt l):=by
 have hm:∀z,z∈za6 (srt l) ↔ z∈l:=fun z=>by rw [zf1,(zd6 l).mem_iff]
 match hc:za6 (srt l),h with
 | [],_=>
   have:l= []:=by
    rw [List.eq_nil_iff_forall_not_mem];intro z hz
    have:=(hm z).2 hz;rw [hc] at this;cases this
   rw [this];rfl
 | [a],_=>
   refine zk5 l ?_ fun z hz=> ?_
   ·rintro rfl
    have:=(hm a).1 (by rw [hc];simp);cases this
   ·have:=(hm z).2 hz
    rw [hc] at this;simpa using this
 |a::b::r,h=>simp at h
theorem zis (l:List Ev) (x:Int):za6 (srt (yg1 l x))=zah l x:=by
 rw [yg1,zah]
 congr 3
 refine List.filter_congr fun e _=> ?_
 rw [zjl,Bool.and_assoc]
theorem zwm {h:Hist} (hs:zbp h=true) {x:Int} (h0:0≤x) (h1:x < h.os.length) (hn:h.ords.find? (fun o=>o.o==x)=none):(zah h.evs x).length≤1:=by
 have hp:=zlz hs (q:=8) (by omega) (by omega)
 have:=(zep _ _).1 hp x.toNat (by omega)
 rw [Nat.zero_add,show ((x.toNat:Nat):Int)=x by omega,zq7] at this
 rw [List.find?_eq_none] at hn
 have ha:h.ords.any (fun r=>r.o==x)=false:=by
  rw [List.any_eq_false];intro o ho;exact hn o ho
 rw [ha] at this
 simp at this
 exact this
theorem yjh {h:Hist} (hs:zbp h=true) {x:Int} (h0:0≤x) (h1:x < h.os.length):zfi h x=ymo h x:=by
 unfold zfi ymo
 cases hf:h.ords.find? (fun o=>o.o==x) with
 |some o=>rfl
 |none=>
  have:=zwm hs h0 h1 hf
  rw [←zjy (zfn hs).1,←zis,zxz (by rw [zis];exact this)]
def yh2 (h:Hist) (x:Int) (v:Ver):Int:=za5 (fun t=>ynk (ym0 h.evs t x)==v) 0 (zfi h x)
theorem zls {t x:Int} {e:Ev}:zr2 t x e=true ↔ e.kind=2∧e.t=t∧e.o=x:=by
 simp only [zr2,Bool.and_eq_true,beq_iff_eq,and_assoc]
theorem zrg {h:Hist} (hs:zbp h=true) {x:Int} (h0:0≤x) (h1:x < h.os.length):(zfi h x).Nodup∧(zfi h x).length=(zah h.evs x).length∧∀z,z∈zfi h x ↔ z∈zah h.evs x:=by
 have hm:=(zfn hs).1
 cases hf:h.ords.find? (fun o=>o.o==x) with
 |none=>
  have e:zfi h x=zah h.evs x:=by
   rw [yjh hs h0 h1,ymo,hf,zjy hm]
  rw [e];exact ⟨zg8 _ _,rfl,fun _=>Iff.rfl⟩
 |some o=>
  have e:zfi h x=o.ts:=by rw [zfi,hf]
  have:=zho (fun o:Ord=>o.o==x) h.ords 0
  rw [hf] at this
  obtain ⟨k,hk,_,ek,eo⟩:=this
  have hp:zdh (zhi h) 0 h.ords=none:=zlz hs (q:=7) (by omega) (by omega)
  have:=(zep _ _).1 hp k hk
  rw [Nat.zero_add,ek,zhi] at this
  have ex:o.o=x:=by simpa using eo
  simp only [Bool.or_eq_false_iff,Bool.not_eq_false',ex] at this
  obtain ⟨⟨_,h2⟩,h3⟩:=this
  rw [zwf] at h2
  have h4:=(zzj (zg8 h.evs x) h2).symm.trans h3
  simp only [zql,Bool.and_eq_true,decide_eq_true_eq,List.all_eq_true,List.contains_iff_mem] at h2 h4
  rw [e]
  exact ⟨h2.1,by simpa using h3,fun z=>⟨h2.2 z,h4.2 z⟩⟩
end Go.H
namespace Go.Proofs
open Go Go.Ab
open Go.H
theorem yik {P:Program} {h:List Res} {f:Operand→Option AV} {o:Oper} {b c:Bool} (hq:QR P h f o (.v (.bool b))) (e:b=c):QR P h f o (.v (.bool c)):=by subst e;exact hq
theorem nzT {a:Int} (h:(a !=0)=true):a≠0:=by simpa using h
theorem nzF {a:Int} (h:(a !=0)=false):a=0:=by simpa using h
end Go.Proofs
