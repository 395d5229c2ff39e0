/- What package lex, and the decoding of runes, answer. Conditions: none (definitions). -/
import Derived.Test.YtcaijocpofcbdaaGreatDoorSShC
set_option linter.unusedSimpArgs false
set_option linter.unusedVariables false
namespace Go.H
open Go Go.Ab
def bt (s:ByteArray) (i:Nat):Int:=if h:i < s.size then ((s[i]'h).toNat:Int) else 0
def zbr (i:Nat):Int:=
 if i < 128 then 240 else if i < 194 then 241 else if i < 224 then 2 else if i=224 then 19 else if i < 237 then 3 else if i=237 then 35 else
 if i < 240 then 3 else if i=240 then 52 else if i < 244 then 4 else if i=244 then 68 else 241
def y9:List AV:=(List.range 256).map fun i=> .v (.int .u8 (zbr i))
def za9:Nat→Int
 |1=>160
 |3=>144
 |_=>128
def zba:Nat→Int
 |2=>159
 |4=>143
 |_=>191
def y4:List AV:= [.v (.int .u8 128),.v (.int .u8 191),.v (.int .u8 160),.v (.int .u8 191),.v (.int .u8 128),.v (.int .u8 159),.v (.int .u8 144),.v (.int .u8 191),.v (.int .u8 128),.v (.int .u8 143)]++List.replicate 22 (.v (.int .u8 0))
def y8:List AV:= [iv 300,iv 60,iv 300,iv 60]
def bI (op:BinOp) (k:IntKind) (x y:Int):Int:=(zz7 op k x y).getD 0
def sI (op:BinOp) (k:IntKind) (x y:Int):Int:=(zrk op k x y).getD 0
def zb2 (b m sh:Int):Int:=if sh=0 then IntKind.i32.wrap (bI .and .u8 b m) else sI .shl .i32 (IntKind.i32.wrap (bI .and .u8 b m)) sh
def zhx (x:Int):Int:=sI .shr .i32 (sI .shl .i32 (IntKind.i32.wrap x) 31) 31
def y7 (s:ByteArray):Int×Int:=
 if s.size < 1 then (65533,0) else
 let x:=zbr (bt s 0).toNat
 if x ≥ 240 then (bI .or .i32 (bI .andNot .i32 (IntKind.i32.wrap (bt s 0)) (zhx x)) (bI .and .i32 65533 (zhx x)),1) else
 let sz:=x % 8
 let acc:=(x / 16).toNat
 if (s.size:Int) < sz then (65533,1) else
 if bt s 1 < za9 acc∨zba acc < bt s 1 then (65533,1) else
 if sz≤2 then (bI .or .i32 (zb2 (bt s 0) 31 6) (zb2 (bt s 1) 63 0),2) else
 if bt s 2 < 128∨191 < bt s 2 then (65533,1) else
 if sz≤3 then (bI .or .i32 (bI .or .i32 (zb2 (bt s 0) 15 12) (zb2 (bt s 1) 63 6)) (zb2 (bt s 2) 63 0),3) else
 if bt s 3 < 128∨191 < bt s 3 then (65533,1) else
 (bI .or .i32 (bI .or .i32 (bI .or .i32 (zb2 (bt s 0) 7 18) (zb2 (bt s 1) 63 12)) (zb2 (bt s 2) 63 6)) (zb2 (bt s 3) 63 0),4)
def zhf (s:ByteArray):Int×Int:=if 0 < s.size∧bt s 0 < 128 then (bt s 0,1) else y7 s
theorem ze0 (s:ByteArray) (i:Nat):0≤bt s i:=by unfold bt;split <;> omega
theorem zez (s:ByteArray) (i:Nat):bt s i < 256:=by
 unfold bt;split
 ·rename_i h;have:=(s[i]'h).toNat_lt;omega
 ·omega
section
variable {P:Program} {dst:Option Tmp} {ty:TypeId} {pos:String} {after:Array Edge} {guard:Option (Nat×Bool)} {x y:Operand} {h:List Res} {f:Operand→Option AV}
theorem v7 {T:TypeId} (i:Nat) {s:ByteArray} (hx:f x=some (.v (.string s))) (hy:f y=some (.v (.int .i64 i))) [Und P T .string] (hi:i < s.size):
 QR P h f ⟨dst,.index T x y,ty,pos,after,guard⟩ (.v (.int .u8 (bt s i))):=by
 have:=znw (P:=P) (h:=h) (T:=T) (dst:=dst) (ty:=ty) (pos:=pos) (after:=after) (guard:=guard) hx hy hi
 have e:bt s i=((s[i]'hi).toNat:Int):=by simp [bt,hi]
 rw [e];exact this
theorem u2 {T E:TypeId} {n b o sz:Nat} {i:Int} {kk:IntKind} (hx:f x=some (.v (.pointer (some ⟨b,o,none⟩)))) (hy:f y=some (.v (.int kk i))) [Und P T (.array n E)] [Siz P E sz] (h0:0≤i) (hi:i < n):
 QR P h f ⟨dst,.indexAddr T x y,ty,pos,after,guard⟩ (.v (.pointer (some ⟨b,o+i.toNat * sz,none⟩))):=
 u7 (i:=i.toNat) hx (by rw [Int.toNat_of_nonneg h0];exact hy) (by omega)
end
theorem zbv {i:Int} (h0:0≤i) (h1:i < 256):y9[0+i.toNat * 1]? =some (.v (.int .u8 (zbr i.toNat))):=by
 simp [y9,show i.toNat < 256 by omega]
def yg5:Nat→Nat
 |0=>300
 |1=>60
 |2=>300
 |_=>60
theorem zqe {k:Nat} (hk:k < 4):y8[0+k * 1]? =some (iv (yg5 k)):=by
 match k,hk with
 |0,_=>rfl
 |1,_=>rfl
 |2,_=>rfl
 |3,_=>rfl
theorem zog (i:Nat):zbr i=240∨zbr i=241∨zbr i=2∨zbr i=19∨zbr i=3∨zbr i=35∨zbr i=52∨zbr i=4∨zbr i=68:=by
 unfold zbr;repeat' split
 all_goals simp
theorem zww (s:ByteArray) (i:Nat):IntKind.i32.wrap (bt s i)=bt s i:=by
 have h0:=ze0 s i;have h1:=zez s i
 have e:bt s i % (2 ^ IntKind.i32.bits:Int)=bt s i:=Int.emod_eq_of_lt h0 (show bt s i < 4294967296 by omega)
 unfold IntKind.wrap
 simp only [e]
 rw [if_neg]
 intro q
 have q2:bt s i ≥ (2 ^ (IntKind.i32.bits - 1):Int):=by simpa using (Bool.and_eq_true_iff.1 q).2
 have:(2 ^ (IntKind.i32.bits - 1):Int)=2147483648:=by decide
 omega
theorem zt3 {s:ByteArray} (h:(s.toList !=(ByteArray.mk #[]).toList)=true):0 < s.size:=by
 refine Nat.pos_of_ne_zero fun q=> ?_
 have e:s=⟨#[]⟩:=by cases s;congr 1;exact Array.eq_empty_of_size_eq_zero q
 rw [e] at h;simp at h
theorem yam {s:ByteArray} (h:(s.toList !=(ByteArray.mk #[]).toList)=false):¬0 < s.size:=by
 intro q
 have e:s.toList=(ByteArray.mk #[]).toList:=by simpa using h
 rw [ByteArray.toList_eq,ByteArray.toList_eq] at e
 have:s.size=0:=by
  have h2:=congrArg List.length e
  simpa using h2
 omega
def zpg (s:ByteArray) (i:Nat) (c:Int):Bool:=c !=65533||decide ((zhf (s.extract i s.size)).2 > 1)
theorem znj (s:ByteArray) (i:Nat):0 < (Utf8.decode s i).2:=by
 simp only [Utf8.decode]
 repeat' split
 all_goals simp
def zc9 (s:ByteArray) (p:Nat→Int→Bool) (pos:Nat):Nat:=
 if h:pos < s.size then
  if p pos (Utf8.decode s pos).1 then zc9 s p (pos+(Utf8.decode s pos).2) else pos
 else s.size
 termination_by s.size - pos
 decreasing_by have:=znj s pos;omega
theorem znk {s:ByteArray} {p:Nat→Int→Bool} {k:Nat} (h:k < s.size) (hp:p k (Utf8.decode s k).1=true):zc9 s p k=zc9 s p (k+(Utf8.decode s k).2):=by
 rw [zc9,dif_pos h,if_pos hp]
theorem zpb {s:ByteArray} {p:Nat→Int→Bool} {k:Nat} (h:k < s.size) (hp:p k (Utf8.decode s k).1=false):zc9 s p k=k:=by
 rw [zc9,dif_pos h,if_neg (by simp [hp])]
theorem zk3 {s:ByteArray} {p:Nat→Int→Bool} {k:Nat} (h:¬k < s.size):zc9 s p k=s.size:=by
 rw [zc9,dif_neg h]
def ze5 (s:ByteArray) (goes:Int→Bool) (i:Nat) (c:Int):Bool:=zpg s i c && goes c
def zj9 (c:Int):Bool:=ydr c||zva c
def zhj (s:ByteArray):Bool:=(!(s.toList== [])) && decide ((s.size:Int)≤24) && (!zva (bt s 0)) && ((zc9 s (ze5 s zj9) 0:Int)==s.size)
def zd1:List ByteArray→List ByteArray→Bool
 |_,[]=>true
 |met,s::r=>zhj s && (!zza s met) && zd1 (met++ [s]) r
def zh7 (most:Nat) (l:List ByteArray):Bool:=decide ((l.length:Int)≤most) && zd1 [] l
def zt8 (h:Hist):Bool:=decide ((h.evs.length:Int)≤3000) && decide (max (max (h.ords.length:Int) h.mats.length) h.wants.length≤3000)
def okK (h:Hist):Nat→Bool
 |0=>zt8 h
 |k+1=>okK h k && zh7 (yg5 k) (nmK h k)
def zai (h:Hist):Bool:=
 okK h 4 && h.evs.all (zdk h) && h.ords.all (ztt h) && h.mats.all (zze h) && h.wants.all (yah h)
theorem zrj (h:Hist):okK h 0=(decide (((h.evs.map evR).length:Int)≤3000) && decide (max (max ((h.ords.map zdy).length:Int) (h.mats.map zge).length) (h.wants.map zga).length≤3000)):=by
 simp [okK,zt8]
theorem zg8 {h:Hist} {k:Nat} (hk:okK h k=false):∀n,okK h (k+n)=false
 |0=>hk
 |n+1=>by
  have ih:=zg8 hk n
  show (okK h (k+n) && _)=false
  rw [ih,Bool.false_and]
def okj (h:Hist) (k j:Nat):Bool:=okK h k && decide (((nmK h k).length:Int)≤yg5 k)
theorem yat (h:Hist) (k:Nat):okj h k 0=(okK h k && decide ((((nmK h k).map zh0).length:Int)≤yg5 k)):=by simp [okj]
theorem yjw {o:Bool} {l m r:List ByteArray} {x:ByteArray} (hf:zd1 [] l=zd1 m (x::r)) (h:(o && zhj x && !zza x m)=false):o=false∨zd1 [] l=false:=by
 cases o with
 |false=>exact .inl rfl
 |true=>rw [Bool.true_and] at h;rw [hf,zd1,h,Bool.false_and];exact .inr rfl
theorem ygv {o a b:Bool} (h:(o && a && !b)=true):o=true∧a=true∧b=false:=by
 cases o <;> cases a <;> cases b <;> simp_all
theorem ygt {h:Hist} {k:Nat} (h0:zd1 [] (nmK h k)=true):okj h k 0=okK h (k+1):=by
 simp [okj,okK,zh7,h0]
theorem ygu {h:Hist} {k:Nat} (hk:k < 4) (h0:okj h k 0=false∨zd1 [] (nmK h k)=false):okK h 4=false:=by
 have h1:okK h (k+1)=false:=by
  rcases h0 with h0|h0
  ·simp only [okK,zh7];simp only [okj] at h0;rw [←Bool.and_assoc,h0,Bool.false_and]
  ·simp [okK,zh7,h0]
 have:=zg8 h1 (3 - k)
 rwa [show k+1+(3 - k)=4 by omega] at this
def zfl (v:Ver):List (Nat×Int):=if decide (v.k > 0) then [(0,v.t)] else []
def zuk (s:Seen):List (Nat×Int):=(2,s.o)::zfl s.v
def zfn (e:Ev):List (Nat×Int):=if e.kind=1 then [(1,e.s)] else if e.kind=2∨e.kind=3 then (2,e.o)::zfl e.v else if e.kind=4 then [(3,e.p)] else []
theorem zvu {e:Ev} (h:e.kind=1):zfn e= [(1,e.s)]:=by rw [zfn,if_pos h]
theorem zjy {e:Ev} (h:e.kind=2∨e.kind=3):zfn e=(2,e.o)::zfl e.v:=by rw [zfn,if_neg (by omega),if_pos h]
theorem zvt {e:Ev} (h:e.kind=4):zfn e= [(3,e.p)]:=by rw [zfn,if_neg (by omega),if_neg (by omega),if_pos h]
theorem zvv {e:Ev} (h1:e.kind≠1) (h2:e.kind≠2) (h3:e.kind≠3) (h4:e.kind≠4):zfn e= []:=by rw [zfn,if_neg h1,if_neg (by omega),if_neg h4]
def evL (e:Ev):List (Nat×Int):=(0,e.t)::(zfn e++e.scan.flatMap zuk)
def tsL (l:List Int):List (Nat×Int):=l.map fun t=>(0,t)
def yda (r:Ord):List (Nat×Int):=(2,r.o)::tsL r.ts
def zzd (r:Mat):List (Nat×Int):=(3,r.p)::(2,r.o)::tsL r.ts
def zxp (r:Wan):List (Nat×Int):= [(1,r.s)]
def zck (h:Hist):List (Nat×Int):=h.evs.flatMap evL++(h.ords.flatMap yda++(h.mats.flatMap zzd++h.wants.flatMap zxp))
def goes {σ α:Type} (step:σ→α→Option σ):Option σ→List α→Option σ
 |st,[]=>st
 |st,x::r=>goes step (st.bind fun s=>step s x) r
theorem zj1 {σ α:Type} (step:σ→α→Option σ):∀(l m:List α) (st:Option σ),goes step st (l++m)=goes step (goes step st l) m
 | [],m,st=>rfl
 |x::l,m,st=>zj1 step l m _
def Rem {σ α:Type} (step:σ→α→Option σ) (ok:α→Prop) (st:Option σ) (l:List α) (F:Option σ):Prop:=goes step st l=F∧∀x∈l,ok x
section
variable {σ α:Type} {step:σ→α→Option σ} {ok:α→Prop} {st F:Option σ} {l m:List α} {x:α}
theorem Rem.cons (h:Rem step ok st (x::l) F):ok x∧Rem step ok (goes step st [x]) l F:=⟨h.2 x (by simp),h.1,fun y hy=>h.2 y (by simp [hy])⟩
theorem Rem.app (h:Rem step ok st (l++m) F):(∀x∈l,ok x)∧Rem step ok (goes step st l) m F:=⟨fun y hy=>h.2 y (by simp [hy]),by rw [←zj1];exact h.1,fun y hy=>h.2 y (by simp [hy])⟩
theorem Rem.fin (h:Rem step ok st [] F):st=F:=h.1
end
def zdo (m:List Int) (x:Nat×Int):Option (List Int):=
 let a:=m.getD x.1 0
 if x.2 > a then none else some (m.set x.1 (max a (x.2+1)))
def zn4 (h:Hist):Option (List Int):=goes zdo (some [0,0,0,0]) (zck h)
def ztd (h:Hist):List Int:= [h.ts.length,h.ss.length,h.os.length,h.ps.length]
def ze8 (h:Hist):Bool:=zai h && (zn4 h==some (ztd h))
def zcw (h:Hist):Int:=if ze8 h then 0 else 210
def yhj:Hist:=⟨[],[],[],[],[],[],[],[]⟩
def ofL (t:Int):Nat→List Ev→List Int
 |_,[]=> []
 |i,e::r=>if e.t=t then (i:Int)::ofL t (i+1) r else ofL t (i+1) r
def yif (l:List Ev) (t:Int):Bool:=l.any fun e=>e.t==t && e.kind==1
def yju (l:List Ev) (t:Int):Bool:=l.any fun e=>e.t==t && (e.kind==5||e.kind==6)
def yip (t:Nat):Ev:=⟨6,t,0,0,0,⟨0,0⟩,0,[]⟩
def ygr (h:Hist):List Nat:=(List.range h.ts.length).filter fun t=>yif h.evs t && !yju h.evs t
def ybd (h:Hist):Hist:={h with evs:=h.evs++(ygr h).map yip}
def zwq (h:Hist):Int:=if ze8 h then (if h.evs.length+(ygr h).length≤3000 then 0 else 6) else 210
def ybc (h:Hist):Hist:=if zwq h=0 then ybd h else yhj
def ofR (h:Hist) (t:Int):List Int:=if ze8 h then ofL t 0 h.evs else []
def znl {σ α:Type} (f:σ→α→α×σ):σ→List α→List α×σ
 |s,[]=>([],s)
 |s,x::r=>((f s x).1::(znl f (f s x).2 r).1,(znl f (f s x).2 r).2)
section
variable {σ:Type} (f:σ→Nat→Int→Int×σ)
def zt2 (s:σ) (v:Ver):Ver×σ:=if decide (v.k > 0) then (⟨(f s 0 v.t).1,v.k⟩,(f s 0 v.t).2) else (v,s)
def zx1 (s:σ) (x:Seen):Seen×σ:=
 let a:=f s 2 x.o
 let b:=zt2 f a.2 x.v
 (⟨a.1,b.1⟩,b.2)
def zx2 (s:σ) (e:Ev):Ev×σ:=
 if e.kind=1 then let a:=f s 1 e.s;({e with s:=a.1},a.2) else
 if e.kind=2∨e.kind=3 then let a:=f s 2 e.o;let b:=zt2 f a.2 e.v;({e with o:=a.1,v:=b.1},b.2) else
 if e.kind=4 then let a:=f s 3 e.p;({e with p:=a.1},a.2) else (e,s)
def yfi (s:σ) (e:Ev):Ev×σ:=
 let a:=f s 0 e.t
 let b:=zx2 f a.2 {e with t:=a.1}
 let c:=znl (zx1 f) b.2 e.scan
 ({b.1 with scan:=c.1},c.2)
def yak (s:σ) (l:List Int):List Int×σ:=znl (fun s n=>f s 0 n) s l
def ybw (s:σ) (r:Ord):Ord×σ:=
 let a:=f s 2 r.o
 let b:=yak f a.2 r.ts
 (⟨a.1,b.1⟩,b.2)
def ybx (s:σ) (r:Mat):Mat×σ:=
 let a:=f s 3 r.p
 let b:=f a.2 2 r.o
 let c:=yak f b.2 r.ts
 (⟨a.1,b.1,r.first,c.1⟩,c.2)
def ybv (s:σ) (r:Wan):Wan×σ:=let a:=f s 1 r.s;(⟨a.1,r.bits⟩,a.2)
def yi6 (s:σ) (h:Hist):Hist×σ:=
 let a:=znl (yfi f) s h.evs
 let b:=znl (ybw f) a.2 h.ords
 let c:=znl (ybx f) b.2 h.mats
 let d:=znl (ybv f) c.2 h.wants
 ({h with evs:=a.1,ords:=b.1,mats:=c.1,wants:=d.1},d.2)
end
def ygn (n:Int):Nat→List Int→Option Nat
 |_,[]=>none
 |i,x::r=>if x=n then some i else ygn n (i+1) r
abbrev yfe:=List (List Int)
def yde (k:yfe) (sort:Nat) (n:Int):Int×yfe:=
 match ygn n 0 (k.getD sort []) with
 |some i=>((i:Int),k)
 |none=>(((k.getD sort []).length:Int),k.set sort (k.getD sort []++ [n]))
def yjv:yfe:= [[],[],[],[]]
def zrz (l:List ByteArray) (n:Int):ByteArray:=l.getD n.toNat ⟨#[]⟩
def ydd (h:Hist):Hist:=
 let r:=yi6 yde yjv h
 {r.1 with ts:=(r.2.getD 0 []).map (zrz h.ts),ss:=(r.2.getD 1 []).map (zrz h.ss),os:=(r.2.getD 2 []).map (zrz h.os),ps:=(r.2.getD 3 []).map (zrz h.ps)}
def numR (h:Hist):Hist:=if zai h then ydd h else yhj
def yk1 (h:Hist):Int:=if zai h then 0 else 210
theorem zul (a b:Seen):zh3 a b=decide (a=b):=by
 obtain ⟨ao,at_,ak⟩:=a;obtain ⟨bo,bt_,bk⟩:=b
 simp only [zh3,Seen.mk.injEq,Ver.mk.injEq]
 by_cases h1:ao=bo <;> by_cases h2:at_=bt_ <;> by_cases h3:ak=bk <;> simp [h1,h2,h3]
theorem yej (a b:Ev):yek a b=decide (a=b):=by
 obtain ⟨a1,a2,a3,a4,a5,⟨a6,a7⟩,a8,a9⟩:=a;obtain ⟨b1,b2,b3,b4,b5,⟨b6,b7⟩,b8,b9⟩:=b
 simp only [yek,ya9 zul,Ev.mk.injEq,Ver.mk.injEq]
 rw [Bool.eq_iff_iff]
 simp [and_assoc]
def OkN (h:Hist) (x:Nat×Int):Prop:=x.1 < 4∧0≤x.2∧x.2 < (nmK h x.1).length
theorem zat (l:List ByteArray) (n:Int):zdm l n=true ↔ 0≤n∧n < l.length:=by simp [zdm]
theorem zqa {h:Hist} {v:Ver} (hv:ztz h.ts v=true):∀x∈zfl v,OkN h x:=by
 intro x hx
 unfold zfl at hx
 split at hx
 ·rename_i hk
  have hk':v.k > 0:=of_decide_eq_true hk
  simp only [List.mem_singleton] at hx
  subst hx
  unfold ztz at hv
  rw [if_neg (by simp;omega)] at hv
  simp only [Bool.and_eq_true,zat] at hv
  exact ⟨by simp,hv.1.1.1,hv.1.1.2⟩
 ·simp at hx
theorem ych {h:Hist} {s:Seen} (hs:zhm h s=true):∀x∈zuk s,OkN h x:=by
 simp only [zhm,Bool.and_eq_true,zat] at hs
 intro x hx
 simp only [zuk,List.mem_cons] at hx
 rcases hx with rfl|hx
 ·exact ⟨by simp,hs.1.1,hs.1.2⟩
 ·exact zqa hs.2 x hx
theorem zc3 {h:Hist} {e:Ev} (he:zdk h e=true):1≤e.kind∧e.kind < 7∧zdm h.ts e.t=true∧(zgr h e).2=true∧{(zgr h e).1 with kind:=e.kind,t:=e.t}=e:=by
 simp only [zdk,yej,Bool.and_eq_true,Bool.not_eq_true',Bool.or_eq_false_iff,decide_eq_true_eq,decide_eq_false_iff_not,Bool.not_eq_false'] at he
 exact ⟨by omega,by omega,he.1.2,he.2.1,he.2.2⟩
theorem ykn {h:Hist} {e:Ev} (he:zdk h e=true):∀x∈evL e,OkN h x:=by
 obtain ⟨h1,h7,ht,hc,hq⟩:=zc3 he
 have ht':=(zat _ _).1 ht
 intro x hx
 simp only [evL,List.mem_cons,List.mem_append] at hx
 rcases hx with rfl|hx
 ·exact ⟨by simp,ht'.1,ht'.2⟩
 unfold zgr at hc hq
 by_cases k1:e.kind=1
 ·rw [if_pos k1] at hc hq
  simp only [zc4,Bool.and_eq_true,zat] at hc
  have hs:e.scan= []:=by rw [←hq]
  rw [hs,zvu k1] at hx
  simp only [List.mem_singleton,List.flatMap_nil,List.not_mem_nil,or_false] at hx
  subst hx;exact ⟨by simp,hc.1.1,hc.1.2⟩
 rw [if_neg k1] at hc hq
 by_cases k2:e.kind=2
 ·rw [if_pos k2] at hc hq
  simp only [zav,Bool.and_eq_true,zat] at hc
  have hs:e.scan= []:=by rw [←hq]
  rw [hs,zjy (.inl k2)] at hx
  simp only [List.mem_cons,List.flatMap_nil,List.not_mem_nil,or_false] at hx
  rcases hx with rfl|hx
  ·exact ⟨by simp,hc.1.1.1.1,hc.1.1.1.2⟩
  ·exact zqa hc.1.1.2 x hx
 rw [if_neg k2] at hc hq
 by_cases k3:e.kind=3
 ·rw [if_pos k3] at hc hq
  simp only [zdh,Bool.and_eq_true,zat] at hc
  have hs:e.scan= []:=by rw [←hq]
  rw [hs,zjy (.inr k3)] at hx
  simp only [List.mem_cons,List.flatMap_nil,List.not_mem_nil,or_false] at hx
  rcases hx with rfl|hx
  ·exact ⟨by simp,hc.1.1,hc.1.2⟩
  ·exact zqa hc.2 x hx
 rw [if_neg k3] at hc hq
 by_cases k4:e.kind=4
 ·rw [if_pos k4] at hc hq
  simp only [zcc,Bool.and_eq_true,zat,List.all_eq_true] at hc
  rw [zvt k4] at hx
  simp only [List.mem_singleton,List.mem_flatMap] at hx
  rcases hx with rfl|⟨s,hs,hx⟩
  ·exact ⟨by simp,hc.1.1.1,hc.1.1.2⟩
  ·exact ych (hc.2 s hs) x hx
 rw [if_neg k4] at hc hq
 have hs:e.scan= []:=by rw [←hq]
 rw [hs,zvv k1 k2 k3 k4] at hx
 simp at hx
theorem yfh {h:Hist} {ts:List Int} (ht:tsB h ts=true):∀x∈tsL ts,OkN h x:=by
 simp only [tsB,Bool.and_eq_true,List.all_eq_true,zat] at ht
 intro x hx
 simp only [tsL,List.mem_map] at hx
 obtain ⟨t,h1,rfl⟩:=hx
 exact ⟨by simp,(ht.2 t h1).1,(ht.2 t h1).2⟩
theorem zda {h:Hist} (hs:zai h=true):okK h 4=true∧(∀e∈h.evs,zdk h e=true)∧(∀r∈h.ords,ztt h r=true)∧(∀r∈h.mats,zze h r=true)∧∀r∈h.wants,yah h r=true:=by
 simp only [zai,Bool.and_eq_true,List.all_eq_true] at hs
 exact ⟨hs.1.1.1.1,hs.1.1.1.2,hs.1.1.2,hs.1.2,hs.2⟩
theorem zt9 {h:Hist} (hs:zai h=true):∀x∈zck h,OkN h x:=by
 obtain ⟨_,h1,h2,h3,h4⟩:=zda hs
 intro x hx
 simp only [zck,List.mem_append,List.mem_flatMap] at hx
 rcases hx with ⟨e,he,hx⟩|⟨r,hr,hx⟩|⟨r,hr,hx⟩|⟨r,hr,hx⟩
 ·exact ykn (h1 e he) x hx
 ·have:=h2 r hr
  simp only [ztt,Bool.and_eq_true,zat] at this
  simp only [yda,List.mem_cons] at hx
  rcases hx with rfl|hx
  ·exact ⟨by simp,this.1.1,this.1.2⟩
  ·exact yfh this.2 x hx
 ·have:=h3 r hr
  simp only [zze,Bool.and_eq_true,zat] at this
  simp only [zzd,List.mem_cons] at hx
  rcases hx with rfl|rfl|hx
  ·exact ⟨by simp,this.1.1.1,this.1.1.2⟩
  ·exact ⟨by simp,this.1.2.1,this.1.2.2⟩
  ·exact yfh this.2 x hx
 ·have:=h4 r hr
  simp only [yah,Bool.and_eq_true,zat] at this
  simp only [zxp,List.mem_singleton] at hx
  subst hx
  exact ⟨by simp,this.1.1.1,this.1.1.2⟩
theorem yke {m:List Int} (hl:m.length=4) {k:Nat} (hk:k < 4):(m.map iv)[0+k * 1]? =some (iv (m.getD k 0)):=by
 have h:k < m.length:=by omega
 simp [h]
theorem ylh {m:List Int} (hl:m.length=4) {k:Nat} (hk:k < 4) (v:Int):(m.map iv).take (0+k * 1)++ [iv v]++(m.map iv).drop (0+k * 1+1)=(m.set k v).map iv:=by
 match m,hl with
 | [a,b,c,d],_=>
   match k,hk with
   |0,_=>rfl
   |1,_=>rfl
   |2,_=>rfl
   |3,_=>rfl
theorem zz3 {h:Hist} (hs:zai h=false):zcw h=210:=by simp [zcw,ze8,hs]
theorem ztm {h:Hist} (hm:zn4 h=none):zcw h=210:=by
 have e:(zn4 h==some (ztd h))=false:=by rw [hm];rfl
 rw [zcw,ze8,e,Bool.and_false];rfl
theorem zzm (h:Hist) {k:Nat} (hk:k < 4):(ztd h).getD k 0=(nmK h k).length:=by
 match k,hk with
 |0,_=>rfl
 |1,_=>rfl
 |2,_=>rfl
 |3,_=>rfl
theorem zz4 {h:Hist} {m:List Int} (hm:zn4 h=some m) {k:Nat} (hk:k < 4) (hne:m.getD k 0≠(nmK h k).length):zcw h=210:=by
 have e:(zn4 h==some (ztd h))=false:=by
  rw [hm]
  simp only [Option.some_beq_some,beq_eq_false_iff_ne]
  rintro rfl
  exact hne (zzm h hk)
 rw [zcw,ze8,e,Bool.and_false];rfl
theorem zz5 {h:Hist} (hs:zai h=true) {m:List Int} (hm:zn4 h=some m) (hl:m.length=4) (he:∀k,k < 4→m.getD k 0=(nmK h k).length):zcw h=0:=by
 have e:m=ztd h:=by
  match m,hl with
  | [a,b,c,d],_=>
    have h0:=he 0 (by omega);have h1:=he 1 (by omega);have h2:=he 2 (by omega);have h3:=he 3 (by omega)
    simp [nmK] at h0 h1 h2 h3
    simp [ztd,h0,h1,h2,h3]
 rw [zcw,ze8,hs,hm,e];simp
theorem zwu {h:Hist}:zcw h=0 ↔ ze8 h=true:=by unfold zcw;split <;> simp_all
def zs8 (p:SV×Ord):List AV:= [iv p.2.o,.v p.1.v]
structure NV where
 vT:SV
 vS:SV
 vO:SV
 vP:SV
structure OH where
 vE:SV
 vR:SV
 vM:SV
 vW:SV
 ts:List ByteArray
 ss:List ByteArray
 os:List ByteArray
 ps:List ByteArray
 evs:List (SV×Ev)
 ords:List (SV×Ord)
 mats:List (SV×Mat)
 wants:List Wan
def otR (T:TypeId) (l:List (SV×Ord)):List Res:=l.map fun p=> .row p.1.v 1 T (p.2.ts.map zde)
def yav:AV:= .v (.slice none 0 0)
def yd8:List AV:= [yav,yav,yav,yav,yav,yav,yav,yav]
theorem zp2 {α:Type} {R:α→List AV} (h:∀a,(R a).all AV.one=true) (l:List α):∀r∈l.map R,r.all AV.one=true:=by
 intro r hr;obtain ⟨a,_,rfl⟩:=List.mem_map.1 hr;exact h a
theorem zmh (l:List Int):∀r∈l.map zde,r.all AV.one=true:=zp2 (fun a=>rfl) l
theorem ygs (l:List Ev):∀r∈l.map evR,r.all AV.one=true:=zp2 (fun a=>rfl) l
theorem ydb (l:List Ord):∀r∈l.map zdy,r.all AV.one=true:=zp2 (fun a=>rfl) l
section
variable {α β:Type} {f:α→List AV} {g:β→List AV} {xs:List α} {l:List β} {k:Nat} {b:β} {a:α} {r:List AV}
theorem ydk (hl:xs.length=k) (hk:k≤l.length):(xs.map f++(l.drop k).map g).length=l.length:=by
 simp [hl];omega
theorem ydl (hl:xs.length=k) (hd:l.drop k=b::l.drop (k+1)):(xs.map f++(l.drop k).map g)[k]? =some (g b):=by
 rw [hd,List.getElem?_append_right (by simp [hl])];simp [hl]
theorem ydj (hl:xs.length=k) (hd:l.drop k=b::l.drop (k+1)) (hr:r=f a):(xs.map f++(l.drop k).map g).set k r=(xs++ [a]).map f++(l.drop (k+1)).map g:=by
 subst hl hr
 rw [hd,List.set_append_right _ _ (by simp)]
 simp
theorem zy8 {snd:α→β} (h:xs.map snd=l.take k) (hk:k≤l.length):xs.length=k:=by
 have:=congrArg List.length h;simp at this;omega
theorem zy7 {snd:α→β} (h:xs.map snd=l.take k) (hk:k < l.length) (ha:snd a=l[k]):(xs++ [a]).map snd=l.take (k+1):=by
 rw [List.map_append,h,List.take_succ_eq_append_getElem hk];simp [ha]
end
theorem zsu {h:Hist} (hs:zai h=true):Lim 3000 h:=by
 obtain ⟨h0,h1,h2,h3,h4⟩:=zda hs
 have hk:∀k,k < 4→okK h (k+1)=true:=fun k hk=>by
  cases hq:okK h (k+1) with
  |true=>rfl
  |false=>
   have:=zg8 hq (3 - k)
   rw [show k+1+(3 - k)=4 by omega,h0] at this;cases this
 have hn:∀k,k < 4→(nmK h k).length≤300:=fun k hk4=>by
  have:=hk k hk4
  simp only [okK,zh7,Bool.and_eq_true,decide_eq_true_eq] at this
  have h5:yg5 k≤300:=by
   match k,hk4 with
   |0,_=>decide
   |1,_=>decide
   |2,_=>decide
   |3,_=>decide
  omega
 have hz:okK h 0=true:=by
  cases hq:okK h 0 with
  |true=>rfl
  |false=>have:=zg8 hq 4;rw [h0] at this;cases this
 simp only [okK,zt8,Bool.and_eq_true,decide_eq_true_eq] at hz
 refine ⟨by have:=hn 0 (by omega);simp [nmK] at this;omega,by have:=hn 1 (by omega);simp [nmK] at this;omega,by have:=hn 2 (by omega);simp [nmK] at this;omega,by have:=hn 3 (by omega);simp [nmK] at this;omega,by omega,by omega,by omega,by omega,fun e he=> ?_,fun o ho=> ?_,fun m hm=> ?_⟩
 ·obtain ⟨_,_,_,hc,hq⟩:=zc3 (h1 e he)
  rw [←hq]
  show (zgr h e).1.scan.length≤3000
  unfold zgr at hc ⊢
  repeat' split
  all_goals first|(simp only [List.length_nil];omega)|skip
  rename_i g1 g2 g3 g4
  rw [if_neg g1,if_neg g2,if_neg g3,if_pos g4] at hc
  simp only [zcc,Bool.and_eq_true,decide_eq_true_eq] at hc
  show e.scan.length≤3000
  omega
 ·have:=h2 o ho
  simp only [ztt,tsB,Bool.and_eq_true,decide_eq_true_eq] at this
  omega
 ·have:=h3 m hm
  simp only [zze,tsB,Bool.and_eq_true,decide_eq_true_eq] at this
  omega
section
variable {σ α:Type} (f:σ→Nat→Int→Int×σ)
end
section
variable {α:Type} {f:α→List AV} {A B:List α} {k:Nat} {b a:α} {r:List AV}
end
structure KOk (h:Hist) (k:yfe):Prop where
 four:k.length=4
 nd:∀s,(k.getD s []).Nodup
 lt:∀s,∀n∈k.getD s [],0≤n∧n < (nmK h s).length
section
variable {w:World} {O O':Nat→Prop}
def CT (w:World) (O O':Nat→Prop):List AV→List AV→Prop
 | [],[]=>True
 |a::as,b::bs=>(∀u,Rel w O a u→Rel w O' b u)∧CT w O O' as bs
 |_,_=>False
theorem CT.len:∀{as bs:List AV},CT w O O' as bs→bs.length=as.length
 | [],[],_=>rfl
 |_::_,_::_,h=>by simp [CT.len h.2]
 | [],_::_,h=>h.elim
 |_::_,[],h=>h.elim
theorem CT.get:∀{as bs:List AV},CT w O O' as bs→∀j (k:j < as.length) (k':j < bs.length) u,Rel w O as[j] u→Rel w O' bs[j] u
 |_::_,_::_,h,0,_,_,u,r=>h.1 u r
 |_::_,_::_,h,j+1,k,k',u,r=>CT.get h.2 j (by simpa using k) (by simpa using k') u r
theorem sc (x:Value):∀u,Rel w O (.v x) u→Rel w O' (.v x) u:=fun u r=>(Scal.v x).rel r
theorem sn {x:Value} {b:AV} (h:Rel w O' b x):∀u,Rel w O (.v x) u→Rel w O' b u:=fun u r=>by rw [r.v_eq];exact h
theorem yby {X:Nat→Prop} {H:List Res} (hh:HRel X w H) {s:Value} {sz:Nat} {T:TypeId} {α:Type} {f g:α→List AV} {l:List α} (hm: .row s sz T (l.map f)∈H) (hO:∀b∈(Res.row s sz T (l.map f)).own,¬O' b)
 (hc:∀a∈l,CT w (OO H X) O' (f a) (g a)):Rel w O' (.list false sz (l.map g)) s:=by
 refine zpn hh hm hO (by simp) (fun i h h'=> ?_) (fun i h h' j k k' u r=> ?_)
 ·simp only [List.getElem_map];exact (hc _ (List.getElem_mem _)).len
 ·simp only [List.getElem_map] at k k' r ⊢
  exact (hc _ (List.getElem_mem _)).get j k k' u r
end
def bT:ByteArray:=⟨#[116]⟩
def bS:ByteArray:=⟨#[115]⟩
def bX:ByteArray:=⟨#[120]⟩
def bY:ByteArray:=⟨#[121]⟩
def zgb:Hist:=⟨[bT],[bS],[bX],[],[⟨1,0,0,1,0,⟨0,0⟩,0,[]⟩,⟨2,0,0,0,0,⟨0,1⟩,0,[]⟩,⟨5,0,0,0,0,⟨0,0⟩,0,[]⟩],[],[],[]⟩
theorem ziq {s:ByteArray} {c:Nat} (h1:s.size=1) (hc:c < 128) (hl:ydr c=true) (hd:Utf8.decode s 0=(c,1)) (hne:(s.toList== [])=false) (hb:bt s 0=c) (hn:zva c=false):zhj s=true:=by
 have hp:ze5 s zj9 0 ((Utf8.decode s 0).1:Nat)=true:=by
  rw [hd]
  have h2:(((c:Nat):Int) !=65533)=true:=by simp;omega
  simp only [ze5,zpg,zj9,hl,h2,Bool.true_or,Bool.and_true]
 have hw:zc9 s (ze5 s zj9) 0=s.size:=by
  rw [znk (by omega) hp,hd]
  exact zk3 (by simp;omega)
 simp only [zhj,hne,hb,hn,hw,h1];decide
theorem ztw:zhj bT=true:=ziq (c:=116) rfl (by decide) (by decide) (by decide) (by rw [ByteArray.toList_eq];rfl) (by decide) (by decide)
theorem ztx:zhj bS=true:=ziq (c:=115) rfl (by decide) (by decide) (by decide) (by rw [ByteArray.toList_eq];rfl) (by decide) (by decide)
theorem ztv:zhj bX=true:=ziq (c:=120) rfl (by decide) (by decide) (by decide) (by rw [ByteArray.toList_eq];rfl) (by decide) (by decide)
theorem yff:zhj bY=true:=ziq (c:=121) rfl (by decide) (by decide) (by decide) (by rw [ByteArray.toList_eq];rfl) (by decide) (by decide)
def zp1:Hist:={zgb with evs:=zgb.evs.take 2}
def zlh:Hist:={zgb with os:= [bY,bX],evs:= [⟨1,0,0,1,0,⟨0,0⟩,0,[]⟩,⟨2,0,0,0,1,⟨0,1⟩,0,[]⟩,⟨5,0,0,0,0,⟨0,0⟩,0,[]⟩]}
theorem xy:zza bX [bY]=false:=by decide
theorem znn:zai zgb=true:=by
 have h:okK zgb 4=true:=by
  simp only [okK,nmK,zh7,zgb,zd1,ztw,ztx,ztv,List.length_singleton,List.length_nil];decide
 rw [zai,h];decide
theorem zpj:zai zp1=true:=by
 have h:okK zp1 4=true:=by
  simp only [okK,nmK,zh7,zp1,zgb,zd1,ztw,ztx,ztv,List.length_singleton,List.length_nil];decide
 rw [zai,h];decide
theorem zh2:zai zlh=true:=by
 have h:okK zlh 4=true:=by
  simp only [okK,nmK,zh7,zlh,zgb,zd1,ztw,ztx,ztv,yff,List.length_cons,List.length_nil,List.nil_append,xy];decide
 rw [zai,h];decide
theorem zvj:ze8 zgb=true:=by rw [ze8,znn];decide
theorem zzb:ze8 zp1=true:=by rw [ze8,zpj];decide
theorem w1:zwq zp1=0:=by rw [zwq,zzb];decide
theorem w2:ofR zgb 0= [0,1,2]:=by rw [ofR,zvj];decide
theorem w3:yk1 zlh=0:=by rw [yk1,zh2];rfl
theorem w4:zcw zlh=210:=by
 have:ze8 zlh=false:=by rw [ze8,zh2];decide
 rw [zcw,this];rfl
theorem w5:ybc zp1=ybd zp1:=by rw [ybc,if_pos w1]
theorem zs6 (G:List Res) (sE sO:Value) (h:Hist) (O:List (SV×H.Ord)) (T40 T54 T3:TypeId) (H:List Res) (hO:O.map (·.2)=h.ords)
 (h5: .row sE 9 T40 (h.evs.map evR)∈H) (h6: .row sO 2 T54 (O.map zs8)∈H) (h10:∀r∈otR T3 O,r∈H):
 zf8 (G++H) (.agg [zb8 h.ts,zb8 h.ss,zb8 h.os,zb8 h.ps,.v sE,.v sO,zta h.mats,zsr h.wants]) G (.agg (x5 h)):=by
 refine ⟨fun x hx=>by rw [x7];exact List.mem_append_left _ hx,fun X w v hh hr=> ?_⟩
 have hG:HRel X w G:=HRel.drop (h:=H) (hh.perm List.perm_append_comm)
 refine ⟨hG,?_⟩
 have hmem:∀r∈H,r∈G++H:=fun r hr=>List.mem_append_right _ hr
 have hout:∀r∈H,∀x∈r.own,¬OO G X x:=fun r hr x hx q=>by
  have hxH:x∈u4 H:=u9.2 ⟨r,hr,hx⟩
  have hn:=hh.nodup
  rw [x7,List.nodup_append] at hn
  rcases q with q|q
  ·exact hn.2.2 x q x hxH rfl
  ·exact (hh.lt x (by rw [x7];exact List.mem_append_right _ hxH)).2 q
 have lo:∀av u,Rel w (OO (G++H) X) av u→Rel w (OO G X) av u:=fun av u r=>r.loose fun x hx=>hx.imp (fun q=>by rw [x7];exact List.mem_append_left _ q) id
 have S:∀{α:Type} {s:Value} {sz:Nat} {T:TypeId} {f g:α→List AV} {l:List α},.row s sz T (l.map f)∈H→(∀a∈l,CT w (OO (G++H) X) (OO G X) (f a) (g a))→Rel w (OO G X) (.list false sz (l.map g)) s:=
  fun hm hc=>yby hh (hmem _ hm) (hout _ hm) hc
 have ints:∀{s:Value} {T:TypeId} {l:List Int},.row s 1 T (l.map zde)∈H→Rel w (OO G X) (zel l) s:=fun hm=>S hm fun a _=>⟨sc _,trivial⟩
 have evs:Rel w (OO G X) (zwh h.evs) sE:=S (f:=evR) (g:=evR) h5 fun e _=>⟨sc _,sc _,sc _,sc _,sc _,sc _,sc _,sc _,lo _,trivial⟩
 have ords:Rel w (OO G X) (yc9 h.ords) sO:=by
  have:=S (g:=fun p=>zdy p.2) h6 fun p hp=>⟨sc _,sn (ints (h10 _ (List.mem_map.2 ⟨p,hp,rfl⟩))),trivial⟩
  rw [←hO]
  show Rel w (OO G X) (.list false 2 ((O.map (·.2)).map zdy)) sO
  rw [List.map_map];exact this
 have hcells:CT w (OO (G++H) X) (OO G X) [zb8 h.ts,zb8 h.ss,zb8 h.os,zb8 h.ps,.v sE,.v sO,zta h.mats,zsr h.wants] (x5 h):=⟨lo _,lo _,lo _,lo _,sn evs,sn ords,lo _,lo _,trivial⟩
 cases hr with
 |agg _ ds hl2 hc2=>exact .agg _ ds (by rw [hcells.len];exact hl2) fun j a b=>hcells.get j (by rw [←hcells.len];exact a) a _ (hc2 j (by rw [←hcells.len];exact a) b)
def isB (n m:Int):Bool:=decide (n ≥ 0) && decide (n < m)
def atI (n:Int):Nat→List Int→Int
 |_,[]=> -1
 |i,x::r=>if x=n then (i:Int) else atI n (i+1) r
set_option maxRecDepth 20000
abbrev Rw:=Nat→List Int
def yin (l:List Int) (n:Int):List Int:=if atI n 0 l ≥ 0 then l else l++ [n]
def ylz (l:List Int) (v:Ver):List Int:=if v.k=0 then l else yin l v.t
def zg3 (L:Rw) (x:Nat×Int):Rw:=fun i=>match Nat.beq i x.1 with
 |true=>yin (L i) x.2
 |false=>L i
def yfm (L:Rw) (v:Ver):Rw:=fun i=>match Nat.beq i 0 with
 |true=>ylz (L i) v
 |false=>L i
def stepS (L:Rw) (s:Seen):Rw:=yfm (zg3 L (2,s.o)) s.v
def yi8 (L:Rw) (e:Ev):Rw:=
 if e.kind=1 then zg3 L (1,e.s) else if e.kind=2∨e.kind=3 then yfm (zg3 L (2,e.o)) e.v else if e.kind=4 then zg3 L (3,e.p) else L
def stepE (L:Rw) (e:Ev):Rw:=e.scan.foldl stepS (yi8 (zg3 L (0,e.t)) e)
def yl0 (L:Rw) (t:Int):Rw:=zg3 L (0,t)
def stepM (L:Rw) (r:Mat):Rw:=r.ts.foldl yl0 (zg3 (zg3 L (3,r.p)) (2,r.o))
def upR (n:Nat):List Int:=(List.range n).map fun i:Nat=>(i:Int)
theorem zqz (n:Int):∀(l:List Int) (i:Nat),atI n i l ≥ 0 ↔ n∈l
 | [],i=>by simp [atI]
 |x::r,i=>by
  unfold atI
  split
  ·rename_i h;simp [h]
  ·rename_i h
   rw [zqz n r (i+1),List.mem_cons]
   constructor
   ·intro k;exact .inr k
   ·rintro (k|k)
    ·exact absurd k.symm h
    ·exact k
theorem yad (l:List Int) (n:Int):yin l n=if n∈l then l else l++ [n]:=by
 unfold yin
 by_cases h:n∈l
 ·rw [if_pos ((zqz n l 0).2 h),if_pos h]
 ·rw [if_neg (fun q=>h ((zqz n l 0).1 q)),if_neg h]
theorem zx5 (L:Rw) (x:Nat×Int):zg3 L x x.1=yin (L x.1) x.2:=by
 unfold zg3;rw [Nat.beq_refl]
theorem zx4 (L:Rw) (x:Nat×Int) {i:Nat} (h:i≠x.1):zg3 L x i=L i:=by
 unfold zg3
 rw [show Nat.beq i x.1=false from by
  cases q:Nat.beq i x.1 with
  |false=>rfl
  |true=>exact absurd (Nat.eq_of_beq_eq_true q) h]
theorem grow (xs:List (Nat×Int)):∀(L:Rw) (s:Nat),∃m,xs.foldl zg3 L s=L s++m:=by
 induction xs with
 |nil=>intro L s;exact ⟨[],by simp⟩
 |cons x xs ih=>
  intro L s
  obtain ⟨m,hm⟩:=ih (zg3 L x) s
  rw [List.foldl_cons,hm]
  by_cases h:s=x.1
  ·subst h
   rw [zx5,yad]
   split
   ·exact ⟨m,rfl⟩
   ·exact ⟨x.2::m,by simp⟩
  ·rw [zx4 _ _ h];exact ⟨m,rfl⟩
def znh (L:Rw) (m:List Int):Prop:=m.length=4∧∀s,s < 4→0≤m.getD s 0∧L s=upR (m.getD s 0).toNat
theorem yj2 {h:Hist} (hm:ze8 h=true):∀e∈h.evs,0≤e.t∧e.t < h.ts.length:=by
 intro e he
 have hs:zai h=true:=by unfold ze8 at hm;simp only [Bool.and_eq_true] at hm;exact hm.1
 have:=(zda hs).2.1 e he
 obtain ⟨_,_,ht,_⟩:=zc3 this
 exact (zat _ _).1 ht
def zzs (l:List Ev) (t c:Int):Bool:= !(l.all fun e=> !(e.t==t && e.kind==c))
theorem zex (l:List Ev) (t c:Int):zzs l t c=l.any fun e=>e.t==t && e.kind==c:=by
 induction l with
 |nil=>rfl
 |cons e l ih=>
  rw [List.any_cons,←ih,zzs,List.all_cons,Bool.not_and,Bool.not_not];rfl
def ze6 (l:List Ev) (t:Int):Bool:=zzs l t 1
def zu6 (l:List Ev) (t:Int):Bool:=l.any fun y=>y.t==t && (y.kind==5||y.kind==6)
def zg0 (l:List Ev) (t x:Int):List Ev:=l.filter fun y=>y.kind==2 && y.t==t && y.o==x
def zqf (l:List Ev) (t x:Int):Option Ver:=((zg0 l t x).getLast?).map Ev.v
def zjl (l:List Ev) (x:Int) (v:Ver):Bool:=l.any fun y=>y.kind==2 && y.o==x && y.v==v
def zcz (e:Ev):List Seen:=if e.kind=3 then [⟨e.o,e.v⟩] else e.scan
def zaf (rule:Nat) (e:Ev) (l:List Ev):Bool:=
 match rule with
 |1=>ze6 l e.t==(e.kind==1)
 |2=>zu6 l e.t
 |3=>e.kind==2 && e.v.k !=((zg0 l e.t e.o).length:Int)+1
 |4=>(zcz e).any fun s=>decide (s.v.k > 0) && !zjl l s.o s.v
 |5=>(zcz e).any fun s=>match zqf l e.t s.o with|some v=>v !=s.v|none=>false
 |6=> !decide ((e.scan.map Seen.o).Nodup)
 |_=>false
def zf9 (rule:Nat) (e:Ev) (l:List Ev):Bool:=
 match rule with
 |1=>ze6 l e.t && e.kind==1|| !ze6 l e.t && e.kind !=1
 |2=>zu6 l e.t
 |3=>e.kind==2 && e.v.k !=((zg0 l e.t e.o).length:Int)+1
 |4=>(zcz e).any fun s=> !(s.v.k==0||zjl l s.o s.v)
 |5=>(zcz e).any fun s=>match (zg0 l e.t s.o).getLast? with|some y=>y.v !=s.v|none=>false
 |6=>(List.range (zcz e).length).any fun i=>((zcz e).take i).any fun p=>some p.o==((zcz e)[i]?).map Seen.o
 |_=>false
theorem ybq (e:Ev) (l:List Ev):zaf 1 e l=zf9 1 e l:=by
 simp only [zaf,zf9]
 cases ze6 l e.t <;> cases h:(e.kind==1) <;> simp_all
theorem yai {ts:List ByteArray} {v:Ver} (h:ztz ts v=true):0≤v.k:=by
 unfold ztz at h
 split at h
 ·rename_i h0;simp at h0;omega
 ·simp only [Bool.and_eq_true,decide_eq_true_eq] at h;omega
theorem ybp {e:Ev} {l:List Ev} (h:∀s∈zcz e,0≤s.v.k):zaf 4 e l=zf9 4 e l:=by
 simp only [zaf,zf9]
 rw [Bool.eq_iff_iff]
 simp only [List.any_eq_true,Bool.and_eq_true,decide_eq_true_eq,Bool.not_eq_true',Bool.or_eq_false_iff,beq_eq_false_iff_ne]
 constructor
 ·rintro ⟨s,hs,h0,h1⟩;exact ⟨s,hs,by omega,h1⟩
 ·rintro ⟨s,hs,h0,h1⟩;exact ⟨s,hs,by have:=h s hs;omega,h1⟩
theorem ybo (e:Ev) (l:List Ev):zaf 5 e l=zf9 5 e l:=by
 simp only [zaf,zf9,zqf]
 congr 1;funext s
 cases (zg0 l e.t s.o).getLast? <;> rfl
theorem yeo (l:List Seen):((List.range l.length).any fun i=>(l.take i).any fun p=>some p.o==(l[i]?).map Seen.o)= !decide ((l.map Seen.o).Nodup):=by
 rw [Bool.eq_iff_iff]
 simp only [List.any_eq_true,List.mem_range,Bool.not_eq_true',decide_eq_false_iff_not,beq_iff_eq]
 rw [show (l.map Seen.o).Nodup ↔ _ from List.pairwise_iff_getElem]
 constructor
 ·rintro ⟨i,hi,p,hp,he⟩ hn
  obtain ⟨j,hj,rfl⟩:=List.mem_iff_getElem.1 hp
  rw [List.length_take] at hj
  refine hn j i (by simp;omega) (by simpa using hi) (by omega) ?_
  rw [List.getElem?_eq_getElem hi,List.getElem_take] at he
  rw [List.getElem_map,List.getElem_map]
  exact Option.some.inj he
 ·intro hn
  simp only [Classical.not_forall] at hn
  obtain ⟨i,j,hi,hj,hij,he⟩:=hn
  have hi':=hi;have hj':=hj
  rw [List.length_map] at hi' hj'
  have he:=Classical.not_not.1 he
  rw [List.getElem_map,List.getElem_map] at he
  refine ⟨j,hj',l[i],?_,?_⟩
  ·rw [List.mem_take_iff_getElem];exact ⟨i,by omega,rfl⟩
  ·rw [List.getElem?_eq_getElem hj',Option.map_some,he]
theorem ybn {e:Ev} {l:List Ev} (h:e.kind=3→e.scan= []):zaf 6 e l=zf9 6 e l:=by
 simp only [zaf,zf9]
 rw [yeo]
 unfold zcz
 split
 ·rename_i h2;rw [h h2];rfl
 ·rfl
theorem zwi {h:Hist} {e:Ev} (he:zdk h e=true):(∀s∈zcz e,0≤s.v.k)∧(e.kind=3→e.scan= []):=by
 obtain ⟨h1,h7,ht,hc,hq⟩:=zc3 he
 refine ⟨fun s hs=> ?_,fun h3=> ?_⟩
 ·unfold zcz at hs
  split at hs
  ·rename_i h3
   rw [List.mem_singleton] at hs;subst hs
   rw [zgr,if_neg (by omega),if_neg (by omega),if_pos h3] at hc
   simp only [zdh,Bool.and_eq_true] at hc
   exact yai hc.2
  ·rename_i h3
   by_cases h4:e.kind=4
   ·rw [zgr,if_neg (by omega),if_neg (by omega),if_neg h3,if_pos h4] at hc
    simp only [zcc,Bool.and_eq_true,List.all_eq_true] at hc
    have:=hc.2 s hs
    simp only [zhm,Bool.and_eq_true] at this
    exact yai this.2
   ·have:e.scan= []:=by
     rw [←hq];simp only [zgr]
     repeat' split
     all_goals first|rfl|omega
    rw [this] at hs;cases hs
 ·rw [←hq];simp only [zgr,if_neg (show ¬e.kind=1 by omega),if_neg (show ¬e.kind=2 by omega),if_pos h3]
def srt (l:List Int):List Int:=l.mergeSort (fun x y=>decide (x≤y))
def zaz:List Int→List Int
 | []=> []
 | [x]=> [x]
 |x::y::r=>if x=y then zaz (y::r) else x::zaz (y::r)
theorem zeo (z:Int):∀l:List Int,z∈zaz l ↔ z∈l
 | []=>Iff.rfl
 | [x]=>Iff.rfl
 |x::y::r=>by
  rw [zaz]
  split
  ·rename_i h;subst h;rw [zeo z (x::r)];simp
  ·rw [List.mem_cons,zeo z (y::r),List.mem_cons (a:=z) (b:=x)]
theorem zhg:∀l:List Int,l.Pairwise (· ≤ ·)→(zaz l).Pairwise (· < ·)
 | [],_=> .nil
 | [x],_=>by simp [zaz]
 |x::y::r,h=>by
  rw [zaz]
  obtain ⟨h1,h2⟩:=List.pairwise_cons.1 h
  split
  ·exact zhg _ h2
  ·rename_i hne
   refine List.pairwise_cons.2 ⟨fun z hz=> ?_,zhg _ h2⟩
   rw [zeo] at hz
   obtain ⟨h3,h4⟩:=List.pairwise_cons.1 h2
   have hxy:=h1 y (by simp)
   rcases List.mem_cons.1 hz with rfl|hz
   ·omega
   ·have:=h3 z hz;omega
theorem zkd:∀l:List Int,(zaz l).length≤l.length
 | []=>by simp [zaz]
 | [x]=>by simp [zaz]
 |x::y::r=>by
  rw [zaz];have:=zkd (y::r)
  split <;> simp only [List.length_cons] at * <;> omega
theorem zlu:∀l:List Int,(zaz l).length=l.length→zaz l=l
 | [],_=>rfl
 | [x],_=>rfl
 |x::y::r,h=>by
  rw [zaz] at h ⊢
  have hl:=zkd (y::r)
  split at h
  ·simp only [List.length_cons] at h hl;omega
  ·rename_i hne
   rw [if_neg hne,zlu (y::r) (by simpa using h)]
theorem zdn (l:List Int):(srt l).Perm l:=List.mergeSort_perm _ _
theorem zt6 (l:List Int):(srt l).Pairwise (· ≤ ·):=by
 have:=List.pairwise_mergeSort (le:=fun x y:Int=>decide (x≤y)) (by intro a b c;simp;omega) (by intro a b;simp;omega) l
 exact this.imp (by simp)
theorem zi3 {l:List Int} (h:l.Pairwise (· < ·)):l.Nodup:=h.imp (fun h e=>by omega)
theorem zkc:∀l:List Int,l.Nodup→zaz l=l
 | [],_=>rfl
 | [x],_=>rfl
 |x::y::r,h=>by
  obtain ⟨h1,h2⟩:=List.nodup_cons.1 h
  rw [zaz,if_neg (by rintro rfl;exact h1 (by simp)),zkc _ h2]
theorem zs9 (l:List Int):(zaz (srt l)).length=l.length ↔ l.Nodup:=by
 have hl:(srt l).length=l.length:=(zdn l).length_eq
 constructor
 ·intro h
  have e:=zlu (srt l) (by rw [h,hl])
  have:=zi3 (zhg _ (zt6 l))
  rw [e] at this
  exact (zdn l).nodup_iff.1 this
 ·intro h
  rw [zkc _ ((zdn l).nodup_iff.2 h),hl]
theorem yg1:∀(l m:List Int),l.Pairwise (· < ·)→m.Pairwise (· < ·)→(∀z,z∈l ↔ z∈m)→l=m:=by
 intro l m hl hm h
 refine List.Perm.eq_of_pairwise (le:=(· ≤ ·)) (fun a b _ _ h1 h2=>by omega) (hl.imp (fun h=>by omega)) (hm.imp (fun h=>by omega)) ?_
 exact (List.perm_ext_iff_of_nodup (zi3 hl) (zi3 hm)).2 h
def k9 (l:List Ev) (x:Int):List Int:=zaz (srt ((l.filter fun e=>e.kind==2 && e.o==x && l.any fun y=>y.t==e.t && y.kind==5).map Ev.t))
def zdl (h:Hist) (x:Int):List Int:=((upR h.ts.length).filter fun t=>(h.evs.any fun e=>e.kind==2 && e.t==t && e.o==x) && zzs h.evs t 5)
theorem zsq {h:Hist} (ht:∀e∈h.evs,0≤e.t∧e.t < h.ts.length) (x:Int) (hu:(upR h.ts.length).Pairwise (· < ·)) (hm:∀z,z∈upR h.ts.length ↔ 0≤z∧z < h.ts.length):k9 h.evs x=zdl h x:=by
 refine yg1 _ _ (zhg _ (zt6 _)) (hu.filter _) fun z=> ?_
 rw [k9,zeo,(zdn _).mem_iff]
 simp only [zdl,zex,List.mem_map,List.mem_filter,hm,Bool.and_eq_true,List.any_eq_true,beq_iff_eq]
 constructor
 ·rintro ⟨e,⟨he,⟨h2,h3⟩,y,hy,h4,h5⟩,rfl⟩
  exact ⟨ht e he,⟨e,he,⟨h2,rfl⟩,h3⟩,y,hy,h4,h5⟩
 ·rintro ⟨_,⟨e,he,⟨h2,rfl⟩,h3⟩,y,hy,h4,h5⟩
  exact ⟨e,⟨he,⟨h2,h3⟩,y,hy,h4,h5⟩,rfl⟩
def zp3 (ts f:List Int):Bool:=decide ((zaz (srt ts)).length=ts.length) && !ts.any fun t=> !f.contains t
def zjo (ts f:List Int):Bool:=decide ts.Nodup && ts.all fun t=>f.contains t
theorem zjw (ts f:List Int):zp3 ts f=zjo ts f:=by
 unfold zp3 zjo
 rw [Bool.eq_iff_iff]
 simp only [Bool.and_eq_true,decide_eq_true_eq,zs9,List.all_eq_true,Bool.not_eq_true',List.any_eq_false,Bool.not_eq_true,Bool.not_eq_false',Bool.not_eq_false]
theorem ziy:∀(ts f:List Int),ts.Nodup→(∀t∈ts,t∈f)→ts.length≤f.length
 | [],f,_,_=>by simp
 |t::r,f,hn,hs=>by
  obtain ⟨h1,h2⟩:=List.nodup_cons.1 hn
  have ht:=hs t (by simp)
  have:=ziy r (f.erase t) h2 (fun z hz=>(List.mem_erase_of_ne (by rintro rfl;exact h1 hz)).2 (hs z (by simp [hz])))
  rw [List.length_erase_of_mem ht] at this
  have:=List.length_pos_of_mem ht
  rw [List.length_cons];omega
theorem zrh {ts f:List Int} (hf:f.Nodup) (h:zjo ts f=true):decide (ts.length=f.length)=zjo f ts:=by
 simp only [zjo,Bool.and_eq_true,decide_eq_true_eq,List.all_eq_true,List.contains_iff_mem] at h
 rw [Bool.eq_iff_iff]
 simp only [zjo,Bool.and_eq_true,decide_eq_true_eq,List.all_eq_true,List.contains_iff_mem]
 constructor
 ·intro e
  refine ⟨hf,fun t ht=>Classical.byContradiction fun hn=> ?_⟩
  have:=ziy (t::ts) f (List.nodup_cons.2 ⟨hn,h.1⟩) (fun z hz=>by rcases List.mem_cons.1 hz with rfl|hz;exact ht;exact h.2 z hz)
  rw [List.length_cons] at this;omega
 ·rintro ⟨_,hs⟩
  exact Nat.le_antisymm (ziy _ _ h.1 h.2) (ziy _ _ hf hs)
theorem ybt (n:Nat) (z:Int):z∈upR n ↔ 0≤z∧z < n:=by
 simp only [upR,List.mem_map,List.mem_range]
 constructor
 ·rintro ⟨i,hi,rfl⟩;omega
 ·rintro ⟨h0,h1⟩;exact ⟨z.toNat,by omega,by omega⟩
theorem yaj (n:Nat):(upR n).Pairwise (· < ·):=by
 rw [upR,List.pairwise_map]
 exact List.pairwise_lt_range.imp (fun h=>by omega)
theorem zc1 {h:Hist} (hm:ze8 h=true) (x:Int):k9 h.evs x=zdl h x:=
 zsq (yj2 hm) x (yaj _) (ybt _)
theorem zeq (l:List Ev) (x:Int):(k9 l x).Nodup:=zi3 (zhg _ (zt6 _))
def zfj (h:Hist) (i:Nat) (r:Ord):Bool:=((h.ords.take i).any fun p=>p.o==r.o)|| !zp3 r.ts (k9 h.evs r.o)|| !decide (r.ts.length=(k9 h.evs r.o).length)
def zu7 (h:Hist) (i:Nat) (r:Ord):Bool:=((h.ords.take i).any fun p=>p.o==r.o)|| !zjo r.ts (zdl h r.o)|| !zjo (zdl h r.o) r.ts
theorem zyz {h:Hist} (hm:ze8 h=true) (i:Nat) (r:Ord):zfj h i r=zu7 h i r:=by
 unfold zfj zu7
 rw [zjw,←zc1 hm]
 cases hs:zjo r.ts (k9 h.evs r.o) with
 |false=>simp
 |true=>rw [zrh (zeq _ _) hs]
def zmk (h:Hist) (x:Int):Bool:=decide (1 < (k9 h.evs x).length) && !h.ords.any fun r=>r.o==x
def ydi (h:Hist) (x:Int):Bool:= !(h.ords.any fun r=>r.o==x) && decide (2≤(zdl h x).length)
theorem ydh {h:Hist} (hm:ze8 h=true) (x:Int):zmk h x=ydi h x:=by
 unfold zmk ydi
 rw [←zc1 hm,Bool.and_comm]
 rfl
def zh8 (h:Hist) (i:Nat) (r:Mat):Bool:=((h.mats.take i).any fun p=>p.p==r.p && p.o==r.o)|| !zp3 r.ts (k9 h.evs r.o)
def zvk (h:Hist) (i:Nat) (r:Mat):Bool:=((h.mats.take i).any fun p=>p.p==r.p && p.o==r.o)|| !zjo r.ts (zdl h r.o)
theorem zzc {h:Hist} (hm:ze8 h=true) (i:Nat) (r:Mat):zh8 h i r=zvk h i r:=by
 unfold zh8 zvk;rw [zjw,←zc1 hm]
def zpc (h:Hist) (i:Nat) (r:Wan):Bool:=((h.wants.take i).any fun p=>p.s==r.s)|| !h.evs.any fun e=>e.kind==1 && e.s==r.s
def zcj {α:Type} (w:Nat→α→Bool):Nat→List α→Option Nat
 |_,[]=>none
 |i,x::r=>if w i x then some i else zcj w (i+1) r
theorem zeg {α:Type} {w v:Nat→α→Bool}:∀(l:List α) (i:Nat),(∀x∈l,∀i,w i x=v i x)→zcj w i l=zcj v i l
 | [],_,_=>rfl
 |x::r,i,h=>by rw [zcj,zcj,h x (by simp),zeg r (i+1) (fun y hy=>h y (by simp [hy]))]
def zbk (h:Hist) (rule:Nat):Option Nat:=
 match rule with
 |7=>zcj (zfj h) 0 h.ords
 |8=>zcj (fun x _=>zmk h (x:Int)) 0 h.os
 |9=>zcj (zh8 h) 0 h.mats
 |10=>zcj (zpc h) 0 h.wants
 |r=>zcj (fun i e=>zaf r e (h.evs.take i)) 0 h.evs
def zru (h:Hist) (rule:Nat):Option Nat:=
 match rule with
 |7=>zcj (zu7 h) 0 h.ords
 |8=>zcj (fun x _=>ydi h (x:Int)) 0 h.os
 |9=>zcj (zvk h) 0 h.mats
 |10=>zcj (zpc h) 0 h.wants
 |r=>zcj (fun i e=>zf9 r e (h.evs.take i)) 0 h.evs
theorem zxy {h:Hist} {e:Ev} (he:zdk h e=true) (l:List Ev):∀r,zaf r e l=zf9 r e l
 |0=>rfl
 |1=>ybq e l
 |2=>rfl
 |3=>rfl
 |4=>ybp (zwi he).1
 |5=>ybo e l
 |6=>ybn (zwi he).2
 |_+7=>rfl
theorem zyx {h:Hist} (hm:ze8 h=true) (rule:Nat):zbk h rule=zru h rule:=by
 have hs:zai h=true:=by unfold ze8 at hm;simp only [Bool.and_eq_true] at hm;exact hm.1
 have hE:=(zda hs).2.1
 unfold zbk zru
 split
 ·exact zeg _ _ fun r _ i=>zyz hm i r
 ·exact zeg _ _ fun r _ i=>ydh hm _
 ·exact zeg _ _ fun r _ i=>zzc hm i r
 ·rfl
 ·exact zeg _ _ fun e he i=>zxy (hE e he) _ _
def zay (p:Nat→Option Nat):List Nat→Option (Nat×Nat)
 | []=>none
 |r::l=>match p r with|some i=>some (r,i)|none=>zay p l
def rules10:List Nat:= [1,2,3,4,5,6,7,8,9,10]
theorem zzz {h:Hist} (hm:ze8 h=true):zay (zbk h) rules10=zay (zru h) rules10:=by
 rw [show zbk h=zru h from funext (zyx hm)]
theorem zlo {p:Nat→Option Nat}:∀{l:List Nat},zay p l=none→∀q∈l,p q=none
 | [],_,q,hq=>by cases hq
 |a::l,h,q,hq=>by
  rw [zay] at h
  cases ha:p a with
  |some j=>rw [ha] at h;cases h
  |none=>rw [ha] at h;rcases List.mem_cons.1 hq with rfl|hq;exact ha;exact zlo h q hq
theorem zff {α:Type} {w:Nat→α→Bool}:∀(l:List α) (i:Nat),zcj w i l=none ↔ ∀j,(h:j < l.length)→w (i+j) l[j]=false
 | [],i=>by simp [zcj]
 |x::r,i=>by
  rw [zcj]
  constructor
  ·intro h j hj
   split at h
   ·cases h
   ·rename_i h0
    cases j with
    |zero=>simpa using h0
    |succ j=>
     have:=(zff r (i+1)).1 h j (by simpa using hj)
     rw [show i+(j+1)=i+1+j by omega];exact this
  ·intro h
   have h0:w i x=false:=h 0 (Nat.zero_lt_succ _)
   rw [if_neg (by rw [h0];decide)]
   refine (zff r (i+1)).2 fun j hj=> ?_
   have:=h (j+1) (by simpa using hj)
   rw [show i+1+j=i+(j+1) by omega];exact this
theorem zlc {k:Nat} (h1:1≤k) (h2:k≤10):rules10.drop (k - 1)=k::rules10.drop k:=by
 have:∀k,k < 11→1≤k→rules10.drop (k - 1)=k::rules10.drop k:=by decide
 exact this k (by omega) h1
theorem zth {p:Nat→Option Nat} {k:Nat} (h1:1≤k) (h2:k≤10) (hz:zay p rules10=zay p (rules10.drop (k - 1))) (hp:p k=none):zay p rules10=zay p (rules10.drop (k+1 - 1)):=by
 rw [hz,zlc h1 h2,zay,hp];rfl
theorem zwd {p:Nat→Option Nat} {k i:Nat} (h1:1≤k) (h2:k≤10) (hz:zay p rules10=zay p (rules10.drop (k - 1))) (hp:p k=some i):zay p rules10=some (k,i):=by
 rw [hz,zlc h1 h2,zay,hp]
theorem zti {p:Nat→Option Nat} {k:Nat} (h1:11≤k) (h2:k≤11) (hz:zay p rules10=zay p (rules10.drop (k - 1))):zay p rules10=none:=by
 obtain rfl:k=11:=by omega
 rw [hz];rfl
def zif (h:Hist):Option (Nat×Nat):=zay (zbk h) rules10
def yk6:Option (Nat×Nat)→List AV
 |some (r,i)=> [iv r,iv i]
 |none=> [iv 0,iv 0]
def za0 (h:Hist):Bool:=ze8 h && (zif h).isNone
def zf3 (h:Hist):AV:=if ze8 h=true then .tup [.agg (yk6 (zif h)),bv (zif h).isSome,iv 0] else .tup [.agg [iv 0,iv 0],bv false,iv 210]
def ylt:Option Nat→Int
 |some n=>n
 |none=>0
theorem yes (o:Option (Nat×Nat)):∃i j,yk6 o= [iv i,iv j]:=by
 cases o with
 |none=>exact ⟨_,_,rfl⟩
 |some p=>exact ⟨_,_,rfl⟩
theorem zoh (h:Hist):∃i j b e,zf3 h= .tup [.agg [iv i,iv j],bv b,iv e]∧za0 h=((e==0) && !b):=by
 unfold zf3 za0
 obtain ⟨i,j,hb⟩:=yes (zif h)
 by_cases hm:ze8 h=true
 ·rw [if_pos hm,hm,hb];refine ⟨_,_,_,_,rfl,?_⟩;cases zif h <;> rfl
 ·rw [if_neg hm,Bool.eq_false_iff.2 hm];exact ⟨_,_,_,_,rfl,rfl⟩
theorem zdt {h:Hist} (hs:za0 h=true):ze8 h=true∧zay (zbk h) rules10=none:=by
 unfold za0 at hs
 simp only [Bool.and_eq_true,Option.isNone_iff_eq_none] at hs
 exact hs
section
variable (ρ:Nat→Int→Int)
end
section
variable {σ:Type} {f:σ→Nat→Int→Int×σ} {ρ:Nat→Int→Int}
variable (f) in
def after:σ→List (Nat×Int)→σ
 |s,[]=>s
 |s,x::l=>after (f s x.1 x.2).2 l
end
section
variable (ρ:Nat→Int→Int)
end
structure Cnt (k:yfe) (m:List Int):Prop where
 k4:k.length=4
 m4:m.length=4
 eq:∀s,s < 4→m.getD s 0=(k.getD s []).length
def yf7 (m:Nat):List Int:=(List.range m).map Int.ofNat
structure Rng (k:yfe) (m:List Int):Prop where
 cnt:Cnt k m
 rg:∀s,s < 4→k.getD s []=yf7 (k.getD s []).length
section
variable {h:Hist} (hs:zai h=true)
include hs
end
section
variable {h n:Hist} {ρ:Nat→Int→Int}
end
def zdj (t x:Int) (e:Ev):Bool:=e.kind==2 && e.t==t && e.o==x
def zq4 (h:Hist) (x:Int) (k:Nat):List Int:=(upR k).filter fun t=>h.evs.any (zdj t x) && zzs h.evs t 5
theorem yfg (k:Nat):upR (k+1)=upR k++ [(k:Int)]:=by simp [upR,List.range_succ]
theorem zni (h:Hist) (x:Int) (k:Nat):(zq4 h x k).length≤k:=by
 have:(zq4 h x k).length≤(upR k).length:=List.length_filter_le _ _
 simpa [upR] using this
section
variable {h:Hist} {i:Nat}
end
theorem zo9 (h:Hist) (x:Int):(zdl h x).length≤h.ts.length:=zni h x _
section
variable {l:List Ev} {t x:Int} {k:Nat}
end
theorem zl1 (a b:Ver):([a.t,a.k]== [b.t,b.k])=(a==b):=by
 cases a;cases b
 rw [Bool.eq_iff_iff];simp
def zn1 (x:Int×Int):List AV:= [iv x.1,iv x.2]
def yc7 (l:List (Int×Int)):AV:= .list false 2 (l.map zn1)
def zea {α:Type} (f:Nat→Ev→Option α) (l:List Ev):Nat→List α
 |0=> []
 |k+1=>zea f l k++(match l[k]? with|some e=>(f k e).toList|none=> [])
theorem zr4 {α:Type} {f:Nat→Ev→Option α} {l:List Ev} {k:Nat} (h:k < l.length):zea f l (k+1)=zea f l k++(f k l[k]).toList:=by
 rw [zea,List.getElem?_eq_getElem h]
theorem zhb {α:Type} (f:Nat→Ev→Option α) (l:List Ev):∀k,(zea f l k).length≤k
 |0=>by simp [zea]
 |k+1=>by
  have:=zhb f l k
  rw [zea,List.length_append]
  have:(match l[k]? with|some e=>(f k e).toList|none=> []).length≤1:=by
   cases l[k]? with
   |none=>simp
   |some e=>simp only [];cases f k e <;> simp
  omega
theorem zj2 {α:Type} {f:Nat→Ev→Option α} {p:Ev→Bool} {g:Ev→α} (hf:∀k e,f k e=if p e=true then some (g e) else none) (l:List Ev):∀k,k≤l.length→zea f l k=((l.take k).filter p).map g
 |0,_=>by simp [zea]
 |k+1,h=>by
  have hk:k < l.length:=h
  rw [zr4 hk,zj2 hf l k (by omega),List.take_succ_eq_append_getElem hk,List.filter_append,List.map_append,hf]
  by_cases hp:p l[k]=true
  ·rw [if_pos hp,List.filter_cons_of_pos hp];rfl
  ·rw [if_neg hp,List.filter_cons_of_neg hp];rfl
theorem zzu {α:Type} {f:Nat→Ev→Option α} {p:Ev→Bool} {g:Ev→α} (hf:∀k e,f k e=if p e=true then some (g e) else none) (l:List Ev):zea f l l.length=(l.filter p).map g:=by
 rw [zj2 hf l _ (Nat.le_refl _),List.take_length]
def zha (l:List Ev) (t x:Int):Nat→Option (Ver×Nat)
 |0=>none
 |k+1=>match l[k]? with
  |some e=>if zdj t x e=true then some (e.v,k) else zha l t x k
  |none=>zha l t x k
def zem (t x:Int) (a:Nat) (k:Nat) (e:Ev):Option (Ver×Nat):=if (e.kind==2 && (e.t==t && e.o==x && decide (k < a)))=true then some (e.v,k) else none
theorem zso (t x:Int) (e:Ev):zdj t x e=(e.kind==2 && (e.t==t && e.o==x)):=by
 rw [zdj,Bool.and_assoc]
theorem zhu (l:List Ev) (t x:Int) (a:Nat):∀k,k≤l.length→(zea (zem t x a) l k).getLast? =zha l t x (min k a)
 |0,_=>by simp [zea,zha]
 |k+1,h=>by
  have hk:k < l.length:=h
  have ih:=zhu l t x a k (by omega)
  rw [zr4 hk,zem]
  by_cases ha:k < a
  ·rw [show min (k+1) a=k+1 by omega,zha,List.getElem?_eq_getElem hk]
   rw [show min k a=k by omega] at ih
   have e1:(l[k].kind==2 && (l[k].t==t && l[k].o==x && decide (k < a)))=zdj t x l[k]:=by rw [zso,decide_eq_true ha,Bool.and_true]
   rw [e1]
   by_cases hw:zdj t x l[k]=true
   ·simp only [hw,if_true];simp
   ·rw [if_neg hw];simp only [hw,if_false];simpa using ih
  ·rw [show min (k+1) a=a by omega]
   rw [show min k a=a by omega] at ih
   rw [if_neg (by rw [decide_eq_false ha];simp)]
   simpa using ih
theorem zlj {l:List Ev} {t x:Int}:∀{k:Nat} {v:Ver} {i:Nat},k≤l.length→zha l t x k=some (v,i)→∃hi:i < l.length,i < k∧zdj t x l[i]=true∧l[i].v=v∧∀j,(hj:j < l.length)→i < j→j < k→zdj t x l[j]=false
 |0,v,i,_,h=>by cases h
 |k+1,v,i,hl,h=>by
  have hk:k < l.length:=hl
  rw [zha,List.getElem?_eq_getElem hk] at h
  simp only at h
  split at h
  ·rename_i hw
   cases h
   exact ⟨hk,by omega,hw,rfl,fun j hj h1 h2=>by omega⟩
  ·rename_i hw
   obtain ⟨hi,h1,h2,h3,h4⟩:=zlj (by omega) h
   exact ⟨hi,by omega,h2,h3,fun j hj h5 h6=>by
    by_cases e:j=k
    ·subst e;simpa using hw
    ·exact h4 j hj h5 (by omega)⟩
theorem zlk {l:List Ev} {t x:Int}:∀{k:Nat},k≤l.length→zha l t x k=none→∀j,(hj:j < l.length)→j < k→zdj t x l[j]=false
 |0,_,_,j,hj,h=>by omega
 |k+1,hl,h,j,hj,hjk=>by
  have hk:k < l.length:=hl
  rw [zha,List.getElem?_eq_getElem hk] at h
  simp only at h
  split at h
  ·cases h
  ·rename_i hw
   by_cases e:j=k
   ·subst e;simpa using hw
   ·exact zlk (by omega) h j hj (by omega)
def zo6 (l:List Ev) (t x:Int):Option (Ver×Nat):=zha l t x l.length
def ye8:Option (Ver×Nat)→Ver
 |some p=>p.1
 |none=>⟨0,0⟩
def za7 (l:List Ev) (s:Int):List Int:=(l.filter fun e=>e.kind==1 && (e.s==s && zzs l e.t 5)).map Ev.t
def yfd (l:List Ev) (x:Int):List Int:=(l.filter fun e=>e.kind==2 && (e.o==x && zzs l e.t 5)).map Ev.t
def zed (h:Hist) (x:Int):List Int:=match h.ords.find? (fun o=>o.o==x) with|some o=>o.ts|none=>zaz (yfd h.evs x)
def yj8 (h:Hist) (x:Int):List Int:=match h.ords.find? (fun o=>o.o==x) with|some o=>o.ts|none=>zdl h x
def k8 (h:Hist):Int:=if ze8 h=true then (if za0 h=true then 0 else 250) else 210
theorem zcv {h:Hist}:k8 h=0 ↔ za0 h=true:=by
 unfold k8
 by_cases hm:ze8 h=true
 ·rw [if_pos hm]
  by_cases hs:za0 h=true
  ·rw [if_pos hs];simp [hs]
  ·rw [if_neg hs];simp [hs]
 ·rw [if_neg hm]
  have:za0 h=false:=by rw [za0,Bool.eq_false_iff.2 hm];rfl
  simp [this]
theorem zhd {α:Type} (p:α→Bool):∀(l:List α) (i:Nat),(match l.find? p with|some x=>∃k,∃hk:k < l.length,zaq p i l=((i+k:Nat):Int)∧l[k]=x∧p x=true|none=>zaq p i l= -1)
 | [],i=>rfl
 |a::r,i=>by
  rw [List.find?_cons]
  cases ha:p a with
  |true=>exact ⟨0,by simp,by rw [zaq,if_pos ha];rfl,rfl,ha⟩
  |false=>
   have:=zhd p r (i+1)
   rw [zaq,if_neg (by rw [ha];decide)]
   dsimp only
   cases hf:r.find? p with
   |some x=>
    rw [hf] at this
    obtain ⟨k,hk,e1,e2,e3⟩:=this
    exact ⟨k+1,by simpa using hk,by rw [e1];congr 1;omega,by simpa using e2,e3⟩
   |none=>
    rw [hf] at this
    exact this
theorem zhl {h:Hist} (hs:za0 h=true) {q:Nat} (h1:1≤q) (h2:q≤10):zbk h q=none:=
 zlo (zdt hs).2 q (by have:∀k,k < 11→1≤k→k∈rules10:=by decide
                      exact this q (by omega) h1)
theorem ycl {h:Hist} (hs:za0 h=true) (q:Nat) (h1:1≤q) (h2:q≤6) {j:Nat} (hj:j < h.evs.length):zaf q h.evs[j] (h.evs.take j)=false:=by
 have hp:=zhl hs h1 (by omega)
 have:zcj (fun i e=>zaf q e (h.evs.take i)) 0 h.evs=none:=by
  unfold zbk at hp
  split at hp <;> first|omega|exact hp
 have:=(zff _ _).1 this j hj
 rwa [Nat.zero_add] at this
theorem yji {h:Hist} (hs:za0 h=true) {j:Nat} (hj:j < h.evs.length):ze6 (h.evs.take j) h.evs[j].t= !(h.evs[j].kind==1):=by
 have:=ycl hs 1 (by omega) (by omega) hj
 simp only [zaf] at this
 cases hb:ze6 (h.evs.take j) h.evs[j].t <;> cases hk:(h.evs[j].kind==1) <;> simp_all
theorem ztn {l:List Ev} {t:Int}:ze6 l t=true ↔ ∃e∈l,e.t=t∧e.kind=1:=by
 rw [ze6,zex,List.any_eq_true]
 simp only [Bool.and_eq_true,beq_iff_eq]
theorem zp6 {α:Type} {l:List α} {i j:Nat} (hi:i < l.length) (h:i < j):l[i]∈l.take j:=
 List.mem_take_iff_getElem.2 ⟨i,by omega,rfl⟩
theorem zu8 {l:List Ev} {c:Int} (h:∀i j,(hi:i < l.length)→(hj:j < l.length)→i < j→l[i].kind=c→l[j].kind=c→l[i].t≠l[j].t) (p:Ev→Bool) (hp:∀e,p e=true→e.kind=c):((l.filter p).map Ev.t).Nodup:=by
 rw [List.Nodup,List.pairwise_map,List.pairwise_filter,List.pairwise_iff_getElem]
 intro i j hi hj hij h1 h2
 exact h i j hi hj hij (hp _ h1) (hp _ h2)
theorem zto {h:Hist} (hs:za0 h=true):∀i j,(hi:i < h.evs.length)→(hj:j < h.evs.length)→i < j→h.evs[i].kind=1→h.evs[j].kind=1→h.evs[i].t≠h.evs[j].t:=by
 intro i j hi hj hij h1 h2 he
 have:=yji hs hj
 rw [h2] at this
 have hb:ze6 (h.evs.take j) h.evs[j].t=true:=ztn.2 ⟨_,zp6 hi hij,he,h1⟩
 rw [hb] at this;cases this
theorem zke {a:Int}:∀l:List Int,l≠ []→(∀z∈l,z=a)→zaz l= [a]
 | [],h,_=>absurd rfl h
 | [x],_,h=>by rw [h x (by simp)];rfl
 |x::y::r,_,h=>by
  rw [zaz,if_pos (by rw [h x (by simp),h y (by simp)])]
  exact zke (y::r) (by simp) (fun z hz=>h z (by simp only [List.mem_cons] at hz ⊢;exact .inr hz))
theorem zwr {l:List Int} (h:(zaz (srt l)).length≤1):zaz l=zaz (srt l):=by
 have hm:∀z,z∈zaz (srt l) ↔ z∈l:=fun z=>by rw [zeo,(zdn l).mem_iff]
 match hc:zaz (srt l),h with
 | [],_=>
   have:l= []:=by
    rw [List.eq_nil_iff_forall_not_mem];intro z hz
    have:=(hm z).2 hz;rw [hc] at this;cases this
   rw [this];rfl
 | [a],_=>
   refine zke l ?_ fun z hz=> ?_
   ·rintro rfl
    have:=(hm a).1 (by rw [hc];simp);cases this
   ·have:=(hm z).2 hz
    rw [hc] at this;simpa using this
 |a::b::r,h=>simp at h
theorem zia (l:List Ev) (x:Int):zaz (srt (yfd l x))=k9 l x:=by
 rw [yfd,k9]
 congr 3
 refine List.filter_congr fun e _=> ?_
 rw [zex,Bool.and_assoc]
theorem zvg {h:Hist} (hs:za0 h=true) {x:Int} (h0:0≤x) (h1:x < h.os.length) (hn:h.ords.find? (fun o=>o.o==x)=none):(k9 h.evs x).length≤1:=by
 have hp:=zhl hs (q:=8) (by omega) (by omega)
 have:=(zff _ _).1 hp x.toNat (by omega)
 rw [Nat.zero_add,show ((x.toNat:Nat):Int)=x by omega,zmk] at this
 rw [List.find?_eq_none] at hn
 have ha:h.ords.any (fun r=>r.o==x)=false:=by
  rw [List.any_eq_false];intro o ho;exact hn o ho
 rw [ha] at this
 simp at this
 exact this
theorem yhi {h:Hist} (hs:za0 h=true) {x:Int} (h0:0≤x) (h1:x < h.os.length):zed h x=yj8 h x:=by
 unfold zed yj8
 cases hf:h.ords.find? (fun o=>o.o==x) with
 |some o=>rfl
 |none=>
  have:=zvg hs h0 h1 hf
  rw [←zc1 (zdt hs).1,←zia,zwr (by rw [zia];exact this)]
def zpq (h:Hist) (x:Int) (v:Ver):Int:=zaq (fun t=>ye8 (zo6 h.evs t x)==v) 0 (zed h x)
theorem znm {h:Hist} (hs:za0 h=true):zai h=true:=by
 have:=(zdt hs).1
 unfold ze8 at this;simp only [Bool.and_eq_true] at this;exact this.1
theorem zrg {h:Hist} (hs:za0 h=true):∀e∈h.evs,zdk h e=true:=(zda (znm hs)).2.1
theorem zji {h:Hist} {e:Ev} (he:zdk h e=true) (h2:e.kind=2):0≤e.o∧e.o < h.os.length∧e.v.t=e.t∧0 < e.v.k:=by
 obtain ⟨_,_,_,hc,_⟩:=zc3 he
 rw [zgr,if_neg (by omega),if_pos h2] at hc
 simp only [zav,Bool.and_eq_true,decide_eq_true_eq,beq_iff_eq,zat] at hc
 exact ⟨hc.1.1.1.1,hc.1.1.1.2,hc.1.2,hc.2⟩
theorem zee {t x:Int} {e:Ev}:zdj t x e=true ↔ e.kind=2∧e.t=t∧e.o=x:=by
 simp only [zdj,Bool.and_eq_true,beq_iff_eq,and_assoc]
theorem zo8 {l:List Ev} {x z:Int}:z∈k9 l x ↔ (∃e∈l,zdj z x e=true)∧zzs l z 5=true:=by
 rw [k9,zeo,(zdn _).mem_iff]
 simp only [List.mem_map,List.mem_filter,Bool.and_eq_true,beq_iff_eq]
 constructor
 ·rintro ⟨e,⟨he,⟨h2,h3⟩,h4⟩,rfl⟩
  exact ⟨⟨e,he,zee.2 ⟨h2,rfl,h3⟩⟩,by rw [zex];exact h4⟩
 ·rintro ⟨⟨e,he,hw⟩,h5⟩
  obtain ⟨h2,rfl,h3⟩:=zee.1 hw
  exact ⟨e,⟨he,⟨h2,h3⟩,by rw [←zex];exact h5⟩,rfl⟩
theorem zgp {h:Hist} (hs:za0 h=true) {x:Int} (h0:0≤x) (h1:x < h.os.length):(zed h x).Nodup∧(zed h x).length=(k9 h.evs x).length∧∀z,z∈zed h x ↔ z∈k9 h.evs x:=by
 have hm:=(zdt hs).1
 cases hf:h.ords.find? (fun o=>o.o==x) with
 |none=>
  have e:zed h x=k9 h.evs x:=by
   rw [yhi hs h0 h1,yj8,hf,zc1 hm]
  rw [e];exact ⟨zeq _ _,rfl,fun _=>Iff.rfl⟩
 |some o=>
  have e:zed h x=o.ts:=by rw [zed,hf]
  have:=zhd (fun o:Ord=>o.o==x) h.ords 0
  rw [hf] at this
  obtain ⟨k,hk,_,ek,eo⟩:=this
  have hp:zcj (zfj h) 0 h.ords=none:=zhl hs (q:=7) (by omega) (by omega)
  have:=(zff _ _).1 hp k hk
  rw [Nat.zero_add,ek,zfj] at this
  have ex:o.o=x:=by simpa using eo
  simp only [Bool.or_eq_false_iff,Bool.not_eq_false',ex] at this
  obtain ⟨⟨_,h2⟩,h3⟩:=this
  rw [zjw] at h2
  have h4:=(zrh (zeq h.evs x) h2).symm.trans h3
  simp only [zjo,Bool.and_eq_true,decide_eq_true_eq,List.all_eq_true,List.contains_iff_mem] at h2 h4
  rw [e]
  exact ⟨h2.1,by simpa using h3,fun z=>⟨h2.2 z,h4.2 z⟩⟩
theorem yhr {l:List Ev} {t x:Int} (h:∃e∈l,zdj t x e=true):∃v i,zo6 l t x=some (v,i):=by
 cases hf:zo6 l t x with
 |some p=>exact ⟨p.1,p.2,rfl⟩
 |none=>
  obtain ⟨e,he,hw⟩:=h
  obtain ⟨j,hj,rfl⟩:=List.mem_iff_getElem.1 he
  have:=zlk (Nat.le_refl _) hf j hj hj
  rw [hw] at this;cases this
theorem zwe {h:Hist} (hs:za0 h=true) {t x:Int} {v:Ver} {i:Nat} (hf:zo6 h.evs t x=some (v,i)):∃hi:i < h.evs.length,h.evs[i].v=v∧zdj t x h.evs[i]=true∧v.t=t∧0 < v.k∧∀j,(hj:j < h.evs.length)→i < j→zdj t x h.evs[j]=false:=by
 obtain ⟨hi,_,hw,hv,hn⟩:=zlj (Nat.le_refl _) hf
 obtain ⟨h2,ht,hx⟩:=zee.1 hw
 obtain ⟨_,_,h3,h4⟩:=zji (zrg hs _ (List.getElem_mem hi)) h2
 exact ⟨hi,hv,hw,by rw [←hv,h3,ht],by rw [←hv];exact h4,fun j hj hij=>hn j hj hij hj⟩
end Go.H
set_option linter.unusedSectionVars false
namespace Go.Ab
open Go
section
variable {K V:Type} [DecidableEq K]
def zbc (k:K):List (K×V)→Option V
 | []=>none
 |p::r=>if p.1=k then some p.2 else zbc k r
def zej (k:K) (v:V):List (K×V)→List (K×V)
 | []=> [(k,v)]
 |p::r=>if p.1=k then (p.1,v)::r else p::zej k v r
def zbg (f:V→AV) (m:List (K×V)):List (K×AV):=m.map fun p=>(p.1,f p.2)
theorem zhr (f:V→AV) (k:K):∀m:List (K×V),zcr k (zbg f m)=(zbc k m).map f
 | []=>rfl
 |p::m=>by
  have ih:=zhr f k m
  simp only [zbg,List.map_cons,zcr,zbc] at ih ⊢
  by_cases h:p.1=k
  ·simp [h]
  ·rw [if_neg h,if_neg h,ih]
theorem zjk (f:V→AV) (k:K) (v:V):∀m:List (K×V),zk4 k (f v) (zbg f m)=zbg f (zej k v m)
 | []=>rfl
 |p::m=>by
  have ih:=zjk f k v m
  simp only [zbg,List.map_cons,zk4,zej] at ih ⊢
  by_cases h:p.1=k
  ·rw [if_pos h,if_pos h];rfl
  ·rw [if_neg h,if_neg h,ih];rfl
theorem zby (k k':K) (v:V):∀m:List (K×V),zbc k (zej k' v m)=if k'=k then some v else zbc k m
 | []=>by simp only [zej,zbc]
 |p::m=>by
  have ih:=zby k k' v m
  simp only [zej]
  by_cases h:p.1=k'
  ·rw [if_pos h];simp only [zbc,h]
   by_cases hk:k'=k
   ·simp [hk]
   ·simp [hk]
  ·rw [if_neg h];simp only [zbc,ih]
   by_cases hp:p.1=k
   ·rw [if_pos hp,if_neg (fun q=>h (hp.trans q.symm)),if_pos hp]
   ·rw [if_neg hp,if_neg hp]
theorem zu3 (k:K) (v:V):∀m:List (K×V),(zej k v m).length=if (zbc k m).isSome then m.length else m.length+1
 | []=>rfl
 |p::m=>by
  have ih:=zu3 k v m
  by_cases h:p.1=k
  ·simp [zej,zbc,h]
  ·simp only [zej,zbc,if_neg h,List.length_cons,ih]
   split <;> simp
def zrl {α:Type} (p:α→Bool) (key:α→K) (m:List (K×Bool)) (l:List α):List (K×Bool):=l.foldl (fun m e=>if p e then zej (key e) true m else m) m
theorem zfz {α:Type} (p:α→Bool) (key:α→K) (k:K):∀(l:List α) (m:List (K×Bool)),zbc k (zrl p key m l)=if l.any (fun e=>p e && decide (key e=k)) then some true else zbc k m
 | [],m=>by simp [zrl]
 |e::l,m=>by
  have ih:=zfz p key k l (if p e then zej (key e) true m else m)
  simp only [zrl,List.foldl_cons,List.any_cons] at ih ⊢
  rw [ih]
  by_cases h:(l.any fun e=>p e && decide (key e=k))=true
  ·simp only [h,Bool.or_true,if_true]
  ·have h':=Bool.eq_false_iff.2 h
   simp only [h',Bool.or_false,Bool.false_eq_true,if_false]
   cases hp:p e with
   |false=>simp
   |true=>simp [zby]
def yg7 {α:Type} (p:α→Bool) (key:α→K) (val:α→V) (m:List (K×V)) (l:List α):List (K×V):=l.foldl (fun m e=>if p e then zej (key e) (val e) m else m) m
theorem zr1 {α:Type} (p:α→Bool) (key:α→K) (val:α→V) (k:K):∀(l:List α) (m:List (K×V)),zbc k (yg7 p key val m l)=(((l.filter fun e=>p e && decide (key e=k)).getLast?).map val).or (zbc k m)
 | [],m=>by simp [yg7]
 |e::l,m=>by
  have ih:=zr1 p key val k l (if p e then zej (key e) (val e) m else m)
  simp only [yg7,List.foldl_cons,List.filter_cons] at ih ⊢
  rw [ih]
  cases hp:p e with
  |false=>simp
  |true=>
   by_cases hk:key e=k
   ·simp only [hk,decide_true,Bool.and_self,if_true,zby]
    cases hl:(l.filter fun e=>p e && decide (key e=k)).getLast? with
    |none=>
     rw [List.getLast?_eq_none_iff] at hl
     simp [hl]
    |some y=>simp [List.getLast?_cons,hl]
   ·simp [hk,zby]
def yh4 {α:Type} (p:α→Bool) (key:α→K) (m:List (K×Int)) (l:List α):List (K×Int):=l.foldl (fun m e=>if p e then zej (key e) ((zbc (key e) m).getD 0+1) m else m) m
theorem zsf {α:Type} (p:α→Bool) (key:α→K) (k:K):∀(l:List α) (m:List (K×Int)),(zbc k (yh4 p key m l)).getD 0=(zbc k m).getD 0+((l.filter fun e=>p e && decide (key e=k)).length:Int)
 | [],m=>by simp [yh4]
 |e::l,m=>by
  have ih:=zsf p key k l (if p e then zej (key e) ((zbc (key e) m).getD 0+1) m else m)
  simp only [yh4,List.foldl_cons,List.filter_cons] at ih ⊢
  rw [ih]
  cases hp:p e with
  |false=>simp
  |true=>
   by_cases hk:key e=k
   ·simp only [hk,decide_true,Bool.and_self,if_true,zby,Option.getD_some,List.length_cons];omega
   ·simp [hk,zby]
end
end Go.Ab
namespace Go.Proofs
open Go Go.Ab
open Go.H
theorem zu1 {P:Program} {h:List Res} {f:Operand→Option AV} {o:Oper} {b c:Bool} (hq:QR P h f o (.v (.bool b))) (e:b=c):QR P h f o (.v (.bool c)):=by subst e;exact hq
theorem nzT {a:Int} (h:(a !=0)=true):a≠0:=by simpa using h
theorem nzF {a:Int} (h:(a !=0)=false):a=0:=by simpa using h
end Go.Proofs
