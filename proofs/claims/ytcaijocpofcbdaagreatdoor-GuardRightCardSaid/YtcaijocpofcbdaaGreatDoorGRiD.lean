/- Rows made with room to spare; append of zeros onto nil; slices with three bounds; clear. Conditions: none (rules over any program). -/
import Derived.Test.YtcaijocpofcbdaaGreatDoorGRiC
set_option linter.unusedSimpArgs false
set_option linter.unusedVariables false
namespace Go.Ab
open Go
theorem yda {zv:Array Value} {n i j sz:Nat} (hs:zv.size=sz) (hi:i < n) (hj:j < zv.size):(Builtin.zeroCells zv n)[i * sz+j]? =some zv[j]:=by
 subst hs
 have h1:(i+1) * zv.size≤n * zv.size:=Nat.mul_le_mul_right _ hi
 rw [Nat.add_mul] at h1
 have hlt:i * zv.size+j < n * zv.size:=by omega
 have hm:(i * zv.size+j) % zv.size=j:=by rw [Nat.mul_comm,Nat.mul_add_mod,Nat.mod_eq_of_lt hj]
 simp [Builtin.zeroCells,hlt,hm,hj]
section
variable {P:Program} {ro:Option Nat} {nt:Nat} {h:List Res} {f:Operand→Option AV} {dst:Option Tmp} {ty:TypeId} {pos:String} {after:Array Edge} {guard:Option (Nat×Bool)} {x y z u:Operand} {t:Fr} {ds:List Nat} {next:St→Prop}
theorem yad {d:Tmp} {T E bytes sz:Nat} {n c:Nat} {zv:Value} [hu:Und P T (.slice E)] [hz:ZerV P E zv] [Siz P E sz] [hby:Byt P E bytes] (hx:ev t x=some (.v (.int .i64 n))) (hy:ev t y=some (.v (.int .i64 c))) (hlt:dok nt (some d)=true)
 (hnc:n≤c) (hn:c≤1099511627776) (hb:bytes≤128:=by decide) (hzs:zv.cells.size=sz:=by rfl) (hk:∀b,next ⟨(d,.v (.slice (some ⟨b,0,none⟩) n c))::t,.row (.slice (some ⟨b,0,none⟩) n c) sz E (List.replicate n (zv.cells.toList.map AV.v))::h,ds⟩):
 OE P ro nt ⟨some d,.makeSlice T x y,ty,pos,after,guard⟩ ⟨t,h,ds⟩ next:=by
 intro X a w K Q hs hK
 refine ⟨j5,?_⟩
 have hbi:=hby.h
 cases hi:P.info? E with
 |none=>simp [hi] at hbi
 |some inf=>
  simp [hi] at hbi
  have hwn:IntKind.i64.wrap (n:Int)=n:=IntWalk.i64_in _ ⟨by omega,by omega⟩
  have hwc:IntKind.i64.wrap (c:Int)=c:=IntWalk.i64_in _ ⟨by omega,by omega⟩
  let cells:Array Value:=if c * sz=0 then (#[]:Array Value) else Builtin.zeroCells zv.cells c
  have hmul:inf.bytes * c≤128 * 1099511627776:=Nat.mul_le_mul (by omega) hn
  have hl2:¬((inf.bytes:Int) * (c:Int) > 2 ^ 48):=by
   rw [←Int.natCast_mul]
   generalize inf.bytes * c=m at hmul ⊢
   omega
  have hsize:cells.size=c * sz:=by
   simp only [cells];split
   ·rename_i h0;rw [h0];rfl
   ·simp [Builtin.zeroCells,hzs]
  have e:(execOp a.eval (⟨some d,.makeSlice T x y,ty,pos,after,guard⟩:Oper)).run P w= .ok (.value (.slice (some ⟨w.heap.size,0,none⟩) n c)) {w with heap:=w.heap.push (.cells cells E (0,0))}:=by
   refine run_v _ ?_
   rw [(hs.env.rel x _ hx).v_eq,(hs.env.rel y _ hy).v_eq]
   have hai:∀(m:Nat) (w:World),(asInt (.int .i64 (m:Int))).run P w= .ok (m:Int) w:=fun m w=>rfl
   simp only [Instr.makeSlice,Sem.run_bind,run_underlying (h:=hu),hai,Result.andThen_ok,zb1 hi,hwn,hwc]
   rw [if_neg (by simp only [Bool.or_eq_true,decide_eq_true_eq,not_or];exact ⟨⟨⟨by omega,hl2⟩,by omega⟩,by omega⟩)]
   simp only [Sem.run_bind,run_askRoom,Result.andThen_ok,run_sizeOf (n:=sz),Int.toNat_natCast]
   by_cases h0:c * sz=0
   ·have hr0:Array.range 0= #[]:=by simp
    simp [h0,newRow,hr0,cells]
   ·simp [h0,newRow,run_zeroValue hz.h,cells,Builtin.zeroCells,hzs]
  rw [zal rfl,e]
  have hx2:Res.holds {w with heap:=w.heap.push (.cells cells E (0,0))} (OO (.row (.slice (some ⟨w.heap.size,0,none⟩) n c) sz E (List.replicate n (zv.cells.toList.map AV.v))::h) X) (.row (.slice (some ⟨w.heap.size,0,none⟩) n c) sz E (List.replicate n (zv.cells.toList.map AV.v))):=by
   refine ⟨rfl,by simp,hnc,fun i hi=>by simp [hzs],cells,by simp,by simp [hsize],fun i hi j hj=> ?_⟩
   have hi':i < n:=by simpa using hi
   have hj':j < sz:=by simpa [hzs] using hj
   have h0:¬c * sz=0:=fun h0=>by rcases Nat.mul_eq_zero.1 h0 with h|h <;> omega
   have hz2:=yda (zv:=zv.cells) (n:=c) (i:=i) (j:=j) hzs (by omega) (by omega)
   refine ⟨zv.cells[j]'(by omega),?_,?_⟩
   ·simp only [cells,h0,if_false,Nat.zero_add];exact hz2
   ·simp only [List.getElem_replicate,List.getElem_map,Array.getElem_toList];exact .v _
  have hk2:Keep (u4 h) w (u4 (.row (.slice (some ⟨w.heap.size,0,none⟩) n c) sz E (List.replicate n (zv.cells.toList.map AV.v))::h)) {w with heap:=w.heap.push (.cells cells E (0,0))}:=Keep.alloc (h:=h) (.cells cells E (0,0)) (.row (.slice (some ⟨w.heap.size,0,none⟩) n c) sz E (List.replicate n (zv.cells.toList.map AV.v))) rfl
  have hh2:=hs.heap.alloc (.cells cells E (0,0)) (.row (.slice (some ⟨w.heap.size,0,none⟩) n c) sz E (List.replicate n (zv.cells.toList.map AV.v))) rfl hx2
  exact hK _ _ _ (hk w.heap.size) (Sim.put (s:=⟨t,.row (.slice (some ⟨w.heap.size,0,none⟩) n c) sz E (List.replicate n (zv.cells.toList.map AV.v))::h,ds⟩) ⟨hh2,hs.size,hs.fr.keep hk2.size (fun b hb hl=>hk2.oo b hb hl),hs.defs⟩ hlt (.v _)) hk2
end
end Go.Ab
namespace Go.H
open Go Go.Ab
abbrev iv (n:Int):AV:= .v (.int .i64 n)
abbrev bv (b:Bool):AV:= .v (.bool b)
abbrev sv (s:ByteArray):AV:= .v (.string s)
structure Ver where
 t:Int
 k:Int
 deriving DecidableEq
structure Seen where
 o:Int
 v:Ver
 deriving DecidableEq
structure Ev where
 kind:Int
 t:Int
 s:Int
 l:Int
 o:Int
 v:Ver
 p:Int
 scan:List Seen
 deriving DecidableEq
structure Ord where
 o:Int
 ts:List Int
 deriving DecidableEq
structure Mat where
 p:Int
 o:Int
 first:Bool
 ts:List Int
 deriving DecidableEq
structure Wan where
 s:Int
 bits:Int
 deriving DecidableEq
structure Hist where
 ts:List ByteArray
 ss:List ByteArray
 os:List ByteArray
 ps:List ByteArray
 evs:List Ev
 ords:List Ord
 mats:List Mat
 wants:List Wan
def za5 (n:Int):List AV:= [iv n]
def zbg (s:ByteArray):List AV:= [sv s]
def yg8 (v:Ver):List AV:= [iv v.t,iv v.k]
def zav (s:Seen):List AV:= [iv s.o,iv s.v.t,iv s.v.k]
def zfv (l:List Int):AV:= .list false 1 (l.map za5)
def zba (l:List ByteArray):AV:= .list false 1 (l.map zbg)
def zsj (l:List Seen):AV:= .list false 3 (l.map zav)
def evR (e:Ev):List AV:= [iv e.kind,iv e.t,iv e.s,iv e.l,iv e.o,iv e.v.t,iv e.v.k,iv e.p,zsj e.scan]
def zc4 (o:Ord):List AV:= [iv o.o,zfv o.ts]
def zc9 (m:Mat):List AV:= [iv m.p,iv m.o,bv m.first,zfv m.ts]
def zcj (w:Wan):List AV:= [iv w.s,iv w.bits]
def zrb (l:List Ev):AV:= .list false 9 (l.map evR)
def zqk (l:List Ord):AV:= .list false 2 (l.map zc4)
def zqt (l:List Mat):AV:= .list false 4 (l.map zc9)
def zfl (l:List Wan):AV:= .list false 2 (l.map zcj)
def x4 (h:Hist):List AV:= [zba h.ts,zba h.ss,zba h.os,zba h.ps,zrb h.evs,zqk h.ords,zqt h.mats,zfl h.wants]
def zij (h:Hist):List AV:= [zba h.ts,zba h.ss,zba h.os,zba h.ps]
def zbf {α:Type} (p:α→Bool) (i:Nat):List α→Int
 | []=> -1
 |x::r=>if p x then i else zbf p (i+1) r
theorem zd3 {α:Type} (p:α→Bool):∀(l:List α) (i:Nat),decide (zbf p i l ≥ 0)=l.any p
 | [],i=>by simp [zbf]
 |x::r,i=>by
  simp only [zbf,List.any_cons]
  split
  ·rename_i h;simp [h]
  ·rename_i h;simp [h,zd3 p r (i+1)]
theorem zg5 {α:Type} (p:α→Bool):∀(l:List α),(!l.any fun a=> !p a)=l.all p
 | []=>rfl
 |x::r=>by
  have:=zg5 p r
  simp only [List.any_cons,List.all_cons,Bool.not_or,Bool.not_not,this]
def zto {α β:Type} (p:α→β→Bool):List α→List β→Bool
 |x::xs,y::ys=>p x y && zto p xs ys
 |_,_=>true
theorem zrt {α β:Type} (p:α→β→Bool) (m:List β):zto p [] m=true:=by cases m <;> rfl
def eqF {α β:Type} (p:α→β→Bool) (l:List α) (m:List β):Bool:=l.length==m.length && zto p l m
def zuh (a b:Int):Bool:=a==b
def zig (a b:Seen):Bool:= [a.o,a.v.t,a.v.k]== [b.o,b.v.t,b.v.k]
theorem zwe {b:Bool} (h:(!b)=true):b=false:=by simpa using h
theorem zwf {b:Bool} (h:(!b)=false):b=true:=by simpa using h
theorem zxp {α:Type} [DecidableEq α] {p:α→α→Bool} (hp:∀a b,p a b=decide (a=b)):∀(l m:List α),eqF p l m=decide (l=m)
 | [],[]=>by simp [eqF,zto]
 |x::xs,[]=>by simp [eqF]
 | [],y::ys=>by simp [eqF]
 |x::xs,y::ys=>by
  have:=zxp hp xs ys
  simp only [eqF] at this
  simp only [eqF,zto,List.length_cons,hp]
  by_cases h:x=y
  ·subst h
   simp only [decide_true,Bool.true_and,List.cons.injEq,true_and]
   rw [←this]
   congr 1
   simp
  ·simp [h]
def zwd (c:Int):Bool:=decide (c ≥ 48) && decide (c≤57)
def ye9 (c:Int):Bool:=c==95||(decide (c ≥ 97) && decide (c≤122))||(decide (c ≥ 65) && decide (c≤90))||decide (c ≥ 128)
def zde (l:List ByteArray) (n:Int):Bool:=decide (n ≥ 0) && decide (n < l.length)
def zy6 (ts:List ByteArray) (v:Ver):Bool:=if v.k==0 then v.t==0 else zde ts v.t && decide (v.k > 0) && decide (v.k≤999)
def yi3 (l:Int):Int:=if decide (l < 1)||decide (l > 4) then 190 else 0
def yf5 (a b:Ev):Bool:=a.kind==b.kind && a.t==b.t && a.s==b.s && a.l==b.l && a.o==b.o && [a.v.t,a.v.k]== [b.v.t,b.v.k] && a.p==b.p && eqF zig a.scan b.scan
structure Lim (N:Nat) (h:Hist):Prop where
 ts:h.ts.length≤N
 ss:h.ss.length≤N
 os:h.os.length≤N
 ps:h.ps.length≤N
 evs:h.evs.length≤N
 ords:h.ords.length≤N
 mats:h.mats.length≤N
 wants:h.wants.length≤N
 scans:∀e∈h.evs,e.scan.length≤N
 ordts:∀o∈h.ords,o.ts.length≤N
 matts:∀m∈h.mats,m.ts.length≤N
structure Big (h:Hist):Prop where
 lim:Lim 4611686018427387904 h
 ts:h.ts.length≤8796093022208
 ss:h.ss.length≤8796093022208
 os:h.os.length≤8796093022208
 ps:h.ps.length≤8796093022208
 ords:h.ords.length≤4398046511104
 mats:h.mats.length≤2932031007402
 wants:h.wants.length≤8796093022208
 scans:∀e∈h.evs,e.scan.length≤5864062014805
 ordts:∀o∈h.ords,o.ts.length≤17592186044416
 matts:∀m∈h.mats,m.ts.length≤17592186044416
def nmK (h:Hist):Nat→List ByteArray
 |0=>h.ts
 |1=>h.ss
 |2=>h.os
 |_=>h.ps
theorem zwh (h:Hist) {k:Nat} (hk:k < 4):(zij h)[k]? =some (zba (nmK h k)):=by
 match k,hk with
 |0,_=>rfl
 |1,_=>rfl
 |2,_=>rfl
 |3,_=>rfl
theorem Lim.nm {N:Nat} {h:Hist} (l:Lim N h) (k:Nat):(nmK h k).length≤N:=by
 match k with
 |0=>exact l.ts
 |1=>exact l.ss
 |2=>exact l.os
 |k+3=>exact l.ps
def zc8 (h:Hist) (e:Ev):Bool:=zde h.ss e.s && yi3 e.l==0
def za7 (h:Hist) (e:Ev):Bool:=zde h.os e.o && zy6 h.ts e.v && e.v.t==e.t && decide (e.v.k > 0)
def zei (h:Hist) (e:Ev):Bool:=zde h.os e.o && zy6 h.ts e.v
def ziw (h:Hist) (s:Seen):Bool:=zde h.os s.o && zy6 h.ts s.v
def zcw (h:Hist) (e:Ev):Bool:=zde h.ps e.p && decide ((e.scan.length:Int)≤40) && e.scan.all (ziw h)
def zjn (h:Hist) (e:Ev):Ev×Bool:=
 if e.kind=1 then (⟨0,0,e.s,e.l,0,⟨0,0⟩,0,[]⟩,zc8 h e) else
 if e.kind=2 then (⟨0,0,0,0,e.o,e.v,0,[]⟩,za7 h e) else
 if e.kind=3 then (⟨0,0,0,0,e.o,e.v,0,[]⟩,zei h e) else
 if e.kind=4 then (⟨0,0,0,0,0,⟨0,0⟩,e.p,e.scan⟩,zcw h e) else
 (⟨0,0,0,0,0,⟨0,0⟩,0,[]⟩,true)
def zfz (h:Hist) (e:Ev):Bool:=
 !(decide (e.kind < 1)||decide (e.kind ≥ 7)|| !zde h.ts e.t) && ((zjn h e).2 && yf5 {(zjn h e).1 with kind:=e.kind,t:=e.t} e)
theorem zx3 (h:Hist) (e:Ev) {N:Nat} (he:e.scan.length≤N):(zjn h e).1.scan.length≤N:=by
 unfold zjn;repeat' split
 all_goals simp [he]
def tsB (h:Hist) (ts:List Int):Bool:=decide ((ts.length:Int)≤300) && ts.all (zde h.ts)
def zuz (h:Hist) (r:Ord):Bool:=zde h.os r.o && tsB h r.ts
def yak (h:Hist) (r:Mat):Bool:=zde h.ps r.p && zde h.os r.o && tsB h r.ts
def zva (h:Hist) (r:Wan):Bool:=zde h.ss r.s && decide (r.bits ≥ 0) && decide (r.bits≤15)
def bt (s:ByteArray) (i:Nat):Int:=if h:i < s.size then ((s[i]'h).toNat:Int) else 0
def zb2 (i:Nat):Int:=
 if i < 128 then 240 else if i < 194 then 241 else if i < 224 then 2 else if i=224 then 19 else if i < 237 then 3 else if i=237 then 35 else
 if i < 240 then 3 else if i=240 then 52 else if i < 244 then 4 else if i=244 then 68 else 241
def y9:List AV:=(List.range 256).map fun i=> .v (.int .u8 (zb2 i))
def zbh:Nat→Int
 |1=>160
 |3=>144
 |_=>128
def zbi:Nat→Int
 |2=>159
 |4=>143
 |_=>191
def y4:List AV:= [.v (.int .u8 128),.v (.int .u8 191),.v (.int .u8 160),.v (.int .u8 191),.v (.int .u8 128),.v (.int .u8 159),.v (.int .u8 144),.v (.int .u8 191),.v (.int .u8 128),.v (.int .u8 143)]++List.replicate 22 (.v (.int .u8 0))
def y8:List AV:= [iv 300,iv 60,iv 300,iv 60]
def bI (op:BinOp) (k:IntKind) (x y:Int):Int:=(ybp op k x y).getD 0
def sI (op:BinOp) (k:IntKind) (x y:Int):Int:=(zlr op k x y).getD 0
def zcb (b m sh:Int):Int:=if sh=0 then IntKind.i32.wrap (bI .and .u8 b m) else sI .shl .i32 (IntKind.i32.wrap (bI .and .u8 b m)) sh
def zh9 (x:Int):Int:=sI .shr .i32 (sI .shl .i32 (IntKind.i32.wrap x) 31) 31
def y7 (s:ByteArray):Int×Int:=
 if s.size < 1 then (65533,0) else
 let x:=zb2 (bt s 0).toNat
 if x ≥ 240 then (bI .or .i32 (bI .andNot .i32 (IntKind.i32.wrap (bt s 0)) (zh9 x)) (bI .and .i32 65533 (zh9 x)),1) else
 let sz:=x % 8
 let acc:=(x / 16).toNat
 if (s.size:Int) < sz then (65533,1) else
 if bt s 1 < zbh acc∨zbi acc < bt s 1 then (65533,1) else
 if sz≤2 then (bI .or .i32 (zcb (bt s 0) 31 6) (zcb (bt s 1) 63 0),2) else
 if bt s 2 < 128∨191 < bt s 2 then (65533,1) else
 if sz≤3 then (bI .or .i32 (bI .or .i32 (zcb (bt s 0) 15 12) (zcb (bt s 1) 63 6)) (zcb (bt s 2) 63 0),3) else
 if bt s 3 < 128∨191 < bt s 3 then (65533,1) else
 (bI .or .i32 (bI .or .i32 (bI .or .i32 (zcb (bt s 0) 7 18) (zcb (bt s 1) 63 12)) (zcb (bt s 2) 63 6)) (zcb (bt s 3) 63 0),4)
def zhp (s:ByteArray):Int×Int:=if 0 < s.size∧bt s 0 < 128 then (bt s 0,1) else y7 s
theorem zfb (s:ByteArray) (i:Nat):0≤bt s i:=by unfold bt;split <;> omega
theorem zfa (s:ByteArray) (i:Nat):bt s i < 256:=by
 unfold bt;split
 ·rename_i h;have:=(s[i]'h).toNat_lt;omega
 ·omega
section
variable {P:Program} {dst:Option Tmp} {ty:TypeId} {pos:String} {after:Array Edge} {guard:Option (Nat×Bool)} {x y:Operand} {h:List Res} {f:Operand→Option AV}
theorem v7 {T:TypeId} (i:Nat) {s:ByteArray} (hx:f x=some (.v (.string s))) (hy:f y=some (.v (.int .i64 i))) [Und P T .string] (hi:i < s.size):
 QR P h f ⟨dst,.index T x y,ty,pos,after,guard⟩ (.v (.int .u8 (bt s i))):=by
 have:=zob (P:=P) (h:=h) (T:=T) (dst:=dst) (ty:=ty) (pos:=pos) (after:=after) (guard:=guard) hx hy hi
 have e:bt s i=((s[i]'hi).toNat:Int):=by simp [bt,hi]
 rw [e];exact this
theorem u2 {T E:TypeId} {n b o sz:Nat} {i:Int} {kk:IntKind} (hx:f x=some (.v (.pointer (some ⟨b,o,none⟩)))) (hy:f y=some (.v (.int kk i))) [Und P T (.array n E)] [Siz P E sz] (h0:0≤i) (hi:i < n):
 QR P h f ⟨dst,.indexAddr T x y,ty,pos,after,guard⟩ (.v (.pointer (some ⟨b,o+i.toNat * sz,none⟩))):=
 u6 (i:=i.toNat) hx (by rw [Int.toNat_of_nonneg h0];exact hy) (by omega)
end
theorem zb6 {i:Int} (h0:0≤i) (h1:i < 256):y9[0+i.toNat * 1]? =some (.v (.int .u8 (zb2 i.toNat))):=by
 simp [y9,show i.toNat < 256 by omega]
def ygx:Nat→Nat
 |0=>300
 |1=>60
 |2=>300
 |_=>60
theorem zqy {k:Nat} (hk:k < 4):y8[0+k * 1]? =some (iv (ygx k)):=by
 match k,hk with
 |0,_=>rfl
 |1,_=>rfl
 |2,_=>rfl
 |3,_=>rfl
theorem zox (i:Nat):zb2 i=240∨zb2 i=241∨zb2 i=2∨zb2 i=19∨zb2 i=3∨zb2 i=35∨zb2 i=52∨zb2 i=4∨zb2 i=68:=by
 unfold zb2;repeat' split
 all_goals simp
theorem zx4 (s:ByteArray) (i:Nat):IntKind.i32.wrap (bt s i)=bt s i:=by
 have h0:=zfb s i;have h1:=zfa s i
 have e:bt s i % (2 ^ IntKind.i32.bits:Int)=bt s i:=Int.emod_eq_of_lt h0 (show bt s i < 4294967296 by omega)
 unfold IntKind.wrap
 simp only [e]
 rw [if_neg]
 intro q
 have q2:bt s i ≥ (2 ^ (IntKind.i32.bits - 1):Int):=by simpa using (Bool.and_eq_true_iff.1 q).2
 have:(2 ^ (IntKind.i32.bits - 1):Int)=2147483648:=by decide
 omega
theorem zvi {s:ByteArray} (h:(s.toList !=(ByteArray.mk #[]).toList)=true):0 < s.size:=by
 refine Nat.pos_of_ne_zero fun q=> ?_
 have e:s=⟨#[]⟩:=by cases s;congr 1;exact Array.eq_empty_of_size_eq_zero q
 rw [e] at h;simp at h
theorem yb6 {s:ByteArray} (h:(s.toList !=(ByteArray.mk #[]).toList)=false):¬0 < s.size:=by
 intro q
 have e:s.toList=(ByteArray.mk #[]).toList:=by simpa using h
 rw [ByteArray.toList_eq,ByteArray.toList_eq] at e
 have:s.size=0:=by
  have h2:=congrArg List.length e
  simpa using h2
 omega
def zpz (s:ByteArray) (i:Nat) (c:Int):Bool:=c !=65533||decide ((zhp (s.extract i s.size)).2 > 1)
theorem zny (s:ByteArray) (i:Nat):0 < (Utf8.decode s i).2:=by
 simp only [Utf8.decode]
 repeat' split
 all_goals simp
def zdd (s:ByteArray) (p:Nat→Int→Bool) (pos:Nat):Nat:=
 if h:pos < s.size then
  if p pos (Utf8.decode s pos).1 then zdd s p (pos+(Utf8.decode s pos).2) else pos
 else s.size
 termination_by s.size - pos
 decreasing_by have:=zny s pos;omega
theorem znz {s:ByteArray} {p:Nat→Int→Bool} {k:Nat} (h:k < s.size) (hp:p k (Utf8.decode s k).1=true):zdd s p k=zdd s p (k+(Utf8.decode s k).2):=by
 rw [zdd,dif_pos h,if_pos hp]
theorem zpv {s:ByteArray} {p:Nat→Int→Bool} {k:Nat} (h:k < s.size) (hp:p k (Utf8.decode s k).1=false):zdd s p k=k:=by
 rw [zdd,dif_pos h,if_neg (by simp [hp])]
theorem zli {s:ByteArray} {p:Nat→Int→Bool} {k:Nat} (h:¬k < s.size):zdd s p k=s.size:=by
 rw [zdd,dif_neg h]
def zfg (s:ByteArray) (goes:Int→Bool) (i:Nat) (c:Int):Bool:=zpz s i c && goes c
def zko (c:Int):Bool:=ye9 c||zwd c
def wordB (s:ByteArray):Bool:=(!(s.toList== [])) && decide ((s.size:Int)≤24) && (!zwd (bt s 0)) && ((zdd s (zfg s zko) 0:Int)==s.size)
def zec:List ByteArray→List ByteArray→Bool
 |_,[]=>true
 |met,s::r=>wordB s && (!yai s met) && zec (met++ [s]) r
def zhj (most:Nat) (l:List ByteArray):Bool:=decide ((l.length:Int)≤most) && zec [] l
def zsh (h:Hist):Bool:=decide ((h.evs.length:Int)≤3000) && decide (max (max (h.ords.length:Int) h.mats.length) h.wants.length≤3000)
def okK (h:Hist):Nat→Bool
 |0=>zsh h
 |k+1=>okK h k && zhj (ygx k) (nmK h k)
def zap (h:Hist):Bool:=
 okK h 4 && h.evs.all (zfz h) && h.ords.all (zuz h) && h.mats.all (yak h) && h.wants.all (zva h)
theorem zsg (h:Hist):okK h 0=(decide (((h.evs.map evR).length:Int)≤3000) && decide (max (max ((h.ords.map zc4).length:Int) (h.mats.map zc9).length) (h.wants.map zcj).length≤3000)):=by
 simp [okK,zsh]
theorem zhi {h:Hist} {k:Nat} (hk:okK h k=false):∀n,okK h (k+n)=false
 |0=>hk
 |n+1=>by
  have ih:=zhi hk n
  show (okK h (k+n) && _)=false
  rw [ih,Bool.false_and]
def okj (h:Hist) (k j:Nat):Bool:=okK h k && decide (((nmK h k).length:Int)≤ygx k)
theorem ycb (h:Hist) (k:Nat):okj h k 0=(okK h k && decide ((((nmK h k).map zbg).length:Int)≤ygx k)):=by simp [okj]
theorem yl8 {o:Bool} {l m r:List ByteArray} {x:ByteArray} (hf:zec [] l=zec m (x::r)) (h:(o && wordB x && !yai x m)=false):o=false∨zec [] l=false:=by
 cases o with
 |false=>exact .inl rfl
 |true=>rw [Bool.true_and] at h;rw [hf,zec,h,Bool.false_and];exact .inr rfl
theorem yit {o a b:Bool} (h:(o && a && !b)=true):o=true∧a=true∧b=false:=by
 cases o <;> cases a <;> cases b <;> simp_all
theorem yir {h:Hist} {k:Nat} (h0:zec [] (nmK h k)=true):okj h k 0=okK h (k+1):=by
 simp [okj,okK,zhj,h0]
theorem yis {h:Hist} {k:Nat} (hk:k < 4) (h0:okj h k 0=false∨zec [] (nmK h k)=false):okK h 4=false:=by
 have h1:okK h (k+1)=false:=by
  rcases h0 with h0|h0
  ·simp only [okK,zhj];simp only [okj] at h0;rw [←Bool.and_assoc,h0,Bool.false_and]
  ·simp [okK,zhj,h0]
 have:=zhi h1 (3 - k)
 rwa [show k+1+(3 - k)=4 by omega] at this
def ze5 (v:Ver):List (Nat×Int):=if decide (v.k > 0) then [(0,v.t)] else []
def ztu (s:Seen):List (Nat×Int):=(2,s.o)::ze5 s.v
def zfh (e:Ev):List (Nat×Int):=if e.kind=1 then [(1,e.s)] else if e.kind=2∨e.kind=3 then (2,e.o)::ze5 e.v else if e.kind=4 then [(3,e.p)] else []
theorem zqz {e:Ev} (h:e.kind=1):zfh e= [(1,e.s)]:=by rw [zfh,if_pos h]
theorem zkc {e:Ev} (h:e.kind=2∨e.kind=3):zfh e=(2,e.o)::ze5 e.v:=by rw [zfh,if_neg (by omega),if_pos h]
theorem zw0 {e:Ev} (h:e.kind=4):zfh e= [(3,e.p)]:=by rw [zfh,if_neg (by omega),if_neg (by omega),if_pos h]
theorem zw1 {e:Ev} (h1:e.kind≠1) (h2:e.kind≠2) (h3:e.kind≠3) (h4:e.kind≠4):zfh e= []:=by rw [zfh,if_neg h1,if_neg (by omega),if_neg h4]
def evL (e:Ev):List (Nat×Int):=(0,e.t)::(zfh e++e.scan.flatMap ztu)
def tsL (l:List Int):List (Nat×Int):=l.map fun t=>(0,t)
def zz9 (r:Ord):List (Nat×Int):=(2,r.o)::tsL r.ts
def zwo (r:Mat):List (Nat×Int):=(3,r.p)::(2,r.o)::tsL r.ts
def zpw (r:Wan):List (Nat×Int):= [(1,r.s)]
def zb7 (h:Hist):List (Nat×Int):=h.evs.flatMap evL++(h.ords.flatMap zz9++(h.mats.flatMap zwo++h.wants.flatMap zpw))
def goes {σ α:Type} (step:σ→α→Option σ):Option σ→List α→Option σ
 |st,[]=>st
 |st,x::r=>goes step (st.bind fun s=>step s x) r
theorem ze7 {σ α:Type} (step:σ→α→Option σ):∀(l m:List α) (st:Option σ),goes step st (l++m)=goes step (goes step st l) m
 | [],m,st=>rfl
 |x::l,m,st=>ze7 step l m _
theorem zkf {σ α:Type} (step:σ→α→Option σ):∀(l:List α),goes step none l=none
 | []=>rfl
 |x::l=>zkf step l
def Rem {σ α:Type} (step:σ→α→Option σ) (ok:α→Prop) (st:Option σ) (l:List α) (F:Option σ):Prop:=goes step st l=F∧∀x∈l,ok x
section
variable {σ α:Type} {step:σ→α→Option σ} {ok:α→Prop} {st F:Option σ} {l m:List α} {x:α}
theorem Rem.cons (h:Rem step ok st (x::l) F):ok x∧Rem step ok (goes step st [x]) l F:=⟨h.2 x (by simp),h.1,fun y hy=>h.2 y (by simp [hy])⟩
theorem Rem.app (h:Rem step ok st (l++m) F):(∀x∈l,ok x)∧Rem step ok (goes step st l) m F:=⟨fun y hy=>h.2 y (by simp [hy]),by rw [←ze7];exact h.1,fun y hy=>h.2 y (by simp [hy])⟩
theorem Rem.fin (h:Rem step ok st [] F):st=F:=h.1
end
def zam (m:List Int) (x:Nat×Int):Option (List Int):=
 let a:=m.getD x.1 0
 if x.2 > a then none else some (m.set x.1 (max a (x.2+1)))
def zlc (h:Hist):Option (List Int):=goes zam (some [0,0,0,0]) (zb7 h)
def zka (h:Hist):List Int:= [h.ts.length,h.ss.length,h.os.length,h.ps.length]
def zgd (h:Hist):Bool:=zap h && (zlc h==some (zka h))
def zc1 (h:Hist):Int:=if zgd h then 0 else 210
def zfw:Hist:=⟨[],[],[],[],[],[],[],[]⟩
def ofL (t:Int):Nat→List Ev→List Int
 |_,[]=> []
 |i,e::r=>if e.t=t then (i:Int)::ofL t (i+1) r else ofL t (i+1) r
def ykn (l:List Ev) (t:Int):Bool:=l.any fun e=>e.t==t && e.kind==1
def yl6 (l:List Ev) (t:Int):Bool:=l.any fun e=>e.t==t && (e.kind==5||e.kind==6)
def yk0 (t:Nat):Ev:=⟨6,t,0,0,0,⟨0,0⟩,0,[]⟩
def yip (h:Hist):List Nat:=(List.range h.ts.length).filter fun t=>ykn h.evs t && !yl6 h.evs t
def ycv (h:Hist):Hist:={h with evs:=h.evs++(yip h).map yk0}
def zxy (h:Hist):Int:=if zgd h then (if h.evs.length+(yip h).length≤3000 then 0 else 6) else 210
def ycu (h:Hist):Hist:=if zxy h=0 then ycv h else zfw
def ofR (h:Hist) (t:Int):List Int:=if zgd h then ofL t 0 h.evs else []
def zn1 {σ α:Type} (f:σ→α→α×σ):σ→List α→List α×σ
 |s,[]=>([],s)
 |s,x::r=>((f s x).1::(zn1 f (f s x).2 r).1,(zn1 f (f s x).2 r).2)
section
variable {σ:Type} (f:σ→Nat→Int→Int×σ)
def zve (s:σ) (v:Ver):Ver×σ:=if decide (v.k > 0) then (⟨(f s 0 v.t).1,v.k⟩,(f s 0 v.t).2) else (v,s)
def zy7 (s:σ) (x:Seen):Seen×σ:=
 let a:=f s 2 x.o
 let b:=zve f a.2 x.v
 (⟨a.1,b.1⟩,b.2)
def zy8 (s:σ) (e:Ev):Ev×σ:=
 if e.kind=1 then let a:=f s 1 e.s;({e with s:=a.1},a.2) else
 if e.kind=2∨e.kind=3 then let a:=f s 2 e.o;let b:=zve f a.2 e.v;({e with o:=a.1,v:=b.1},b.2) else
 if e.kind=4 then let a:=f s 3 e.p;({e with p:=a.1},a.2) else (e,s)
def yhc (s:σ) (e:Ev):Ev×σ:=
 let a:=f s 0 e.t
 let b:=zy8 f a.2 {e with t:=a.1}
 let c:=zn1 (zy7 f) b.2 e.scan
 ({b.1 with scan:=c.1},c.2)
def yb4 (s:σ) (l:List Int):List Int×σ:=zn1 (fun s n=>f s 0 n) s l
def ydk (s:σ) (r:Ord):Ord×σ:=
 let a:=f s 2 r.o
 let b:=yb4 f a.2 r.ts
 (⟨a.1,b.1⟩,b.2)
def ydl (s:σ) (r:Mat):Mat×σ:=
 let a:=f s 3 r.p
 let b:=f a.2 2 r.o
 let c:=yb4 f b.2 r.ts
 (⟨a.1,b.1,r.first,c.1⟩,c.2)
def ydj (s:σ) (r:Wan):Wan×σ:=let a:=f s 1 r.s;(⟨a.1,r.bits⟩,a.2)
def ylj (s:σ) (h:Hist):Hist×σ:=
 let a:=zn1 (yhc f) s h.evs
 let b:=zn1 (ydk f) a.2 h.ords
 let c:=zn1 (ydl f) b.2 h.mats
 let d:=zn1 (ydj f) c.2 h.wants
 ({h with evs:=a.1,ords:=b.1,mats:=c.1,wants:=d.1},d.2)
end
def yil (n:Int):Nat→List Int→Option Nat
 |_,[]=>none
 |i,x::r=>if x=n then some i else yil n (i+1) r
abbrev yg0:=List (List Int)
def ye0 (k:yg0) (sort:Nat) (n:Int):Int×yg0:=
 match yil n 0 (k.getD sort []) with
 |some i=>((i:Int),k)
 |none=>(((k.getD sort []).length:Int),k.set sort (k.getD sort []++ [n]))
def yl7:yg0:= [[],[],[],[]]
def zss (l:List ByteArray) (n:Int):ByteArray:=l.getD n.toNat ⟨#[]⟩
def yez (h:Hist):Hist:=
 let r:=ylj ye0 yl7 h
 {r.1 with ts:=(r.2.getD 0 []).map (zss h.ts),ss:=(r.2.getD 1 []).map (zss h.ss),os:=(r.2.getD 2 []).map (zss h.os),ps:=(r.2.getD 3 []).map (zss h.ps)}
def numR (h:Hist):Hist:=if zap h then yez h else zfw
def ynb (h:Hist):Int:=if zap h then 0 else 210
theorem zvt (a b:Seen):zig a b=decide (a=b):=by
 obtain ⟨ao,at_,ak⟩:=a;obtain ⟨bo,bt_,bk⟩:=b
 simp only [zig,Seen.mk.injEq,Ver.mk.injEq]
 by_cases h1:ao=bo <;> by_cases h2:at_=bt_ <;> by_cases h3:ak=bk <;> simp [h1,h2,h3]
theorem yf4 (a b:Ev):yf5 a b=decide (a=b):=by
 obtain ⟨a1,a2,a3,a4,a5,⟨a6,a7⟩,a8,a9⟩:=a;obtain ⟨b1,b2,b3,b4,b5,⟨b6,b7⟩,b8,b9⟩:=b
 simp only [yf5,zxp zvt,Ev.mk.injEq,Ver.mk.injEq]
 rw [Bool.eq_iff_iff]
 simp [and_assoc]
def OkN (h:Hist) (x:Nat×Int):Prop:=x.1 < 4∧0≤x.2∧x.2 < (nmK h x.1).length
theorem zbp (l:List ByteArray) (n:Int):zde l n=true ↔ 0≤n∧n < l.length:=by simp [zde]
theorem zqv {h:Hist} {v:Ver} (hv:zy6 h.ts v=true):∀x∈ze5 v,OkN h x:=by
 intro x hx
 unfold ze5 at hx
 split at hx
 ·rename_i hk
  have hk':v.k > 0:=of_decide_eq_true hk
  simp only [List.mem_singleton] at hx
  subst hx
  unfold zy6 at hv
  rw [if_neg (by simp;omega)] at hv
  simp only [Bool.and_eq_true,zbp] at hv
  exact ⟨by simp,hv.1.1.1,hv.1.1.2⟩
 ·simp at hx
theorem yd7 {h:Hist} {s:Seen} (hs:ziw h s=true):∀x∈ztu s,OkN h x:=by
 simp only [ziw,Bool.and_eq_true,zbp] at hs
 intro x hx
 simp only [ztu,List.mem_cons] at hx
 rcases hx with rfl|hx
 ·exact ⟨by simp,hs.1.1,hs.1.2⟩
 ·exact zqv hs.2 x hx
theorem zg1 {h:Hist} {e:Ev} (he:zfz h e=true):1≤e.kind∧e.kind < 7∧zde h.ts e.t=true∧(zjn h e).2=true∧{(zjn h e).1 with kind:=e.kind,t:=e.t}=e:=by
 simp only [zfz,yf4,Bool.and_eq_true,Bool.not_eq_true',Bool.or_eq_false_iff,decide_eq_true_eq,decide_eq_false_iff_not,Bool.not_eq_false'] at he
 exact ⟨by omega,by omega,he.1.2,he.2.1,he.2.2⟩
theorem ymw {h:Hist} {e:Ev} (he:zfz h e=true):∀x∈evL e,OkN h x:=by
 obtain ⟨h1,h7,ht,hc,hq⟩:=zg1 he
 have ht':=(zbp _ _).1 ht
 intro x hx
 simp only [evL,List.mem_cons,List.mem_append] at hx
 rcases hx with rfl|hx
 ·exact ⟨by simp,ht'.1,ht'.2⟩
 unfold zjn at hc hq
 by_cases k1:e.kind=1
 ·rw [if_pos k1] at hc hq
  simp only [zc8,Bool.and_eq_true,zbp] at hc
  have hs:e.scan= []:=by rw [←hq]
  rw [hs,zqz k1] at hx
  simp only [List.mem_singleton,List.flatMap_nil,List.not_mem_nil,or_false] at hx
  subst hx;exact ⟨by simp,hc.1.1,hc.1.2⟩
 rw [if_neg k1] at hc hq
 by_cases k2:e.kind=2
 ·rw [if_pos k2] at hc hq
  simp only [za7,Bool.and_eq_true,zbp] at hc
  have hs:e.scan= []:=by rw [←hq]
  rw [hs,zkc (.inl k2)] at hx
  simp only [List.mem_cons,List.flatMap_nil,List.not_mem_nil,or_false] at hx
  rcases hx with rfl|hx
  ·exact ⟨by simp,hc.1.1.1.1,hc.1.1.1.2⟩
  ·exact zqv hc.1.1.2 x hx
 rw [if_neg k2] at hc hq
 by_cases k3:e.kind=3
 ·rw [if_pos k3] at hc hq
  simp only [zei,Bool.and_eq_true,zbp] at hc
  have hs:e.scan= []:=by rw [←hq]
  rw [hs,zkc (.inr k3)] at hx
  simp only [List.mem_cons,List.flatMap_nil,List.not_mem_nil,or_false] at hx
  rcases hx with rfl|hx
  ·exact ⟨by simp,hc.1.1,hc.1.2⟩
  ·exact zqv hc.2 x hx
 rw [if_neg k3] at hc hq
 by_cases k4:e.kind=4
 ·rw [if_pos k4] at hc hq
  simp only [zcw,Bool.and_eq_true,zbp,List.all_eq_true] at hc
  rw [zw0 k4] at hx
  simp only [List.mem_singleton,List.mem_flatMap] at hx
  rcases hx with rfl|⟨s,hs,hx⟩
  ·exact ⟨by simp,hc.1.1.1,hc.1.1.2⟩
  ·exact yd7 (hc.2 s hs) x hx
 rw [if_neg k4] at hc hq
 have hs:e.scan= []:=by rw [←hq]
 rw [hs,zw1 k1 k2 k3 k4] at hx
 simp at hx
theorem yha {h:Hist} {ts:List Int} (ht:tsB h ts=true):∀x∈tsL ts,OkN h x:=by
 simp only [tsB,Bool.and_eq_true,List.all_eq_true,zbp] at ht
 intro x hx
 simp only [tsL,List.mem_map] at hx
 obtain ⟨t,h1,rfl⟩:=hx
 exact ⟨by simp,(ht.2 t h1).1,(ht.2 t h1).2⟩
theorem zdf {h:Hist} (hs:zap h=true):okK h 4=true∧(∀e∈h.evs,zfz h e=true)∧(∀r∈h.ords,zuz h r=true)∧(∀r∈h.mats,yak h r=true)∧∀r∈h.wants,zva h r=true:=by
 simp only [zap,Bool.and_eq_true,List.all_eq_true] at hs
 exact ⟨hs.1.1.1.1,hs.1.1.1.2,hs.1.1.2,hs.1.2,hs.2⟩
theorem zvo {h:Hist} (hs:zap h=true):∀x∈zb7 h,OkN h x:=by
 obtain ⟨_,h1,h2,h3,h4⟩:=zdf hs
 intro x hx
 simp only [zb7,List.mem_append,List.mem_flatMap] at hx
 rcases hx with ⟨e,he,hx⟩|⟨r,hr,hx⟩|⟨r,hr,hx⟩|⟨r,hr,hx⟩
 ·exact ymw (h1 e he) x hx
 ·have:=h2 r hr
  simp only [zuz,Bool.and_eq_true,zbp] at this
  simp only [zz9,List.mem_cons] at hx
  rcases hx with rfl|hx
  ·exact ⟨by simp,this.1.1,this.1.2⟩
  ·exact yha this.2 x hx
 ·have:=h3 r hr
  simp only [yak,Bool.and_eq_true,zbp] at this
  simp only [zwo,List.mem_cons] at hx
  rcases hx with rfl|rfl|hx
  ·exact ⟨by simp,this.1.1.1,this.1.1.2⟩
  ·exact ⟨by simp,this.1.2.1,this.1.2.2⟩
  ·exact yha this.2 x hx
 ·have:=h4 r hr
  simp only [zva,Bool.and_eq_true,zbp] at this
  simp only [zpw,List.mem_singleton] at hx
  subst hx
  exact ⟨by simp,this.1.1.1,this.1.1.2⟩
theorem ymo {m:List Int} (hl:m.length=4) {k:Nat} (hk:k < 4):(m.map iv)[0+k * 1]? =some (iv (m.getD k 0)):=by
 have h:k < m.length:=by omega
 simp [h]
theorem ynt {m:List Int} (hl:m.length=4) {k:Nat} (hk:k < 4) (v:Int):(m.map iv).take (0+k * 1)++ [iv v]++(m.map iv).drop (0+k * 1+1)=(m.set k v).map iv:=by
 match m,hl with
 | [a,b,c,d],_=>
   match k,hk with
   |0,_=>rfl
   |1,_=>rfl
   |2,_=>rfl
   |3,_=>rfl
theorem ybl {h:Hist} (hs:zap h=false):zc1 h=210:=by simp [zc1,zgd,hs]
theorem zuu {h:Hist} (hm:zlc h=none):zc1 h=210:=by
 have e:(zlc h==some (zka h))=false:=by rw [hm];rfl
 rw [zc1,zgd,e,Bool.and_false];rfl
theorem yat (h:Hist) {k:Nat} (hk:k < 4):(zka h).getD k 0=(nmK h k).length:=by
 match k,hk with
 |0,_=>rfl
 |1,_=>rfl
 |2,_=>rfl
 |3,_=>rfl
theorem ybm {h:Hist} {m:List Int} (hm:zlc h=some m) {k:Nat} (hk:k < 4) (hne:m.getD k 0≠(nmK h k).length):zc1 h=210:=by
 have e:(zlc h==some (zka h))=false:=by
  rw [hm]
  simp only [Option.some_beq_some,beq_eq_false_iff_ne]
  rintro rfl
  exact hne (yat h hk)
 rw [zc1,zgd,e,Bool.and_false];rfl
theorem ybn {h:Hist} (hs:zap h=true) {m:List Int} (hm:zlc h=some m) (hl:m.length=4) (he:∀k,k < 4→m.getD k 0=(nmK h k).length):zc1 h=0:=by
 have e:m=zka h:=by
  match m,hl with
  | [a,b,c,d],_=>
    have h0:=he 0 (by omega);have h1:=he 1 (by omega);have h2:=he 2 (by omega);have h3:=he 3 (by omega)
    simp [nmK] at h0 h1 h2 h3
    simp [zka,h0,h1,h2,h3]
 rw [zc1,zgd,hs,hm,e];simp
theorem zx2 {h:Hist}:zc1 h=0 ↔ zgd h=true:=by unfold zc1;split <;> simp_all
def ycr (p:SV×Ev):List AV:= [iv p.2.kind,iv p.2.t,iv p.2.s,iv p.2.l,iv p.2.o,iv p.2.v.t,iv p.2.v.k,iv p.2.p,.v p.1.v]
def zql (p:SV×Ord):List AV:= [iv p.2.o,.v p.1.v]
def zt8 (p:SV×Mat):List AV:= [iv p.2.p,iv p.2.o,bv p.2.first,.v p.1.v]
structure NV where
 vT:SV
 vS:SV
 vO:SV
 vP:SV
structure OH where
 vE:SV
 vR:SV
 vM:SV
 vW:SV
 ts:List ByteArray
 ss:List ByteArray
 os:List ByteArray
 ps:List ByteArray
 evs:List (SV×Ev)
 ords:List (SV×Ord)
 mats:List (SV×Mat)
 wants:List Wan
def scR (T:TypeId) (l:List (SV×Ev)):List Res:=l.map fun p=> .row p.1.v 3 T (p.2.scan.map zav)
def otR (T:TypeId) (l:List (SV×Ord)):List Res:=l.map fun p=> .row p.1.v 1 T (p.2.ts.map za5)
def mtR (T:TypeId) (l:List (SV×Mat)):List Res:=l.map fun p=> .row p.1.v 1 T (p.2.ts.map za5)
def znq:AV:= .v (.slice none 0 0)
def zd2:List AV:= [znq,znq,znq,znq,znq,znq,znq,znq]
theorem zhx {α:Type} {R:α→List AV} (h:∀a,(R a).all AV.one=true) (l:List α):∀r∈l.map R,r.all AV.one=true:=by
 intro r hr;obtain ⟨a,_,rfl⟩:=List.mem_map.1 hr;exact h a
theorem zj7 (l:List ByteArray):∀r∈l.map zbg,r.all AV.one=true:=zhx (fun a=>rfl) l
theorem zj8 (l:List Int):∀r∈l.map za5,r.all AV.one=true:=zhx (fun a=>rfl) l
theorem yaa (l:List Seen):∀r∈l.map zav,r.all AV.one=true:=zhx (fun a=>rfl) l
theorem yiq (l:List Ev):∀r∈l.map evR,r.all AV.one=true:=zhx (fun a=>rfl) l
theorem yex (l:List Ord):∀r∈l.map zc4,r.all AV.one=true:=zhx (fun a=>rfl) l
theorem yey (l:List Mat):∀r∈l.map zc9,r.all AV.one=true:=zhx (fun a=>rfl) l
section
variable {α β:Type} {f:α→List AV} {g:β→List AV} {xs:List α} {l:List β} {k:Nat} {b:β} {a:α} {r:List AV}
theorem zmu (hl:xs.length=k) (hk:k≤l.length):(xs.map f++(l.drop k).map g).length=l.length:=by
 simp [hl];omega
theorem zmv (hl:xs.length=k) (hd:l.drop k=b::l.drop (k+1)):(xs.map f++(l.drop k).map g)[k]? =some (g b):=by
 rw [hd,List.getElem?_append_right (by simp [hl])];simp [hl]
theorem zms (hl:xs.length=k) (hd:l.drop k=b::l.drop (k+1)) (hr:r=f a):(xs.map f++(l.drop k).map g).set k r=(xs++ [a]).map f++(l.drop (k+1)).map g:=by
 subst hl hr
 rw [hd,List.set_append_right _ _ (by simp)]
 simp
theorem zmt {snd:α→β} (h:xs.map snd=l.take k) (hk:k≤l.length):xs.length=k:=by
 have:=congrArg List.length h;simp at this;omega
theorem zmr {snd:α→β} (h:xs.map snd=l.take k) (hk:k < l.length) (ha:snd a=l[k]):(xs++ [a]).map snd=l.take (k+1):=by
 rw [List.map_append,h,List.take_succ_eq_append_getElem hk];simp [ha]
end
theorem ztt {h:Hist} (hs:zap h=true):Lim 3000 h:=by
 obtain ⟨h0,h1,h2,h3,h4⟩:=zdf hs
 have hk:∀k,k < 4→okK h (k+1)=true:=fun k hk=>by
  cases hq:okK h (k+1) with
  |true=>rfl
  |false=>
   have:=zhi hq (3 - k)
   rw [show k+1+(3 - k)=4 by omega,h0] at this;cases this
 have hn:∀k,k < 4→(nmK h k).length≤300:=fun k hk4=>by
  have:=hk k hk4
  simp only [okK,zhj,Bool.and_eq_true,decide_eq_true_eq] at this
  have h5:ygx k≤300:=by
   match k,hk4 with
   |0,_=>decide
   |1,_=>decide
   |2,_=>decide
   |3,_=>decide
  omega
 have hz:okK h 0=true:=by
  cases hq:okK h 0 with
  |true=>rfl
  |false=>have:=zhi hq 4;rw [h0] at this;cases this
 simp only [okK,zsh,Bool.and_eq_true,decide_eq_true_eq] at hz
 refine ⟨by have:=hn 0 (by omega);simp [nmK] at this;omega,by have:=hn 1 (by omega);simp [nmK] at this;omega,by have:=hn 2 (by omega);simp [nmK] at this;omega,by have:=hn 3 (by omega);simp [nmK] at this;omega,by omega,by omega,by omega,by omega,fun e he=> ?_,fun o ho=> ?_,fun m hm=> ?_⟩
 ·obtain ⟨_,_,_,hc,hq⟩:=zg1 (h1 e he)
  rw [←hq]
  show (zjn h e).1.scan.length≤3000
  unfold zjn at hc ⊢
  repeat' split
  all_goals first|(simp only [List.length_nil];omega)|skip
  rename_i g1 g2 g3 g4
  rw [if_neg g1,if_neg g2,if_neg g3,if_pos g4] at hc
  simp only [zcw,Bool.and_eq_true,decide_eq_true_eq] at hc
  show e.scan.length≤3000
  omega
 ·have:=h2 o ho
  simp only [zuz,tsB,Bool.and_eq_true,decide_eq_true_eq] at this
  omega
 ·have:=h3 m hm
  simp only [yak,tsB,Bool.and_eq_true,decide_eq_true_eq] at this
  omega
theorem Lim.mono {N M:Nat} {h:Hist} (l:Lim N h) (hm:N≤M):Lim M h:=
 ⟨Nat.le_trans l.ts hm,Nat.le_trans l.ss hm,Nat.le_trans l.os hm,Nat.le_trans l.ps hm,Nat.le_trans l.evs hm,Nat.le_trans l.ords hm,Nat.le_trans l.mats hm,Nat.le_trans l.wants hm,fun e he=>Nat.le_trans (l.scans e he) hm,fun e he=>Nat.le_trans (l.ordts e he) hm,fun e he=>Nat.le_trans (l.matts e he) hm⟩
section
variable {σ α:Type} (f:σ→Nat→Int→Int×σ)
end
section
variable {α:Type} {f:α→List AV} {A B:List α} {k:Nat} {b a:α} {r:List AV}
end
def yma:SV:=⟨none,0,0⟩
structure KOk (h:Hist) (k:yg0):Prop where
 four:k.length=4
 nd:∀s,(k.getD s []).Nodup
 lt:∀s,∀n∈k.getD s [],0≤n∧n < (nmK h s).length
section
variable {w:World} {O O':Nat→Prop}
def CT (w:World) (O O':Nat→Prop):List AV→List AV→Prop
 | [],[]=>True
 |a::aS,b::bs=>(∀u,Rel w O a u→Rel w O' b u)∧CT w O O' aS bs
 |_,_=>False
theorem CT.len:∀{aS bs:List AV},CT w O O' aS bs→bs.length=aS.length
 | [],[],_=>rfl
 |_::_,_::_,h=>by simp [CT.len h.2]
 | [],_::_,h=>h.elim
 |_::_,[],h=>h.elim
theorem CT.get:∀{aS bs:List AV},CT w O O' aS bs→∀j (k:j < aS.length) (k':j < bs.length) u,Rel w O aS[j] u→Rel w O' bs[j] u
 |_::_,_::_,h,0,_,_,u,r=>h.1 u r
 |_::_,_::_,h,j+1,k,k',u,r=>CT.get h.2 j (by simpa using k) (by simpa using k') u r
theorem sc (x:Value):∀u,Rel w O (.v x) u→Rel w O' (.v x) u:=fun u r=>(Scal.v x).rel r
theorem sn {x:Value} {b:AV} (h:Rel w O' b x):∀u,Rel w O (.v x) u→Rel w O' b u:=fun u r=>by rw [r.v_eq];exact h
theorem ydm {X:Nat→Prop} {H:List Res} (hh:HRel X w H) {s:Value} {sz:Nat} {T:TypeId} {α:Type} {f g:α→List AV} {l:List α} (hm: .row s sz T (l.map f)∈H) (hO:∀b∈(Res.row s sz T (l.map f)).own,¬O' b)
 (hc:∀a∈l,CT w (OO H X) O' (f a) (g a)):Rel w O' (.list false sz (l.map g)) s:=by
 refine zp9 hh hm hO (by simp) (fun i h h'=> ?_) (fun i h h' j k k' u r=> ?_)
 ·simp only [List.getElem_map];exact (hc _ (List.getElem_mem _)).len
 ·simp only [List.getElem_map] at k k' r ⊢
  exact (hc _ (List.getElem_mem _)).get j k k' u r
end
def bT:ByteArray:=⟨#[116]⟩
def bS:ByteArray:=⟨#[115]⟩
def bX:ByteArray:=⟨#[120]⟩
def bY:ByteArray:=⟨#[121]⟩
def zgo:Hist:=⟨[bT],[bS],[bX],[],[⟨1,0,0,1,0,⟨0,0⟩,0,[]⟩,⟨2,0,0,0,0,⟨0,1⟩,0,[]⟩,⟨5,0,0,0,0,⟨0,0⟩,0,[]⟩],[],[],[]⟩
def cutS (s:ByteArray):ByteArray:=s.extract 0 (min s.size 40)
def zk2 (most:Nat) (l:List ByteArray):List ByteArray:=(l.take most).map cutS
theorem take_min {α β:Type} (f:α→β) (l:List α) (n:Nat):(l.map f).take (min l.length n)=(l.take n).map f:=by
 rw [←List.map_take]
 rcases Nat.le_total l.length n with h|h
 ·rw [Nat.min_eq_left h,List.take_of_length_le (Nat.le_refl _),List.take_of_length_le h]
 ·rw [Nat.min_eq_right h]
theorem ydo {α:Type} {l:List α} {k n:Nat} {e:α} (h:k < l.length) (hn:k < n) (he:e=l[k]):l.take (min (k+1) n)=l.take (min k n)++ [e]:=by
 rw [Nat.min_eq_left (by omega),Nat.min_eq_left (by omega),List.take_succ_eq_append_getElem h,he]
theorem ydn {α:Type} {l:List α} {k n:Nat} (hn:¬k < n):l.take (min (k+1) n)=l.take (min k n):=by
 rw [Nat.min_eq_right (by omega),Nat.min_eq_right (by omega)]
theorem zvg {α:Type} (l:List α) (n:Nat):l.take (min l.length n)=l.take n:=by
 rcases Nat.le_total l.length n with h|h
 ·rw [Nat.min_eq_left h,List.take_of_length_le (Nat.le_refl _),List.take_of_length_le h]
 ·rw [Nat.min_eq_right h]
theorem zvf {α:Type} (l:List α) (k n:Nat):(l.take (min k n)).length≤n:=by simp;omega
theorem ya1 (a b:Int):zuh a b=decide (a=b):=rfl
theorem zi1 {s:ByteArray} {c:Nat} (h1:s.size=1) (hc:c < 128) (hl:ye9 c=true) (hd:Utf8.decode s 0=(c,1)) (hne:(s.toList== [])=false) (hb:bt s 0=c) (hn:zwd c=false):wordB s=true:=by
 have hp:zfg s zko 0 ((Utf8.decode s 0).1:Nat)=true:=by
  rw [hd]
  have h2:(((c:Nat):Int) !=65533)=true:=by simp;omega
  simp only [zfg,zpz,zko,hl,h2,Bool.true_or,Bool.and_true]
 have hw:zdd s (zfg s zko) 0=s.size:=by
  rw [znz (by omega) hp,hd]
  exact zli (by simp;omega)
 simp only [wordB,hne,hb,hn,hw,h1];decide
theorem zu2:wordB bT=true:=zi1 (c:=116) rfl (by decide) (by decide) (by decide) (by rw [ByteArray.toList_eq];rfl) (by decide) (by decide)
theorem zu3:wordB bS=true:=zi1 (c:=115) rfl (by decide) (by decide) (by decide) (by rw [ByteArray.toList_eq];rfl) (by decide) (by decide)
theorem zu1:wordB bX=true:=zi1 (c:=120) rfl (by decide) (by decide) (by decide) (by rw [ByteArray.toList_eq];rfl) (by decide) (by decide)
theorem yg1:wordB bY=true:=zi1 (c:=121) rfl (by decide) (by decide) (by decide) (by rw [ByteArray.toList_eq];rfl) (by decide) (by decide)
def zqm:Hist:={zgo with evs:=zgo.evs.take 2}
def zl0:Hist:={zgo with os:= [bY,bX],evs:= [⟨1,0,0,1,0,⟨0,0⟩,0,[]⟩,⟨2,0,0,0,1,⟨0,1⟩,0,[]⟩,⟨5,0,0,0,0,⟨0,0⟩,0,[]⟩]}
theorem xy:yai bX [bY]=false:=by decide
theorem zn4:zap zgo=true:=by
 have h:okK zgo 4=true:=by
  simp only [okK,nmK,zhj,zgo,zec,zu2,zu3,zu1,List.length_singleton,List.length_nil];decide
 rw [zap,h];decide
theorem zp5:zap zqm=true:=by
 have h:okK zqm 4=true:=by
  simp only [okK,nmK,zhj,zqm,zgo,zec,zu2,zu3,zu1,List.length_singleton,List.length_nil];decide
 rw [zap,h];decide
theorem zif:zap zl0=true:=by
 have h:okK zl0 4=true:=by
  simp only [okK,nmK,zhj,zl0,zgo,zec,zu2,zu3,zu1,yg1,List.length_cons,List.length_nil,List.nil_append,xy];decide
 rw [zap,h];decide
theorem zwn:zgd zgo=true:=by rw [zgd,zn4];decide
theorem yaj:zgd zqm=true:=by rw [zgd,zp5];decide
theorem w1:zxy zqm=0:=by rw [zxy,yaj];decide
theorem w2:ofR zgo 0= [0,1,2]:=by rw [ofR,zwn];decide
theorem w3:ynb zl0=0:=by rw [ynb,zif];rfl
theorem w4:zc1 zl0=210:=by
 have:zgd zl0=false:=by rw [zgd,zif];decide
 rw [zc1,this];rfl
theorem w5:ycu zqm=ycv zqm:=by rw [ycu,if_pos w1]
def isB (n m:Int):Bool:=decide (n ≥ 0) && decide (n < m)
def atI (n:Int):Nat→List Int→Int
 |_,[]=> -1
 |i,x::r=>if x=n then (i:Int) else atI n (i+1) r
set_option maxRecDepth 20000
abbrev Rw:=Nat→List Int
def ykx (l:List Int) (n:Int):List Int:=if atI n 0 l ≥ 0 then l else l++ [n]
def yod (l:List Int) (v:Ver):List Int:=if v.k=0 then l else ykx l v.t
def zha (L:Rw) (x:Nat×Int):Rw:=fun i=>match Nat.beq i x.1 with
 |true=>ykx (L i) x.2
 |false=>L i
def yhk (L:Rw) (v:Ver):Rw:=fun i=>match Nat.beq i 0 with
 |true=>yod (L i) v
 |false=>L i
def stepS (L:Rw) (s:Seen):Rw:=yhk (zha L (2,s.o)) s.v
def ylo (L:Rw) (e:Ev):Rw:=
 if e.kind=1 then zha L (1,e.s) else if e.kind=2∨e.kind=3 then yhk (zha L (2,e.o)) e.v else if e.kind=4 then zha L (3,e.p) else L
def stepE (L:Rw) (e:Ev):Rw:=e.scan.foldl stepS (ylo (zha L (0,e.t)) e)
def yoe (L:Rw) (t:Int):Rw:=zha L (0,t)
def stepM (L:Rw) (r:Mat):Rw:=r.ts.foldl yoe (zha (zha L (3,r.p)) (2,r.o))
def upR (n:Nat):List Int:=(List.range n).map fun i:Nat=>(i:Int)
theorem zrp (n:Int):∀(l:List Int) (i:Nat),atI n i l ≥ 0 ↔ n∈l
 | [],i=>by simp [atI]
 |x::r,i=>by
  unfold atI
  split
  ·rename_i h;simp [h]
  ·rename_i h
   rw [zrp n r (i+1),List.mem_cons]
   constructor
   ·intro k;exact .inr k
   ·rintro (k|k)
    ·exact absurd k.symm h
    ·exact k
theorem ybz (l:List Int) (n:Int):ykx l n=if n∈l then l else l++ [n]:=by
 unfold ykx
 by_cases h:n∈l
 ·rw [if_pos ((zrp n l 0).2 h),if_pos h]
 ·rw [if_neg (fun q=>h ((zrp n l 0).1 q)),if_neg h]
theorem zze (L:Rw) (x:Nat×Int):zha L x x.1=ykx (L x.1) x.2:=by
 unfold zha;rw [Nat.beq_refl]
theorem zzd (L:Rw) (x:Nat×Int) {i:Nat} (h:i≠x.1):zha L x i=L i:=by
 unfold zha
 rw [show Nat.beq i x.1=false from by
  cases q:Nat.beq i x.1 with
  |false=>rfl
  |true=>exact absurd (Nat.eq_of_beq_eq_true q) h]
theorem grow (xs:List (Nat×Int)):∀(L:Rw) (s:Nat),∃m,xs.foldl zha L s=L s++m:=by
 induction xs with
 |nil=>intro L s;exact ⟨[],by simp⟩
 |cons x xs ih=>
  intro L s
  obtain ⟨m,hm⟩:=ih (zha L x) s
  rw [List.foldl_cons,hm]
  by_cases h:s=x.1
  ·subst h
   rw [zze,ybz]
   split
   ·exact ⟨m,rfl⟩
   ·exact ⟨x.2::m,by simp⟩
  ·rw [zzd _ _ h];exact ⟨m,rfl⟩
def znx (L:Rw) (m:List Int):Prop:=m.length=4∧∀s,s < 4→0≤m.getD s 0∧L s=upR (m.getD s 0).toNat
theorem yme {h:Hist} (hm:zgd h=true):∀e∈h.evs,0≤e.t∧e.t < h.ts.length:=by
 intro e he
 have hs:zap h=true:=by unfold zgd at hm;simp only [Bool.and_eq_true] at hm;exact hm.1
 have:=(zdf hs).2.1 e he
 obtain ⟨_,_,ht,_⟩:=zg1 this
 exact (zbp _ _).1 ht
def yfm (l:List Ev) (t c:Int):Bool:= !(l.all fun e=> !(e.t==t && e.kind==c))
theorem zjh (l:List Ev) (t c:Int):yfm l t c=l.any fun e=>e.t==t && e.kind==c:=by
 induction l with
 |nil=>rfl
 |cons e l ih=>
  rw [List.any_cons,←ih,yfm,List.all_cons,Bool.not_and,Bool.not_not];rfl
def ztg (l:List Ev) (t:Int):Bool:=yfm l t 1
def zz8 (l:List Ev) (t:Int):Bool:=l.any fun y=>y.t==t && (y.kind==5||y.kind==6)
def zlg (l:List Ev) (t x:Int):List Ev:=l.filter fun y=>y.kind==2 && y.t==t && y.o==x
def zud (l:List Ev) (t x:Int):Option Ver:=((zlg l t x).getLast?).map Ev.v
def zlk (l:List Ev) (x:Int) (v:Ver):Bool:=l.any fun y=>y.kind==2 && y.o==x && y.v==v
def zhb (e:Ev):List Seen:=if e.kind=3 then [⟨e.o,e.v⟩] else e.scan
def zb0 (rule:Nat) (e:Ev) (l:List Ev):Bool:=
 match rule with
 |1=>ztg l e.t==(e.kind==1)
 |2=>zz8 l e.t
 |3=>e.kind==2 && e.v.k !=((zlg l e.t e.o).length:Int)+1
 |4=>(zhb e).any fun s=>decide (s.v.k > 0) && !zlk l s.o s.v
 |5=>(zhb e).any fun s=>match zud l e.t s.o with|some v=>v !=s.v|none=>false
 |6=> !decide ((e.scan.map Seen.o).Nodup)
 |_=>false
def srt (l:List Int):List Int:=l.mergeSort (fun x y=>decide (x≤y))
def za2:List Int→List Int
 | []=> []
 | [x]=> [x]
 |x::y::r=>if x=y then za2 (y::r) else x::za2 (y::r)
theorem zf3 (z:Int):∀l:List Int,z∈za2 l ↔ z∈l
 | []=>Iff.rfl
 | [x]=>Iff.rfl
 |x::y::r=>by
  rw [za2]
  split
  ·rename_i h;subst h;rw [zf3 z (x::r)];simp
  ·rw [List.mem_cons,zf3 z (y::r),List.mem_cons (a:=z) (b:=x)]
theorem zhq:∀l:List Int,l.Pairwise (· ≤ ·)→(za2 l).Pairwise (· < ·)
 | [],_=> .nil
 | [x],_=>by simp [za2]
 |x::y::r,h=>by
  rw [za2]
  obtain ⟨h1,h2⟩:=List.pairwise_cons.1 h
  split
  ·exact zhq _ h2
  ·rename_i hne
   refine List.pairwise_cons.2 ⟨fun z hz=> ?_,zhq _ h2⟩
   rw [zf3] at hz
   obtain ⟨h3,h4⟩:=List.pairwise_cons.1 h2
   have hxy:=h1 y (by simp)
   rcases List.mem_cons.1 hz with rfl|hz
   ·omega
   ·have:=h3 z hz;omega
theorem zks:∀l:List Int,(za2 l).length≤l.length
 | []=>by simp [za2]
 | [x]=>by simp [za2]
 |x::y::r=>by
  rw [za2];have:=zks (y::r)
  split <;> simp only [List.length_cons] at * <;> omega
theorem zma:∀l:List Int,(za2 l).length=l.length→za2 l=l
 | [],_=>rfl
 | [x],_=>rfl
 |x::y::r,h=>by
  rw [za2] at h ⊢
  have hl:=zks (y::r)
  split at h
  ·simp only [List.length_cons] at h hl;omega
  ·rename_i hne
   rw [if_neg hne,zma (y::r) (by simpa using h)]
theorem zd9 (l:List Int):(srt l).Perm l:=List.mergeSort_perm _ _
theorem zvl (l:List Int):(srt l).Pairwise (· ≤ ·):=by
 have:=List.pairwise_mergeSort (le:=fun x y:Int=>decide (x≤y)) (by intro a b c;simp;omega) (by intro a b;simp;omega) l
 exact this.imp (by simp)
theorem zjc {l:List Int} (h:l.Pairwise (· < ·)):l.Nodup:=h.imp (fun h e=>by omega)
theorem zkr:∀l:List Int,l.Nodup→za2 l=l
 | [],_=>rfl
 | [x],_=>rfl
 |x::y::r,h=>by
  obtain ⟨h1,h2⟩:=List.nodup_cons.1 h
  rw [za2,if_neg (by rintro rfl;exact h1 (by simp)),zkr _ h2]
theorem zt5 (l:List Int):(za2 (srt l)).length=l.length ↔ l.Nodup:=by
 have hl:(srt l).length=l.length:=(zd9 l).length_eq
 constructor
 ·intro h
  have e:=zma (srt l) (by rw [h,hl])
  have:=zjc (zhq _ (zvl l))
  rw [e] at this
  exact (zd9 l).nodup_iff.1 this
 ·intro h
  rw [zkr _ ((zd9 l).nodup_iff.2 h),hl]
theorem yiz:∀(l m:List Int),l.Pairwise (· < ·)→m.Pairwise (· < ·)→(∀z,z∈l ↔ z∈m)→l=m:=by
 intro l m hl hm h
 refine List.Perm.eq_of_pairwise (le:=(· ≤ ·)) (fun a b _ _ h1 h2=>by omega) (hl.imp (fun h=>by omega)) (hm.imp (fun h=>by omega)) ?_
 exact (List.perm_ext_iff_of_nodup (zjc hl) (zjc hm)).2 h
def zae (l:List Ev) (x:Int):List Int:=za2 (srt ((l.filter fun e=>e.kind==2 && e.o==x && l.any fun y=>y.t==e.t && y.kind==5).map Ev.t))
def zi0 (h:Hist) (x:Int):List Int:=((upR h.ts.length).filter fun t=>(h.evs.any fun e=>e.kind==2 && e.t==t && e.o==x) && yfm h.evs t 5)
theorem ztq {h:Hist} (ht:∀e∈h.evs,0≤e.t∧e.t < h.ts.length) (x:Int) (hu:(upR h.ts.length).Pairwise (· < ·)) (hm:∀z,z∈upR h.ts.length ↔ 0≤z∧z < h.ts.length):zae h.evs x=zi0 h x:=by
 refine yiz _ _ (zhq _ (zvl _)) (hu.filter _) fun z=> ?_
 rw [zae,zf3,(zd9 _).mem_iff]
 simp only [zi0,zjh,List.mem_map,List.mem_filter,hm,Bool.and_eq_true,List.any_eq_true,beq_iff_eq]
 constructor
 ·rintro ⟨e,⟨he,⟨h2,h3⟩,y,hy,h4,h5⟩,rfl⟩
  exact ⟨ht e he,⟨e,he,⟨h2,rfl⟩,h3⟩,y,hy,h4,h5⟩
 ·rintro ⟨_,⟨e,he,⟨h2,rfl⟩,h3⟩,y,hy,h4,h5⟩
  exact ⟨e,⟨he,⟨h2,h3⟩,y,hy,h4,h5⟩,rfl⟩
def zqn (ts f:List Int):Bool:=decide ((za2 (srt ts)).length=ts.length) && !ts.any fun t=> !f.contains t
def zp4 (ts f:List Int):Bool:=decide ts.Nodup && ts.all fun t=>f.contains t
theorem zwb (ts f:List Int):zqn ts f=zp4 ts f:=by
 unfold zqn zp4
 rw [Bool.eq_iff_iff]
 simp only [Bool.and_eq_true,decide_eq_true_eq,zt5,List.all_eq_true,Bool.not_eq_true',List.any_eq_false,Bool.not_eq_true,Bool.not_eq_false',Bool.not_eq_false]
theorem zi7:∀(ts f:List Int),ts.Nodup→(∀t∈ts,t∈f)→ts.length≤f.length
 | [],f,_,_=>by simp
 |t::r,f,hn,hs=>by
  obtain ⟨h1,h2⟩:=List.nodup_cons.1 hn
  have ht:=hs t (by simp)
  have:=zi7 r (f.erase t) h2 (fun z hz=>(List.mem_erase_of_ne (by rintro rfl;exact h1 hz)).2 (hs z (by simp [hz])))
  rw [List.length_erase_of_mem ht] at this
  have:=List.length_pos_of_mem ht
  rw [List.length_cons];omega
theorem zzk {ts f:List Int} (hf:f.Nodup) (h:zp4 ts f=true):decide (ts.length=f.length)=zp4 f ts:=by
 simp only [zp4,Bool.and_eq_true,decide_eq_true_eq,List.all_eq_true,List.contains_iff_mem] at h
 rw [Bool.eq_iff_iff]
 simp only [zp4,Bool.and_eq_true,decide_eq_true_eq,List.all_eq_true,List.contains_iff_mem]
 constructor
 ·intro e
  refine ⟨hf,fun t ht=>Classical.byContradiction fun hn=> ?_⟩
  have:=zi7 (t::ts) f (List.nodup_cons.2 ⟨hn,h.1⟩) (fun z hz=>by rcases List.mem_cons.1 hz with rfl|hz;exact ht;exact h.2 z hz)
  rw [List.length_cons] at this;omega
 ·rintro ⟨_,hs⟩
  exact Nat.le_antisymm (zi7 _ _ h.1 h.2) (zi7 _ _ hf hs)
theorem zvc (n:Nat) (z:Int):z∈upR n ↔ 0≤z∧z < n:=by
 simp only [upR,List.mem_map,List.mem_range]
 constructor
 ·rintro ⟨i,hi,rfl⟩;omega
 ·rintro ⟨h0,h1⟩;exact ⟨z.toNat,by omega,by omega⟩
theorem yb3 (n:Nat):(upR n).Pairwise (· < ·):=by
 rw [upR,List.pairwise_map]
 exact List.pairwise_lt_range.imp (fun h=>by omega)
theorem zjr {h:Hist} (hm:zgd h=true) (x:Int):zae h.evs x=zi0 h x:=
 ztq (yme hm) x (yb3 _) (zvc _)
theorem zg8 (l:List Ev) (x:Int):(zae l x).Nodup:=zjc (zhq _ (zvl _))
def zhh (h:Hist) (i:Nat) (r:Ord):Bool:=((h.ords.take i).any fun p=>p.o==r.o)|| !zqn r.ts (zae h.evs r.o)|| !decide (r.ts.length=(zae h.evs r.o).length)
def zqr (h:Hist) (x:Int):Bool:=decide (1 < (zae h.evs x).length) && !h.ords.any fun r=>r.o==x
def zl1 (h:Hist) (i:Nat) (r:Mat):Bool:=((h.mats.take i).any fun p=>p.p==r.p && p.o==r.o)|| !zqn r.ts (zae h.evs r.o)
def zk4 (h:Hist) (i:Nat) (r:Wan):Bool:=((h.wants.take i).any fun p=>p.s==r.s)|| !h.evs.any fun e=>e.kind==1 && e.s==r.s
def zdg {α:Type} (w:Nat→α→Bool):Nat→List α→Option Nat
 |_,[]=>none
 |i,x::r=>if w i x then some i else zdg w (i+1) r
def zcd (h:Hist) (rule:Nat):Option Nat:=
 match rule with
 |7=>zdg (zhh h) 0 h.ords
 |8=>zdg (fun x _=>zqr h (x:Int)) 0 h.os
 |9=>zdg (zl1 h) 0 h.mats
 |10=>zdg (zk4 h) 0 h.wants
 |r=>zdg (fun i e=>zb0 r e (h.evs.take i)) 0 h.evs
def zbe (p:Nat→Option Nat):List Nat→Option (Nat×Nat)
 | []=>none
 |r::l=>match p r with|some i=>some (r,i)|none=>zbe p l
def rules10:List Nat:= [1,2,3,4,5,6,7,8,9,10]
theorem zh7 {p:Nat→Option Nat}:∀{l:List Nat},zbe p l=none→∀q∈l,p q=none
 | [],_,q,hq=>by cases hq
 |a::l,h,q,hq=>by
  rw [zbe] at h
  cases ha:p a with
  |some j=>rw [ha] at h;cases h
  |none=>rw [ha] at h;rcases List.mem_cons.1 hq with rfl|hq;exact ha;exact zh7 h q hq
theorem zeq {α:Type} {w:Nat→α→Bool}:∀(l:List α) (i:Nat),zdg w i l=none ↔ ∀j,(h:j < l.length)→w (i+j) l[j]=false
 | [],i=>by simp [zdg]
 |x::r,i=>by
  rw [zdg]
  constructor
  ·intro h j hj
   split at h
   ·cases h
   ·rename_i h0
    cases j with
    |zero=>simpa using h0
    |succ j=>
     have:=(zeq r (i+1)).1 h j (by simpa using hj)
     rw [show i+(j+1)=i+1+j by omega];exact this
  ·intro h
   have h0:w i x=false:=h 0 (Nat.zero_lt_succ _)
   rw [if_neg (by rw [h0];decide)]
   refine (zeq r (i+1)).2 fun j hj=> ?_
   have:=h (j+1) (by simpa using hj)
   rw [show i+1+j=i+(j+1) by omega];exact this
theorem zlw {k:Nat} (h1:1≤k) (h2:k≤10):rules10.drop (k - 1)=k::rules10.drop k:=by
 have:∀k,k < 11→1≤k→rules10.drop (k - 1)=k::rules10.drop k:=by decide
 exact this k (by omega) h1
theorem zul {p:Nat→Option Nat} {k:Nat} (h1:1≤k) (h2:k≤10) (hz:zbe p rules10=zbe p (rules10.drop (k - 1))) (hp:p k=none):zbe p rules10=zbe p (rules10.drop (k+1 - 1)):=by
 rw [hz,zlw h1 h2,zbe,hp];rfl
theorem zxn {p:Nat→Option Nat} {k i:Nat} (h1:1≤k) (h2:k≤10) (hz:zbe p rules10=zbe p (rules10.drop (k - 1))) (hp:p k=some i):zbe p rules10=some (k,i):=by
 rw [hz,zlw h1 h2,zbe,hp]
theorem zum {p:Nat→Option Nat} {k:Nat} (h1:11≤k) (h2:k≤11) (hz:zbe p rules10=zbe p (rules10.drop (k - 1))):zbe p rules10=none:=by
 obtain rfl:k=11:=by omega
 rw [hz];rfl
def zin (h:Hist):Option (Nat×Nat):=zbe (zcd h) rules10
def ynf:Option (Nat×Nat)→List AV
 |some (r,i)=> [iv r,iv i]
 |none=> [iv 0,iv 0]
def zbq (h:Hist):Bool:=zgd h && (zin h).isNone
def zgf (h:Hist):AV:=if zgd h=true then .tup [.agg (ynf (zin h)),bv (zin h).isSome,iv 0] else .tup [.agg [iv 0,iv 0],bv false,iv 210]
def yn2:Option Nat→Int
 |some n=>n
 |none=>0
theorem ygb (o:Option (Nat×Nat)):∃i j,ynf o= [iv i,iv j]:=by
 cases o with
 |none=>exact ⟨_,_,rfl⟩
 |some p=>exact ⟨_,_,rfl⟩
theorem zoy (h:Hist):∃i j b e,zgf h= .tup [.agg [iv i,iv j],bv b,iv e]∧zbq h=((e==0) && !b):=by
 unfold zgf zbq
 obtain ⟨i,j,hb⟩:=ygb (zin h)
 by_cases hm:zgd h=true
 ·rw [if_pos hm,hm,hb];refine ⟨_,_,_,_,rfl,?_⟩;cases zin h <;> rfl
 ·rw [if_neg hm,Bool.eq_false_iff.2 hm];exact ⟨_,_,_,_,rfl,rfl⟩
def zo9 (e:Ev):Ev:={e with scan:=e.scan.take 12}
def zri (r:Ord):Ord:={r with ts:=r.ts.take 14}
def zur (r:Mat):Mat:={r with ts:=r.ts.take 14}
def zq9 (h:Hist):Hist:=⟨zk2 12 h.ts,zk2 8 h.ss,zk2 10 h.os,zk2 6 h.ps,(h.evs.take 70).map zo9,(h.ords.take 14).map zri,(h.mats.take 20).map zur,h.wants.take 12⟩
theorem zhn (h:Hist):Lim 100 (zq9 h):=by
 refine ⟨?_,?_,?_,?_,?_,?_,?_,?_,?_,?_,?_⟩
 iterate 4 (· simp only [zq9,zk2,List.length_map,List.length_take];omega)
 iterate 4 (· simp only [zq9,List.length_map,List.length_take];omega)
 ·intro e he
  simp only [zq9,List.mem_map] at he
  obtain ⟨e',_,rfl⟩:=he
  simp only [zo9,List.length_take];omega
 ·intro e he
  simp only [zq9,List.mem_map] at he
  obtain ⟨e',_,rfl⟩:=he
  simp only [zri,List.length_take];omega
 ·intro e he
  simp only [zq9,List.mem_map] at he
  obtain ⟨e',_,rfl⟩:=he
  simp only [zur,List.length_take];omega
theorem zfo {h:Hist} (hs:zbq h=true):zgd h=true∧zbe (zcd h) rules10=none:=by
 unfold zbq at hs
 simp only [Bool.and_eq_true,Option.isNone_iff_eq_none] at hs
 exact hs
section
variable (ρ:Nat→Int→Int)
end
section
variable {σ:Type} {f:σ→Nat→Int→Int×σ} {ρ:Nat→Int→Int}
variable (f) in
def after:σ→List (Nat×Int)→σ
 |s,[]=>s
 |s,x::l=>after (f s x.1 x.2).2 l
end
section
variable (ρ:Nat→Int→Int)
end
structure Cnt (k:yg0) (m:List Int):Prop where
 k4:k.length=4
 m4:m.length=4
 eq:∀s,s < 4→m.getD s 0=(k.getD s []).length
def yh4 (m:Nat):List Int:=(List.range m).map Int.ofNat
structure Rng (k:yg0) (m:List Int):Prop where
 cnt:Cnt k m
 rg:∀s,s < 4→k.getD s []=yh4 (k.getD s []).length
section
variable {h:Hist} (hs:zap h=true)
include hs
end
section
variable {h n:Hist} {ρ:Nat→Int→Int}
end
def zru (t x:Int) (e:Ev):Bool:=e.kind==2 && e.t==t && e.o==x
theorem yg9 (k:Nat):upR (k+1)=upR k++ [(k:Int)]:=by simp [upR,List.range_succ]
section
variable {h:Hist} {i:Nat}
end
section
variable {l:List Ev} {t x:Int} {k:Nat}
end
def zjj {α:Type} (f:Nat→Ev→Option α) (l:List Ev):Nat→List α
 |0=> []
 |k+1=>zjj f l k++(match l[k]? with|some e=>(f k e).toList|none=> [])
theorem zxi {α:Type} {f:Nat→Ev→Option α} {l:List Ev} {k:Nat} (h:k < l.length):zjj f l (k+1)=zjj f l k++(f k l[k]).toList:=by
 rw [zjj,List.getElem?_eq_getElem h]
theorem zm6 {α:Type} (f:Nat→Ev→Option α) (l:List Ev):∀k,(zjj f l k).length≤k
 |0=>by simp [zjj]
 |k+1=>by
  have:=zm6 f l k
  rw [zjj,List.length_append]
  have:(match l[k]? with|some e=>(f k e).toList|none=> []).length≤1:=by
   cases l[k]? with
   |none=>simp
   |some e=>simp only [];cases f k e <;> simp
  omega
theorem zkg {α:Type} {f:Nat→Ev→Option α} {p:Ev→Bool} {g:Ev→α} (hf:∀k e,f k e=if p e=true then some (g e) else none) (l:List Ev):∀k,k≤l.length→zjj f l k=((l.take k).filter p).map g
 |0,_=>by simp [zjj]
 |k+1,h=>by
  have hk:k < l.length:=h
  rw [zxi hk,zkg hf l k (by omega),List.take_succ_eq_append_getElem hk,List.filter_append,List.map_append,hf]
  by_cases hp:p l[k]=true
  ·rw [if_pos hp,List.filter_cons_of_pos hp];rfl
  ·rw [if_neg hp,List.filter_cons_of_neg hp];rfl
theorem yba {α:Type} {f:Nat→Ev→Option α} {p:Ev→Bool} {g:Ev→α} (hf:∀k e,f k e=if p e=true then some (g e) else none) (l:List Ev):zjj f l l.length=(l.filter p).map g:=by
 rw [zkg hf l _ (Nat.le_refl _),List.take_length]
def zuc (l:List Ev) (t x:Int):Nat→Option (Ver×Nat)
 |0=>none
 |k+1=>match l[k]? with
  |some e=>if zru t x e=true then some (e.v,k) else zuc l t x k
  |none=>zuc l t x k
def ynd (l:List Ev) (t x:Int):Option (Ver×Nat):=zuc l t x l.length
def ynl:Option (Ver×Nat)→Ver
 |some p=>p.1
 |none=>⟨0,0⟩
def ze6 (l:List Ev) (s:Int):List Int:=(l.filter fun e=>e.kind==1 && (e.s==s && yfm l e.t 5)).map Ev.t
def ygy (l:List Ev) (x:Int):List Int:=(l.filter fun e=>e.kind==2 && (e.o==x && yfm l e.t 5)).map Ev.t
def zfi (h:Hist) (x:Int):List Int:=match h.ords.find? (fun o=>o.o==x) with|some o=>o.ts|none=>za2 (ygy h.evs x)
def ymj (h:Hist) (x:Int):List Int:=match h.ords.find? (fun o=>o.o==x) with|some o=>o.ts|none=>zi0 h x
def u0 (h:Hist):Int:=if zgd h=true then (if zbq h=true then 0 else 250) else 210
theorem zbo {h:Hist}:u0 h=0 ↔ zbq h=true:=by
 unfold u0
 by_cases hm:zgd h=true
 ·rw [if_pos hm]
  by_cases hs:zbq h=true
  ·rw [if_pos hs];simp [hs]
  ·rw [if_neg hs];simp [hs]
 ·rw [if_neg hm]
  have:zbq h=false:=by rw [zbq,Bool.eq_false_iff.2 hm];rfl
  simp [this]
theorem zhm {α:Type} (p:α→Bool):∀(l:List α) (i:Nat),(match l.find? p with|some x=>∃k,∃hk:k < l.length,zbf p i l=((i+k:Nat):Int)∧l[k]=x∧p x=true|none=>zbf p i l= -1)
 | [],i=>rfl
 |a::r,i=>by
  rw [List.find?_cons]
  cases ha:p a with
  |true=>exact ⟨0,by simp,by rw [zbf,if_pos ha];rfl,rfl,ha⟩
  |false=>
   have:=zhm p r (i+1)
   rw [zbf,if_neg (by rw [ha];decide)]
   dsimp only
   cases hf:r.find? p with
   |some x=>
    rw [hf] at this
    obtain ⟨k,hk,e1,e2,e3⟩:=this
    exact ⟨k+1,by simpa using hk,by rw [e1];congr 1;omega,by simpa using e2,e3⟩
   |none=>
    rw [hf] at this
    exact this
theorem zlp {h:Hist} (hs:zbq h=true) {q:Nat} (h1:1≤q) (h2:q≤10):zcd h q=none:=
 zh7 (zfo hs).2 q (by have:∀k,k < 11→1≤k→k∈rules10:=by decide
                      exact this q (by omega) h1)
theorem zkt {a:Int}:∀l:List Int,l≠ []→(∀z∈l,z=a)→za2 l= [a]
 | [],h,_=>absurd rfl h
 | [x],_,h=>by rw [h x (by simp)];rfl
 |x::y::r,_,h=>by
  rw [za2,if_pos (by rw [h x (by simp),h y (by simp)])]
  exact zkt (y::r) (by simp) (fun z hz=>h z (by simp only [List.mem_cons] at hz ⊢;exact .inr hz))
theorem zxz {l:List Int} (h:(za2 (srt l)).length≤1):za2 l=za2 (srt l):=by
 have hm:∀z,z∈za2 (srt l) ↔ z∈l:=fun z=>by rw [zf3,(zd9 l).mem_iff]
 match hc:za2 (srt l),h with
 | [],_=>
   have:l= []:=by
    rw [List.eq_nil_iff_forall_not_mem];intro z hz
    have:=(hm z).2 hz;rw [hc] at this;cases this
   rw [this];rfl
 | [a],_=>
   refine zkt l ?_ fun z hz=> ?_
   ·rintro rfl
    have:=(hm a).1 (by rw [hc];simp);cases this
   ·have:=(hm z).2 hz
    rw [hc] at this;simpa using this
 |a::b::r,h=>simp at h
theorem zil (l:List Ev) (x:Int):za2 (srt (ygy l x))=zae l x:=by
 rw [ygy,zae]
 congr 3
 refine List.filter_congr fun e _=> ?_
 rw [zjh,Bool.and_assoc]
theorem zwk {h:Hist} (hs:zbq h=true) {x:Int} (h0:0≤x) (h1:x < h.os.length) (hn:h.ords.find? (fun o=>o.o==x)=none):(zae h.evs x).length≤1:=by
 have hp:=zlp hs (q:=8) (by omega) (by omega)
 have:=(zeq _ _).1 hp x.toNat (by omega)
 rw [Nat.zero_add,show ((x.toNat:Nat):Int)=x by omega,zqr] at this
 rw [List.find?_eq_none] at hn
 have ha:h.ords.any (fun r=>r.o==x)=false:=by
  rw [List.any_eq_false];intro o ho;exact hn o ho
 rw [ha] at this
 simp at this
 exact this
theorem yjh {h:Hist} (hs:zbq h=true) {x:Int} (h0:0≤x) (h1:x < h.os.length):zfi h x=ymj h x:=by
 unfold zfi ymj
 cases hf:h.ords.find? (fun o=>o.o==x) with
 |some o=>rfl
 |none=>
  have:=zwk hs h0 h1 hf
  rw [←zjr (zfo hs).1,←zil,zxz (by rw [zil];exact this)]
theorem zlf {t x:Int} {e:Ev}:zru t x e=true ↔ e.kind=2∧e.t=t∧e.o=x:=by
 simp only [zru,Bool.and_eq_true,beq_iff_eq,and_assoc]
theorem zq3 {h:Hist} (hs:zbq h=true) {x:Int} (h0:0≤x) (h1:x < h.os.length):(zfi h x).Nodup∧(zfi h x).length=(zae h.evs x).length∧∀z,z∈zfi h x ↔ z∈zae h.evs x:=by
 have hm:=(zfo hs).1
 cases hf:h.ords.find? (fun o=>o.o==x) with
 |none=>
  have e:zfi h x=zae h.evs x:=by
   rw [yjh hs h0 h1,ymj,hf,zjr hm]
  rw [e];exact ⟨zg8 _ _,rfl,fun _=>Iff.rfl⟩
 |some o=>
  have e:zfi h x=o.ts:=by rw [zfi,hf]
  have:=zhm (fun o:Ord=>o.o==x) h.ords 0
  rw [hf] at this
  obtain ⟨k,hk,_,ek,eo⟩:=this
  have hp:zdg (zhh h) 0 h.ords=none:=zlp hs (q:=7) (by omega) (by omega)
  have:=(zeq _ _).1 hp k hk
  rw [Nat.zero_add,ek,zhh] at this
  have ex:o.o=x:=by simpa using eo
  simp only [Bool.or_eq_false_iff,Bool.not_eq_false',ex] at this
  obtain ⟨⟨_,h2⟩,h3⟩:=this
  rw [zwb] at h2
  have h4:=(zzk (zg8 h.evs x) h2).symm.trans h3
  simp only [zp4,Bool.and_eq_true,decide_eq_true_eq,List.all_eq_true,List.contains_iff_mem] at h2 h4
  rw [e]
  exact ⟨h2.1,by simpa using h3,fun z=>⟨h2.2 z,h4.2 z⟩⟩
end Go.H
set_option linter.unusedSectionVars false
namespace Go.Ab
open Go
section
variable {K V:Type} [DecidableEq K]
def zbn (k:K):List (K×V)→Option V
 | []=>none
 |p::r=>if p.1=k then some p.2 else zbn k r
def zea (k:K) (v:V):List (K×V)→List (K×V)
 | []=> [(k,v)]
 |p::r=>if p.1=k then (p.1,v)::r else p::zea k v r
def zbc (f:V→AV) (m:List (K×V)):List (K×AV):=m.map fun p=>(p.1,f p.2)
theorem zh2 (f:V→AV) (k:K):∀m:List (K×V),zcx k (zbc f m)=(zbn k m).map f
 | []=>rfl
 |p::m=>by
  have ih:=zh2 f k m
  simp only [zbc,List.map_cons,zcx,zbn] at ih ⊢
  by_cases h:p.1=k
  ·simp [h]
  ·rw [if_neg h,if_neg h,ih]
theorem zju (f:V→AV) (k:K) (v:V):∀m:List (K×V),zlj k (f v) (zbc f m)=zbc f (zea k v m)
 | []=>rfl
 |p::m=>by
  have ih:=zju f k v m
  simp only [zbc,List.map_cons,zlj,zea] at ih ⊢
  by_cases h:p.1=k
  ·rw [if_pos h,if_pos h];rfl
  ·rw [if_neg h,if_neg h,ih];rfl
theorem zcz (k k':K) (v:V):∀m:List (K×V),zbn k (zea k' v m)=if k'=k then some v else zbn k m
 | []=>by simp only [zea,zbn]
 |p::m=>by
  have ih:=zcz k k' v m
  simp only [zea]
  by_cases h:p.1=k'
  ·rw [if_pos h];simp only [zbn,h]
   by_cases hk:k'=k
   ·simp [hk]
   ·simp [hk]
  ·rw [if_neg h];simp only [zbn,ih]
   by_cases hp:p.1=k
   ·rw [if_pos hp,if_neg (fun q=>h (hp.trans q.symm)),if_pos hp]
   ·rw [if_neg hp,if_neg hp]
theorem zv9 (k:K) (v:V):∀m:List (K×V),(zea k v m).length=if (zbn k m).isSome then m.length else m.length+1
 | []=>rfl
 |p::m=>by
  have ih:=zv9 k v m
  by_cases h:p.1=k
  ·simp [zea,zbn,h]
  ·simp only [zea,zbn,if_neg h,List.length_cons,ih]
   split <;> simp
def zsi {α:Type} (p:α→Bool) (key:α→K) (m:List (K×Bool)) (l:List α):List (K×Bool):=l.foldl (fun m e=>if p e then zea (key e) true m else m) m
theorem zga {α:Type} (p:α→Bool) (key:α→K) (k:K):∀(l:List α) (m:List (K×Bool)),zbn k (zsi p key m l)=if l.any (fun e=>p e && decide (key e=k)) then some true else zbn k m
 | [],m=>by simp [zsi]
 |e::l,m=>by
  have ih:=zga p key k l (if p e then zea (key e) true m else m)
  simp only [zsi,List.foldl_cons,List.any_cons] at ih ⊢
  rw [ih]
  by_cases h:(l.any fun e=>p e && decide (key e=k))=true
  ·simp only [h,Bool.or_true,if_true]
  ·have h':=Bool.eq_false_iff.2 h
   simp only [h',Bool.or_false,Bool.false_eq_true,if_false]
   cases hp:p e with
   |false=>simp
   |true=>simp [zcz]
def yi4 {α:Type} (p:α→Bool) (key:α→K) (val:α→V) (m:List (K×V)) (l:List α):List (K×V):=l.foldl (fun m e=>if p e then zea (key e) (val e) m else m) m
theorem zsx {α:Type} (p:α→Bool) (key:α→K) (val:α→V) (k:K):∀(l:List α) (m:List (K×V)),zbn k (yi4 p key val m l)=(((l.filter fun e=>p e && decide (key e=k)).getLast?).map val).or (zbn k m)
 | [],m=>by simp [yi4]
 |e::l,m=>by
  have ih:=zsx p key val k l (if p e then zea (key e) (val e) m else m)
  simp only [yi4,List.foldl_cons,List.filter_cons] at ih ⊢
  rw [ih]
  cases hp:p e with
  |false=>simp
  |true=>
   by_cases hk:key e=k
   ·simp only [hk,decide_true,Bool.and_self,if_true,zcz]
    cases hl:(l.filter fun e=>p e && decide (key e=k)).getLast? with
    |none=>
     rw [List.getLast?_eq_none_iff] at hl
     simp [hl]
    |some y=>simp [List.getLast?_cons,hl]
   ·simp [hk,zcz]
def ykd {α:Type} (p:α→Bool) (key:α→K) (m:List (K×Int)) (l:List α):List (K×Int):=l.foldl (fun m e=>if p e then zea (key e) ((zbn (key e) m).getD 0+1) m else m) m
theorem ztd {α:Type} (p:α→Bool) (key:α→K) (k:K):∀(l:List α) (m:List (K×Int)),(zbn k (ykd p key m l)).getD 0=(zbn k m).getD 0+((l.filter fun e=>p e && decide (key e=k)).length:Int)
 | [],m=>by simp [ykd]
 |e::l,m=>by
  have ih:=ztd p key k l (if p e then zea (key e) ((zbn (key e) m).getD 0+1) m else m)
  simp only [ykd,List.foldl_cons,List.filter_cons] at ih ⊢
  rw [ih]
  cases hp:p e with
  |false=>simp
  |true=>
   by_cases hk:key e=k
   ·simp only [hk,decide_true,Bool.and_self,if_true,zcz,Option.getD_some,List.length_cons];omega
   ·simp [hk,zcz]
end
end Go.Ab
namespace Go.Proofs
open Go Go.Ab
open Go.H
theorem yik {P:Program} {h:List Res} {f:Operand→Option AV} {o:Oper} {b c:Bool} (hq:QR P h f o (.v (.bool b))) (e:b=c):QR P h f o (.v (.bool c)):=by subst e;exact hq
theorem nzT {a:Int} (h:(a !=0)=true):a≠0:=by simpa using h
theorem nzF {a:Int} (h:(a !=0)=false):a=0:=by simpa using h
end Go.Proofs
