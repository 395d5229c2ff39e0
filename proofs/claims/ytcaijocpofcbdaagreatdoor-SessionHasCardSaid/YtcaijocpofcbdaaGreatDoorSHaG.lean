/- A history read as data. Conditions: none. -/
import Derived.Test.YtcaijocpofcbdaaGreatDoorSHaF
import Derived.Test.YtcaijocpofcbdaaGreatDoorTie
import Derived.OpenShut
import Derived.Lib.LaidTab
import Derived.Lib.LaidU8
import Derived.ProofKit
import Derived.LaidMore
import Derived.LaidSub
import Derived.LaidHandle
import Derived.Lay
import Derived.SevenTiedAt
import Derived.Stop.Joined
set_option linter.unusedSectionVars false
set_option linter.unusedSimpArgs false
set_option linter.unusedVariables false
set_option maxRecDepth 100000
namespace Go.Proofs
open Go Go.Ab Go.H
section
variable {K:Type} {enc:TypeId×Value→K} {w:World}
theorem zna:zcu enc Tryz.prog w 3 (fun n:Int=> [iv n]) (fun _=>True):= .int Tryz.underlying3
theorem yrc:zcu enc Tryz.prog w 4 (fun b:Bool=> [bv b]) (fun _=>True):= .bool Tryz.underlying4
theorem ys5:zcu enc Tryz.prog w 9 ze7 (fun _=>True):= .string Tryz.underlying9
theorem ysg:zcu enc Tryz.prog w 63 ydc (fun _=>True):=
 .map (fun x:Int×Int×Unit=>⟨x.1,x.2.1⟩) (.struct Tryz.underlying63 rfl (tot:=2) (by kernel_rfl) (.cons zna (s:=1) (by kernel_rfl) (.cons zna (s:=1) (by kernel_rfl) (.nil 2)))) (fun _=>rfl) (fun _ _=>trivial)
theorem ym9:zcu enc Tryz.prog w 139 zaz (fun _=>True):=
 .map (fun x:Int×Ver×Unit=>⟨x.1,x.2.1⟩) (.struct Tryz.underlying139 rfl (tot:=3) (by kernel_rfl) (.cons zna (s:=1) (by kernel_rfl) (.cons ysg (s:=2) (by kernel_rfl) (.nil 3)))) (fun _=>rfl) (fun _ _=>trivial)
theorem zko {n b b' c:Nat} (hb:b'=b) (hb0:0 < b) (hc:reachBytes / b≤c) (h:n * b'≤reachBytes):n≤c:=by subst hb;exact Nat.le_trans ((Nat.le_div_iff_mul_le hb0).2 h) hc
theorem ynd:zcu enc Tryz.prog w 64 (fun l:List Seen=> [zka l]) (fun l=>l.length≤5864062014805):=
 .map (fun l:List Seen=>l) (.slice Tryz.underlying64 ym9 (k:=3) (by kernel_rfl) (by decide) (by rw [show Tryz.prog.bytesOf 139=24 by kernel_rfl];decide)) (fun _=>rfl) (fun _ h=>zko (b:=24) (by kernel_rfl) (by decide) (by decide) h.1)
theorem yjt:zcu enc Tryz.prog w 54 (fun l:List Int=> [zb8 l]) (fun l=>l.length≤17592186044416):=
 .map (fun l:List Int=>l) (.slice Tryz.underlying54 zna (k:=1) (by kernel_rfl) (by decide) (by rw [show Tryz.prog.bytesOf 3=8 by kernel_rfl];decide)) (fun _=>rfl) (fun _ h=>zko (b:=8) (by kernel_rfl) (by decide) (by decide) h.1)
theorem yeb:zcu enc Tryz.prog w 22 (fun l:List ByteArray=> [zc4 l]) (fun l=>l.length≤8796093022208):=
 .map (fun l:List ByteArray=>l) (.slice Tryz.underlying22 ys5 (k:=1) (by kernel_rfl) (by decide) (by rw [show Tryz.prog.bytesOf 9=16 by kernel_rfl];decide)) (fun _=>rfl) (fun _ h=>zko (b:=16) (by kernel_rfl) (by decide) (by decide) h.1)
theorem rEv:zcu enc Tryz.prog w 66 evR (fun e=>e.scan.length≤5864062014805):=
 .map (fun x:Int×Int×Int×Int×Int×Ver×Int×List Seen×Unit=>⟨x.1,x.2.1,x.2.2.1,x.2.2.2.1,x.2.2.2.2.1,x.2.2.2.2.2.1,x.2.2.2.2.2.2.1,x.2.2.2.2.2.2.2.1⟩)
  (.struct Tryz.underlying66 rfl (tot:=9) (by kernel_rfl) (.cons zna (s:=1) (by kernel_rfl) (.cons zna (s:=1) (by kernel_rfl) (.cons zna (s:=1) (by kernel_rfl) (.cons zna (s:=1) (by kernel_rfl) (.cons zna (s:=1) (by kernel_rfl)
   (.cons ysg (s:=2) (by kernel_rfl) (.cons zna (s:=1) (by kernel_rfl) (.cons ynd (s:=1) (by kernel_rfl) (.nil 9)))))))))) (fun _=>rfl) (fun _ h=>h.2.2.2.2.2.2.2.1)
theorem ys7:zcu enc Tryz.prog w 99 zdk (fun e=>e.ts.length≤17592186044416):=
 .map (fun x:Int×List Int×Unit=>⟨x.1,x.2.1⟩) (.struct Tryz.underlying99 rfl (tot:=2) (by kernel_rfl) (.cons zna (s:=1) (by kernel_rfl) (.cons yjt (s:=1) (by kernel_rfl) (.nil 2)))) (fun _=>rfl) (fun _ h=>h.2.1)
theorem ys8:zcu enc Tryz.prog w 112 ze4 (fun e=>e.ts.length≤17592186044416):=
 .map (fun x:Int×Int×Bool×List Int×Unit=>⟨x.1,x.2.1,x.2.2.1,x.2.2.2.1⟩) (.struct Tryz.underlying112 rfl (tot:=4) (by kernel_rfl) (.cons zna (s:=1) (by kernel_rfl) (.cons zna (s:=1) (by kernel_rfl) (.cons yrc (s:=1) (by kernel_rfl) (.cons yjt (s:=1) (by kernel_rfl) (.nil 4)))))) (fun _=>rfl) (fun _ h=>h.2.2.2.1)
theorem ys4:zcu enc Tryz.prog w 51 zff (fun _=>True):=
 .map (fun x:Int×Int×Unit=>⟨x.1,x.2.1⟩) (.struct Tryz.underlying51 rfl (tot:=2) (by kernel_rfl) (.cons zna (s:=1) (by kernel_rfl) (.cons zna (s:=1) (by kernel_rfl) (.nil 2)))) (fun _=>rfl) (fun _ _=>trivial)
theorem ys9:zcu enc Tryz.prog w 23 (fun l:List Ev=> [zm4 l]) (fun l=>l.length≤1599289640401∧∀e∈l,e.scan.length≤5864062014805):=
 .map (fun l:List Ev=>l) (.slice Tryz.underlying23 rEv (k:=9) (by kernel_rfl) (by decide) (by rw [show Tryz.prog.bytesOf 66=88 by kernel_rfl];decide)) (fun _=>rfl) (fun _ h=>⟨zko (b:=88) (by kernel_rfl) (by decide) (by decide) h.1,h.2⟩)
theorem yq7:zcu enc Tryz.prog w 24 (fun l:List H.Ord=> [zxh l]) (fun l=>l.length≤4398046511104∧∀e∈l,e.ts.length≤17592186044416):=
 .map (fun l:List H.Ord=>l) (.slice Tryz.underlying24 ys7 (k:=2) (by kernel_rfl) (by decide) (by rw [show Tryz.prog.bytesOf 99=32 by kernel_rfl];decide)) (fun _=>rfl) (fun _ h=>⟨zko (b:=32) (by kernel_rfl) (by decide) (by decide) h.1,h.2⟩)
theorem yq8:zcu enc Tryz.prog w 25 (fun l:List Mat=> [zo8 l]) (fun l=>l.length≤2932031007402∧∀e∈l,e.ts.length≤17592186044416):=
 .map (fun l:List Mat=>l) (.slice Tryz.underlying25 ys8 (k:=4) (by kernel_rfl) (by decide) (by rw [show Tryz.prog.bytesOf 112=48 by kernel_rfl];decide)) (fun _=>rfl) (fun _ h=>⟨zko (b:=48) (by kernel_rfl) (by decide) (by decide) h.1,h.2⟩)
theorem yq4:zcu enc Tryz.prog w 26 (fun l:List Wan=> [zsq l]) (fun l=>l.length≤8796093022208):=
 .map (fun l:List Wan=>l) (.slice Tryz.underlying26 ys4 (k:=2) (by kernel_rfl) (by decide) (by rw [show Tryz.prog.bytesOf 51=16 by kernel_rfl];decide)) (fun _=>rfl) (fun _ h=>zko (b:=16) (by kernel_rfl) (by decide) (by decide) h.1)
theorem yq9:zcu enc Tryz.prog w 28 x5 Big:=
 .map (fun x:List ByteArray×List ByteArray×List ByteArray×List ByteArray×List Ev×List H.Ord×List Mat×List Wan×Unit=>⟨x.1,x.2.1,x.2.2.1,x.2.2.2.1,x.2.2.2.2.1,x.2.2.2.2.2.1,x.2.2.2.2.2.2.1,x.2.2.2.2.2.2.2.1⟩)
  (.struct Tryz.underlying28 rfl (tot:=8) (by kernel_rfl) (.cons yeb (s:=1) (by kernel_rfl) (.cons yeb (s:=1) (by kernel_rfl) (.cons yeb (s:=1) (by kernel_rfl) (.cons yeb (s:=1) (by kernel_rfl) (.cons ys9 (s:=1) (by kernel_rfl)
   (.cons yq7 (s:=1) (by kernel_rfl) (.cons yq8 (s:=1) (by kernel_rfl) (.cons yq4 (s:=1) (by kernel_rfl) (.nil 8)))))))))) (fun _=>rfl)
  (fun x h=>by
   obtain ⟨h1,h2,h3,h4,⟨h5,h6⟩,⟨h7,h8⟩,⟨h9,hA⟩,hB,_⟩:=h
   exact ⟨⟨Nat.le_trans h1 (by decide),Nat.le_trans h2 (by decide),Nat.le_trans h3 (by decide),Nat.le_trans h4 (by decide),Nat.le_trans h5 (by decide),Nat.le_trans h7 (by decide),Nat.le_trans h9 (by decide),Nat.le_trans hB (by decide),fun e he=>Nat.le_trans (h6 e he) (by decide),fun e he=>Nat.le_trans (h8 e he) (by decide),fun e he=>Nat.le_trans (hA e he) (by decide)⟩,h1,h2,h3,h4,h7,h9,hB,h6,h8,hA⟩)
end
theorem yb0 {α:Type} (s:Nat):∀(n:Nat) (cs:List α) (f:Nat→List α),cs.length=n * s→(∀i,i < n→(cs.drop (i * s)).take s=f i)→cs=(List.range n).flatMap f
 |0,cs,f,h,_=>by simp at h;subst h;rfl
 |n+1,cs,f,h,k=>by
  have h0:=k 0 (by omega)
  have ih:=yb0 s n (cs.drop s) (fun i=>f (i+1)) (by rw [List.length_drop,h,Nat.add_mul];omega) fun i hi=>by
   have:=k (i+1) (by omega)
   rw [Nat.add_mul,Nat.one_mul,Nat.add_comm,←List.drop_drop] at this
   exact this
  rw [List.range_succ_eq_map,List.flatMap_cons,List.flatMap_map,←h0]
  simp only [Nat.zero_mul,List.drop_zero]
  have e:cs=cs.take s++cs.drop s:=(List.take_append_drop s cs).symm
  rw [ih] at e
  exact e
theorem zty {P:Program} {w:World} {n:String} {g t:Nat} {d:DataW Unit} {vals:List Value} {T:TypeId} (hr:Lib.VarReads P w n d) (hg:P.globalNamed n=some g) (ht:(P.globals[g]?).map (·.type)=some t)
 (hv:∀fuel cs p,DataW.trod (fun _=>()) P w 0 (fun _=>true) false fuel t cs=some (d,p)→cs=vals):(Res.glob g T (vals.map .v)).holds w noX:=by
 obtain ⟨g',t',cs,fuel,p,h1,h2,h3,h4⟩:=hr
 obtain rfl:=Option.some.inj (hg.symm.trans h1)
 obtain rfl:=Option.some.inj (ht.symm.trans h2)
 have hcs:=hv _ _ _ h4
 unfold World.var? at h3
 rw [hg] at h3
 simp only [Option.bind_some] at h3
 split at h3
 ·rename_i c T0 fr hh
  cases h3
  refine ⟨fun h=>h,(Array.getElem?_eq_some_iff.1 hh).1,cs,T0,fr,hh,by rw [List.length_map,←hcs];simp,fun j j1 j2=> ?_⟩
  rw [List.getElem_map]
  have:vals[j]'(by simpa using j1)=cs[j]:=by simp [←hcs]
  rw [this]
  exact .v _
 ·cases h3
theorem yrs {w:World} (h:Lib.VarReads Tryz.prog w "yardarm/history.limits" YtcaijocpofcbdaaGreatDoor.Rows.laid_yardarm_history_limits):(Res.glob 3 148 x6).holds w noX:=
 zty (vals:= [300,60,300,60].map fun z=>Value.int .i64 z) h (by kernel_rfl) (show _=some 148 by kernel_rfl) fun fuel cs p hd=>
  Lib.cells_of_tab (zs:= [300,60,300,60]) Tryz.underlying148 Tryz.underlying3 (by kernel_rfl) (by kernel_rfl) hd
def zv3:List Int:=(List.range 256).map zae
theorem zst:YtcaijocpofcbdaaGreatDoor.Rows.laid_unicode_utf8_first=Lib.tabData .u8 zv3:=by kernel_rfl
theorem yrr {w:World} (h:Lib.VarReads Tryz.prog w "unicode/utf8.first" YtcaijocpofcbdaaGreatDoor.Rows.laid_unicode_utf8_first):(Res.glob 5 276 x7).holds w noX:=by
 have:=zty (P:=Tryz.prog) (w:=w) (n:= "unicode/utf8.first") (g:=5) (t:=276) (d:=YtcaijocpofcbdaaGreatDoor.Rows.laid_unicode_utf8_first) (T:=276) (vals:=zv3.map fun z=>Value.int .u8 z) h (by kernel_rfl) (by kernel_rfl) fun fuel cs p hd=>
  Lib.cells_of_tab (zs:=zv3) Tryz.underlying276 Tryz.underlying5 (by kernel_rfl) (by kernel_rfl) (zst ▸ hd)
 simpa [x7,zv3,List.map_map,Function.comp_def] using this
def ysr (i:Nat):List Int:= [[128,160,128,144,128].getD i 0,[191,191,159,191,143].getD i 0]
theorem ycq:(YtcaijocpofcbdaaGreatDoor.Rows.laid_unicode_utf8_acceptRanges:DataW Unit)= .agg ((List.range 16).map fun i=> .agg ((ysr i).map fun z=> .lit (.int .u8 z))):=by kernel_rfl
theorem yl4:y7=((List.range 16).flatMap fun i=>(ysr i).map fun z=>Value.int .u8 z).map .v:=rfl
theorem yrq {w:World} (h:Lib.VarReads Tryz.prog w "unicode/utf8.acceptRanges" YtcaijocpofcbdaaGreatDoor.Rows.laid_unicode_utf8_acceptRanges):(Res.glob 6 279 y7).holds w noX:=by
 rw [yl4]
 refine zty (T:=279) h (by kernel_rfl) (show _=some 279 by kernel_rfl) fun fuel cs p hd=> ?_
 rw [ycq] at hd
 have c132:Tryz.prog.cellsOf 278=2:=by kernel_rfl
 have c133:Tryz.prog.cellsOf 279=32:=by kernel_rfl
 have hlen:cs.length=16 * 2:=by
  obtain ⟨_,_,_,_,hl,_⟩:=DataW.trod_array Tryz.underlying279 hd
  rw [hl,c133]
 refine yb0 2 16 cs _ hlen fun i hi=> ?_
 obtain ⟨f',d,q,h1,h2⟩:=Lib.array_elem Tryz.underlying279 hd i hi
 simp only [List.getElem?_map,List.getElem?_range hi,Option.map_some,Option.some.injEq] at h1
 subst h1
 rw [c132] at h2
 exact Lib.ints_of_struct Tryz.underlying278 (fun j f hj=>by
  match j,hj with
  |0,hj=>simp at hj;subst hj;exact ⟨Tryz.underlying5,rfl,by kernel_rfl⟩
  |1,hj=>simp at hj;subst hj;exact ⟨Tryz.underlying5,rfl,by kernel_rfl⟩
  |j+2,hj=>simp at hj) (by rw [c132];rfl) h2
end Go.Proofs
set_option maxRecDepth 100000
namespace Go.Proofs.YtcaijocpofcbdaaGreatDoor
open Go Go.Ab Go.H Go.ChangeShapes Go.WideShapes Go.ChangeAt Go.RowKit
theorem own:ownKnob Tryz.prog.godebug=none:=by kernel_rfl
def ztv:List (String×DataW Unit):= [("unicode/utf8.acceptRanges",Rows.laid_unicode_utf8_acceptRanges),("yardarm/history.limits",Rows.laid_yardarm_history_limits),("unicode/utf8.first",Rows.laid_unicode_utf8_first)]
def ysa:List Value:= .nilFunc:: [245,249,250,251,252,253,254,255,256,257].map fun f=> .func (.func f) #[] #[]
theorem zj0 {W W':World} (hk:Keep [] W [] W'):RowKit.Below W.heap.size W {W' with tape:=W.tape}:=
 ⟨hk.env.1.1,rfl,hk.env.1.2,hk.size,fun k hk'=>(hk.same k hk' (by simp)).1⟩
theorem yff {W W':World} (hk:Keep [] W [] W') (may:MemPlace→Prop):W.keptBut W' may:=by
 refine ⟨hk.env.1.1,hk.env.1.2,fun i hi=> ?_⟩
 rw [(hk.same i hi (by simp)).1]
 generalize W.heap[i]? =o
 cases o with
 |none=>rfl
 |some o=>cases o <;> first|rfl|exact ⟨rfl,rfl,rfl,fun _ _=>rfl⟩|exact .inr ⟨rfl,rfl⟩
section
variable {H:Type} {enc:TypeId×Value→H}
theorem zyk {W W':World} {v:Value} {d:DataW H} {ps:List MemPlace} (hk:Keep [] W [] W') (h:DataW.Trod enc Tryz.prog W 0 (fun _=>true) true 28 v d ps) (hlt:∀x∈ps,x.block < W.heap.size):
 DataW.Trod enc Tryz.prog W' 0 (fun b=>decide (b < W.heap.size)) true 28 v d ps:=
 DataW.Trod.of_heap (w:={W' with tape:=W.tape}) (w':=W') rfl (Below.trod (by kernel_rfl) (by kernel_rfl) (by decide+kernel) h (zj0 hk) hlt)
theorem yfj {W:World} {cs:Array Value} {d:DataW H} {ps:List MemPlace} (h:DataW.Trod enc Tryz.prog W 0 (fun _=>true) true 28 (.agg cs) d ps) (hw:∀n∈d.weights Tryz.prog 28,n≤reachBytes):
 ∃x,Big x∧Rel W noX (.agg (x5 x)) (.agg cs):=by
 obtain ⟨fuel,hf⟩:=h
 obtain ⟨x,hlim,hx⟩:=yq9 fuel _ _ hf hw
 exact ⟨x,hlim,.agg _ _ (by simpa [Value.cells] using hx.1) fun j h1 h2=>by simpa [Value.cells] using hx.2 j h1 (by simpa [Value.cells] using h2)⟩
end
theorem zu3 {P:Program} {w:World} {r:Reach} {base:Nat} {t e:TypeId} {v:Value} (h:Value.okWide P w r base t v) (hu:P.underlying t=some (.slice e)):∃a n c,v= .slice a n c:=by
 unfold Value.okWide at h
 rw [hu] at h
 simp only [Cell.okWide,hu] at h
 cases v <;> first|exact ⟨_,_,_,rfl⟩|(exfalso;revert h;simp [Cell.ok,hu])
section
variable {H:Type} {enc:TypeId×Value→H} {w:World}
theorem yrb:zcu enc Tryz.prog w 36 zah (fun _=>True):=
 .map (fun x:Int×Int×Int×Int×Int×Int×Unit=>⟨x.1,x.2.1,x.2.2.1,x.2.2.2.1,x.2.2.2.2.1,x.2.2.2.2.2.1⟩) (.struct Tryz.underlying36 rfl (tot:=6) (by kernel_rfl) (.cons zna (s:=1) (by kernel_rfl) (.cons zna (s:=1) (by kernel_rfl) (.cons zna (s:=1) (by kernel_rfl) (.cons zna (s:=1) (by kernel_rfl) (.cons zna (s:=1) (by kernel_rfl) (.cons zna (s:=1) (by kernel_rfl) (.nil 6)))))))) (fun _=>rfl) (fun _ _=>trivial)
theorem ynn:zcu enc Tryz.prog w 44 (fun l:List (Brch)=> [yhr l]) (fun l=>l.length≤2932031007402):=
 .map (fun l:List (Brch)=>l) (.slice Tryz.underlying44 yrb (k:=6) (by kernel_rfl) (by decide) (by rw [show Tryz.prog.bytesOf 36=48 by kernel_rfl];decide)) (fun _=>rfl) (fun _ h=>zko (b:=48) (by kernel_rfl) (by decide) (by decide) h.1)
theorem yk0 {W:World} {v:Value} {d:DataW H} {ps:List MemPlace} {r:Reach} {base:Nat} (h:DataW.Trod enc Tryz.prog W 0 (fun _=>true) true 54 v d ps) (hw:∀n∈d.weights Tryz.prog 54,n≤reachBytes) (hv:Value.okWide Tryz.prog W r base 54 v):
 ∃x:List (Int),x.length≤4611686018427387904∧Rel W noX (zb8 x) v:=by
 obtain ⟨a,n,c,rfl⟩:=zu3 hv Tryz.underlying54
 obtain ⟨fuel,hf⟩:=h
 obtain ⟨x,hlim,hx⟩:=yjt fuel _ _ hf hw
 exact ⟨x,by omega,by simpa [Value.cells] using hx.2 0 (by simp) (by simp [Value.cells])⟩
theorem zm8 {W W':World} {v:Value} {d:DataW H} {ps:List MemPlace} (hk:Keep [] W [] W') (h:DataW.Trod enc Tryz.prog W 0 (fun _=>true) true 54 v d ps) (hlt:∀x∈ps,x.block < W.heap.size):
 DataW.Trod enc Tryz.prog W' 0 (fun b=>decide (b < W.heap.size)) true 54 v d ps:=
 DataW.Trod.of_heap (w:={W' with tape:=W.tape}) (w':=W') rfl (Below.trod (by kernel_rfl) (by kernel_rfl) (by decide+kernel) h (zj0 hk) hlt)
theorem yf3 {W:World} {v:Value} {d:DataW H} {ps:List MemPlace} {r:Reach} {base:Nat} (h:DataW.Trod enc Tryz.prog W 0 (fun _=>true) true 44 v d ps) (hw:∀n∈d.weights Tryz.prog 44,n≤reachBytes) (hv:Value.okWide Tryz.prog W r base 44 v):
 ∃x:List (Brch),x.length≤4611686018427387904∧Rel W noX (yhr x) v:=by
 obtain ⟨a,n,c,rfl⟩:=zu3 hv Tryz.underlying44
 obtain ⟨fuel,hf⟩:=h
 obtain ⟨x,hlim,hx⟩:=ynn fuel _ _ hf hw
 exact ⟨x,by omega,by simpa [Value.cells] using hx.2 0 (by simp) (by simp [Value.cells])⟩
theorem zlv {W W':World} {v:Value} {d:DataW H} {ps:List MemPlace} (hk:Keep [] W [] W') (h:DataW.Trod enc Tryz.prog W 0 (fun _=>true) true 44 v d ps) (hlt:∀x∈ps,x.block < W.heap.size):
 DataW.Trod enc Tryz.prog W' 0 (fun b=>decide (b < W.heap.size)) true 44 v d ps:=
 DataW.Trod.of_heap (w:={W' with tape:=W.tape}) (w':=W') rfl (Below.trod (by kernel_rfl) (by kernel_rfl) (by decide+kernel) h (zj0 hk) hlt)
end
end Go.Proofs.YtcaijocpofcbdaaGreatDoor
namespace Go.Ab
open Go
class HasMapE (h:List Res) (r:Nat) (i:outParam Nat) (es:outParam (List (Value×AV))) (j st:outParam Nat):Prop where
 h:h[i]? =some (.mape r es j st)
instance HasMapE.head {r:Nat} {es:List (Value×AV)} {j st:Nat} {h:List Res}:HasMapE (.mape r es j st::h) r 0 es j st:=⟨rfl⟩
instance HasMapE.tail {r i:Nat} {es:List (Value×AV)} {j st:Nat} {x:Res} {h:List Res} [k:HasMapE h r i es j st]:HasMapE (x::h) r (i+1) es j st:=⟨by simpa using k.h⟩
def zkk {K:Type} [DecidableEq K] (k:K) (z:AV) (es:List (K×AV)):List (K×AV):=match zds k es with
 |some _=>es
 |none=>es++ [(k,z)]
theorem zre {K:Type} [DecidableEq K] (k:K) (z:AV):∀es:List (K×AV),zds k es=none→zds k (es++ [(k,z)])=some z
 | [],_=>by simp [zds]
 |p::es,h=>by
  simp only [zds,List.cons_append] at h ⊢
  split at h
  ·cases h
  ·rename_i hn;rw [if_neg hn];exact zre k z es h
theorem yap {K:Type} [DecidableEq K] (k:K) (z:AV) (es:List (K×AV)):(zds k (zkk k z es)).getD z=(zds k es).getD z:=by
 unfold zkk
 cases h:zds k es with
 |some a=>simp [h]
 |none=>simp [zre k z es h]
section
variable {P:Program} {ro:Option Nat} {nt:Nat} {dst:Option Tmp} {ty:TypeId} {pos:String} {after:Array Edge} {guard:Option (Nat×Bool)} {x y z:Operand} {t:Fr} {h:List Res} {ds:List Nat} {next:St→Prop} {f:Operand→Option AV}
 {K:Type} [DecidableEq K] {enc:K→Value} {es:List (K×AV)} {kt et T:TypeId} {r i:Nat} {k:K} {av:AV}
theorem zti {d:Tmp} {kv:AV} {zv:Value} {h':Res→List Res} (hlt:dok nt (some d)=true) (hx:ev t x=some (.v (.map (some r)))) (hy:ev t y=some kv) [hkv:KeyV kv (enc k)] [hm:HasMap h r i (zag enc es)] [hu:Und P T (.map kt et)] [hkt:KeyT P kt enc] [hz:ZerV P et zv]
 [hset:∀y,SetAt h i y (h' y)] (hk:∀(j st:Nat),(∀a,(zag enc (zkk k (.v zv) es)).modify j (fun p=>(p.1,a))=zag enc (zno k a es))→
  next ⟨(d,.tup [(zds k es).getD (.v zv),.v (.int .i64 st)])::t,h' (.mape r (zag enc (zkk k (.v zv) es)) j st),ds⟩):
 OE P ro nt ⟨some d,.mapEntry T x y,ty,pos,after,guard⟩ ⟨t,h,ds⟩ next:=by
 intro X a w Kc Q hs hK
 refine ⟨zaf,?_⟩
 obtain ⟨ents,clock,h1,h2,h3,h4,h5⟩:=hs.heap.holds _ (List.mem_of_getElem? hm.h)
 have hks:=keys_of_holds h2 h3
 have hl':es.length=ents.toList.length:=by simpa [zag] using h2
 have hle:es.length=ents.size:=by simpa using hl'
 have hfind:=hkt.find w k ents.toList (es.map (·.1)) hks
 have hrun:∃ents' clock' j st v,(Instr.mapEntry T (a.eval x) (a.eval y)).run P w= .ok (.tuple #[v,.int .i64 (st:Nat)]) {w with heap:=w.heap.setIfInBounds r (.map ents' clock')}∧
  Rel w (OO h X) ((zds k es).getD (.v zv)) v∧(∀a,(zag enc (zkk k (.v zv) es)).modify j (fun p=>(p.1,a))=zag enc (zno k a es))∧
  (zag enc (zkk k (.v zv) es)).length=ents'.size∧(∀i (h1:i < (zag enc (zkk k (.v zv) es)).length) (h2:i < ents'.size),(zag enc (zkk k (.v zv) es))[i].1=ents'[i].key∧Rel w (OO h X) (zag enc (zkk k (.v zv) es))[i].2 ents'[i].val)∧
  (∀i (h:i < ents'.size),ents'[i].born < clock')∧(∀i j (hi:i < ents'.size) (hj:j < ents'.size),i < j→ents'[i].born < ents'[j].born)∧∃h:j < ents'.size,ents'[j].born=st:=by
  rw [(hs.env.rel x _ hx).v_eq,hkv.h w _ _ (hs.env.rel y _ hy)]
  simp only [Instr.mapEntry,Sem.run_bind,run_underlying (h:=hu),Result.andThen_ok,MapKept.run_getObj_map h1,hkt.chk,hfind]
  rcases zmq k es ents.toList 0 hl' with ⟨g,b,c⟩|⟨j,g1,g2,g,b,c,d⟩
  ·rw [g]
   have he:zkk k (.v zv) es=es++ [(k,.v zv)]:=by unfold zkk;rw [b]
   rw [he]
   refine ⟨ents.push {key:=enc k,val:=zv,born:=clock},clock+1,es.length,clock,zv,?_,by rw [b];exact .v _,fun a=> ?_,by simp [zag,hle],fun i a1 a2=> ?_,fun i a1=> ?_,fun i j a1 a2 a3=> ?_,by simp [hle],?_⟩
   ·simp only [Sem.run_bind,run_zeroValue hz.h,Result.andThen_ok,MapKept.run_setObj_map _ h1,Sem.run_pure,goInt]
   ·rw [c a]
    simp only [zag,List.map_append,List.map_cons,List.map_nil]
    have:es.length=(es.map fun p=>(enc p.1,p.2)).length:=by simp
    rw [this]
    have hmod:∀(l:List (Value×AV)) (p:Value×AV) (g:Value×AV→Value×AV),(l++ [p]).modify l.length g=l++ [g p]:=by
     intro l p g
     induction l with
     |nil=>rfl
     |cons q l ih=>simp [ih]
    rw [hmod]
   ·simp only [zag,List.map_append,List.map_cons,List.map_nil,List.getElem_append,Array.getElem_push]
    by_cases hi:i < ents.size
    ·have:i < (List.map (fun p:K×AV=>(enc p.1,p.2)) es).length:=by simp;omega
     simp only [hi,this,dif_pos]
     exact h3 i (by simpa [zag] using this) hi
    ·have h9:¬i < (List.map (fun p:K×AV=>(enc p.1,p.2)) es).length:=by simp;omega
     simp only [hi,h9,dif_neg,not_false_eq_true,List.getElem_singleton]
     exact ⟨trivial,.v _⟩
   ·rw [Array.getElem_push]
    split
    ·have:=h4 i (by assumption);omega
    ·simp
   ·simp only [Array.size_push] at a1 a2
    rw [Array.getElem_push,Array.getElem_push]
    split <;> split
    ·exact h5 i j _ _ a3
    ·have:=h4 i (by assumption);simpa using this
    ·omega
    ·omega
   ·simp [Array.getElem_push,hle]
  ·have hj:j < ents.size:=by simpa using g2
   have hkey:ents[j].key=enc k:=by
    have:=(h3 j (by simpa [zag] using g1) hj).1
    simp [zag] at this
    rw [←this,c]
   have he:zkk k (.v zv) es=es:=by unfold zkk;rw [b]
   rw [g,he]
   have hgd:((ents[j]?).map (·.key)).getD (enc k)=enc k:=by
    rw [Array.getElem?_eq_getElem hj];simp [hkey]
   have hsame:(ents.modify j fun e=>{e with key:=enc k})=ents:=by
    apply Array.ext
    ·simp
    ·intro q q1 q2
     rw [Array.getElem_modify]
     split
     ·rename_i hjq;subst hjq
      have hk2:∀e:MapEntry,e.key=enc k→({e with key:=enc k}:MapEntry)=e:=fun e he=>by
       cases e;simp only at he;subst he;rfl
      exact hk2 _ hkey
     ·rfl
   refine ⟨ents,clock,j,ents[j].born,ents[j].val,?_,?_,fun a=> ?_,h2,h3,h4,h5,hj,rfl⟩
   ·simp only [Sem.run_bind,Nat.zero_add,hgd,zgq (P:=P) (kt:=kt),Result.andThen_ok,hsame,MapKept.run_setObj_map _ h1,Sem.run_pure,goInt]
    simp only [Array.getElem?_eq_getElem hj,Option.map_some,Option.getD_some]
    rfl
   ·rw [b]
    have:=(h3 j (by simpa [zag] using g1) hj).2
    simpa [zag] using this
   ·rw [d a]
    refine List.ext_getElem (by simp [zag]) fun q q1 q2=> ?_
    simp only [zag,List.getElem_modify,List.getElem_map,List.getElem_set]
    split
    ·rename_i hq;subst hq;rw [c]
    ·rfl
 obtain ⟨ents',clock',j,st,v,e,hv,hmod,e1,e2,e3,e4,e5,e6⟩:=hrun
 rw [zbr rfl]
 have e':(execOp a.eval (⟨some d,.mapEntry T x y,ty,pos,after,guard⟩:Oper)).run P w= .ok (.value (.tuple #[v,.int .i64 (st:Nat)])) {w with heap:=w.heap.setIfInBounds r (.map ents' clock')}:=run_v _ e
 rw [e']
 have hlt':r < w.heap.size:=(Array.getElem?_eq_some_iff.1 h1).1
 have hoth:∀b,b≠r→(w.heap.setIfInBounds r (.map ents' clock'))[b]? =w.heap[b]? :=fun b hb=>by rw [Array.getElem?_setIfInBounds_ne (Ne.symm hb)]
 have hrown:OO h X r:= .inl (k7.2 ⟨_,List.mem_of_getElem? hm.h,by simp [Res.own]⟩)
 have hkk:∀b,¬OO h X b→b < w.heap.size→(w.heap.setIfInBounds r (.map ents' clock'))[b]? =w.heap[b]? ∧¬OO h X b:=fun b hb hl=>⟨hoth b (fun q=>hb (q ▸ hrown)),hb⟩
 have hholds:(Res.mape r (zag enc (zkk k (.v zv) es)) j st).holds {w with heap:=w.heap.setIfInBounds r (.map ents' clock')} (OO h X):=
  ⟨ents',clock',by simp [hlt'],e1,fun i a1 a2=>⟨(e2 i a1 a2).1,(e2 i a1 a2).2.keep (by simp) hkk⟩,e3,e4,e5,e6⟩
 have hh2:=hs.heap.set (w':={w with heap:=w.heap.setIfInBounds r (.map ents' clock')}) hm.h (y:= .mape r (zag enc (zkk k (.v zv) es)) j st) rfl (by simp) (fun b hb hne=>hoth b (by simpa [Res.own] using hne)) hholds
 rw [(hset _).h] at hh2
 have hown:u7 (h' (.mape r (zag enc (zkk k (.v zv) es)) j st))=u7 h:=by rw [←(hset _).h];exact zdq hm.h rfl
 have hkeep:Keep (u7 h) w (u7 (h' (.mape r (zag enc (zkk k (.v zv) es)) j st))) {w with heap:=w.heap.setIfInBounds r (.map ents' clock')}:=⟨by simp,fun b hb ho=>⟨hoth b (fun q=>ho (q ▸ k7.2 ⟨_,List.mem_of_getElem? hm.h,by simp [Res.own]⟩)),by rw [hown];exact ho⟩,ziu.eq rfl rfl rfl (by first|exact Nat.le_refl _|exact Nat.le_succ _)⟩
 have hkoo:=fun b hb hl=>hkeep.oo (X:=X) b hb hl
 refine hK _ _ _ (hk j st hmod) (Sim.put (s:=⟨t,h' (.mape r (zag enc (zkk k (.v zv) es)) j st),ds⟩) ⟨hh2,hs.size,hs.fr.keep hkeep.size (fun b hb hl=>hkoo b hb hl),hs.defs⟩ hlt (.tup _ _ rfl fun q q1 q2=> ?_)) hkeep
 match q,q1,q2 with
 |0,_,_=>exact hv.keep hkeep.size (fun b hb hl=>hkoo b hb hl)
 |1,_,_=>exact .v _
 |q+2,q1,_=>simp at q1;omega
theorem zo4 {j st:Nat} {es' es2:List (Value×AV)} {h':List Res} (hx:ev t x=some (.v (.map (some r)))) (hy:ev t y=some (.v (.int .i64 st))) (hz:ev t z=some av) [hm:HasMapE h r i es' j st] (he:es'.modify j (fun p=>(p.1,av))=es2)
 [hset:SetAt h i (.map r es2) h'] (hk:next ⟨t,h',ds⟩):OE P ro nt ⟨none,.entryStore T x y z,ty,pos,after,guard⟩ ⟨t,h,ds⟩ next:=by
 refine zge rfl rfl (fun X a w hs=> ?_) hk
 obtain ⟨ents,clock,h1,h2,h3,h4,h5,hj,h6⟩:=hs.heap.holds _ (List.mem_of_getElem? hm.h)
 have hrv:=hs.env.rel z _ hz
 subst he
 have hidx:ents.findIdx? (fun e=>((e.born:Nat):Int)==((st:Nat):Int))=some j:=by
  rw [Array.findIdx?_eq_some_iff_getElem]
  refine ⟨hj,by simp [h6],fun q hq=> ?_⟩
  have:=h5 q j (by omega) hj hq
  simp;omega
 obtain ⟨ents',hents⟩:∃e,e=ents.modify j (fun e=>{e with val:=a.eval z}):=⟨_,rfl⟩
 have hsz:ents'.size=ents.size:=by rw [hents];simp
 have hrun:(Instr.entryStore T (a.eval x) (a.eval y) (a.eval z)).run P w= .ok () {w with heap:=w.heap.setIfInBounds r (.map ents' clock)}:=by
  rw [(hs.env.rel x _ hx).v_eq,(hs.env.rel y _ hy).v_eq]
  simp only [Instr.entryStore,Sem.run_bind,MapKept.run_getObj_map h1,Result.andThen_ok,asInt,asIntOf,Sem.run_pure,hidx,MapKept.run_setObj_map _ h1,hents]
 have hlt:r < w.heap.size:=(Array.getElem?_eq_some_iff.1 h1).1
 have hoth:∀b,b≠r→(w.heap.setIfInBounds r (.map ents' clock))[b]? =w.heap[b]? :=fun b hb=>by rw [Array.getElem?_setIfInBounds_ne (Ne.symm hb)]
 have hrown:OO h X r:= .inl (k7.2 ⟨_,List.mem_of_getElem? hm.h,by simp [Res.own]⟩)
 have hkk:∀b,¬OO h X b→b < w.heap.size→(w.heap.setIfInBounds r (.map ents' clock))[b]? =w.heap[b]? ∧¬OO h X b:=fun b hb hl=>⟨hoth b (fun q=>hb (q ▸ hrown)),hb⟩
 have hmapholds:(Res.map r (es'.modify j (fun p=>(p.1,av)))).holds {w with heap:=w.heap.setIfInBounds r (.map ents' clock)} (OO h X):=by
  refine ⟨ents',clock,by simp [hlt],by simp [hsz,h2],fun i a1 a2=> ?_,fun i a1=> ?_,fun i j' a1 a2 a3=> ?_⟩
  ·have b1:i < es'.length:=by simpa using a1
   have b2:i < ents.size:=by omega
   have:=h3 i b1 b2
   subst hents
   rw [List.getElem_modify,Array.getElem_modify]
   split
   ·exact ⟨this.1,hrv.keep (by simp) hkk⟩
   ·exact ⟨this.1,this.2.keep (by simp) hkk⟩
  ·subst hents
   rw [Array.getElem_modify]
   have b2:i < ents.size:=by simpa using a1
   split <;> exact h4 i b2
  ·subst hents
   have b1:i < ents.size:=by simpa using a1
   have b2:j' < ents.size:=by simpa using a2
   rw [Array.getElem_modify,Array.getElem_modify]
   split <;> split <;> exact h5 i j' b1 b2 a3
 have hh2:=hs.heap.set (w':={w with heap:=w.heap.setIfInBounds r (.map ents' clock)}) hm.h (y:= .map r (es'.modify j (fun p=>(p.1,av)))) rfl (by simp) (fun b hb hne=>hoth b (by simpa [Res.own] using hne)) hmapholds
 rw [hset.h] at hh2
 have hown:u7 h'=u7 h:=by rw [←hset.h];exact zdq hm.h rfl
 have hkeep:Keep (u7 h) w (u7 h') {w with heap:=w.heap.setIfInBounds r (.map ents' clock)}:=⟨by simp,fun b hb ho=>⟨hoth b (fun q=>ho (q ▸ k7.2 ⟨_,List.mem_of_getElem? hm.h,by simp [Res.own]⟩)),by rw [hown];exact ho⟩,ziu.eq rfl rfl rfl (by first|exact Nat.le_refl _|exact Nat.le_succ _)⟩
 exact ⟨_,zy8 hrun,⟨hh2,hs.size,hs.fr.keep hkeep.size (fun b hb hl=>hkeep.oo b hb hl),hs.defs⟩,hkeep⟩
theorem ztb {kv:AV} {zv:Value} {j st:Nat} (hx:f x=some (.v (.map (some r)))) (hy:f y=some kv) [hkv:KeyV kv (enc k)] [hm:HasMapE h r i (zag enc (zkk k (.v zv) es)) j st] [hu:Und P T (.map kt et)] [hkt:KeyT P kt enc] [hz:ZerV P et zv]
 (hl:(zds k es).getD (.v zv)=av):QR P h f ⟨dst,.lookup T x y false,ty,pos,after,guard⟩ av:=fun X ρ w hev=>by
 obtain ⟨ents,clock,h1,h2,h3,h4,h5,_⟩:=hev.heap.holds _ (List.mem_of_getElem? hm.h)
 have hks:=keys_of_holds h2 h3
 have hl':(zkk k (.v zv) es).length=ents.toList.length:=by simpa [zag] using h2
 have hfind:=hkt.find w k ents.toList ((zkk k (.v zv) es).map (·.1)) hks
 have key:=yap k (.v zv) es
 rw [hl] at key
 have hrun:∃v,(Instr.lookup T (ρ x) (ρ y) false).run P w= .ok v w∧Rel w (OO h X) av v:=by
  rw [(hev.rel x _ hx).v_eq,hkv.h w _ _ (hev.rel y _ hy)]
  simp only [Instr.lookup,Sem.run_bind,run_underlying (h:=hu),Result.andThen_ok,MapKept.run_getObj_map h1,Sem.run_pure,hkt.chk,hfind]
  rcases zmq k (zkk k (.v zv) es) ents.toList 0 hl' with ⟨a,b,c⟩|⟨j,g1,g2,a,b,c,d⟩
  ·rw [b] at key
   refine ⟨zv,?_,by rw [←key];exact .v _⟩
   rw [a];simp [run_zeroValue hz.h]
  ·rw [b] at key
   refine ⟨(ents[j]'(by simpa using g2)).val,?_,?_⟩
   ·rw [a];simp
   ·have:=(h3 j (by simpa [zag] using g1) (by simpa using g2)).2
    rw [←key];simpa [zag] using this
 obtain ⟨v,e,hr⟩:=hrun
 exact ⟨v,run_v _ e,hr⟩
end
def zfl (p:Int×Int×Int):Value:= .agg #[.int .i64 p.1,.int .i64 p.2.1,.int .i64 p.2.2]
class Chk3 (P:Program) (kt:TypeId):Prop where
 h:∀(e:Bool) (w:World) (a b c:Int),(Instr.checkKey e 10000 kt (.agg #[.int .i64 a,.int .i64 b,.int .i64 c])).run P w= .ok () w
instance KeyT.int3 {P:Program} {kt:TypeId} [he:EqInts P kt 3] [hc:Chk3 P kt] [hi:IsA P kt true]:KeyT P kt zfl where
 inj:=fun a b h=>by
  obtain ⟨a1,a2,a3⟩:=a;obtain ⟨b1,b2,b3⟩:=b
  simpa [zfl] using h
 stays:=fun a=>by simp [zfl,Instr.sameBits]
 chk:=fun e w k=>hc.h e w k.1 k.2.1 k.2.2
 find:=fun w k l ks h=>by
  obtain ⟨d,hd,hb⟩:=hi.h
  refine (congrArg (fun r=>r) (run_findKey_eq (P:=P) (w:=w) (k:=kt) (by rw [hd];cases d <;> simp [ysc] at hb ⊢) _ l)).trans ?_
  refine zgk (fun w a b=> ?_) k w l ks 0 h
  have:=znu (P:=P) (T:=kt) w (xs:= [a.1,a.2.1,a.2.2]) (ys:= [b.1,b.2.1,b.2.2]) rfl rfl
  simp only [zfl]
  refine this.trans ?_;obtain ⟨a1,a2,a3⟩:=a;obtain ⟨b1,b2,b3⟩:=b
  congr 1
  by_cases h1:a1=b1 <;> by_cases h2:a2=b2 <;> by_cases h3:a3=b3 <;> simp [h1,h2,h3]
instance KeyV.int3 {a b c:Int}:KeyV (.agg [.v (.int .i64 a),.v (.int .i64 b),.v (.int .i64 c)]) (zfl (a,b,c)):=⟨fun w O u r=>by
 cases r with
 |agg _ cs hl hr=>
  simp at hl
  have h0:=(hr 0 (by simp) (by omega)).v_eq
  have h1:=(hr 1 (by simp) (by omega)).v_eq
  have h2:=(hr 2 (by simp) (by omega)).v_eq
  simp only [zfl]
  congr 1
  apply Array.ext
  ·simp [←hl]
  ·intro i hi hi2
   match i,hi,hi2 with
   |0,_,_=>exact h0
   |1,_,_=>exact h1
   |2,_,_=>exact h2
   |i+3,hi,hi2=>simp at hi2;omega⟩
class ZV (z:Value) (a:AV):Prop where
 h:∀w O u,Rel w O (.v z) u→Rel w O a u
instance ZV.v {z:Value}:ZV z (.v z):=⟨fun _ _ _ h=>h⟩
instance ZV.agg2 {a b:Value}:ZV (.agg #[a,b]) (.agg [.v a,.v b]):=⟨fun w O u h=>by
 rw [h.v_eq]
 refine .agg _ _ rfl fun j h1 h2=> ?_
 match j,h1,h2 with
 |0,_,_=>exact .v _
 |1,_,_=>exact .v _
 |j+2,h1,_=>simp at h1;omega⟩
theorem zs7 {P:Program} {h:List Res} {f:Operand→Option AV} {o:Oper} {a b:AV} (hw:∀w O v,Rel w O a v→Rel w O b v) (q:QR P h f o a):QR P h f o b:=fun X ρ w he=>
 let ⟨v,e,r⟩:=q X ρ w he;⟨v,e,hw _ _ _ r⟩
theorem zbq {P:Program} {h:List Res} {f:Operand→Option AV} {o:Oper} {a b:AV} (q:QR P h f o a) (e:a=b):QR P h f o b:=e ▸ q
section
variable {P:Program} {ro:Option Nat} {nt:Nat} {dst:Option Tmp} {ty:TypeId} {pos:String} {after:Array Edge} {guard:Option (Nat×Bool)} {x y z:Operand} {t:Fr} {h h':List Res} {ds:List Nat} {next:St→Prop} {f:Operand→Option AV}
 {K V:Type} [DecidableEq K] {enc:K→Value} {g:V→AV} {m:List (K×V)} {kt et T:TypeId} {r i:Nat} {k:K} {kv:AV}
theorem zpa {zv:Value} {d:V} [hz:ZV zv (g d)] {w:World} {O:Nat→Prop} {u:Value} (h:Rel w O ((zds k (zb6 g m)).getD (.v zv)) u):Rel w O (g ((zb2 k m).getD d)) u:=by
 rw [zjy] at h
 cases hg:zb2 k m with
 |some a=>rw [hg] at h;exact h
 |none=>rw [hg] at h;exact hz.h w O u h
theorem zcp (d:V) {zv:Value} (hx:f x=some (.v (.map (some r)))) (hy:f y=some kv) [hkv:KeyV kv (enc k)] [hm:HasMap h r i (zag enc (zb6 g m))] [hu:Und P T (.map kt et)] [hkt:KeyT P kt enc] [hz:ZerV P et zv] [hd:ZV zv (g d)]:
 QR P h f ⟨dst,.lookup T x y false,ty,pos,after,guard⟩ (g ((zb2 k m).getD d)):=
 zs7 (fun w O v hr=>zpa hr) (zq1 hx hy rfl)
theorem zq2 (d:V) {zv:Value} {b:Bool} (hx:f x=some (.v (.map (some r)))) (hy:f y=some kv) [hkv:KeyV kv (enc k)] [hm:HasMap h r i (zag enc (zb6 g m))] [hu:Und P T (.map kt et)] [hkt:KeyT P kt enc] [hz:ZerV P et zv] [hd:ZV zv (g d)]
 (hb:(zb2 k m).isSome=b):QR P h f ⟨dst,.lookup T x y true,ty,pos,after,guard⟩ (.tup [g ((zb2 k m).getD d),.v (.bool b)]):=
 zs7 (fun w O v hr=>by
  cases hr with
  |tup _ cs hl hr=>
   refine .tup _ _ (by simpa using hl) fun j h1 h2=> ?_
   match j,h1,h2 with
   |0,_,h2=>exact zpa (hr 0 (by simp) h2)
   |1,_,h2=>exact hr 1 (by simp) h2
   |j+2,h1,_=>simp at h1;omega) (zxb hx hy rfl (b:=b) (by rw [zjy,Option.isSome_map];exact hb))
theorem zzx (d:V) {zv:Value} {j st:Nat} (hx:f x=some (.v (.map (some r)))) (hy:f y=some kv) [hkv:KeyV kv (enc k)] [hm:HasMapE h r i (zag enc (zkk k (.v zv) (zb6 g m))) j st] [hu:Und P T (.map kt et)] [hkt:KeyT P kt enc] [hz:ZerV P et zv] [hd:ZV zv (g d)]:
 QR P h f ⟨dst,.lookup T x y false,ty,pos,after,guard⟩ (g ((zb2 k m).getD d)):=
 zs7 (fun w O v hr=>zpa hr) (ztb hx hy rfl)
theorem zby {v:V} (hx:ev t x=some (.v (.map (some r)))) (hy:ev t y=some kv) (hz:ev t z=some (g v)) [hkv:KeyV kv (enc k)] [hm:HasMap h r i (zag enc (zb6 g m))] [hu:Und P T (.map kt et)] [hkt:KeyT P kt enc]
 [hset:SetAt h i (.map r (zag enc (zb6 g (zfz k v m)))) h'] (hk:next ⟨t,h',ds⟩):OE P ro nt ⟨none,.mapUpdate T x y z,ty,pos,after,guard⟩ ⟨t,h,ds⟩ next:=by
 have:SetAt h i (.map r (zag enc (zno k (g v) (zb6 g m)))) h':=by rw [zlu];exact hset
 exact zke hx hy hz hk
theorem zjv {d:Tmp} {zv:Value} {h':Res→List Res} (hlt:dok nt (some d)=true) (hx:ev t x=some (.v (.map (some r)))) (hy:ev t y=some kv) [hkv:KeyV kv (enc k)] [hm:HasMap h r i (zag enc (zb6 g m))] [hu:Und P T (.map kt et)] [hkt:KeyT P kt enc] [hz:ZerV P et zv]
 [hset:∀y,SetAt h i y (h' y)] (hk:∀(j st:Nat),(∀v,(zag enc (zkk k (.v zv) (zb6 g m))).modify j (fun p=>(p.1,g v))=zag enc (zb6 g (zfz k v m)))→
  next ⟨(d,.tup [(zds k (zb6 g m)).getD (.v zv),.v (.int .i64 st)])::t,h' (.mape r (zag enc (zkk k (.v zv) (zb6 g m))) j st),ds⟩):
 OE P ro nt ⟨some d,.mapEntry T x y,ty,pos,after,guard⟩ ⟨t,h,ds⟩ next:=
 zti hlt hx hy fun j st hj=>hk j st fun v=>by rw [hj (g v),zlu]
theorem zmf {v:V} {j st:Nat} {es':List (Value×AV)} (hx:ev t x=some (.v (.map (some r)))) (hy:ev t y=some (.v (.int .i64 st))) (hz:ev t z=some (g v)) [hm:HasMapE h r i es' j st] (he:es'.modify j (fun p=>(p.1,g v))=zag enc (zb6 g (zfz k v m)))
 [hset:SetAt h i (.map r (zag enc (zb6 g (zfz k v m)))) h'] (hk:next ⟨t,h',ds⟩):OE P ro nt ⟨none,.entryStore T x y z,ty,pos,after,guard⟩ ⟨t,h,ds⟩ next:=
 zo4 hx hy hz he hk
theorem ytb {d:Tmp} {op:Op} {av:AV} (hq:QR P h (ev t) ⟨some d,op,ty,pos,after,guard⟩ av) (hk:next ⟨(d,av)::t,h,ds⟩) (hd:dok nt (some d)=true:=by rfl) (hn:zbb ⟨some d,op,ty,pos,after,guard⟩=true:=by rfl):
 OE P ro nt ⟨some d,op,ty,pos,after,guard⟩ ⟨t,h,ds⟩ next:=fun X a w K Q hs hK=>
 zgc hq hn X a w K Q hs.env fun v w' hr hh hkp=>hK _ _ _ hk (Sim.put (s:=⟨t,h,ds⟩) ⟨hh,hs.size,hs.fr.keep hkp.size (fun b hb hl=>hkp.oo b hb hl),hs.defs⟩ hd hr) hkp
theorem zn0 {tys:List TypeId} (hx:f x=some (.v (.map (some r)))) [hm:HasMap h r i (zag enc (zb6 g m))] [hu:Und P T (.map kt et)]:QR P h f ⟨dst,.call ⟨.builtin .len,[x].toArray,(T::tys).toArray⟩,ty,pos,after,guard⟩ (.v (.int .i64 m.length)):=fun X ρ w he=>by
 obtain ⟨ents,clock,h1,h2,_⟩:=he.heap.holds _ (List.mem_of_getElem? hm.h)
 refine ⟨.int .i64 m.length,?_,.v _⟩
 have hl:m.length=ents.size:=by simpa [zag,zb6] using h2
 simp only [execOp,resolve,List.map_toArray,List.map_cons,List.map_nil,(he.rel x _ hx).v_eq,Sem.run_bind,Sem.run_pure,Result.andThen_ok,invoke,builtin,Builtin.len_,List.getElem?_toArray,List.getElem?_cons_zero,run_underlying (h:=hu),MapKept.run_getObj_map h1,hl]
 rfl
end
end Go.Ab
set_option maxRecDepth 10000
namespace Go.Proofs
open Go Go.Ab
attribute [local irreducible] QR QV OE zcw aw zdx zcv zb3 za2 thn zgt zeq jch zf2
open Go.H
instance:Chk2 Tryz.prog 297:=⟨fun e w a b=>by kernel_rfl⟩
instance:Chk3 Tryz.prog 299:=⟨fun e w a b c=>by kernel_rfl⟩
abbrev mpv (r:Nat):AV:= .v (.map (some r))
abbrev nmp:AV:= .v (.map none)
abbrev zwn (v:Ver):AV:= .agg (ydc v)
instance:ZV (.agg #[.int .i64 0,.int .i64 0]) (zwn ⟨0,0⟩):=ZV.agg2
abbrev zbz (h:Hist):List AV:=x5 h++ [nmp,nmp,nmp,nmp,nmp]
abbrev ye5 (h:Hist) (r1 r2 r3 r4 r5:Nat):List AV:=x5 h++ [mpv r1,mpv r2,mpv r3,mpv r4,mpv r5]
abbrev zcz (bl:Nat) (h:Hist) (p:List Ev) (r1 r2 r3 r4 r5:Nat) (W:List Res):List Res:= .box bl 203 (ye5 h r1 r2 r3 r4 r5):: .map r1 (zag zcl (zb6 bv (yc3 p))):: .map r2 (zag zcl (zb6 bv (yc0 p)))::
 .map r3 (zag zd6 (zb6 iv (zwl p))):: .map r4 (zag zd6 (zb6 zwn (zqc p))):: .map r5 (zag zfl (zb6 bv (ycy p)))::W
def za6:Option Nat→AV
 |some i=> .tup [iv i,bv true]
 |none=> .tup [iv 0,bv false]
theorem zrm {full:Bool} (l:List Int) (fv:AV) (p:Int→Bool) (G:List Res) (hp:∀a∈l,y3 Tryz.prog fv [iv a] G (fun r h'=>h'=G∧r=bv (p a))) (hlen:l.length≤4611686018427387904):x4 Tryz.prog 76 [.list full 1 (l.map zad),fv] G (fun r h'=>h'=G∧r=iv (zbh p 0 l)):=by
 refine z6 Tryz.func76 rfl rfl rfl ?_
 refine rn ?_;refine j3 (fun k:Nat=>k≤l.length∧zbh p 0 l=zbh p k (l.drop k)) (fun k=>⟨[(8,iv k),(7,iv (l.map zad).length),(0,.list full 1 (l.map zad)),(1,fv)],G,[]⟩) (fun k=>l.length - k) 0 ⟨Nat.zero_le _,by simp⟩
  (w8 (.cons _ _ _ rfl (.cons _ _ _ rfl (.cons _ _ _ rfl (.cons _ _ _ rfl (.nil)))))) ?_
 rintro k ⟨hk,hnot⟩
 refine rn ?_;refine z7 rfl (fun hc9=> ?_) (fun hc9=> ?_)
 ·have hk2:k < l.length:=by simpa using hc9
  have hrow:(l.map zad)[k]? =some (zad l[k]):=by simp [hk2]
  have hd:=List.drop_eq_getElem_cons hk2
  refine rn ?_;refine qv rfl rfl (y4 rfl rfl (hp l[k] (by simp))) ?_
  refine rn ?_;refine z7 rfl (fun hc16=> ?_) (fun hc16=> ?_)
  ·refine rn ?_;exact u9 rfl (.refl _ _) ⟨rfl,by rw [hnot,hd,zbh,if_pos hc16];rfl⟩
  ·refine rn ?_;exact ⟨k+1,⟨by omega,by rw [hnot,hd,zbh,if_neg (by simp [hc16])]⟩,(w8 (.cons _ _ _ rfl (.cons _ _ _ rfl (.cons _ _ _ rfl (.cons _ _ _ rfl (.nil)))))),by omega⟩
 ·have hk3:k=l.length:=by
   have:l.length≤k:=by simpa using hc9
   omega
  refine rn ?_;exact u9 rfl (.refl _ _) ⟨rfl,by rw [hnot,hk3,List.drop_length,zbh];rfl⟩
theorem zhe {full:Bool} (l:List Int) (fv:AV) (p:Int→Bool) (G:List Res) (hp:∀a∈l,y3 Tryz.prog fv [iv a] G (fun r h'=>h'=G∧r=bv (p a))) (hlen:l.length≤4611686018427387904):x4 Tryz.prog 171 [.list full 1 (l.map zad),fv] G (fun r h'=>h'=G∧r=bv (l.any p)):=by
 refine z6 Tryz.func171 rfl rfl rfl ?_
 refine rn ?_;refine qv rfl rfl (y4 rfl rfl (y3.of_fun (zrm l _ p G hp hlen))) ?_
 refine rn ?_;exact u9 rfl (.refl _ _) ⟨rfl,by simp only [←zeh p l 0];rfl⟩
theorem yco (a:Int) (fv:AV) (v:Bool) (b:Nat) (G:List Res) (hp:y3 Tryz.prog fv [iv a] G (fun r h'=>h'=G∧r=bv v)):x4 Tryz.prog 172 [iv a,pZ b] (.box b 42 [fv]::G) (fun r h'=>h'= .box b 42 [fv]::G∧r=bv (!v)):=by
 refine z6 Tryz.func172 rfl rfl rfl ?_
 refine rn ?_;refine qv rfl rfl (y4 rfl rfl (y3.quiet (R:=fun x=>x=bv v) (h2:= [_]) (List.perm_append_comm (l₁:= [_])) hp)) ?_
 refine rn ?_;exact u9 rfl (.refl _ _) ⟨rfl,rfl⟩
theorem yp1 {full:Bool} (l:List Int) (fv:AV) (p:Int→Bool) (G:List Res) (hone:fv.cellsOf=some [fv]) (hp:∀a∈l,y3 Tryz.prog fv [iv a] G (fun r h'=>h'=G∧r=bv (p a))) (hlen:l.length≤4611686018427387904):x4 Tryz.prog 132 [.list full 1 (l.map zad),fv] G (fun r h'=>h'=G∧r=bv (l.all p)):=by
 refine z6 Tryz.func132 rfl rfl rfl ?_
 refine rn ?_;refine z8 rfl (x9 rfl hone rfl fun b3=> ?_)
 refine rn ?_;refine qv rfl rfl (y4 rfl rfl (y3.of_fun (zhe l _ (fun a=> !p a) (.box b3 42 [fv]::G) (fun a ha=>y3.of_acall (fs:= []) (cs:= [pZ b3]) (yco a fv (p a) b3 G (hp a ha))) hlen))) ?_
 refine rn ?_;exact u9 rfl (.drop1 _ _ _) ⟨rfl,by simp only [←zit p l];rfl⟩
theorem ztx {full:Bool} (l:List Ev) (fv:AV) (p:Ev→Bool) (G:List Res) (hp:∀a∈l,y3 Tryz.prog fv [.agg (evR a)] G (fun r h'=>h'=G∧r=bv (p a))) (hlen:l.length≤4611686018427387904):x4 Tryz.prog 202 [.list full 9 (l.map evR),fv] G (fun r h'=>h'=G∧r=iv (zbh p 0 l)):=by
 refine z6 Tryz.func202 rfl rfl rfl ?_
 refine rn ?_;refine j3 (fun k:Nat=>k≤l.length∧zbh p 0 l=zbh p k (l.drop k)) (fun k=>⟨[(8,iv k),(7,iv (l.map evR).length),(0,.list full 9 (l.map evR)),(1,fv)],G,[]⟩) (fun k=>l.length - k) 0 ⟨Nat.zero_le _,by simp⟩
  (w8 (.cons _ _ _ rfl (.cons _ _ _ rfl (.cons _ _ _ rfl (.cons _ _ _ rfl (.nil)))))) ?_
 rintro k ⟨hk,hnot⟩
 refine rn ?_;refine z7 rfl (fun hc9=> ?_) (fun hc9=> ?_)
 ·have hk2:k < l.length:=by simpa using hc9
  have hrow:(l.map evR)[k]? =some (evR l[k]):=by simp [hk2]
  have hd:=List.drop_eq_getElem_cons hk2
  refine rn ?_;refine qv rfl rfl (y4 rfl rfl (hp l[k] (by simp))) ?_
  refine rn ?_;refine z7 rfl (fun hc16=> ?_) (fun hc16=> ?_)
  ·refine rn ?_;exact u9 rfl (.refl _ _) ⟨rfl,by rw [hnot,hd,zbh,if_pos hc16];rfl⟩
  ·refine rn ?_;exact ⟨k+1,⟨by omega,by rw [hnot,hd,zbh,if_neg (by simp [hc16])]⟩,(w8 (.cons _ _ _ rfl (.cons _ _ _ rfl (.cons _ _ _ rfl (.cons _ _ _ rfl (.nil)))))),by omega⟩
 ·have hk3:k=l.length:=by
   have:l.length≤k:=by simpa using hc9
   omega
  refine rn ?_;exact u9 rfl (.refl _ _) ⟨rfl,by rw [hnot,hk3,List.drop_length,zbh];rfl⟩
theorem zid {full:Bool} (l:List Ev) (fv:AV) (p:Ev→Bool) (G:List Res) (hp:∀a∈l,y3 Tryz.prog fv [.agg (evR a)] G (fun r h'=>h'=G∧r=bv (p a))) (hlen:l.length≤4611686018427387904):x4 Tryz.prog 173 [.list full 9 (l.map evR),fv] G (fun r h'=>h'=G∧r=bv (l.any p)):=by
 refine z6 Tryz.func173 rfl rfl rfl ?_
 refine rn ?_;refine qv rfl rfl (y4 rfl rfl (y3.of_fun (ztx l _ p G hp hlen))) ?_
 refine rn ?_;exact u9 rfl (.refl _ _) ⟨rfl,by simp only [←zeh p l 0];rfl⟩
theorem ygf (a:Ev) (fv:AV) (v:Bool) (b:Nat) (G:List Res) (hp:y3 Tryz.prog fv [.agg (evR a)] G (fun r h'=>h'=G∧r=bv v)):x4 Tryz.prog 174 [.agg (evR a),pZ b] (.box b 210 [fv]::G) (fun r h'=>h'= .box b 210 [fv]::G∧r=bv (!v)):=by
 refine z6 Tryz.func174 rfl rfl rfl ?_
 refine rn ?_;refine z8 rfl (x9 rfl rfl rfl fun b2=> ?_)
 refine rn ?_;refine qv rfl rfl (y4 rfl rfl (y3.quiet (R:=fun x=>x=bv v) (h2:= [_,_]) (List.perm_append_comm (l₁:= [_,_])) hp)) ?_
 refine rn ?_;exact u9 rfl (.drop1 _ _ _) ⟨rfl,rfl⟩
theorem ysb {full:Bool} (l:List Ev) (fv:AV) (p:Ev→Bool) (G:List Res) (hone:fv.cellsOf=some [fv]) (hp:∀a∈l,y3 Tryz.prog fv [.agg (evR a)] G (fun r h'=>h'=G∧r=bv (p a))) (hlen:l.length≤4611686018427387904):x4 Tryz.prog 135 [.list full 9 (l.map evR),fv] G (fun r h'=>h'=G∧r=bv (l.all p)):=by
 refine z6 Tryz.func135 rfl rfl rfl ?_
 refine rn ?_;refine z8 rfl (x9 rfl hone rfl fun b3=> ?_)
 refine rn ?_;refine qv rfl rfl (y4 rfl rfl (y3.of_fun (zid l _ (fun a=> !p a) (.box b3 210 [fv]::G) (fun a ha=>y3.of_acall (fs:= []) (cs:= [pZ b3]) (ygf a fv (p a) b3 G (hp a ha))) hlen))) ?_
 refine rn ?_;exact u9 rfl (.drop1 _ _ _) ⟨rfl,by simp only [←zit p l];rfl⟩
theorem zkj {full:Bool} (l:List Ord) (fv:AV) (p:Ord→Bool) (G:List Res) (hp:∀a∈l,y3 Tryz.prog fv [.agg (zdk a)] G (fun r h'=>h'=G∧r=bv (p a))) (hlen:l.length≤4611686018427387904):x4 Tryz.prog 159 [.list full 2 (l.map zdk),fv] G (fun r h'=>h'=G∧r=iv (zbh p 0 l)):=by
 refine z6 Tryz.func159 rfl rfl rfl ?_
 refine rn ?_;refine j3 (fun k:Nat=>k≤l.length∧zbh p 0 l=zbh p k (l.drop k)) (fun k=>⟨[(8,iv k),(7,iv (l.map zdk).length),(0,.list full 2 (l.map zdk)),(1,fv)],G,[]⟩) (fun k=>l.length - k) 0 ⟨Nat.zero_le _,by simp⟩
  (w8 (.cons _ _ _ rfl (.cons _ _ _ rfl (.cons _ _ _ rfl (.cons _ _ _ rfl (.nil)))))) ?_
 rintro k ⟨hk,hnot⟩
 refine rn ?_;refine z7 rfl (fun hc9=> ?_) (fun hc9=> ?_)
 ·have hk2:k < l.length:=by simpa using hc9
  have hrow:(l.map zdk)[k]? =some (zdk l[k]):=by simp [hk2]
  have hd:=List.drop_eq_getElem_cons hk2
  refine rn ?_;refine qv rfl rfl (y4 rfl rfl (hp l[k] (by simp))) ?_
  refine rn ?_;refine z7 rfl (fun hc16=> ?_) (fun hc16=> ?_)
  ·refine rn ?_;exact u9 rfl (.refl _ _) ⟨rfl,by rw [hnot,hd,zbh,if_pos hc16];rfl⟩
  ·refine rn ?_;exact ⟨k+1,⟨by omega,by rw [hnot,hd,zbh,if_neg (by simp [hc16])]⟩,(w8 (.cons _ _ _ rfl (.cons _ _ _ rfl (.cons _ _ _ rfl (.cons _ _ _ rfl (.nil)))))),by omega⟩
 ·have hk3:k=l.length:=by
   have:l.length≤k:=by simpa using hc9
   omega
  refine rn ?_;exact u9 rfl (.refl _ _) ⟨rfl,by rw [hnot,hk3,List.drop_length,zbh];rfl⟩
theorem zez {full:Bool} (l:List Ord) (fv:AV) (p:Ord→Bool) (G:List Res) (hp:∀a∈l,y3 Tryz.prog fv [.agg (zdk a)] G (fun r h'=>h'=G∧r=bv (p a))) (hlen:l.length≤4611686018427387904):x4 Tryz.prog 185 [.list full 2 (l.map zdk),fv] G (fun r h'=>h'=G∧r=bv (l.any p)):=by
 refine z6 Tryz.func185 rfl rfl rfl ?_
 refine rn ?_;refine qv rfl rfl (y4 rfl rfl (y3.of_fun (zkj l _ p G hp hlen))) ?_
 refine rn ?_;exact u9 rfl (.refl _ _) ⟨rfl,by simp only [←zeh p l 0];rfl⟩
theorem ycm (a:Ord) (fv:AV) (v:Bool) (b:Nat) (G:List Res) (hp:y3 Tryz.prog fv [.agg (zdk a)] G (fun r h'=>h'=G∧r=bv v)):x4 Tryz.prog 186 [.agg (zdk a),pZ b] (.box b 212 [fv]::G) (fun r h'=>h'= .box b 212 [fv]::G∧r=bv (!v)):=by
 refine z6 Tryz.func186 rfl rfl rfl ?_
 refine rn ?_;refine z8 rfl (x9 rfl rfl rfl fun b2=> ?_)
 refine rn ?_;refine qv rfl rfl (y4 rfl rfl (y3.quiet (R:=fun x=>x=bv v) (h2:= [_,_]) (List.perm_append_comm (l₁:= [_,_])) hp)) ?_
 refine rn ?_;exact u9 rfl (.drop1 _ _ _) ⟨rfl,rfl⟩
theorem ypz {full:Bool} (l:List Ord) (fv:AV) (p:Ord→Bool) (G:List Res) (hone:fv.cellsOf=some [fv]) (hp:∀a∈l,y3 Tryz.prog fv [.agg (zdk a)] G (fun r h'=>h'=G∧r=bv (p a))) (hlen:l.length≤4611686018427387904):x4 Tryz.prog 138 [.list full 2 (l.map zdk),fv] G (fun r h'=>h'=G∧r=bv (l.all p)):=by
 refine z6 Tryz.func138 rfl rfl rfl ?_
 refine rn ?_;refine z8 rfl (x9 rfl hone rfl fun b3=> ?_)
 refine rn ?_;refine qv rfl rfl (y4 rfl rfl (y3.of_fun (zez l _ (fun a=> !p a) (.box b3 212 [fv]::G) (fun a ha=>y3.of_acall (fs:= []) (cs:= [pZ b3]) (ycm a fv (p a) b3 G (hp a ha))) hlen))) ?_
 refine rn ?_;exact u9 rfl (.drop1 _ _ _) ⟨rfl,by simp only [←zit p l];rfl⟩
theorem zrl {full:Bool} (l:List Mat) (fv:AV) (p:Mat→Bool) (G:List Res) (hp:∀a∈l,y3 Tryz.prog fv [.agg (ze4 a)] G (fun r h'=>h'=G∧r=bv (p a))) (hlen:l.length≤4611686018427387904):x4 Tryz.prog 205 [.list full 4 (l.map ze4),fv] G (fun r h'=>h'=G∧r=iv (zbh p 0 l)):=by
 refine z6 Tryz.func205 rfl rfl rfl ?_
 refine rn ?_;refine j3 (fun k:Nat=>k≤l.length∧zbh p 0 l=zbh p k (l.drop k)) (fun k=>⟨[(8,iv k),(7,iv (l.map ze4).length),(0,.list full 4 (l.map ze4)),(1,fv)],G,[]⟩) (fun k=>l.length - k) 0 ⟨Nat.zero_le _,by simp⟩
  (w8 (.cons _ _ _ rfl (.cons _ _ _ rfl (.cons _ _ _ rfl (.cons _ _ _ rfl (.nil)))))) ?_
 rintro k ⟨hk,hnot⟩
 refine rn ?_;refine z7 rfl (fun hc9=> ?_) (fun hc9=> ?_)
 ·have hk2:k < l.length:=by simpa using hc9
  have hrow:(l.map ze4)[k]? =some (ze4 l[k]):=by simp [hk2]
  have hd:=List.drop_eq_getElem_cons hk2
  refine rn ?_;refine qv rfl rfl (y4 rfl rfl (hp l[k] (by simp))) ?_
  refine rn ?_;refine z7 rfl (fun hc16=> ?_) (fun hc16=> ?_)
  ·refine rn ?_;exact u9 rfl (.refl _ _) ⟨rfl,by rw [hnot,hd,zbh,if_pos hc16];rfl⟩
  ·refine rn ?_;exact ⟨k+1,⟨by omega,by rw [hnot,hd,zbh,if_neg (by simp [hc16])]⟩,(w8 (.cons _ _ _ rfl (.cons _ _ _ rfl (.cons _ _ _ rfl (.cons _ _ _ rfl (.nil)))))),by omega⟩
 ·have hk3:k=l.length:=by
   have:l.length≤k:=by simpa using hc9
   omega
  refine rn ?_;exact u9 rfl (.refl _ _) ⟨rfl,by rw [hnot,hk3,List.drop_length,zbh];rfl⟩
theorem zhd {full:Bool} (l:List Mat) (fv:AV) (p:Mat→Bool) (G:List Res) (hp:∀a∈l,y3 Tryz.prog fv [.agg (ze4 a)] G (fun r h'=>h'=G∧r=bv (p a))) (hlen:l.length≤4611686018427387904):x4 Tryz.prog 187 [.list full 4 (l.map ze4),fv] G (fun r h'=>h'=G∧r=bv (l.any p)):=by
 refine z6 Tryz.func187 rfl rfl rfl ?_
 refine rn ?_;refine qv rfl rfl (y4 rfl rfl (y3.of_fun (zrl l _ p G hp hlen))) ?_
 refine rn ?_;exact u9 rfl (.refl _ _) ⟨rfl,by simp only [←zeh p l 0];rfl⟩
theorem ycn (a:Mat) (fv:AV) (v:Bool) (b:Nat) (G:List Res) (hp:y3 Tryz.prog fv [.agg (ze4 a)] G (fun r h'=>h'=G∧r=bv v)):x4 Tryz.prog 188 [.agg (ze4 a),pZ b] (.box b 214 [fv]::G) (fun r h'=>h'= .box b 214 [fv]::G∧r=bv (!v)):=by
 refine z6 Tryz.func188 rfl rfl rfl ?_
 refine rn ?_;refine z8 rfl (x9 rfl rfl rfl fun b2=> ?_)
 refine rn ?_;refine qv rfl rfl (y4 rfl rfl (y3.quiet (R:=fun x=>x=bv v) (h2:= [_,_]) (List.perm_append_comm (l₁:= [_,_])) hp)) ?_
 refine rn ?_;exact u9 rfl (.drop1 _ _ _) ⟨rfl,rfl⟩
theorem yp0 {full:Bool} (l:List Mat) (fv:AV) (p:Mat→Bool) (G:List Res) (hone:fv.cellsOf=some [fv]) (hp:∀a∈l,y3 Tryz.prog fv [.agg (ze4 a)] G (fun r h'=>h'=G∧r=bv (p a))) (hlen:l.length≤4611686018427387904):x4 Tryz.prog 140 [.list full 4 (l.map ze4),fv] G (fun r h'=>h'=G∧r=bv (l.all p)):=by
 refine z6 Tryz.func140 rfl rfl rfl ?_
 refine rn ?_;refine z8 rfl (x9 rfl hone rfl fun b3=> ?_)
 refine rn ?_;refine qv rfl rfl (y4 rfl rfl (y3.of_fun (zhd l _ (fun a=> !p a) (.box b3 214 [fv]::G) (fun a ha=>y3.of_acall (fs:= []) (cs:= [pZ b3]) (ycn a fv (p a) b3 G (hp a ha))) hlen))) ?_
 refine rn ?_;exact u9 rfl (.drop1 _ _ _) ⟨rfl,by simp only [←zit p l];rfl⟩
theorem zrk {full:Bool} (l:List Wan) (fv:AV) (p:Wan→Bool) (G:List Res) (hp:∀a∈l,y3 Tryz.prog fv [.agg (zff a)] G (fun r h'=>h'=G∧r=bv (p a))) (hlen:l.length≤4611686018427387904):x4 Tryz.prog 102 [.list full 2 (l.map zff),fv] G (fun r h'=>h'=G∧r=iv (zbh p 0 l)):=by
 refine z6 Tryz.func102 rfl rfl rfl ?_
 refine rn ?_;refine j3 (fun k:Nat=>k≤l.length∧zbh p 0 l=zbh p k (l.drop k)) (fun k=>⟨[(8,iv k),(7,iv (l.map zff).length),(0,.list full 2 (l.map zff)),(1,fv)],G,[]⟩) (fun k=>l.length - k) 0 ⟨Nat.zero_le _,by simp⟩
  (w8 (.cons _ _ _ rfl (.cons _ _ _ rfl (.cons _ _ _ rfl (.cons _ _ _ rfl (.nil)))))) ?_
 rintro k ⟨hk,hnot⟩
 refine rn ?_;refine z7 rfl (fun hc9=> ?_) (fun hc9=> ?_)
 ·have hk2:k < l.length:=by simpa using hc9
  have hrow:(l.map zff)[k]? =some (zff l[k]):=by simp [hk2]
  have hd:=List.drop_eq_getElem_cons hk2
  refine rn ?_;refine qv rfl rfl (y4 rfl rfl (hp l[k] (by simp))) ?_
  refine rn ?_;refine z7 rfl (fun hc16=> ?_) (fun hc16=> ?_)
  ·refine rn ?_;exact u9 rfl (.refl _ _) ⟨rfl,by rw [hnot,hd,zbh,if_pos hc16];rfl⟩
  ·refine rn ?_;exact ⟨k+1,⟨by omega,by rw [hnot,hd,zbh,if_neg (by simp [hc16])]⟩,(w8 (.cons _ _ _ rfl (.cons _ _ _ rfl (.cons _ _ _ rfl (.cons _ _ _ rfl (.nil)))))),by omega⟩
 ·have hk3:k=l.length:=by
   have:l.length≤k:=by simpa using hc9
   omega
  refine rn ?_;exact u9 rfl (.refl _ _) ⟨rfl,by rw [hnot,hk3,List.drop_length,zbh];rfl⟩
theorem zhc {full:Bool} (l:List Wan) (fv:AV) (p:Wan→Bool) (G:List Res) (hp:∀a∈l,y3 Tryz.prog fv [.agg (zff a)] G (fun r h'=>h'=G∧r=bv (p a))) (hlen:l.length≤4611686018427387904):x4 Tryz.prog 49 [.list full 2 (l.map zff),fv] G (fun r h'=>h'=G∧r=bv (l.any p)):=by
 refine z6 Tryz.func49 rfl rfl rfl ?_
 refine rn ?_;refine qv rfl rfl (y4 rfl rfl (y3.of_fun (zrk l _ p G hp hlen))) ?_
 refine rn ?_;exact u9 rfl (.refl _ _) ⟨rfl,by simp only [←zeh p l 0];rfl⟩
theorem ycl (a:Wan) (fv:AV) (v:Bool) (b:Nat) (G:List Res) (hp:y3 Tryz.prog fv [.agg (zff a)] G (fun r h'=>h'=G∧r=bv v)):x4 Tryz.prog 189 [.agg (zff a),pZ b] (.box b 94 [fv]::G) (fun r h'=>h'= .box b 94 [fv]::G∧r=bv (!v)):=by
 refine z6 Tryz.func189 rfl rfl rfl ?_
 refine rn ?_;refine z8 rfl (x9 rfl rfl rfl fun b2=> ?_)
 refine rn ?_;refine qv rfl rfl (y4 rfl rfl (y3.quiet (R:=fun x=>x=bv v) (h2:= [_,_]) (List.perm_append_comm (l₁:= [_,_])) hp)) ?_
 refine rn ?_;exact u9 rfl (.drop1 _ _ _) ⟨rfl,rfl⟩
theorem ypy {full:Bool} (l:List Wan) (fv:AV) (p:Wan→Bool) (G:List Res) (hone:fv.cellsOf=some [fv]) (hp:∀a∈l,y3 Tryz.prog fv [.agg (zff a)] G (fun r h'=>h'=G∧r=bv (p a))) (hlen:l.length≤4611686018427387904):x4 Tryz.prog 142 [.list full 2 (l.map zff),fv] G (fun r h'=>h'=G∧r=bv (l.all p)):=by
 refine z6 Tryz.func142 rfl rfl rfl ?_
 refine rn ?_;refine z8 rfl (x9 rfl hone rfl fun b3=> ?_)
 refine rn ?_;refine qv rfl rfl (y4 rfl rfl (y3.of_fun (zhc l _ (fun a=> !p a) (.box b3 94 [fv]::G) (fun a ha=>y3.of_acall (fs:= []) (cs:= [pZ b3]) (ycl a fv (p a) b3 G (hp a ha))) hlen))) ?_
 refine rn ?_;exact u9 rfl (.drop1 _ _ _) ⟨rfl,by simp only [←zit p l];rfl⟩
theorem zpg {full:Bool} (l:List Seen) (fv:AV) (p:Seen→Bool) (G:List Res) (hp:∀a∈l,y3 Tryz.prog fv [.agg (zaz a)] G (fun r h'=>h'=G∧r=bv (p a))) (hlen:l.length≤4611686018427387904):x4 Tryz.prog 222 [.list full 3 (l.map zaz),fv] G (fun r h'=>h'=G∧r=iv (zbh p 0 l)):=by
 refine z6 Tryz.func222 rfl rfl rfl ?_
 refine rn ?_;refine j3 (fun k:Nat=>k≤l.length∧zbh p 0 l=zbh p k (l.drop k)) (fun k=>⟨[(8,iv k),(7,iv (l.map zaz).length),(0,.list full 3 (l.map zaz)),(1,fv)],G,[]⟩) (fun k=>l.length - k) 0 ⟨Nat.zero_le _,by simp⟩
  (w8 (.cons _ _ _ rfl (.cons _ _ _ rfl (.cons _ _ _ rfl (.cons _ _ _ rfl (.nil)))))) ?_
 rintro k ⟨hk,hnot⟩
 refine rn ?_;refine z7 rfl (fun hc9=> ?_) (fun hc9=> ?_)
 ·have hk2:k < l.length:=by simpa using hc9
  have hrow:(l.map zaz)[k]? =some (zaz l[k]):=by simp [hk2]
  have hd:=List.drop_eq_getElem_cons hk2
  refine rn ?_;refine qv rfl rfl (y4 rfl rfl (hp l[k] (by simp))) ?_
  refine rn ?_;refine z7 rfl (fun hc16=> ?_) (fun hc16=> ?_)
  ·refine rn ?_;exact u9 rfl (.refl _ _) ⟨rfl,by rw [hnot,hd,zbh,if_pos hc16];rfl⟩
  ·refine rn ?_;exact ⟨k+1,⟨by omega,by rw [hnot,hd,zbh,if_neg (by simp [hc16])]⟩,(w8 (.cons _ _ _ rfl (.cons _ _ _ rfl (.cons _ _ _ rfl (.cons _ _ _ rfl (.nil)))))),by omega⟩
 ·have hk3:k=l.length:=by
   have:l.length≤k:=by simpa using hc9
   omega
  refine rn ?_;exact u9 rfl (.refl _ _) ⟨rfl,by rw [hnot,hk3,List.drop_length,zbh];rfl⟩
theorem zei {full:Bool} (l:List Seen) (fv:AV) (p:Seen→Bool) (G:List Res) (hp:∀a∈l,y3 Tryz.prog fv [.agg (zaz a)] G (fun r h'=>h'=G∧r=bv (p a))) (hlen:l.length≤4611686018427387904):x4 Tryz.prog 203 [.list full 3 (l.map zaz),fv] G (fun r h'=>h'=G∧r=bv (l.any p)):=by
 refine z6 Tryz.func203 rfl rfl rfl ?_
 refine rn ?_;refine qv rfl rfl (y4 rfl rfl (y3.of_fun (zpg l _ p G hp hlen))) ?_
 refine rn ?_;exact u9 rfl (.refl _ _) ⟨rfl,by simp only [←zeh p l 0];rfl⟩
theorem zx0 (a:Seen) (fv:AV) (v:Bool) (b:Nat) (G:List Res) (hp:y3 Tryz.prog fv [.agg (zaz a)] G (fun r h'=>h'=G∧r=bv v)):x4 Tryz.prog 204 [.agg (zaz a),pZ b] (.box b 248 [fv]::G) (fun r h'=>h'= .box b 248 [fv]::G∧r=bv (!v)):=by
 refine z6 Tryz.func204 rfl rfl rfl ?_
 refine rn ?_;refine z8 rfl (x9 rfl rfl rfl fun b2=> ?_)
 refine rn ?_;refine qv rfl rfl (y4 rfl rfl (y3.quiet (R:=fun x=>x=bv v) (h2:= [_,_]) (List.perm_append_comm (l₁:= [_,_])) hp)) ?_
 refine rn ?_;exact u9 rfl (.drop1 _ _ _) ⟨rfl,rfl⟩
theorem yl2 {full:Bool} (l:List Seen) (fv:AV) (p:Seen→Bool) (G:List Res) (hone:fv.cellsOf=some [fv]) (hp:∀a∈l,y3 Tryz.prog fv [.agg (zaz a)] G (fun r h'=>h'=G∧r=bv (p a))) (hlen:l.length≤4611686018427387904):x4 Tryz.prog 182 [.list full 3 (l.map zaz),fv] G (fun r h'=>h'=G∧r=bv (l.all p)):=by
 refine z6 Tryz.func182 rfl rfl rfl ?_
 refine rn ?_;refine z8 rfl (x9 rfl hone rfl fun b3=> ?_)
 refine rn ?_;refine qv rfl rfl (y4 rfl rfl (y3.of_fun (zei l _ (fun a=> !p a) (.box b3 248 [fv]::G) (fun a ha=>y3.of_acall (fs:= []) (cs:= [pZ b3]) (zx0 a fv (p a) b3 G (hp a ha))) hlen))) ?_
 refine rn ?_;exact u9 rfl (.drop1 _ _ _) ⟨rfl,by simp only [←zit p l];rfl⟩
theorem yne (e:Ev):x4 Tryz.prog 263 [.agg (evR e)] [] (fun r h'=>h'= []∧r=zka (v8 e)):=by
 refine z6 Tryz.func263 rfl rfl rfl ?_
 refine rn ?_;refine z8 rfl (x9 rfl rfl rfl fun b1=> ?_)
 refine rn ?_;refine z7 rfl (fun hc5=> ?_) (fun hc5=> ?_)
 ·refine rn ?_;refine qv rfl rfl (q9 rfl rfl) ?_
  refine rn ?_;exact u9 rfl (.trans (.drop [_] _ _) (.le Sb.unfull.le)) ⟨rfl,by rw [v8,if_pos (by simpa using hc5)];rfl⟩
 ·refine rn ?_;refine rq 1 ?_
  exact ⟨rfl,by rw [v8,if_neg (by simpa using hc5)];rfl⟩
theorem yjw (e:Ev) (bl bp:Nat) (h:Hist) (p:List Ev) (r1 r2 r3 r4 r5:Nat):x4 Tryz.prog 259 [.agg (evR e),pZ bp] (zcz bl h p r1 r2 r3 r4 r5 [.box bp 198 [pZ bl]]) (fun r h'=>h'=(zcz bl h p r1 r2 r3 r4 r5 [.box bp 198 [pZ bl]])∧r=bv (zav 1 e p)):=by
 refine z6 Tryz.func259 rfl rfl rfl ?_
 refine rn ?_;refine z8 rfl (x9 rfl rfl rfl fun b2=> ?_)
 refine rn ?_;refine j6 10 rfl ?_
 refine dq rfl rfl qrA ?_;refine dq rfl rfl qrA ?_;refine dq rfl rfl qrA ?_;refine dq rfl rfl qrA ?_;refine dq rfl rfl qrA ?_;refine dq rfl rfl qrA ?_;refine dq rfl rfl (zcp (enc:=zcl) (k:=e.t) false rfl rfl) ?_
 refine rn ?_;refine rq 1 ?_
 exact ⟨rfl,congrArg bv (by rw [yf7];simp only [zav];cases zef p e.t <;> rfl)⟩
theorem yra (e:Ev) (bl bp:Nat) (h:Hist) (p:List Ev) (r1 r2 r3 r4 r5:Nat):x4 Tryz.prog 260 [.agg (evR e),pZ bp] (zcz bl h p r1 r2 r3 r4 r5 [.box bp 198 [pZ bl]]) (fun r h'=>h'=(zcz bl h p r1 r2 r3 r4 r5 [.box bp 198 [pZ bl]])∧r=bv (zav 2 e p)):=by
 refine z6 Tryz.func260 rfl rfl rfl ?_
 refine rn ?_;refine z8 rfl (x9 rfl rfl rfl fun b2=> ?_)
 refine rn ?_;refine j6 6 rfl ?_
 refine rn2 ?_;refine qq rfl rfl (zcp (enc:=zcl) (k:=e.t) false rfl rfl) ?_
 refine rn ?_;refine rq 1 ?_
 exact ⟨rfl,congrArg bv (by rw [yem];simp only [zav];cases zq7 p e.t <;> rfl)⟩
theorem yjv (e:Ev) (bl bp:Nat) (h:Hist) (p:List Ev) (r1 r2 r3 r4 r5:Nat) (hl:p.length≤1000000):x4 Tryz.prog 261 [.agg (evR e),pZ bp] (zcz bl h p r1 r2 r3 r4 r5 [.box bp 198 [pZ bl]]) (fun r h'=>h'=(zcz bl h p r1 r2 r3 r4 r5 [.box bp 198 [pZ bl]])∧r=bv (zav 3 e p)):=by
 refine z6 Tryz.func261 rfl rfl rfl ?_
 have hw:=zgu p e.t e.o
 refine rn ?_;refine z8 rfl (x9 rfl rfl rfl fun b2=> ?_)
 refine rn ?_;refine j6 18 rfl ?_
 refine rn ?_;refine zel (fun hg1_3=> ?_) (fun hg1_3=> ?_)
 ·refine dq rfl rfl qrA ?_;refine dq rfl rfl qrA ?_;refine dq rfl rfl qrA ?_;refine dq rfl rfl qrA ?_;refine dq rfl rfl qrA ?_;refine dq rfl rfl qrA ?_;refine dq rfl rfl qrA ?_;refine dq rfl rfl qrA ?_;refine dq rfl rfl qrA ?_;refine dq rfl rfl qrA ?_;refine dq rfl rfl qrA ?_;refine dq rfl rfl (zai (out:= [iv e.t,iv e.o]) rfl (by rfl)) ?_
  refine dq rfl rfl (zcp (enc:=zd6) (k:=(e.t,e.o)) 0 rfl rfl) ?_
  refine dq rfl rfl (k9 rfl rfl rfl (by rw [zky];omega)) ?_
  refine rn ?_;refine rq 1 ?_
  exact ⟨rfl,congrArg bv (by simp only [zav];rw [←zky];simp_all [bne])⟩
 ·refine rn ?_;refine rq 1 ?_
  exact ⟨rfl,congrArg bv (by simp only [zav];rw [←zky];simp_all [bne])⟩
theorem zw7 (s:Seen) (bl bp:Nat) (h:Hist) (p:List Ev) (r1 r2 r3 r4 r5:Nat):x4 Tryz.prog 264 [.agg (zaz s),pZ bp] (zcz bl h p r1 r2 r3 r4 r5 [.box bp 198 [pZ bl]]) (fun r h'=>h'=(zcz bl h p r1 r2 r3 r4 r5 [.box bp 198 [pZ bl]])∧r=bv (decide (s.v.k > 0) && !zeu p s.o s.v)):=by
 refine z6 Tryz.func264 rfl rfl rfl ?_
 refine rn ?_;refine z8 rfl (x9 rfl rfl rfl fun b2=> ?_)
 refine rn ?_;refine j6 14 rfl ?_
 refine rn ?_;refine zel (fun hg1_4=> ?_) (fun hg1_4=> ?_)
 ·refine dq rfl rfl qrA ?_;refine dq rfl rfl qrA ?_;refine dq rfl rfl qrA ?_;refine dq rfl rfl qrA ?_;refine dq rfl rfl qrA ?_;refine dq rfl rfl qrA ?_;refine dq rfl rfl qrA ?_;refine dq rfl rfl qrA ?_;refine dq rfl rfl (zai (out:= [iv s.o,iv s.v.t,iv s.v.k]) rfl (by rfl)) ?_
  refine rn2 ?_;refine qq rfl rfl (zcp (enc:=zfl) (k:=(s.o,s.v.t,s.v.k)) false rfl rfl) ?_
  refine rn ?_;refine rq 1 ?_
  exact ⟨rfl,congrArg bv (by first|(rw [zun];cases zeu p s.o s.v <;> simp_all;done)|(simp_all;done)|(simp_all <;> (intros;omega)))⟩
 ·refine rn ?_;refine rq 1 ?_
  exact ⟨rfl,congrArg bv (by first|(rw [zun];cases zeu p s.o s.v <;> simp_all;done)|(simp_all;done)|(simp_all <;> (intros;omega)))⟩
theorem zzq (e:Ev) (bl bp:Nat) (h:Hist) (p:List Ev) (r1 r2 r3 r4 r5:Nat) (hl:e.scan.length≤4611686018427387904):x4 Tryz.prog 262 [.agg (evR e),pZ bp] (zcz bl h p r1 r2 r3 r4 r5 [.box bp 198 [pZ bl]]) (fun r h'=>h'=(zcz bl h p r1 r2 r3 r4 r5 [.box bp 198 [pZ bl]])∧r=bv (zav 4 e p)):=by
 refine z6 Tryz.func262 rfl rfl rfl ?_
 refine rn ?_;refine z8 rfl (x9 rfl rfl rfl fun b2=> ?_)
 refine rn ?_;refine qv rfl rfl (y4 rfl rfl (v7 (yne _) (Sbs.refl _))) ?_
 refine rn ?_;refine qv rfl rfl (y4 rfl rfl (y3.quiet (R:=fun r=>r=bv _) (h2:= [_]) (List.perm_append_comm (l₁:= [_])) (y3.of_fun (zei (v8 e) _ _ (zcz bl h p r1 r2 r3 r4 r5 [.box bp 198 [pZ bl]]) (fun s _=>y3.of_acall (fs:= []) (cs:= [pZ bp]) (zw7 s bl bp h p r1 r2 r3 r4 r5)) (zjq hl))))) ?_
 refine rn ?_;refine rq 1 ?_
 exact ⟨rfl,rfl⟩
theorem yng (s:Seen) (e:Ev) (be:Nat) (bl bp:Nat) (h:Hist) (p:List Ev) (r1 r2 r3 r4 r5:Nat):x4 Tryz.prog 266 [.agg (zaz s),pZ bp,pZ be] (.box be 66 (evR e)::(zcz bl h p r1 r2 r3 r4 r5 [.box bp 198 [pZ bl]])) (fun r h'=>h'=(.box be 66 (evR e)::(zcz bl h p r1 r2 r3 r4 r5 [.box bp 198 [pZ bl]]))∧r=bv (match ztu p e.t s.o with|some v=>v !=s.v|none=>false)):=by
 refine z6 Tryz.func266 rfl rfl rfl ?_
 refine rn ?_;refine z8 rfl (x9 rfl rfl rfl fun b3=> ?_)
 refine rn0 ?_;refine x8 ?_;refine zlq 15 [13,14] [] (fun he=>he= .box b3 139 (zaz s)::(.box be 66 (evR e)::(zcz bl h p r1 r2 r3 r4 r5 [.box bp 198 [pZ bl]]))∨∃b c,he= .box b 63 c:: .box b3 139 (zaz s)::(.box be 66 (evR e)::(zcz bl h p r1 r2 r3 r4 r5 [.box bp 198 [pZ bl]]))) rfl rfl (.inl rfl) ?_
 refine jq rfl (fun he hC=>by rcases hC with rfl|⟨b,c,rfl⟩ <;> exact qrA) ?_
 refine jq rfl (fun he hC=>by rcases hC with rfl|⟨b,c,rfl⟩ <;> exact qrA) ?_
 refine jq rfl (fun he hC=>by rcases hC with rfl|⟨b,c,rfl⟩ <;> exact qrA) ?_
 refine jq rfl (fun he hC=>by rcases hC with rfl|⟨b,c,rfl⟩ <;> exact qrA) ?_
 refine jq rfl (fun he hC=>by rcases hC with rfl|⟨b,c,rfl⟩ <;> exact qrA) ?_
 refine jq rfl (fun he hC=>by rcases hC with rfl|⟨b,c,rfl⟩ <;> exact qrA) ?_
 refine jq rfl (fun he hC=>by rcases hC with rfl|⟨b,c,rfl⟩ <;> exact qrA) ?_
 refine jq rfl (fun he hC=>by rcases hC with rfl|⟨b,c,rfl⟩ <;> exact qrA) ?_
 refine jq rfl (fun he hC=>by rcases hC with rfl|⟨b,c,rfl⟩ <;> exact (by exact zai (out:= [iv e.t,iv s.o]) rfl (by rfl))) ?_
 refine jq rfl (fun he hC=>by rcases hC with rfl|⟨b,c,rfl⟩ <;> exact (by exact zq2 (enc:=zd6) (k:=(e.t,s.o)) (⟨0,0⟩:Ver) rfl rfl rfl)) ?_
 refine jq rfl (fun he hC=>by rcases hC with rfl|⟨b,c,rfl⟩ <;> exact qrA) ?_
 refine jq rfl (fun he hC=>by rcases hC with rfl|⟨b,c,rfl⟩ <;> exact qrA) ?_
 refine jq rfl (fun he hC=>by rcases hC with rfl|⟨b,c,rfl⟩ <;> exact qrA) ?_
 refine je rfl ?_;refine je rfl ?_;refine yfg ?_;refine jce rfl fun u=> ?_
 refine y6 rfl fun b5=>⟨_,_,rfl,.inr ⟨_,_,rfl⟩,?_⟩
 refine jce rfl fun u=> ?_
 refine zam rfl rfl rfl ⟨.any,_,rfl,.inr ⟨_,_,rfl⟩,?_⟩
 refine jcn ?_;refine ln ?_;refine rn ?_;refine y9 (fun hg2_1=> ?_) (fun hg2_1=> ?_)
 ·refine rn ?_;refine rq 2 ?_
  exact ⟨rfl,congrArg bv (by rw [zlh] at hg2_1;(try rw [zlh]);cases hv:ztu p e.t s.o <;> simp_all [ydc,bne,zye])⟩
 ·refine rn ?_;refine rq 2 ?_
  exact ⟨rfl,congrArg bv (by rw [zlh] at hg2_1;(try rw [zlh]);cases hv:ztu p e.t s.o <;> simp_all [ydc,bne,zye])⟩
theorem yq6 (e:Ev) (bl bp:Nat) (h:Hist) (p:List Ev) (r1 r2 r3 r4 r5:Nat) (hl:e.scan.length≤4611686018427387904):x4 Tryz.prog 265 [.agg (evR e),pZ bp] (zcz bl h p r1 r2 r3 r4 r5 [.box bp 198 [pZ bl]]) (fun r h'=>h'=(zcz bl h p r1 r2 r3 r4 r5 [.box bp 198 [pZ bl]])∧r=bv (zav 5 e p)):=by
 refine z6 Tryz.func265 rfl rfl rfl ?_
 refine rn ?_;refine z8 rfl (x9 rfl rfl rfl fun b2=> ?_)
 refine rn ?_;refine qv rfl rfl (y4 rfl rfl (v7 (yne _) (Sbs.refl _))) ?_
 refine rn ?_;refine qv rfl rfl (y4 rfl rfl (y3.of_fun (zei (v8 e) _ _ (.box b2 66 (evR e)::(zcz bl h p r1 r2 r3 r4 r5 [.box bp 198 [pZ bl]])) (fun s _=>y3.of_acall (fs:= []) (cs:= [pZ bp,pZ b2]) (yng s e b2 bl bp h p r1 r2 r3 r4 r5)) (zjq hl)))) ?_
 refine rn ?_;refine rq 1 ?_
 exact ⟨rfl,rfl⟩
theorem ynf (e:Ev) (hl:e.scan.length≤4611686018427387904):x4 Tryz.prog 267 [.agg (evR e)] [] (fun r h'=>h'= []∧r=bv (zav 6 e [])):=by
 refine z6 Tryz.func267 rfl rfl rfl ?_
 refine rn ?_;refine z8 rfl (x9 rfl rfl rfl fun b1=> ?_)
 refine rn ?_;refine zlo ?_;refine rn ?_;refine z8 rfl (zbj (enc:=zcl) rfl fun b6=> ?_)
 refine rn ?_;refine zbt e.scan.length (fun k=>((e.scan.take k).map Seen.o).Nodup) (fun k=>⟨[(10,iv k),(1,pZ b1),(3,.v (.map (some b6))),(8,zka e.scan),(9,iv (e.scan.map zaz).length)],[.map b6 (zag zcl (zb6 bv (zvq (e.scan.take k)))),.box b1 66 (evR e)],[]⟩) (by simp) es ?_
 intro k lk nk
 refine rn ?_;refine z7 rfl (fun hc11=> ?_) (fun hc11=> ?_)
 ·have hk:=zao hc11
  have rk:=zac (f:=zaz) hk
  refine rn ?_;refine z8 rfl (y6 rfl fun b5=> ?_)
  first|refine z8 rfl (zam rfl rfl rfl ?_)|refine z8 rfl (zba rfl rfl rfl rfl (Nat.le_of_ble_eq_true rfl) ?_)
  refine u5 (k8 ?_)
  refine x8 ?_;refine x8 (y5 ?_)
  refine q1 ?_;refine q1 ?_;refine q1 ?_;refine qq rfl rfl (zcp (enc:=zcl) (k:=e.scan[k].o) false rfl rfl) ?_
  refine rn ?_;refine z7 rfl (fun hc17=> ?_) (fun hc17=> ?_)
  ·refine zhi ?_;refine zgy ?_;refine zj1 rfl ?_;refine zgy ?_;refine zgy ?_;refine zdv ?_;refine k8 ?_;refine x8 (y5 ?_)
   refine q1 ?_;refine qq rfl rfl (zn0 (enc:=zcl) rfl) ?_
   refine rn ?_;refine ⟨fun l h=>(by cases h),?_⟩
   first|(refine rq 3 ?_;exact ⟨rfl,congrArg bv (ygx hk nk (by simpa using hc17))⟩)|(refine rq 2 ?_;exact ⟨rfl,congrArg bv (ygy nk)⟩)
  ·have hx:=yn4 (by simpa using hc17)
   refine rn ?_;refine z8 rfl (zby (g:=bv) (enc:=zcl) (k:=e.scan[k].o) (v:=true) rfl rfl rfl ?_)
   refine rn ?_;exact ⟨hk,yex hk nk hx,by rw [yag hk];exact eA⟩
 ·have qk:=zap hc11 lk
  subst qk
  refine zhi ?_;refine zgy ?_;refine zgy ?_;refine zdv ?_;refine k8 ?_;refine x8 (y5 ?_)
  refine q1 ?_;refine qq rfl rfl (zn0 (enc:=zcl) rfl) ?_
  refine rn ?_;refine ⟨fun l h=>(by cases h),?_⟩
  first|(refine rq 3 ?_;exact ⟨rfl,congrArg bv (ygx hk nk (by simpa using hc17))⟩)|(refine rq 2 ?_;exact ⟨rfl,congrArg bv (ygy nk)⟩)
end Go.Proofs
namespace Go.Ab
open Go
def isM (i:Nat):Bool:=Nat.blt i 10
def mkE (L:List Nat) (ρ:Nat→Nat):Fr:=(L.filter isM).map fun i=>(i+6,.v (.map (some (ρ i))))
def mkH (L:List Nat) (ρ:Nat→Nat):List Res:=(L.filter isM).map fun i=> .map (ρ i) []
def cel (L:List Nat) (ρ:Nat→Nat) (s m:Nat):AV:=if s∈L then .v (.map (some (ρ m))) else .v (.map none)
def zsc (L:List Nat) (ρ:Nat→Nat):List AV:= [cel L ρ 12 5,cel L ρ 15 6,cel L ρ 18 7,cel L ρ 21 8,.v (.map none)]
def eff5:List Nat:= [5,6,7,8,9,12,15,18,21]
def J5 (bl:Nat) (T:TypeId) (c0:List AV) (R:List Res) (L:List Nat) (ee:Fr) (he:List Res):Prop:=
 L.Nodup∧(∀i∈L,i∈eff5)∧((12∈L→5∈L)∧(15∈L→6∈L)∧(18∈L→7∈L)∧(21∈L→8∈L))∧∃ρ,ee=mkE L ρ∧he=mkH L ρ++ .box bl T (c0++zsc L ρ)::R
theorem J5.start {bl:Nat} {T:TypeId} {c0:List AV} {R:List Res}:J5 bl T c0 R [] [] (.box bl T (c0++ [.v (.map none),.v (.map none),.v (.map none),.v (.map none),.v (.map none)])::R):=
 ⟨.nil,fun i h=>by simp at h,⟨fun h=>by simp at h,fun h=>by simp at h,fun h=>by simp at h,fun h=>by simp at h⟩,fun _=>0,rfl,by simp [mkH,zsc,cel]⟩
theorem yeu {L:List Nat} {ρ ρ':Nat→Nat} (h:∀i∈L,ρ i=ρ' i):mkE L ρ=mkE L ρ'∧mkH L ρ=mkH L ρ':=
 ⟨List.map_congr_left fun i hi=>by rw [h i (List.mem_filter.1 hi).1],List.map_congr_left fun i hi=>by rw [h i (List.mem_filter.1 hi).1]⟩
theorem J5.make {bl:Nat} {T:TypeId} {c0:List AV} {R:List Res} {L:List Nat} {ee:Fr} {he:List Res} {i:Nat} (h:J5 bl T c0 R L ee he) (hi:i ∉ L) (hm:isM i=true) (hie:i∈eff5) (r:Nat):J5 bl T c0 R (i::L) ((i+6,.v (.map (some r)))::ee) (.map r []::he):=by
 obtain ⟨h1,h2,⟨p1,p2,p3,p4⟩,ρ,rfl,rfl⟩:=h
 have hlt:i < 10:=Nat.le_of_ble_eq_true hm
 have hne:∀j∈L,ρ j=(fun j=>if j=i then r else ρ j) j:=fun j hj=>by
  have:j≠i:=fun e=>hi (e ▸ hj)
  simp [this]
 obtain ⟨e1,e2⟩:=yeu hne
 refine ⟨List.nodup_cons.2 ⟨hi,h1⟩,fun j hj=>(List.mem_cons.1 hj).elim (fun e=>e ▸ hie) (h2 j),⟨?_,?_,?_,?_⟩,fun j=>if j=i then r else ρ j,?_,?_⟩
 iterate 4 (· intro hx;rcases List.mem_cons.1 hx with e|hx;omega;first|exact List.mem_cons_of_mem _ (p1 hx)|exact List.mem_cons_of_mem _ (p2 hx)|exact List.mem_cons_of_mem _ (p3 hx)|exact List.mem_cons_of_mem _ (p4 hx))
 ·rw [e1];simp [mkE,List.filter_cons,hm]
 ·have hc:∀s m,10≤s→(s∈L→m∈L)→cel L ρ s m=cel (i::L) (fun j=>if j=i then r else ρ j) s m:=fun s m hs hsm=>by
   unfold cel
   by_cases hx:s∈L
   ·rw [if_pos hx,if_pos (List.mem_cons_of_mem _ hx),←hne m (hsm hx)]
   ·rw [if_neg hx,if_neg (fun q=>(List.mem_cons.1 q).elim (by omega) hx)]
  rw [e2]
  have:zsc L ρ=zsc (i::L) (fun j=>if j=i then r else ρ j):=by
   unfold zsc
   rw [hc 12 5 (by omega) p1,hc 15 6 (by omega) p2,hc 18 7 (by omega) p3,hc 21 8 (by omega) p4]
  rw [this];simp [mkH,List.filter_cons,hm]
theorem zik {ρ:Nat→Nat} {m:Nat} (hm:isM m=true):∀{L:List Nat},m∈L→lk (mkE L ρ) (m+6)=some (.v (.map (some (ρ m))))
 | [],h=>by simp at h
 |j::L,h=>by
  unfold mkE
  rw [List.filter_cons]
  by_cases hj:isM j=true
  ·rw [if_pos hj,List.map_cons,lk]
   by_cases e:j=m
   ·subst e;simp
   ·have:Nat.beq (j+6) (m+6)=false:=by
     cases hb:Nat.beq (j+6) (m+6) with
     |false=>rfl
     |true=>have:=Nat.eq_of_beq_eq_true hb;omega
    rw [this]
    exact zik hm ((List.mem_cons.1 h).resolve_left (fun q=>e q.symm))
  ·rw [if_neg hj]
   refine zik hm ((List.mem_cons.1 h).resolve_left (fun q=>hj (q ▸ hm)))
theorem zlb {ρ:Nat→Nat} {d:Nat} (hd:d < 6):∀{L:List Nat},lk (mkE L ρ) d=none
 | []=>rfl
 |j::L=>by
  unfold mkE
  rw [List.filter_cons]
  split
  ·rw [List.map_cons,lk]
   have:Nat.beq (j+6) d=false:=by
    cases hb:Nat.beq (j+6) d with
    |false=>rfl
    |true=>have:=Nat.eq_of_beq_eq_true hb;omega
   rw [this];exact zlb hd
  ·exact zlb hd
theorem yn9 {E ee t:Fr} {d:Nat} {a:AV} (h1:lk E d=none) (h2:lk ee d=none) (h3:lk t d=some a):lk ((E++ee)++t) d=some a:=by
 rw [u2,u2,h1];simp only;rw [h2];exact h3
theorem yrm {E ee t:Fr} {d:Nat} {a:AV} (h1:lk E d=none) (h2:lk ee d=some a):lk ((E++ee)++t) d=some a:=by
 rw [u2,u2,h1];simp only;rw [h2]
theorem ye6 {A ee B:Fr} {ds:List Tmp} {d:Nat} {a:AV} (h1:lk A d=none) (h2:ds.any (Nat.beq d)=true) (h3:lk ee d=some a):lk (A++(zh1 ds ee++B)) d=some a:=by
 rw [u2,h1]
 simp only
 rw [u2,zh1,zd2 (q:=fun d=>ds.any (Nat.beq d)) h2,h3]
section
variable {bl:Nat} {T:TypeId} {c0:List AV} {R:List Res} {L:List Nat} {ρ:Nat→Nat}
theorem yqo:HasBox (mkH L ρ++ .box bl T (c0++zsc L ρ)::R) bl (mkH L ρ).length T (c0++zsc L ρ):=⟨by simp⟩
theorem yqb (x:Res):SetAt (mkH L ρ++ .box bl T (c0++zsc L ρ)::R) (mkH L ρ).length x (mkH L ρ++x::R):=⟨by simp⟩
theorem J5.put {s m:Nat} {cs':List AV} (h:J5 bl T c0 R L (mkE L ρ) (mkH L ρ++ .box bl T (c0++zsc L ρ)::R)) (hs:s ∉ L) (hse:s∈eff5) (hsm:isM s=false) (hmL:(s,m)∈ [(12,5),(15,6),(18,7),(21,8)]) (hm:m∈L)
 (hc:cs'=c0++(zsc L ρ).set ((m - 5)) (.v (.map (some (ρ m))))):J5 bl T c0 R (s::L) (mkE L ρ) (mkH L ρ++ .box bl T cs'::R):=by
 obtain ⟨h1,h2,⟨p1,p2,p3,p4⟩,_⟩:=h
 refine ⟨List.nodup_cons.2 ⟨hs,h1⟩,fun j hj=>(List.mem_cons.1 hj).elim (fun e=>e ▸ hse) (h2 j),⟨fun q=> ?_,fun q=> ?_,fun q=> ?_,fun q=> ?_⟩,ρ,?_,?_⟩
 iterate 4 (· rcases List.mem_cons.1 q with e|q;(subst e;simp at hmL;subst hmL;exact List.mem_cons_of_mem _ hm);first|exact List.mem_cons_of_mem _ (p1 q)|exact List.mem_cons_of_mem _ (p2 q)|exact List.mem_cons_of_mem _ (p3 q)|exact List.mem_cons_of_mem _ (p4 q))
 ·simp [mkE,List.filter_cons,hsm]
 ·have e1:mkH (s::L) ρ=mkH L ρ:=by simp [mkH,List.filter_cons,hsm]
  rw [e1,hc]
  have:(zsc L ρ).set (m - 5) (.v (.map (some (ρ m))))=zsc (s::L) ρ:=by
   simp only [List.mem_cons,Prod.mk.injEq,List.not_mem_nil,or_false] at hmL
   rcases hmL with ⟨rfl,rfl⟩|⟨rfl,rfl⟩|⟨rfl,rfl⟩|⟨rfl,rfl⟩ <;> simp [zsc,cel]
  rw [this]
theorem J5.last (h:J5 bl T c0 R L (mkE L ρ) (mkH L ρ++ .box bl T (c0++zsc L ρ)::R)) (ha:∀i,i∈eff5→i∈L):
 (mkH L ρ++ .box bl T (c0++zsc L ρ)::R).Perm (.box bl T (c0++ [.v (.map (some (ρ 5))),.v (.map (some (ρ 6))),.v (.map (some (ρ 7))),.v (.map (some (ρ 8))),.v (.map none)]):: .map (ρ 5) []:: .map (ρ 6) []:: .map (ρ 7) []:: .map (ρ 8) []:: .map (ρ 9) []::R):=by
 have hp:(L.filter isM).Perm [5,6,7,8,9]:=by
  rw [List.perm_ext_iff_of_nodup (h.1.filter _) (by decide)]
  intro a
  rw [List.mem_filter]
  constructor
  ·rintro ⟨q1,q2⟩
   have:=h.2.1 a q1
   have q3:a < 10:=Nat.le_of_ble_eq_true q2
   simp [eff5] at this ⊢;omega
  ·intro q
   have:a∈eff5:=by simp [eff5] at q ⊢;omega
   refine ⟨ha a this,?_⟩
   simp at q;rcases q with rfl|rfl|rfl|rfl|rfl <;> rfl
 have hcs:zsc L ρ= [.v (.map (some (ρ 5))),.v (.map (some (ρ 6))),.v (.map (some (ρ 7))),.v (.map (some (ρ 8))),.v (.map none)]:=by
  simp [zsc,cel,ha 12 (by simp [eff5]),ha 15 (by simp [eff5]),ha 18 (by simp [eff5]),ha 21 (by simp [eff5])]
 rw [hcs]
 have:=hp.map (fun i=>Res.map (ρ i) [])
 exact (this.append_right _).trans (List.perm_middle (l₁:= [Res.map (ρ 5) [],Res.map (ρ 6) [],Res.map (ρ 7) [],Res.map (ρ 8) [],Res.map (ρ 9) []]))
end
end Go.Ab
set_option maxRecDepth 10000
namespace Go.Proofs
open Go Go.Ab
attribute [local irreducible] QR QV OE zcw aw zdx zcv zb3 za2 thn zgt zeq jch zf2
open Go.H
set_option maxHeartbeats 4000000 in
theorem yef (h:Hist) (la:h.evs.length≤1000000) (y:AV) (bl b1:Nat) (w:Nat→Ev→Bool) (I F:Nat→List Res) (hy:∀k (hk:k < h.evs.length) r1 r2 r3 r4 r5,y3 Tryz.prog y [iv k,.agg (evR h.evs[k])] (zcz bl h (h.evs.take k) r1 r2 r3 r4 r5 (.box b1 198 [pZ bl]::I k)) (fun r h'=>r=bv (!w k h.evs[k])∧h'=zcz bl h (h.evs.take k) r1 r2 r3 r4 r5 (.box b1 198 [pZ bl]::bif w k h.evs[k] then F k else I (k+1)))):x4 Tryz.prog 287 [y,pZ b1] (.box bl 203 (zbz h):: .box b1 198 [pZ bl]::I 0) (fun r h'=>h'=match zc2 w 0 h.evs with|some k=>F k|none=>I h.evs.length):=by
 refine z6 Tryz.func287 rfl rfl rfl ?_
 refine x8 ?_;refine yga 22 eff5 [] (fun he=>HasB he b1 198 [pZ bl]) rfl ?_
 refine jq rfl (fun he hC=>by haveI:=hC;exact qrA) ?_
 refine jq rfl (fun he hC=>by haveI:=hC;exact qrA) ?_
 refine jq rfl (fun he hC=>by haveI:=hC;exact qrA) ?_
 refine jq rfl (fun he hC=>by haveI:=hC;exact qrA) ?_
 refine jq rfl (fun he hC=>by haveI:=hC;exact qrA) ?_
 refine je rfl ?_;refine je rfl ?_;refine je rfl ?_;refine je rfl ?_;refine je rfl ?_;refine jq rfl (fun he hC=>by haveI:=hC;exact qrA) ?_
 refine jq rfl (fun he hC=>by haveI:=hC;exact qrA) ?_
 refine je rfl ?_;refine jq rfl (fun he hC=>by haveI:=hC;exact qrA) ?_
 refine jq rfl (fun he hC=>by haveI:=hC;exact qrA) ?_
 refine je rfl ?_;refine jq rfl (fun he hC=>by haveI:=hC;exact qrA) ?_
 refine jq rfl (fun he hC=>by haveI:=hC;exact qrA) ?_
 refine je rfl ?_;refine jq rfl (fun he hC=>by haveI:=hC;exact qrA) ?_
 refine jq rfl (fun he hC=>by haveI:=hC;exact qrA) ?_
 refine je rfl ?_;refine yfg ?_;refine ⟨J5 bl 203 (x5 h) (.box b1 198 [pZ bl]::I 0),.start,fun L ee he hJ=> ?_,fun L ee he hJ i o hie hiL ho hpre u=> ?_,fun L ee he hJ hall=> ?_⟩
 ·obtain ⟨_,_,_,ρ,_,rfl⟩:=hJ
  exact ⟨.inl (by simp)⟩
 ·simp only [eff5,List.mem_cons,List.not_mem_nil,or_false] at hie
  rcases hie with rfl|rfl|rfl|rfl|rfl|rfl|rfl|rfl|rfl
  ·obtain rfl:=Option.some.inj ho
   exact zbj (enc:=zcl) rfl fun r=>⟨_,_,rfl,hJ.make hiL rfl (by decide) r⟩
  ·obtain rfl:=Option.some.inj ho
   exact zbj (enc:=zcl) rfl fun r=>⟨_,_,rfl,hJ.make hiL rfl (by decide) r⟩
  ·obtain rfl:=Option.some.inj ho
   exact zbj (enc:=zcl) rfl fun r=>⟨_,_,rfl,hJ.make hiL rfl (by decide) r⟩
  ·obtain rfl:=Option.some.inj ho
   exact zbj (enc:=zcl) rfl fun r=>⟨_,_,rfl,hJ.make hiL rfl (by decide) r⟩
  ·obtain rfl:=Option.some.inj ho
   exact zbj (enc:=zcl) rfl fun r=>⟨_,_,rfl,hJ.make hiL rfl (by decide) r⟩
  ·obtain rfl:=Option.some.inj ho
   have hJ2:=hJ
   obtain ⟨_,_,_,ρ,rfl,rfl⟩:=hJ2
   have hm:5∈L:=hpre 5 (mem?_iff.1 rfl) (by decide)
   haveI:=yqo (bl:=bl) (T:=203) (c0:=x5 h) (R:=(.box b1 198 [pZ bl]::I 0)) (L:=L) (ρ:=ρ)
   haveI:=fun x=>yqb (bl:=bl) (T:=203) (c0:=x5 h) (R:=(.box b1 198 [pZ bl]::I 0)) (L:=L) (ρ:=ρ) x
   exact zba (b:=bl) (off:=8) (n:=1) rfl (ye6 rfl rfl (zik rfl hm)) rfl rfl (Nat.le_of_ble_eq_true rfl) ⟨.any,_,rfl,hJ.put hiL (by decide) rfl (by decide) hm rfl⟩
  ·obtain rfl:=Option.some.inj ho
   have hJ2:=hJ
   obtain ⟨_,_,_,ρ,rfl,rfl⟩:=hJ2
   have hm:6∈L:=hpre 6 (mem?_iff.1 rfl) (by decide)
   haveI:=yqo (bl:=bl) (T:=203) (c0:=x5 h) (R:=(.box b1 198 [pZ bl]::I 0)) (L:=L) (ρ:=ρ)
   haveI:=fun x=>yqb (bl:=bl) (T:=203) (c0:=x5 h) (R:=(.box b1 198 [pZ bl]::I 0)) (L:=L) (ρ:=ρ) x
   exact zba (b:=bl) (off:=9) (n:=1) rfl (ye6 rfl rfl (zik rfl hm)) rfl rfl (Nat.le_of_ble_eq_true rfl) ⟨.any,_,rfl,hJ.put hiL (by decide) rfl (by decide) hm rfl⟩
  ·obtain rfl:=Option.some.inj ho
   have hJ2:=hJ
   obtain ⟨_,_,_,ρ,rfl,rfl⟩:=hJ2
   have hm:7∈L:=hpre 7 (mem?_iff.1 rfl) (by decide)
   haveI:=yqo (bl:=bl) (T:=203) (c0:=x5 h) (R:=(.box b1 198 [pZ bl]::I 0)) (L:=L) (ρ:=ρ)
   haveI:=fun x=>yqb (bl:=bl) (T:=203) (c0:=x5 h) (R:=(.box b1 198 [pZ bl]::I 0)) (L:=L) (ρ:=ρ) x
   exact zba (b:=bl) (off:=10) (n:=1) rfl (ye6 rfl rfl (zik rfl hm)) rfl rfl (Nat.le_of_ble_eq_true rfl) ⟨.any,_,rfl,hJ.put hiL (by decide) rfl (by decide) hm rfl⟩
  ·obtain rfl:=Option.some.inj ho
   have hJ2:=hJ
   obtain ⟨_,_,_,ρ,rfl,rfl⟩:=hJ2
   have hm:8∈L:=hpre 8 (mem?_iff.1 rfl) (by decide)
   haveI:=yqo (bl:=bl) (T:=203) (c0:=x5 h) (R:=(.box b1 198 [pZ bl]::I 0)) (L:=L) (ρ:=ρ)
   haveI:=fun x=>yqb (bl:=bl) (T:=203) (c0:=x5 h) (R:=(.box b1 198 [pZ bl]::I 0)) (L:=L) (ρ:=ρ) x
   exact zba (b:=bl) (off:=11) (n:=1) rfl (ye6 rfl rfl (zik rfl hm)) rfl rfl (Nat.le_of_ble_eq_true rfl) ⟨.any,_,rfl,hJ.put hiL (by decide) rfl (by decide) hm rfl⟩
 have hJ2:=hJ
 obtain ⟨_,_,_,ρ,rfl,rfl⟩:=hJ2
 have hal:∀i,i∈eff5→i∈L:=fun i hi=>hall i hi (by simp [eff5] at hi;omega)
 refine ln ?_;refine zp2 (s':=⟨[(0,y),(1,pZ b1),(10,pZ bl),(15,mpv (ρ 9))],.box bl 203 (x5 h++ [mpv (ρ 5),mpv (ρ 6),mpv (ρ 7),mpv (ρ 8),nmp]):: .map (ρ 5) []:: .map (ρ 6) []:: .map (ρ 7) []:: .map (ρ 8) []:: .map (ρ 9) []::(.box b1 198 [pZ bl]::I 0),[]⟩) (v6 (zay (hJ.last hal)) (w8 (.cons _ _ _ (yn9 rfl (zlb (by decide)) rfl) (.cons _ _ _ (yn9 rfl (zlb (by decide)) rfl) (.cons _ _ _ rfl (.cons _ _ _ (yrm rfl (zik (m:=9) rfl (hal 9 (by decide)))) .nil)))))) ?_
 generalize ρ 5=r1
 generalize ρ 6=r2
 generalize ρ 7=r3
 generalize ρ 8=r4
 generalize ρ 9=r5
 refine rn ?_;refine zbt h.evs.length (fun k=>zc2 w 0 h.evs=zc2 w k (h.evs.drop k)) (fun k=>⟨[(32,iv k),(0,y),(1,pZ b1),(30,zm4 h.evs),(31,iv (h.evs.map evR).length)],(zcz bl h (h.evs.take k) r1 r2 r3 r4 r5 (.box b1 198 [pZ bl]::I k)),[]⟩) (by simp) es ?_
 intro k lk zk
 have hwl:=fun e:Ev=>zgu (h.evs.take k) e.t e.o
 have hle:(h.evs.take k).length≤h.evs.length:=by simp;omega
 refine rn ?_;refine z7 rfl (fun hc33=> ?_) (fun hc33=> ?_)
 ·have hk:=zao hc33
  have rk:=zac (f:=evR) hk
  refine rn ?_;refine z8 rfl (y6 rfl fun b4=> ?_)
  refine rn ?_;refine z8 rfl (w9 rfl rfl (y3.fr1 (hy k hk r1 r2 r3 r4 r5)) rfl ?_)
  rintro _ _ ⟨_,rfl,rfl,rfl⟩
  refine rn ?_;refine z7 rfl (fun hc41=> ?_) (fun hc41=> ?_)
  ·have hw:w k h.evs[k]=true:=by simpa using hc41
   rw [hw]
   refine rn ?_;exact zfw .nil (.drop [_,_,_,_,_,_,_,_] _ _) (by rw [zg0 hk zk hw])
  ·have hw:w k h.evs[k]=false:=by simpa using hc41
   rw [hw]
   refine rn ?_;refine z7 rfl (fun hc44=> ?_) (fun hc44=> ?_)
   ·refine j6 6 rfl ?_
    refine rn ?_;refine z8 rfl (zby (g:=bv) (enc:=zcl) (k:=h.evs[k].t) (v:=true) rfl rfl rfl ?_)
    refine rn ?_;have et:=List.take_succ_eq_append_getElem hk
    exact ⟨hk,zdo hk zk hw,by rw [et];simp only [zcz,zhh,zg4,zgv,zeb,zgx,kTO,kOV];first|(rw [if_pos (by simp_all),if_neg (by simp_all),if_neg (by simp_all),if_neg (by simp_all),if_neg (by simp_all)];exact eA)|(rw [if_neg (by simp_all),if_pos (by simp_all),if_neg (by simp_all),if_neg (by simp_all),if_neg (by simp_all)];exact eA)|(rw [if_neg (by simp_all),if_neg (by simp_all),if_pos (by simp_all),if_pos (by simp_all),if_pos (by simp_all)];exact eA)|(rw [if_neg (by simp_all),if_neg (by simp_all),if_neg (by simp_all),if_neg (by simp_all),if_neg (by simp_all)];exact eA)⟩
   ·refine rn ?_;refine z7 rfl (fun hc52=> ?_) (fun hc52=> ?_)
    ·refine rn ?_;refine z7 rfl (fun hc52=> ?_) (fun hc52=> ?_)
     ·refine j6 6 rfl ?_
      refine rn ?_;refine z8 rfl (zby (g:=bv) (enc:=zcl) (k:=h.evs[k].t) (v:=true) rfl rfl rfl ?_)
      refine rn ?_;have et:=List.take_succ_eq_append_getElem hk
      exact ⟨hk,zdo hk zk hw,by rw [et];simp only [zcz,zhh,zg4,zgv,zeb,zgx,kTO,kOV];first|(rw [if_pos (by simp_all),if_neg (by simp_all),if_neg (by simp_all),if_neg (by simp_all),if_neg (by simp_all)];exact eA)|(rw [if_neg (by simp_all),if_pos (by simp_all),if_neg (by simp_all),if_neg (by simp_all),if_neg (by simp_all)];exact eA)|(rw [if_neg (by simp_all),if_neg (by simp_all),if_pos (by simp_all),if_pos (by simp_all),if_pos (by simp_all)];exact eA)|(rw [if_neg (by simp_all),if_neg (by simp_all),if_neg (by simp_all),if_neg (by simp_all),if_neg (by simp_all)];exact eA)⟩
     ·first|cases hc52|exact absurd hc52 (by decide)|(exfalso;simp_all;done)
    ·refine rn ?_;refine z7 rfl (fun hc52=> ?_) (fun hc52=> ?_)
     ·refine j6 6 rfl ?_
      refine rn ?_;refine z8 rfl (zby (g:=bv) (enc:=zcl) (k:=h.evs[k].t) (v:=true) rfl rfl rfl ?_)
      refine rn ?_;have et:=List.take_succ_eq_append_getElem hk
      exact ⟨hk,zdo hk zk hw,by rw [et];simp only [zcz,zhh,zg4,zgv,zeb,zgx,kTO,kOV];first|(rw [if_pos (by simp_all),if_neg (by simp_all),if_neg (by simp_all),if_neg (by simp_all),if_neg (by simp_all)];exact eA)|(rw [if_neg (by simp_all),if_pos (by simp_all),if_neg (by simp_all),if_neg (by simp_all),if_neg (by simp_all)];exact eA)|(rw [if_neg (by simp_all),if_neg (by simp_all),if_pos (by simp_all),if_pos (by simp_all),if_pos (by simp_all)];exact eA)|(rw [if_neg (by simp_all),if_neg (by simp_all),if_neg (by simp_all),if_neg (by simp_all),if_neg (by simp_all)];exact eA)⟩
     ·refine rn ?_;refine z7 rfl (fun hc61=> ?_) (fun hc61=> ?_)
      ·refine x8 (y5 ?_)
       refine q1 ?_;refine q1 ?_;refine q1 ?_;refine q1 ?_;refine qq rfl rfl (zai (out:= [iv h.evs[k].t,iv h.evs[k].o]) rfl (by rfl)) ?_
       refine z8 rfl (y6 rfl fun b5=> ?_)
       refine rn0 ?_;refine x8 ?_;refine zlq 9 [7] [8] (fun he=>he= .box b5 297 [iv h.evs[k].t,iv h.evs[k].o]:: .box b4 66 (evR h.evs[k]):: .box bl 203 (ye5 h r1 r2 r3 r4 r5):: .map r1 (zag zcl (zb6 bv (yc3 (h.evs.take k)))):: .map r2 (zag zcl (zb6 bv (yc0 (h.evs.take k)))):: .map r3 (zag zd6 (zb6 iv (zwl (h.evs.take k)))):: .map r4 (zag zd6 (zb6 zwn (zqc (h.evs.take k)))):: .map r5 (zag zfl (zb6 bv (ycy (h.evs.take k)))):: .box b1 198 [pZ bl]::I (k+1)∨∃j st,he= .box b5 297 [iv h.evs[k].t,iv h.evs[k].o]:: .box b4 66 (evR h.evs[k]):: .box bl 203 (ye5 h r1 r2 r3 r4 r5):: .map r1 (zag zcl (zb6 bv (yc3 (h.evs.take k)))):: .map r2 (zag zcl (zb6 bv (yc0 (h.evs.take k)))):: .mape r3 (zag zd6 (zkk (h.evs[k].t,h.evs[k].o) (iv 0) (zb6 iv (zwl (h.evs.take k))))) j st:: .map r4 (zag zd6 (zb6 zwn (zqc (h.evs.take k)))):: .map r5 (zag zfl (zb6 bv (ycy (h.evs.take k)))):: .box b1 198 [pZ bl]::I (k+1)) rfl rfl (.inl rfl) ?_
       refine jq rfl (fun he hC=>by rcases hC with rfl|⟨j,st,rfl⟩ <;> exact qrA) ?_
       refine jq rfl (fun he hC=>by rcases hC with rfl|⟨j,st,rfl⟩ <;> exact qrA) ?_
       refine jq rfl (fun he hC=>by rcases hC with rfl|⟨j,st,rfl⟩ <;> exact qrA) ?_
       refine jq rfl (fun he hC=>by rcases hC with rfl|⟨j,st,rfl⟩ <;> exact qrA) ?_
       refine jq rfl (fun he hC=>by rcases hC with rfl|⟨j,st,rfl⟩ <;> exact qrA) ?_
       refine jq rfl (fun he hC=>by rcases hC with rfl|⟨j,st,rfl⟩ <;> exact (by first|exact zcp (enc:=zd6) (k:=(h.evs[k].t,h.evs[k].o)) (0:Int) rfl rfl|exact zzx (enc:=zd6) (k:=(h.evs[k].t,h.evs[k].o)) (0:Int) rfl rfl)) ?_
       refine jq rfl (fun he hC=>by rcases hC with rfl|⟨j,st,rfl⟩ <;> exact (by exact k9 rfl rfl rfl (by rw [zky];have:=zgu (h.evs.take k) h.evs[k].t h.evs[k].o;omega))) ?_
       refine je rfl ?_;refine je rfl ?_;refine yfg ?_;refine jce rfl fun u=> ?_
       refine zjv (enc:=zd6) (k:=(h.evs[k].t,h.evs[k].o)) rfl rfl rfl fun j st hj=>⟨_,_,rfl,.inr ⟨_,_,rfl⟩,?_⟩
       refine jcn ?_;refine lq rfl rfl (by exact qrA) ?_
       refine ln ?_;refine z8 rfl (zmf (g:=iv) (enc:=zd6) (k:=(h.evs[k].t,h.evs[k].o)) (v:=((zb2 (h.evs[k].t,h.evs[k].o) (zwl (h.evs.take k))).getD 0+1)) rfl rfl rfl (hj _) ?_)
       refine rn0 ?_;refine zlq 19 [16,17,18] [] (fun he=>∃x:Res,he= .box b5 297 [iv h.evs[k].t,iv h.evs[k].o]:: .box b4 66 (evR h.evs[k]):: .box bl 203 (ye5 h r1 r2 r3 r4 r5):: .map r1 (zag zcl (zb6 bv (yc3 (h.evs.take k)))):: .map r2 (zag zcl (zb6 bv (yc0 (h.evs.take k)))):: .map r3 (zag zd6 (zb6 iv (zfz (h.evs[k].t,h.evs[k].o) ((zb2 (h.evs[k].t,h.evs[k].o) (zwl (h.evs.take k))).getD 0+1) (zwl (h.evs.take k)))))::x:: .map r5 (zag zfl (zb6 bv (ycy (h.evs.take k)))):: .box b1 198 [pZ bl]::I (k+1)) rfl rfl ⟨_,rfl⟩ ?_
       refine jq rfl (fun he hC=>by obtain ⟨x,rfl⟩:=hC <;> exact qrA) ?_
       refine jq rfl (fun he hC=>by obtain ⟨x,rfl⟩:=hC <;> exact qrA) ?_
       refine jq rfl (fun he hC=>by obtain ⟨x,rfl⟩:=hC <;> exact qrA) ?_
       refine jq rfl (fun he hC=>by obtain ⟨x,rfl⟩:=hC <;> exact qrA) ?_
       refine jq rfl (fun he hC=>by obtain ⟨x,rfl⟩:=hC <;> exact qrA) ?_
       refine jq rfl (fun he hC=>by obtain ⟨x,rfl⟩:=hC <;> exact qrA) ?_
       refine jq rfl (fun he hC=>by obtain ⟨x,rfl⟩:=hC <;> exact qrA) ?_
       refine jq rfl (fun he hC=>by obtain ⟨x,rfl⟩:=hC <;> exact qrA) ?_
       refine jq rfl (fun he hC=>by obtain ⟨x,rfl⟩:=hC <;> exact qrA) ?_
       refine jq rfl (fun he hC=>by obtain ⟨x,rfl⟩:=hC <;> exact qrA) ?_
       refine jq rfl (fun he hC=>by obtain ⟨x,rfl⟩:=hC <;> exact qrA) ?_
       refine jq rfl (fun he hC=>by obtain ⟨x,rfl⟩:=hC <;> exact qrA) ?_
       refine jq rfl (fun he hC=>by obtain ⟨x,rfl⟩:=hC <;> exact qrA) ?_
       refine jq (av:= .agg [iv h.evs[k].o,iv h.evs[k].v.t,iv h.evs[k].v.k]) rfl (fun he hC=>by obtain ⟨x,rfl⟩:=hC <;> exact (by exact zai (out:= [iv (h.evs[k]'hk).o,iv (h.evs[k]'hk).v.t,iv (h.evs[k]'hk).v.k]) rfl (by rfl))) ?_
       refine jq rfl (fun he hC=>by obtain ⟨x,rfl⟩:=hC <;> exact qrA) ?_
       refine jq rfl (fun he hC=>by obtain ⟨x,rfl⟩:=hC <;> exact qrA) ?_
       refine je rfl ?_;refine je rfl ?_;refine je rfl ?_;refine yfg ?_;refine jce rfl fun u=> ?_
       refine zjv (enc:=zd6) (k:=(h.evs[k].t,h.evs[k].o)) rfl rfl rfl fun j st hj=>⟨_,_,rfl,⟨_,rfl⟩,?_⟩
       refine jce rfl fun u=> ?_
       refine ytb qrA ⟨_,_,rfl,⟨_,rfl⟩,?_⟩
       refine jce rfl fun u=> ?_
       refine zmf (g:=zwn) (enc:=zd6) (k:=(h.evs[k].t,h.evs[k].o)) (v:=h.evs[k].v) rfl rfl rfl (hj _) ⟨.any,_,rfl,⟨_,rfl⟩,?_⟩
       refine jcn ?_;refine ln ?_;refine z8 rfl (zjv (enc:=zfl) (k:=(h.evs[k].o,h.evs[k].v.t,h.evs[k].v.k)) rfl rfl rfl fun j2 st2 hj2=> ?_)
       refine rn ?_;refine z8 rfl (zmf (g:=bv) (enc:=zfl) (k:=(h.evs[k].o,h.evs[k].v.t,h.evs[k].v.k)) (v:=true) rfl rfl rfl (hj2 _) ?_)
       refine rn ?_;have et:=List.take_succ_eq_append_getElem hk
       exact ⟨hk,zdo hk zk hw,by rw [et];simp only [zcz,zhh,zg4,zgv,zeb,zgx,kTO,kOV];first|(rw [if_pos (by simp_all),if_neg (by simp_all),if_neg (by simp_all),if_neg (by simp_all),if_neg (by simp_all)];exact eA)|(rw [if_neg (by simp_all),if_pos (by simp_all),if_neg (by simp_all),if_neg (by simp_all),if_neg (by simp_all)];exact eA)|(rw [if_neg (by simp_all),if_neg (by simp_all),if_pos (by simp_all),if_pos (by simp_all),if_pos (by simp_all)];exact eA)|(rw [if_neg (by simp_all),if_neg (by simp_all),if_neg (by simp_all),if_neg (by simp_all),if_neg (by simp_all)];exact eA)⟩
      ·refine rn ?_;have et:=List.take_succ_eq_append_getElem hk
       exact ⟨hk,zdo hk zk hw,by rw [et];simp only [zcz,zhh,zg4,zgv,zeb,zgx,kTO,kOV];first|(rw [if_pos (by simp_all),if_neg (by simp_all),if_neg (by simp_all),if_neg (by simp_all),if_neg (by simp_all)];exact eA)|(rw [if_neg (by simp_all),if_pos (by simp_all),if_neg (by simp_all),if_neg (by simp_all),if_neg (by simp_all)];exact eA)|(rw [if_neg (by simp_all),if_neg (by simp_all),if_pos (by simp_all),if_pos (by simp_all),if_pos (by simp_all)];exact eA)|(rw [if_neg (by simp_all),if_neg (by simp_all),if_neg (by simp_all),if_neg (by simp_all),if_neg (by simp_all)];exact eA)⟩
 ·have qk:=zap hc33 lk
  refine rn ?_;exact ze9 .nil (.drop [_,_,_,_,_,_,_] _ _) (by rw [zi2 qk zk,qk])
theorem yju (bl:Nat) (W:List Res):x4 Tryz.prog 283 [pZ bl] W (fun r h'=>∃b1,h'= .box b1 198 [pZ bl]::W∧r= .fn (.func 287) [] [pZ b1]):=by
 refine z6 Tryz.func283 rfl rfl rfl ?_
 refine rn ?_;refine z8 rfl (x9 rfl rfl rfl fun b1=> ?_)
 refine rn ?_;exact u9 rfl (.refl _ _) ⟨_,rfl,rfl⟩
set_option maxHeartbeats 4000000 in
theorem rAt (h:Hist) (la:h.evs.length≤1000000) (bl:Nat) (fv:AV) (hone:fv.cellsOf=some [fv]) (W:List Res) (w:Nat→Ev→Bool) (hp:∀k (hk:k < h.evs.length) r1 r2 r3 r4 r5,y3 Tryz.prog fv [.agg (evR h.evs[k])] (zcz bl h (h.evs.take k) r1 r2 r3 r4 r5 W) (fun r h'=>h'=zcz bl h (h.evs.take k) r1 r2 r3 r4 r5 W∧r=bv (w k h.evs[k]))):x4 Tryz.prog 258 [pZ bl,fv] (.box bl 203 (zbz h)::W) (fun r h'=>h'=W∧r=za6 (zc2 w 0 h.evs)):=by
 refine z6 Tryz.func258 rfl rfl rfl ?_
 refine rn ?_;refine z8 rfl (x9 rfl hone rfl fun b3=> ?_)
 refine z8 rfl (y6 rfl fun b4=> ?_)
 refine z8 rfl (y6 rfl fun b5=> ?_)
 refine rn ?_;refine z8 rfl (w9 rfl rfl (y3.of_fun (yju bl _)) rfl ?_)
 rintro _ _ ⟨b1,rfl,rfl⟩
 refine rn ?_;refine znk (fun pend h''=>(pend=none∧zc2 w 0 h.evs=none∧h''= .box b5 4 [bv false]:: .box b4 3 [iv 0]:: .box b3 210 [fv]::W)∨(pend=some .ret∧∃k:Nat,zc2 w 0 h.evs=some k∧h''= .box b5 4 [bv true]:: .box b4 3 [iv (k:Nat)]:: .box b3 210 [fv]::W)) rfl (fun fn l q lp hlp=> ?_) (fun q h'' hK=> ?_) (fun q h'' c hK=> ?_)
 ·suffices hy:∀k (hk:k < h.evs.length) r1 r2 r3 r4 r5,y3 Tryz.prog (yv l) [iv k,.agg (evR h.evs[k])] (zcz bl h (h.evs.take k) r1 r2 r3 r4 r5 (.box b1 198 [pZ bl]::(fun _=>lp .ready none:: .defs q:: .box b5 4 [bv false]:: .box b4 3 [iv 0]:: .box b3 210 [fv]::W) k)) (fun r h'=>r=bv (!w k h.evs[k])∧h'=zcz bl h (h.evs.take k) r1 r2 r3 r4 r5 (.box b1 198 [pZ bl]::bif w k h.evs[k] then (fun k=>lp .done (some .ret):: .defs q:: .box b5 4 [bv true]:: .box b4 3 [iv (k:Nat)]:: .box b3 210 [fv]::W) k else (fun _=>lp .ready none:: .defs q:: .box b5 4 [bv false]:: .box b4 3 [iv 0]:: .box b3 210 [fv]::W) (k+1))) by
   refine x4.mono (x4.perm ((pt6 _ _ _ _ _ _ _ _).trans (.cons _ (pt2 _ _ _ _))) (yef h la (yv l) bl b1 w (fun _=>lp .ready none:: .defs q:: .box b5 4 [bv false]:: .box b4 3 [iv 0]:: .box b3 210 [fv]::W) (fun k=>lp .done (some .ret):: .defs q:: .box b5 4 [bv true]:: .box b4 3 [iv (k:Nat)]:: .box b3 210 [fv]::W) hy)) ?_
   rintro _ _ rfl
   cases hr:zc2 w 0 h.evs with
   |none=>exact ⟨none,.ready,_,.refl _,by simp,.inl ⟨rfl,rfl,rfl⟩⟩
   |some k=>exact ⟨_,_,_,.refl _,by simp,.inr ⟨rfl,k,rfl,rfl⟩⟩
  intro k hk r1 r2 r3 r4 r5
  refine y3.perm (pt7 _ _ _ _ _ _ _ _ _) (y3.permR ?_)
  refine zed hlp rfl rfl ?_
  refine rn ?_;refine z8 rfl (y6 rfl fun b7=> ?_)
  refine rn ?_;refine ⟨[(6,iv k),(7,pZ b7),(3,pZ b3),(4,pZ b4),(5,pZ b5)],.box b7 66 (evR h.evs[k])::zcz bl h (h.evs.take k) r1 r2 r3 r4 r5 (.box b1 198 [pZ bl]:: .defs q:: .box b5 4 [bv false]:: .box b4 3 [iv 0]:: .box b3 210 [fv]::W),v6 (zay (pt1 _ _ _)) es,?_⟩
  refine rn ?_;refine qv rfl rfl (y4 rfl rfl (y3.qt (h2:= [_,_,_,_,_,_,_]) (hp k hk r1 r2 r3 r4 r5) (List.Perm.trans (.cons _ (.cons _ ((pt6 _ _ _ _ _ _ _ _).trans (.cons _ ((pt6 _ _ _ _ _ _ _ _).trans (.cons _ ((pt6 _ _ _ _ _ _ _ _).trans (.cons _ ((pt6 _ _ _ _ _ _ _ _).trans (.cons _ (pt6 _ _ _ _ _ _ _ _))))))))))) (zew [_,_,_,_,_,_,_] _)))) ?_
  refine rn ?_;refine z7 rfl (fun hc14=> ?_) (fun hc14=> ?_)
  ·have hw:w k h.evs[k]=true:=by simpa using hc14
   refine zgr (s':=⟨[(6,iv k),(4,pZ b4),(5,pZ b5)],lp .busy none::zcz bl h (h.evs.take k) r1 r2 r3 r4 r5 (.box b1 198 [pZ bl]:: .defs q:: .box b5 4 [bv false]:: .box b4 3 [iv 0]:: .box b3 210 [fv]::W),[]⟩) (eD 1) ?_
   refine rn ?_;exact zl4 (.refl _) ⟨_,((pt1 _ _ _).trans (.cons _ ((pt1 _ _ _).trans (.cons _ ((pt1 _ _ _).trans (.cons _ ((pt1 _ _ _).trans (.cons _ ((pt1 _ _ _).trans (.cons _ ((pt1 _ _ _).trans (.cons _ (pt1 _ _ _))))))))))))),by rw [hw];rfl,by rw [hw];rfl⟩
  ·have hw:w k h.evs[k]=false:=by simpa using hc14
   refine zgr (s':=⟨[(6,iv k),(4,pZ b4),(5,pZ b5)],lp .busy none::zcz bl h (h.evs.take k) r1 r2 r3 r4 r5 (.box b1 198 [pZ bl]:: .defs q:: .box b5 4 [bv false]:: .box b4 3 [iv 0]:: .box b3 210 [fv]::W),[]⟩) (eD 1) ?_
   refine rn ?_;exact zg2 (.refl _) ⟨_,((pt1 _ _ _).trans (.cons _ ((pt1 _ _ _).trans (.cons _ ((pt1 _ _ _).trans (.cons _ ((pt1 _ _ _).trans (.cons _ ((pt1 _ _ _).trans (.cons _ ((pt1 _ _ _).trans (.cons _ (pt1 _ _ _))))))))))))),by rw [hw];rfl,by rw [hw];rfl⟩
 ·obtain ⟨_,hr,rfl⟩|⟨hc,_⟩:=hK
  rotate_left
  ·cases hc
  refine rn ?_;exact zhy (.refl _) (.cons _ _ _ _ (.one _ _ _ _ _ _ _ rfl inferInstance inferInstance rfl) (.cons _ _ _ _ (.one _ _ _ _ _ _ _ rfl inferInstance inferInstance rfl) .nil)) (.drop [_,_,_] _ _) ⟨rfl,by rw [hr];rfl⟩
 ·obtain ⟨hc,_⟩|⟨hc,k,hr,rfl⟩:=hK
  ·cases hc
  obtain rfl:c= .ret:=by simpa using hc
  refine rn ?_;exact zhy (.refl _) (.cons _ _ _ _ (.one _ _ _ _ _ _ _ rfl inferInstance inferInstance rfl) (.cons _ _ _ _ (.one _ _ _ _ _ _ _ rfl inferInstance inferInstance rfl) .nil)) (.drop [_,_,_] _ _) ⟨rfl,by rw [hr];rfl⟩
theorem zdp (o:Option Nat):∃i b,za6 o= .tup [iv i,bv b]:=by
 cases o with
 |none=>exact ⟨_,_,rfl⟩
 |some i=>exact ⟨_,_,rfl⟩
theorem yno (h:Hist) (la:Lim 3000 h) (bl:Nat) (G:List Res):x4 Tryz.prog 245 [pZ bl] (.box bl 203 (zbz h)::G) (fun r h'=>h'=G∧r=za6 (zci h 1)):=by
 refine z6 Tryz.func245 rfl rfl rfl ?_
 refine rn ?_;refine z8 rfl (x9 rfl rfl rfl fun b1=> ?_)
 refine rn ?_;refine z8 rfl (w9 rfl rfl (y3.perm (pt1 _ _ _) (y3.of_fun (rAt h (Nat.le_trans la.evs (by decide)) bl (.fn (.func 259) [] [pZ b1]) rfl (.box b1 198 [pZ bl]::G) (fun k e=>zav 1 e (h.evs.take k)) (fun k hk r1 r2 r3 r4 r5=>y3.qt (h2:=G) (y3.of_acall (fs:= []) (cs:= [pZ b1]) (yjw _ bl b1 h _ r1 r2 r3 r4 r5)) (.refl _))))) rfl ?_)
 rintro _ _ ⟨rfl,rfl⟩
 obtain ⟨pi,pb,hpv⟩:∃i b,za6 (zc2 (fun k e=>zav 1 e (h.evs.take k)) 0 h.evs)= .tup [iv i,bv b]:=zdp _
 rw [hpv]
 refine rn ?_;refine rq 1 ?_
 exact ⟨rfl,hpv.symm⟩
theorem yta (h:Hist) (la:Lim 3000 h) (bl:Nat) (G:List Res):x4 Tryz.prog 249 [pZ bl] (.box bl 203 (zbz h)::G) (fun r h'=>h'=G∧r=za6 (zci h 2)):=by
 refine z6 Tryz.func249 rfl rfl rfl ?_
 refine rn ?_;refine z8 rfl (x9 rfl rfl rfl fun b1=> ?_)
 refine rn ?_;refine z8 rfl (w9 rfl rfl (y3.perm (pt1 _ _ _) (y3.of_fun (rAt h (Nat.le_trans la.evs (by decide)) bl (.fn (.func 260) [] [pZ b1]) rfl (.box b1 198 [pZ bl]::G) (fun k e=>zav 2 e (h.evs.take k)) (fun k hk r1 r2 r3 r4 r5=>y3.qt (h2:=G) (y3.of_acall (fs:= []) (cs:= [pZ b1]) (yra _ bl b1 h _ r1 r2 r3 r4 r5)) (.refl _))))) rfl ?_)
 rintro _ _ ⟨rfl,rfl⟩
 obtain ⟨pi,pb,hpv⟩:∃i b,za6 (zc2 (fun k e=>zav 2 e (h.evs.take k)) 0 h.evs)= .tup [iv i,bv b]:=zdp _
 rw [hpv]
 refine rn ?_;refine rq 1 ?_
 exact ⟨rfl,hpv.symm⟩
theorem ynm (h:Hist) (la:Lim 3000 h) (bl:Nat) (G:List Res):x4 Tryz.prog 250 [pZ bl] (.box bl 203 (zbz h)::G) (fun r h'=>h'=G∧r=za6 (zci h 3)):=by
 refine z6 Tryz.func250 rfl rfl rfl ?_
 refine rn ?_;refine z8 rfl (x9 rfl rfl rfl fun b1=> ?_)
 refine rn ?_;refine z8 rfl (w9 rfl rfl (y3.perm (pt1 _ _ _) (y3.of_fun (rAt h (Nat.le_trans la.evs (by decide)) bl (.fn (.func 261) [] [pZ b1]) rfl (.box b1 198 [pZ bl]::G) (fun k e=>zav 3 e (h.evs.take k)) (fun k hk r1 r2 r3 r4 r5=>y3.qt (h2:=G) (y3.of_acall (fs:= []) (cs:= [pZ b1]) (yjv _ bl b1 h _ r1 r2 r3 r4 r5 (by have:=la.evs;simp;omega))) (.refl _))))) rfl ?_)
 rintro _ _ ⟨rfl,rfl⟩
 obtain ⟨pi,pb,hpv⟩:∃i b,za6 (zc2 (fun k e=>zav 3 e (h.evs.take k)) 0 h.evs)= .tup [iv i,bv b]:=zdp _
 rw [hpv]
 refine rn ?_;refine rq 1 ?_
 exact ⟨rfl,hpv.symm⟩
theorem yea (h:Hist) (la:Lim 3000 h) (bl:Nat) (G:List Res):x4 Tryz.prog 251 [pZ bl] (.box bl 203 (zbz h)::G) (fun r h'=>h'=G∧r=za6 (zci h 4)):=by
 refine z6 Tryz.func251 rfl rfl rfl ?_
 refine rn ?_;refine z8 rfl (x9 rfl rfl rfl fun b1=> ?_)
 refine rn ?_;refine z8 rfl (w9 rfl rfl (y3.perm (pt1 _ _ _) (y3.of_fun (rAt h (Nat.le_trans la.evs (by decide)) bl (.fn (.func 262) [] [pZ b1]) rfl (.box b1 198 [pZ bl]::G) (fun k e=>zav 4 e (h.evs.take k)) (fun k hk r1 r2 r3 r4 r5=>y3.qt (h2:=G) (y3.of_acall (fs:= []) (cs:= [pZ b1]) (zzq _ bl b1 h _ r1 r2 r3 r4 r5 (Nat.le_trans (la.scans _ (List.getElem_mem hk)) (by decide)))) (.refl _))))) rfl ?_)
 rintro _ _ ⟨rfl,rfl⟩
 obtain ⟨pi,pb,hpv⟩:∃i b,za6 (zc2 (fun k e=>zav 4 e (h.evs.take k)) 0 h.evs)= .tup [iv i,bv b]:=zdp _
 rw [hpv]
 refine rn ?_;refine rq 1 ?_
 exact ⟨rfl,hpv.symm⟩
theorem ys6 (h:Hist) (la:Lim 3000 h) (bl:Nat) (G:List Res):x4 Tryz.prog 252 [pZ bl] (.box bl 203 (zbz h)::G) (fun r h'=>h'=G∧r=za6 (zci h 5)):=by
 refine z6 Tryz.func252 rfl rfl rfl ?_
 refine rn ?_;refine z8 rfl (x9 rfl rfl rfl fun b1=> ?_)
 refine rn ?_;refine z8 rfl (w9 rfl rfl (y3.perm (pt1 _ _ _) (y3.of_fun (rAt h (Nat.le_trans la.evs (by decide)) bl (.fn (.func 265) [] [pZ b1]) rfl (.box b1 198 [pZ bl]::G) (fun k e=>zav 5 e (h.evs.take k)) (fun k hk r1 r2 r3 r4 r5=>y3.qt (h2:=G) (y3.of_acall (fs:= []) (cs:= [pZ b1]) (yq6 _ bl b1 h _ r1 r2 r3 r4 r5 (Nat.le_trans (la.scans _ (List.getElem_mem hk)) (by decide)))) (.refl _))))) rfl ?_)
 rintro _ _ ⟨rfl,rfl⟩
 obtain ⟨pi,pb,hpv⟩:∃i b,za6 (zc2 (fun k e=>zav 5 e (h.evs.take k)) 0 h.evs)= .tup [iv i,bv b]:=zdp _
 rw [hpv]
 refine rn ?_;refine rq 1 ?_
 exact ⟨rfl,hpv.symm⟩
theorem yq5 (h:Hist) (la:Lim 3000 h) (bl:Nat) (G:List Res):x4 Tryz.prog 253 [pZ bl] (.box bl 203 (zbz h)::G) (fun r h'=>h'=G∧r=za6 (zci h 6)):=by
 refine z6 Tryz.func253 rfl rfl rfl ?_
 refine rn ?_;refine z8 rfl (w9 rfl rfl (id (y3.of_fun (rAt h (Nat.le_trans la.evs (by decide)) bl (.fn (.func 267) [] []) rfl (G) (fun k e=>zav 6 e (h.evs.take k)) (fun k hk r1 r2 r3 r4 r5=>y3.pure (R:=fun r=>r=bv _) (y3.of_acall (fs:= []) (cs:= []) (ynf _ (Nat.le_trans (la.scans _ (List.getElem_mem hk)) (by decide)))))))) rfl ?_)
 rintro _ _ ⟨rfl,rfl⟩
 obtain ⟨pi,pb,hpv⟩:∃i b,za6 (zc2 (fun k e=>zav 6 e (h.evs.take k)) 0 h.evs)= .tup [iv i,bv b]:=zdp _
 rw [hpv]
 refine rn ?_;refine rq 0 ?_
 exact ⟨rfl,hpv.symm⟩
open Go.Shelf
def yiu:Go.Shelf.Ren:=⟨fun|125=>289|128=>299|129=>300|189=>284|215=>306|216=>296|257=>288|294=>290|295=>291|296=>292|297=>293|298=>294|299=>295|300=>297|301=>298|328=>301|329=>302|330=>303|331=>304|332=>305|343=>307|n=>n,fun|0=>0|3=>3|4=>4|5=>5|9=>9|28=>54|46=>49|51=>286|53=>325|131=>67|182=>317|183=>318|218=>326|222=>169|228=>331|229=>332|n=>n,fun n=>n⟩
theorem ydr:Lays.n189 Tryz.prog yiu:={
 mixed:=by kernel_rfl
 f125:=Tryz.func289.trans (congrArg some (by kernel_rfl))
 f128:=Tryz.func299.trans (congrArg some (by kernel_rfl))
 f129:=Tryz.func300.trans (congrArg some (by kernel_rfl))
 f189:=Tryz.func284.trans (congrArg some (by kernel_rfl))
 f215:=Tryz.func306.trans (congrArg some (by kernel_rfl))
 f216:=Tryz.func296.trans (congrArg some (by kernel_rfl))
 f257:=Tryz.func288.trans (congrArg some (by kernel_rfl))
 f294:=Tryz.func290.trans (congrArg some (by kernel_rfl))
 f295:=Tryz.func291.trans (congrArg some (by kernel_rfl))
 f296:=Tryz.func292.trans (congrArg some (by kernel_rfl))
 f297:=Tryz.func293.trans (congrArg some (by kernel_rfl))
 f298:=Tryz.func294.trans (congrArg some (by kernel_rfl))
 f299:=Tryz.func295.trans (congrArg some (by kernel_rfl))
 f300:=Tryz.func297.trans (congrArg some (by kernel_rfl))
 f301:=Tryz.func298.trans (congrArg some (by kernel_rfl))
 f328:=Tryz.func301.trans (congrArg some (by kernel_rfl))
 f329:=Tryz.func302.trans (congrArg some (by kernel_rfl))
 f330:=Tryz.func303.trans (congrArg some (by kernel_rfl))
 f331:=Tryz.func304.trans (congrArg some (by kernel_rfl))
 f332:=Tryz.func305.trans (congrArg some (by kernel_rfl))
 f343:=Tryz.func307.trans (congrArg some (by kernel_rfl))
 t0:=Tryz.underlying0
 a0:=Tryz.isAgg0
 z0:=Tryz.sizeOf0
 v0:=Tryz.zeroValue0
 t3:=Tryz.underlying3
 a3:=Tryz.isAgg3
 z3:=Tryz.sizeOf3
 v3:=Tryz.zeroValue3
 t4:=Tryz.underlying4
 a4:=Tryz.isAgg4
 z4:=Tryz.sizeOf4
 v4:=Tryz.zeroValue4
 t5:=Tryz.underlying5
 a5:=Tryz.isAgg5
 z5:=Tryz.sizeOf5
 v5:=Tryz.zeroValue5
 t9:=Tryz.underlying9
 a9:=Tryz.isAgg9
 z9:=Tryz.sizeOf9
 v9:=Tryz.zeroValue9
 t28:=Tryz.underlying54
 a28:=Tryz.isAgg54
 z28:=Tryz.sizeOf54
 v28:=Tryz.zeroValue54
 t46:=Tryz.underlying49
 a46:=Tryz.isAgg49
 z46:=Tryz.sizeOf49
 v46:=Tryz.zeroValue49
 t51:=Tryz.underlying286
 a51:=Tryz.isAgg286
 z51:=Tryz.sizeOf286
 v51:=Tryz.zeroValue286
 t53:=Tryz.underlying325
 a53:=Tryz.isAgg325
 z53:=Tryz.sizeOf325
 v53:=Tryz.zeroValue325
 t131:=Tryz.underlying67
 a131:=Tryz.isAgg67
 z131:=Tryz.sizeOf67
 v131:=Tryz.zeroValue67
 t182:=Tryz.underlying317
 a182:=Tryz.isAgg317
 z182:=Tryz.sizeOf317
 v182:=Tryz.zeroValue317
 t183:=Tryz.underlying318
 a183:=Tryz.isAgg318
 z183:=Tryz.sizeOf318
 v183:=Tryz.zeroValue318
 t218:=Tryz.underlying326
 a218:=Tryz.isAgg326
 z218:=Tryz.sizeOf326
 v218:=Tryz.zeroValue326
 t222:=Tryz.underlying169
 a222:=Tryz.isAgg169
 z222:=Tryz.sizeOf169
 v222:=Tryz.zeroValue169
 t228:=Tryz.underlying331
 a228:=Tryz.isAgg331
 z228:=Tryz.sizeOf331
 v228:=Tryz.zeroValue331
 t229:=Tryz.underlying332
 a229:=Tryz.isAgg332
 z229:=Tryz.sizeOf332
 v229:=Tryz.zeroValue332}
def ylq:Go.Shelf.Ren:=⟨fun|20=>162|n=>n,fun|0=>0|3=>3|4=>4|22=>54|n=>n,fun n=>n⟩
theorem yfz:Lays2.n20 Tryz.prog ylq:={
 mixed:=by kernel_rfl
 f20:=Tryz.func162.trans (congrArg some (by kernel_rfl))
 i3:=by kernel_rfl
 t0:=Tryz.underlying0
 a0:=Tryz.isAgg0
 z0:=Tryz.sizeOf0
 v0:=Tryz.zeroValue0
 t3:=Tryz.underlying3
 a3:=Tryz.isAgg3
 z3:=Tryz.sizeOf3
 v3:=Tryz.zeroValue3
 t4:=Tryz.underlying4
 a4:=Tryz.isAgg4
 z4:=Tryz.sizeOf4
 v4:=Tryz.zeroValue4
 t22:=Tryz.underlying54
 a22:=Tryz.isAgg54
 z22:=Tryz.sizeOf54
 v22:=Tryz.zeroValue54}
theorem zkl {f:Bool} (rows:List (List AV)) (hl:rows.length * 8≤140737488355328) (hone:∀r∈rows,r.all AV.one=true):x4 Tryz.prog 55 [.list f 1 rows] [] (fun r h'=>∃s,h'= [.row s 1 3 rows]∧r= .v s):=by
 refine z6 Tryz.func55 rfl rfl rfl ?_
 refine rn ?_;refine z8 rfl (zo3 rfl rfl rfl fun b4 hb4=> ?_)
 refine rn ?_;refine z7 rfl (fun hc4=> ?_) (fun hc4=> ?_)
 ·refine rn ?_;have h0:=hb4 hc4
  subst h0
  exact u9 rfl (zbn 1 3 _) ⟨_,rfl,rfl⟩
 ·refine rn ?_;refine z8 rfl (zij rfl rfl rfl fun s5=> ?_)
  refine rn ?_;refine z8 rfl (zfj rfl rfl (by simp only [List.length_nil];omega) rfl (fun s7=> ?_) hone (by simpa using hl))
  refine rn ?_;exact u9 rfl (.refl _ _) ⟨_,by rw [List.nil_append],rfl⟩
theorem zmx {f:Bool} (rows:List (List AV)) (hl:rows.length≤1099511627776) (hone:∀r∈rows,r.all AV.one=true):x4 Tryz.prog 55 [.list f 1 rows] [] (fun r h'=>∃s,h'= [.row s 1 3 rows]∧r= .v s):=zkl rows (by omega) hone
theorem zxt {f:Bool} (rows:List (List AV)) (hl:rows.length≤1099511627776) (hone:∀r∈rows,r.all AV.one=true):x4 Tryz.prog 53 [.list f 9 rows] [] (fun r h'=>∃s,h'= [.row s 9 66 rows]∧r= .v s):=by
 refine z6 Tryz.func53 rfl rfl rfl ?_
 refine rn ?_;refine z8 rfl (zo3 rfl rfl rfl fun b4 hb4=> ?_)
 refine rn ?_;refine z7 rfl (fun hc4=> ?_) (fun hc4=> ?_)
 ·refine rn ?_;have h0:=hb4 hc4
  subst h0
  exact u9 rfl (zbn 9 66 _) ⟨_,rfl,rfl⟩
 ·refine rn ?_;refine z8 rfl (zij rfl rfl rfl fun s5=> ?_)
  refine rn ?_;refine z8 rfl (j7 rfl rfl (by simpa using hl) rfl (fun s7=> ?_) hone)
  refine rn ?_;exact u9 rfl (.refl _ _) ⟨_,by rw [List.nil_append],rfl⟩
theorem zsb {f:Bool} (rows:List (List AV)) (hl:rows.length * 32≤140737488355328) (hone:∀r∈rows,r.all AV.one=true):x4 Tryz.prog 54 [.list f 2 rows] [] (fun r h'=>∃s,h'= [.row s 2 99 rows]∧r= .v s):=by
 refine z6 Tryz.func54 rfl rfl rfl ?_
 refine rn ?_;refine z8 rfl (zo3 rfl rfl rfl fun b4 hb4=> ?_)
 refine rn ?_;refine z7 rfl (fun hc4=> ?_) (fun hc4=> ?_)
 ·refine rn ?_;have h0:=hb4 hc4
  subst h0
  exact u9 rfl (zbn 2 99 _) ⟨_,rfl,rfl⟩
 ·refine rn ?_;refine z8 rfl (zij rfl rfl rfl fun s5=> ?_)
  refine rn ?_;refine z8 rfl (zfj rfl rfl (by simp only [List.length_nil];omega) rfl (fun s7=> ?_) hone (by simpa using hl))
  refine rn ?_;exact u9 rfl (.refl _ _) ⟨_,by rw [List.nil_append],rfl⟩
theorem ymo (s:SV) (xs:List Int) (hs:xs.length < 4611686018427387904):x4 Tryz.prog 284 [.v s.v] [.row s.v 1 3 (xs.map zad)] (fun r h'=>h'= [.row s.v 1 3 ((srt xs).map zad)]∧r= .v (.tuple #[])):=
 zx1 ydr s 3 xs hs
theorem ylr (s:SV) (xs:List Int) (hs:xs.length≤4611686018427387904):x4 Tryz.prog 162 [.v s.v] [.row s.v 1 3 (xs.map zad)] (fun r h'=>∃s':SV,h'= [.row s'.v 1 3 ((zbo xs).map zad)]∧r= .v s'.v):=by
 rw [←zxs];exact zp7 yfz s 3 xs hs
theorem zo0 (h:Hist) (la:Lim 3000 h) (bl:Nat) (x:Int) (G:List Res):x4 Tryz.prog 270 [pZ bl,iv x] (.box bl 203 (zbz h)::G) (fun r h'=>h'= .box bl 203 (zbz h)::G∧r=zb8 (zan h.evs x)):=by
 refine z6 Tryz.func270 rfl rfl rfl ?_
 have be:=la.evs
 refine rn ?_;refine z8 rfl (zbj (enc:=zcl) rfl fun bm=> ?_)
 refine rn ?_;refine zbt h.evs.length (fun k=>True) (fun k=>⟨[(18,iv k),(0,pZ bl),(1,iv x),(5,.v (.map (some bm))),(16,zm4 h.evs),(17,iv (h.evs.map evR).length)],.map bm (zag zcl (zb6 bv (yho (h.evs.take k)))):: .box bl 203 (zbz h)::G,[]⟩) trivial es ?_
 intro k lk _
 refine rn ?_;refine z7 rfl (fun hc19=> ?_) (fun hc19=> ?_)
 ·have hk:=zao hc19
  have rk:=zac (f:=evR) hk
  refine rn ?_;refine z8 rfl (y6 rfl fun b7=> ?_)
  first|refine z8 rfl (zam rfl rfl rfl ?_)|refine z8 rfl (zba rfl rfl rfl rfl (Nat.le_of_ble_eq_true rfl) ?_)
  refine u5 (k8 ?_)
  refine y5 ?_;refine q1 ?_;refine q1 ?_;refine q1 ?_;refine q1 ?_;refine q1 ?_;refine q1 ?_;refine qq rfl rfl (zcp (enc:=zcl) (k:=h.evs[k].t) false rfl rfl) ?_
  refine rn ?_;refine y9 (fun hg5_7=> ?_) (fun hg5_7=> ?_)
  ·refine rn ?_;refine z8 rfl (zby (g:=bv) (enc:=zcl) (k:=h.evs[k].t) rfl rfl rfl ?_)
   refine rn ?_;exact ⟨hk,trivial,by first|(rw [zjf hk,hg5_7,Bool.true_or];exact eA)|(rw [zjf hk,hg5_7,Bool.false_or];exact eA)⟩
  ·refine rn ?_;refine z8 rfl (zby (g:=bv) (enc:=zcl) (k:=h.evs[k].t) rfl rfl rfl ?_)
   refine rn ?_;exact ⟨hk,trivial,by first|(rw [zjf hk,hg5_7,Bool.true_or];exact eA)|(rw [zjf hk,hg5_7,Bool.false_or];exact eA)⟩
 ·have qk:=zap hc19 lk
  subst qk
  rw [List.take_length]
  refine rn ?_;refine ze0 h.evs.length (fun k s=>⟨[(41,iv k),(8,.v s.v),(1,iv x),(5,.v (.map (some bm))),(39,zm4 h.evs),(40,iv (h.evs.map evR).length)],.row s.v 1 3 ((((h.evs.take k).filter (wrB h.evs x)).map Ev.t).map zad):: .map bm (zag zcl (zb6 bv (yho h.evs))):: .box bl 203 (zbz h)::G,[]⟩) ⟨none,0,0⟩ (v6 (zar 1 3) es) ?_
  intro k s lk
  refine rn ?_;refine z7 rfl (fun hc42=> ?_) (fun hc42=> ?_)
  ·have hk:=zao hc42
   have rk:=zac (f:=evR) hk
   refine rn ?_;refine z8 rfl (y6 rfl fun b10=> ?_)
   refine rn ?_;refine y9 (fun hg11_3=> ?_) (fun hg11_3=> ?_)
   ·refine rn ?_;refine y9 (fun hg11_9=> ?_) (fun hg11_9=> ?_)
    ·refine q1 ?_;refine q1 ?_;refine q1 ?_;refine qq rfl rfl (zcp (enc:=zcl) (k:=h.evs[k].t) false rfl rfl) ?_
     refine rn ?_;refine z7 rfl (fun hc59=> ?_) (fun hc59=> ?_)
     ·have hx:wrB h.evs x h.evs[k]=true:=by unfold wrB;rw [←zlm];simp_all
      refine rn ?_;refine qv rfl rfl (q9 rfl rfl) ?_
      refine z8 rfl (j7 rfl rfl (by simp only [List.length_map,List.length_cons,List.length_nil];have:=ybd (l:=h.evs) (k:=k) (p:=wrB h.evs x);omega) rfl (fun s64=> ?_) (zju [h.evs[k].t]))
      refine zaj s64 fun sv hsv=> ?_
      subst hsv
      refine rn ?_;exact ⟨hk,sv,by rw [yry hk hx,List.map_append,List.map_append];exact eA⟩
     ·have hx:wrB h.evs x h.evs[k]=false:=by unfold wrB;rw [←zlm];simp_all
      refine rn ?_;exact ⟨hk,s,by rw [yli hk hx];exact eA⟩
    ·refine rn ?_;refine ze2 rfl ?_;have hx:wrB h.evs x h.evs[k]=false:=by unfold wrB;rw [←zlm];simp_all
     refine rn ?_;exact ⟨hk,s,by rw [yli hk hx];exact eA⟩
   ·refine rn ?_;refine ze2 rfl ?_;have hx:wrB h.evs x h.evs[k]=false:=by unfold wrB;rw [←zlm];simp_all
    refine rn ?_;exact ⟨hk,s,by rw [yli hk hx];exact eA⟩
  ·have qk:=zap hc42 lk
   subst qk
   refine rn ?_;refine z8 rfl (w9 rfl rfl (zhs (y3.of_fun (ymo s _ (by have:=ybd (l:=h.evs) (k:=h.evs.length) (p:=wrB h.evs x);rw [List.length_map];omega)))) rfl ?_)
   rintro _ _ ⟨rfl,rfl⟩
   refine rn ?_;refine z8 rfl (w9 rfl rfl (zaq (y3.of_fun (ylr s _ (by rw [(zen _).length_eq,List.length_map];have:=ybd (l:=h.evs) (k:=h.evs.length) (p:=wrB h.evs x);omega)))) rfl ?_)
   rintro _ _ ⟨s',rfl,rfl⟩
   refine rn ?_;exact u9 rfl (.trans zd3 (.drop1 _ _ _)) ⟨rfl,by rw [List.take_length];rfl⟩
theorem yor {f:Bool} (l:List Int) (n:Int) (hl:l.length≤4611686018427387904):x4 Tryz.prog 29 [.list f 1 (l.map zad),iv n] [] (fun r h'=>h'= []∧r=iv (zbh (fun a=>a==n) 0 l)):=by
 refine z6 Tryz.func29 rfl rfl rfl ?_
 refine rn ?_;refine zbp (l.length) (fun k:Nat=>zbh (fun a=>a==n) 0 l=zbh (fun a=>a==n) k (l.drop k)) (fun k=> [(8,iv k)]) [(0,_),(1,_),(7,_)] (by simp) ?_
 intro k lk zk
 refine rn ?_;refine z7 rfl (fun hc9=> ?_) (fun hc9=> ?_)
 ·have hk:=zao hc9
  have rk:=zac (f:=zad) hk
  refine rn ?_;refine z7 rfl (fun hc16=> ?_) (fun hc16=> ?_)
  ·refine rn ?_;refine rq 0 ?_
   exact ⟨rfl,congrArg iv (by rw [zk,List.drop_eq_getElem_cons hk,zbh,if_pos (by rw [beq_iff_eq] at hc16 ⊢;exact hc16.symm)])⟩
  ·refine rn ?_;exact ⟨hk,by rw [zk,List.drop_eq_getElem_cons hk,zbh,if_neg (fun q=>by rw [beq_iff_eq] at q;rw [q] at hc16;simp at hc16)],eA⟩
 ·have qk:=zap hc9 lk
  refine rn ?_;refine rq 0 ?_
  exact ⟨rfl,congrArg iv (by rw [zk,qk,List.drop_length];rfl)⟩
theorem ybw {f:Bool} (l:List Int) (n:Int) (hl:l.length≤4611686018427387904):x4 Tryz.prog 286 [.list f 1 (l.map zad),iv n] [] (fun r h'=>h'= []∧r=bv (l.contains n)):=by
 refine z6 Tryz.func286 rfl rfl rfl ?_
 refine rn ?_;refine qv rfl rfl (y4 rfl rfl (v7 (yor _ _ hl) (Sbs.refl _))) ?_
 refine rn ?_;refine rq 0 ?_
 exact ⟨rfl,congrArg bv (by rw [zeh,zr9])⟩
theorem yni (f:List Int) (t:Int) (b:Nat) (G:List Res) (hl:f.length≤4611686018427387904):x4 Tryz.prog 285 [iv t,pZ b] (.box b 54 [zb8 f]::G) (fun r h'=>h'= .box b 54 [zb8 f]::G∧r=bv (!f.contains t)):=by
 refine z6 Tryz.func285 rfl rfl rfl ?_
 refine rn ?_;refine qv rfl rfl (y4 rfl rfl (v7 (ybw _ _ hl) (Sbs.refl _))) ?_
 refine rn ?_;refine rq 0 ?_
 exact ⟨rfl,rfl⟩
theorem ynj (ts f:List Int) (hl:ts.length≤1000000) (hf:f.length≤4611686018427387904):x4 Tryz.prog 272 [zb8 ts,zb8 f] [] (fun r h'=>h'= []∧r=bv (zth ts f)):=by
 refine z6 Tryz.func272 rfl rfl rfl ?_
 have hl':ts.length≤4611686018427387904:=Nat.le_trans hl (by decide)
 refine rn ?_;refine z8 rfl (x9 rfl rfl rfl fun b3=> ?_)
 refine rn ?_;refine z8 rfl (w9 rfl rfl (y3.new (y3.of_fun (zmx (ts.map zad) (by simp;omega) (fun r hr=>by obtain ⟨n,_,rfl⟩:=List.mem_map.1 hr;rfl)))) rfl ?_)
 rintro _ _ ⟨_,⟨s,rfl,rfl⟩,rfl⟩
 show zcw _ _ _ _ _ _ ⟨_,.row s 1 3 (ts.map zad):: [.box b3 54 [zb8 f]],_⟩
 refine zaj s fun sv hsv=> ?_
 subst hsv
 refine rn ?_;refine z8 rfl (w9 rfl rfl (zhs (y3.of_fun (ymo sv ts (by omega)))) rfl ?_)
 rintro _ _ ⟨rfl,rfl⟩
 refine rn ?_;refine z8 rfl (w9 rfl rfl (zaq (y3.of_fun (ylr sv (srt ts) (by rw [(zen _).length_eq];omega)))) rfl ?_)
 rintro _ _ ⟨s',rfl,rfl⟩
 refine rn ?_;refine y9 (fun hg3_6=> ?_) (fun hg3_6=> ?_)
 ·refine rn ?_;refine qv rfl rfl (y4 rfl rfl (y3.of_fun (zhe ts _ _ [.row s'.v 1 3 ((zbo (srt ts)).map zad),.box b3 54 [zb8 f]] (fun t _=>y3.qt (h2:= [_]) (y3.of_acall (fs:= []) (cs:= [pZ b3]) (yni f t b3 [] hf)) (zew [_] [_])) hl'))) ?_
  refine rn ?_;refine rq 2 ?_
  exact ⟨rfl,congrArg bv (by unfold zth;by_cases e:(zbo (srt ts)).length=ts.length <;> first|(simp_all;done)|(exfalso;simp at hg3_6;omega))⟩
 ·refine rn ?_;refine rq 2 ?_
  exact ⟨rfl,congrArg bv (by unfold zth;by_cases e:(zbo (srt ts)).length=ts.length <;> first|(simp_all;done)|(exfalso;simp at hg3_6;omega))⟩
theorem yjp {f:Bool} (l:List H.Ord) (fv:AV) (w:Nat→H.Ord→Bool) (G:List Res) (hp:∀k (hk:k < l.length),y3 Tryz.prog fv [iv k,.agg (zdk l[k])] G (fun r h'=>h'=G∧r=bv (w k l[k]))) (hl:l.length≤1000000):x4 Tryz.prog 268 [.list f 2 (l.map zdk),fv] G (fun r h'=>h'=G∧r=za6 (zc2 w 0 l)):=by
 refine z6 Tryz.func268 rfl rfl rfl ?_
 refine rn ?_;refine zbt l.length (fun k=>zc2 w 0 l=zc2 w k (l.drop k)) (fun k=>⟨[(10,iv k),(1,fv),(8,.list f 2 (l.map zdk)),(9,iv (l.map zdk).length)],G,[]⟩) (by simp) es ?_
 intro k lk zk
 refine rn ?_;refine z7 rfl (fun hc11=> ?_) (fun hc11=> ?_)
 ·have hk:=zao hc11
  have rk:=zac (f:=zdk) hk
  refine rn ?_;refine z8 rfl (y6 rfl fun b7=> ?_)
  refine rn ?_;refine qv rfl rfl (y4 rfl rfl (y3.qt (h2:= [_]) (hp k hk) (zew [_] _))) ?_
  refine rn ?_;refine z7 rfl (fun hc18=> ?_) (fun hc18=> ?_)
  ·refine rn ?_;refine rq 1 ?_
   exact ⟨rfl,by rw [zg0 hk zk (by simpa using hc18)];rfl⟩
  ·refine rn ?_;exact ⟨hk,zdo hk zk (by simpa using hc18),eA⟩
 ·have qk:=zap hc11 lk
  refine rn ?_;refine rq 0 ?_
  exact ⟨rfl,by rw [zi2 qk zk];rfl⟩
theorem yjo {f:Bool} (l:List ByteArray) (fv:AV) (w:Nat→ByteArray→Bool) (G:List Res) (hp:∀k (hk:k < l.length),y3 Tryz.prog fv [iv k,sv l[k]] G (fun r h'=>h'=G∧r=bv (w k l[k]))) (hl:l.length≤1000000):x4 Tryz.prog 273 [.list f 1 (l.map ze7),fv] G (fun r h'=>h'=G∧r=za6 (zc2 w 0 l)):=by
 refine z6 Tryz.func273 rfl rfl rfl ?_
 refine rn ?_;refine zbt l.length (fun k=>zc2 w 0 l=zc2 w k (l.drop k)) (fun k=>⟨[(10,iv k),(1,fv),(8,.list f 1 (l.map ze7)),(9,iv (l.map ze7).length)],G,[]⟩) (by simp) es ?_
 intro k lk zk
 refine rn ?_;refine z7 rfl (fun hc11=> ?_) (fun hc11=> ?_)
 ·have hk:=zao hc11
  have rk:=zac (f:=ze7) hk
  refine rn ?_;refine qv rfl rfl (y4 rfl rfl (hp k hk)) ?_
  refine rn ?_;refine z7 rfl (fun hc18=> ?_) (fun hc18=> ?_)
  ·refine rn ?_;refine rq 0 ?_
   exact ⟨rfl,by rw [zg0 hk zk (by simpa using hc18)];rfl⟩
  ·refine rn ?_;exact ⟨hk,zdo hk zk (by simpa using hc18),eA⟩
 ·have qk:=zap hc11 lk
  refine rn ?_;refine rq 0 ?_
  exact ⟨rfl,by rw [zi2 qk zk];rfl⟩
theorem yjq {f:Bool} (l:List Mat) (fv:AV) (w:Nat→Mat→Bool) (G:List Res) (hp:∀k (hk:k < l.length),y3 Tryz.prog fv [iv k,.agg (ze4 l[k])] G (fun r h'=>h'=G∧r=bv (w k l[k]))) (hl:l.length≤1000000):x4 Tryz.prog 276 [.list f 4 (l.map ze4),fv] G (fun r h'=>h'=G∧r=za6 (zc2 w 0 l)):=by
 refine z6 Tryz.func276 rfl rfl rfl ?_
 refine rn ?_;refine zbt l.length (fun k=>zc2 w 0 l=zc2 w k (l.drop k)) (fun k=>⟨[(10,iv k),(1,fv),(8,.list f 4 (l.map ze4)),(9,iv (l.map ze4).length)],G,[]⟩) (by simp) es ?_
 intro k lk zk
 refine rn ?_;refine z7 rfl (fun hc11=> ?_) (fun hc11=> ?_)
 ·have hk:=zao hc11
  have rk:=zac (f:=ze4) hk
  refine rn ?_;refine z8 rfl (y6 rfl fun b7=> ?_)
  refine rn ?_;refine qv rfl rfl (y4 rfl rfl (y3.qt (h2:= [_]) (hp k hk) (zew [_] _))) ?_
  refine rn ?_;refine z7 rfl (fun hc18=> ?_) (fun hc18=> ?_)
  ·refine rn ?_;refine rq 1 ?_
   exact ⟨rfl,by rw [zg0 hk zk (by simpa using hc18)];rfl⟩
  ·refine rn ?_;exact ⟨hk,zdo hk zk (by simpa using hc18),eA⟩
 ·have qk:=zap hc11 lk
  refine rn ?_;refine rq 0 ?_
  exact ⟨rfl,by rw [zi2 qk zk];rfl⟩
theorem yjn {f:Bool} (l:List Wan) (fv:AV) (w:Nat→Wan→Bool) (G:List Res) (hp:∀k (hk:k < l.length),y3 Tryz.prog fv [iv k,.agg (zff l[k])] G (fun r h'=>h'=G∧r=bv (w k l[k]))) (hl:l.length≤1000000):x4 Tryz.prog 279 [.list f 2 (l.map zff),fv] G (fun r h'=>h'=G∧r=za6 (zc2 w 0 l)):=by
 refine z6 Tryz.func279 rfl rfl rfl ?_
 refine rn ?_;refine zbt l.length (fun k=>zc2 w 0 l=zc2 w k (l.drop k)) (fun k=>⟨[(10,iv k),(1,fv),(8,.list f 2 (l.map zff)),(9,iv (l.map zff).length)],G,[]⟩) (by simp) es ?_
 intro k lk zk
 refine rn ?_;refine z7 rfl (fun hc11=> ?_) (fun hc11=> ?_)
 ·have hk:=zao hc11
  have rk:=zac (f:=zff) hk
  refine rn ?_;refine z8 rfl (y6 rfl fun b7=> ?_)
  refine rn ?_;refine qv rfl rfl (y4 rfl rfl (y3.qt (h2:= [_]) (hp k hk) (zew [_] _))) ?_
  refine rn ?_;refine z7 rfl (fun hc18=> ?_) (fun hc18=> ?_)
  ·refine rn ?_;refine rq 1 ?_
   exact ⟨rfl,by rw [zg0 hk zk (by simpa using hc18)];rfl⟩
  ·refine rn ?_;exact ⟨hk,zdo hk zk (by simpa using hc18),eA⟩
 ·have qk:=zap hc11 lk
  refine rn ?_;refine rq 0 ?_
  exact ⟨rfl,by rw [zi2 qk zk];rfl⟩
theorem yec (p r:H.Ord) (b:Nat) (G:List Res):x4 Tryz.prog 271 [.agg (zdk p),pZ b] (.box b 99 (zdk r)::G) (fun x h'=>h'= .box b 99 (zdk r)::G∧x=bv (p.o==r.o)):=by
 refine z6 Tryz.func271 rfl rfl rfl ?_
 refine rn ?_;refine z8 rfl (x9 rfl rfl rfl fun b2=> ?_)
 refine rn ?_;refine rq 1 ?_
 exact ⟨rfl,congrArg bv (by first|rfl|(simp_all;done))⟩
theorem yee (p r:Mat) (b:Nat) (G:List Res):x4 Tryz.prog 278 [.agg (ze4 p),pZ b] (.box b 112 (ze4 r)::G) (fun x h'=>h'= .box b 112 (ze4 r)::G∧x=bv (p.p==r.p && p.o==r.o)):=by
 refine z6 Tryz.func278 rfl rfl rfl ?_
 refine rn ?_;refine z8 rfl (x9 rfl rfl rfl fun b2=> ?_)
 refine rn ?_;refine y9 (fun hg1_5=> ?_) (fun hg1_5=> ?_)
 ·refine rn ?_;refine rq 1 ?_
  exact ⟨rfl,congrArg bv (by first|rfl|(simp_all;done))⟩
 ·refine rn ?_;refine rq 1 ?_
  exact ⟨rfl,congrArg bv (by first|rfl|(simp_all;done))⟩
theorem yjl (p r:Wan) (b:Nat) (G:List Res):x4 Tryz.prog 282 [.agg (zff p),pZ b] (.box b 51 (zff r)::G) (fun x h'=>h'= .box b 51 (zff r)::G∧x=bv (p.s==r.s)):=by
 refine z6 Tryz.func282 rfl rfl rfl ?_
 refine rn ?_;refine z8 rfl (x9 rfl rfl rfl fun b2=> ?_)
 refine rn ?_;refine rq 1 ?_
 exact ⟨rfl,congrArg bv (by first|rfl|(simp_all;done))⟩
theorem yjm (e:Ev) (r:Wan) (b:Nat) (G:List Res):x4 Tryz.prog 281 [.agg (evR e),pZ b] (.box b 51 (zff r)::G) (fun x h'=>h'= .box b 51 (zff r)::G∧x=bv (e.kind==1 && e.s==r.s)):=by
 refine z6 Tryz.func281 rfl rfl rfl ?_
 refine rn ?_;refine z8 rfl (x9 rfl rfl rfl fun b2=> ?_)
 refine rn ?_;refine y9 (fun hg1_3=> ?_) (fun hg1_3=> ?_)
 ·refine rn ?_;refine rq 1 ?_
  exact ⟨rfl,congrArg bv (by first|(simp_all;done)|(simp only [*];done))⟩
 ·refine rn ?_;refine rq 1 ?_
  exact ⟨rfl,congrArg bv (by first|(simp_all;done)|(simp only [*];done))⟩
theorem zw8 (r:H.Ord) (x:Int) (b:Nat) (G:List Res):x4 Tryz.prog 275 [.agg (zdk r),pZ b] (.box b 3 [iv x]::G) (fun z h'=>h'= .box b 3 [iv x]::G∧z=bv (r.o==x)):=by
 refine z6 Tryz.func275 rfl rfl rfl ?_
 refine rn ?_;refine z8 rfl (x9 rfl rfl rfl fun b2=> ?_)
 refine rn ?_;refine rq 1 ?_
 exact ⟨rfl,congrArg bv (by first|rfl|(simp_all;done))⟩
theorem yjr (h:Hist) (la:Lim 3000 h) (i:Nat) (hi:i≤h.ords.length) (r:H.Ord) (hr:r.ts.length≤3000) (bl bp:Nat) (G:List Res):x4 Tryz.prog 269 [iv i,.agg (zdk r),pZ bp] (.box bp 198 [pZ bl]:: .box bl 203 (zbz h)::G) (fun x h'=>h'=(.box bp 198 [pZ bl]:: .box bl 203 (zbz h)::G)∧x=bv (zg5 h i r)):=by
 refine z6 Tryz.func269 rfl rfl rfl ?_
 have bo:=la.ords
 refine rn ?_;refine z8 rfl (x9 rfl rfl rfl fun b4=> ?_)
 refine rn ?_;refine qv rfl rfl (y4 rfl rfl (y3.qt (h2:= .box b4 99 (zdk r):: .box bp 198 [pZ bl]::G) (y3.of_fun (zo0 h la bl r.o [])) (pt2 _ _ _ _))) ?_
 refine q1 ?_;refine u5 (k8 ?_)
 refine x8 (y5 ?_)
 refine q1 ?_;refine q1 ?_;refine q1 ?_;refine q1 ?_;refine q1 ?_;refine q1 ?_;refine qq rfl rfl (za5 (k:=i) rfl rfl (by rw [List.length_map];omega)) ?_
 rw [←List.map_take]
 refine rn ?_;refine qv rfl rfl (y4 rfl rfl (y3.of_fun (zez (h.ords.take i) _ _ (.box b4 99 (zdk r):: .box bp 198 [pZ bl]:: .box bl 203 (zbz h)::G) (fun p _=>y3.of_acall (fs:= []) (cs:= [pZ b4]) (yec p r b4 (.box bp 198 [pZ bl]:: .box bl 203 (zbz h)::G))) (by rw [List.length_take];have:=la.ords;omega)))) ?_
 refine rn ?_;refine y9 (fun hg2_9=> ?_) (fun hg2_9=> ?_)
 ·refine rn ?_;refine rq 1 ?_
  exact ⟨rfl,congrArg bv (by unfold zg5;first|(simp only [hg2_9,hg2_16,List.length_map,zjz,Bool.not_true,Bool.not_false,Bool.true_or,Bool.or_true,Bool.false_or];done)|(simp only [hg2_9,Bool.true_or];done)|(simp_all [zjz];done))⟩
 ·refine rn ?_;refine qv rfl rfl (y4 rfl rfl (v7 (ynj r.ts (zan h.evs r.o) (Nat.le_trans hr (by decide)) (Nat.le_trans (zjk h.evs r.o) (Nat.le_trans la.evs (by decide)))) (Sbs.refl _))) ?_
  refine rn ?_;refine y9 (fun hg2_16=> ?_) (fun hg2_16=> ?_)
  ·refine rn ?_;refine rq 1 ?_
   exact ⟨rfl,congrArg bv (by unfold zg5;first|(simp only [hg2_9,hg2_16,List.length_map,zjz,Bool.not_true,Bool.not_false,Bool.true_or,Bool.or_true,Bool.false_or];done)|(simp only [hg2_9,Bool.true_or];done)|(simp_all [zjz];done))⟩
  ·refine rn ?_;refine rq 1 ?_
   exact ⟨rfl,congrArg bv (by unfold zg5;first|(simp only [hg2_9,hg2_16,List.length_map,zjz,Bool.not_true,Bool.not_false,Bool.true_or,Bool.or_true,Bool.false_or];done)|(simp only [hg2_9,Bool.true_or];done)|(simp_all [zjz];done))⟩
theorem yjs (h:Hist) (la:Lim 3000 h) (i:Nat) (hi:i≤h.mats.length) (r:Mat) (hr:r.ts.length≤3000) (bl bp:Nat) (G:List Res):x4 Tryz.prog 277 [iv i,.agg (ze4 r),pZ bp] (.box bp 198 [pZ bl]:: .box bl 203 (zbz h)::G) (fun x h'=>h'=(.box bp 198 [pZ bl]:: .box bl 203 (zbz h)::G)∧x=bv (zkg h i r)):=by
 refine z6 Tryz.func277 rfl rfl rfl ?_
 have bo:=la.mats
 refine rn ?_;refine z8 rfl (x9 rfl rfl rfl fun b4=> ?_)
 refine rn ?_;refine j6 16 rfl ?_
 refine dq rfl rfl qrA ?_;refine dq rfl rfl qrA ?_;refine dq rfl rfl qrA ?_;refine dq rfl rfl qrA ?_;refine dq rfl rfl qrA ?_;refine dq rfl rfl qrA ?_;refine dq rfl rfl (za5 (k:=i) rfl rfl (by rw [List.length_map];omega)) ?_
 rw [←List.map_take]
 refine rn ?_;refine dv rfl rfl (by exact y4 rfl rfl (y3.of_fun (zhd (h.mats.take i) _ _ (.box b4 112 (ze4 r):: .box bp 198 [pZ bl]:: .box bl 203 (zbz h)::G) (fun p _=>y3.of_acall (fs:= []) (cs:= [pZ b4]) (yee p r b4 (.box bp 198 [pZ bl]:: .box bl 203 (zbz h)::G))) (by rw [List.length_take];have:=la.mats;omega)))) ?_
 refine rn ?_;refine zel (fun hg2_9=> ?_) (fun hg2_9=> ?_)
 ·refine rn ?_;refine rq 1 ?_
  exact ⟨rfl,congrArg bv (by unfold zkg;simp_all)⟩
 ·refine rn ?_;refine dv rfl rfl (by exact y4 rfl rfl (y3.qt (h2:= .box b4 112 (ze4 r):: .box bp 198 [pZ bl]::G) (y3.of_fun (zo0 h la bl r.o [])) (pt2 _ _ _ _))) ?_
  refine rn ?_;refine qv rfl rfl (y4 rfl rfl (v7 (ynj r.ts (zan h.evs r.o) (Nat.le_trans hr (by decide)) (Nat.le_trans (zjk h.evs r.o) (Nat.le_trans la.evs (by decide)))) (Sbs.refl _))) ?_
  refine rn ?_;refine rq 1 ?_
  exact ⟨rfl,congrArg bv (by unfold zkg;simp_all)⟩
theorem ynb (h:Hist) (la:Lim 3000 h) (i:Nat) (hi:i≤h.wants.length) (r:Wan) (bl bp:Nat) (G:List Res):x4 Tryz.prog 280 [iv i,.agg (zff r),pZ bp] (.box bp 198 [pZ bl]:: .box bl 203 (zbz h)::G) (fun x h'=>h'=(.box bp 198 [pZ bl]:: .box bl 203 (zbz h)::G)∧x=bv (zjn h i r)):=by
 refine z6 Tryz.func280 rfl rfl rfl ?_
 have bo:=la.wants
 refine rn ?_;refine z8 rfl (x9 rfl rfl rfl fun b4=> ?_)
 refine q1 ?_;refine u5 (k8 ?_)
 refine x8 (y5 ?_)
 refine q1 ?_;refine q1 ?_;refine u5 (k8 ?_)
 refine x8 (y5 ?_)
 refine q1 ?_;refine q1 ?_;refine q1 ?_;refine q1 ?_;refine q1 ?_;refine q1 ?_;refine qq rfl rfl (za5 (k:=i) rfl rfl (by rw [List.length_map];omega)) ?_
 rw [←List.map_take]
 refine rn ?_;refine qv rfl rfl (y4 rfl rfl (y3.of_fun (zhc (h.wants.take i) _ _ (.box b4 51 (zff r):: .box bp 198 [pZ bl]:: .box bl 203 (zbz h)::G) (fun p _=>y3.of_acall (fs:= []) (cs:= [pZ b4]) (yjl p r b4 (.box bp 198 [pZ bl]:: .box bl 203 (zbz h)::G))) (by rw [List.length_take];have:=la.wants;omega)))) ?_
 refine rn ?_;refine y9 (fun hg2_9=> ?_) (fun hg2_9=> ?_)
 ·refine rn ?_;refine rq 1 ?_
  exact ⟨rfl,congrArg bv (by unfold zjn;simp_all)⟩
 ·refine rn ?_;refine qv rfl rfl (y4 rfl rfl (y3.of_fun (zid h.evs _ _ (.box b4 51 (zff r):: .box bp 198 [pZ bl]:: .box bl 203 (zbz h)::G) (fun e _=>y3.of_acall (fs:= []) (cs:= [pZ b4]) (yjm e r b4 (.box bp 198 [pZ bl]:: .box bl 203 (zbz h)::G))) (Nat.le_trans la.evs (by decide))))) ?_
  refine rn ?_;refine rq 1 ?_
  exact ⟨rfl,congrArg bv (by unfold zjn;simp_all)⟩
theorem zzr (h:Hist) (la:Lim 3000 h) (x:Int) (s:ByteArray) (bl bp:Nat) (G:List Res):x4 Tryz.prog 274 [iv x,sv s,pZ bp] (.box bp 198 [pZ bl]:: .box bl 203 (zbz h)::G) (fun z h'=>h'=(.box bp 198 [pZ bl]:: .box bl 203 (zbz h)::G)∧z=bv (zo5 h x)):=by
 refine z6 Tryz.func274 rfl rfl rfl ?_
 refine rn ?_;refine z8 rfl (x9 rfl rfl rfl fun b3=> ?_)
 refine rn ?_;refine qv rfl rfl (y4 rfl rfl (y3.qt (h2:= .box b3 3 [iv x]:: .box bp 198 [pZ bl]::G) (y3.of_fun (zo0 h la bl x [])) (pt2 _ _ _ _))) ?_
 refine rn ?_;refine y9 (fun hg1_5=> ?_) (fun hg1_5=> ?_)
 ·refine rn ?_;refine qv rfl rfl (y4 rfl rfl (y3.of_fun (zez h.ords _ _ (.box b3 3 [iv x]:: .box bp 198 [pZ bl]:: .box bl 203 (zbz h)::G) (fun r _=>y3.of_acall (fs:= []) (cs:= [pZ b3]) (zw8 r x b3 (.box bp 198 [pZ bl]:: .box bl 203 (zbz h)::G))) (Nat.le_trans la.ords (by decide))))) ?_
  refine rn ?_;refine rq 1 ?_
  exact ⟨rfl,congrArg bv (by unfold zo5;by_cases e:1 < (zan h.evs x).length <;> first|(simp_all;done)|(simp [e];done)|(exfalso;simp at hg1_5;omega))⟩
 ·refine rn ?_;refine rq 1 ?_
  exact ⟨rfl,congrArg bv (by unfold zo5;by_cases e:1 < (zan h.evs x).length <;> first|(simp_all;done)|(simp [e];done)|(exfalso;simp at hg1_5;omega))⟩
theorem ynh (h:Hist) (la:Lim 3000 h) (bl:Nat) (G:List Res):x4 Tryz.prog 254 [pZ bl] (.box bl 203 (zbz h)::G) (fun r h'=>h'=G∧r=za6 (zci h 7)):=by
 refine z6 Tryz.func254 rfl rfl rfl ?_
 refine rn ?_;refine z8 rfl (x9 rfl rfl rfl fun b1=> ?_)
 refine rn ?_;refine qv rfl rfl (y4 rfl rfl (y3.of_fun (yjp h.ords (.fn (.func 269) [] [pZ b1]) (zg5 h) (.box b1 198 [pZ bl]:: .box bl 203 (zbz h)::G) (fun k hk=>y3.of_acall (fs:= []) (cs:= [pZ b1]) (yjr h la k (Nat.le_of_lt hk) _ (la.ordts _ (List.getElem_mem hk)) bl b1 G)) (Nat.le_trans la.ords (by decide))))) ?_
 obtain ⟨pi,pb,hpv⟩:∃i b,za6 (zc2 (zg5 h) 0 h.ords)= .tup [iv i,bv b]:=zdp _
 rw [hpv]
 refine rn ?_;refine rq 2 ?_
 exact ⟨rfl,hpv.symm⟩
theorem yed (h:Hist) (la:Lim 3000 h) (bl:Nat) (G:List Res):x4 Tryz.prog 255 [pZ bl] (.box bl 203 (zbz h)::G) (fun r h'=>h'=G∧r=za6 (zci h 8)):=by
 refine z6 Tryz.func255 rfl rfl rfl ?_
 refine rn ?_;refine z8 rfl (x9 rfl rfl rfl fun b1=> ?_)
 refine rn ?_;refine qv rfl rfl (y4 rfl rfl (y3.of_fun (yjo h.os (.fn (.func 274) [] [pZ b1]) (fun x _=>zo5 h (x:Nat)) (.box b1 198 [pZ bl]:: .box bl 203 (zbz h)::G) (fun k hk=>y3.of_acall (fs:= []) (cs:= [pZ b1]) (zzr h la k _ bl b1 G)) (Nat.le_trans la.os (by decide))))) ?_
 obtain ⟨pi,pb,hpv⟩:∃i b,za6 (zc2 (fun x _=>zo5 h (x:Nat)) 0 h.os)= .tup [iv i,bv b]:=zdp _
 rw [hpv]
 refine rn ?_;refine rq 2 ?_
 exact ⟨rfl,hpv.symm⟩
theorem ynk (h:Hist) (la:Lim 3000 h) (bl:Nat) (G:List Res):x4 Tryz.prog 256 [pZ bl] (.box bl 203 (zbz h)::G) (fun r h'=>h'=G∧r=za6 (zci h 9)):=by
 refine z6 Tryz.func256 rfl rfl rfl ?_
 refine rn ?_;refine z8 rfl (x9 rfl rfl rfl fun b1=> ?_)
 refine rn ?_;refine qv rfl rfl (y4 rfl rfl (y3.of_fun (yjq h.mats (.fn (.func 277) [] [pZ b1]) (zkg h) (.box b1 198 [pZ bl]:: .box bl 203 (zbz h)::G) (fun k hk=>y3.of_acall (fs:= []) (cs:= [pZ b1]) (yjs h la k (Nat.le_of_lt hk) _ (la.matts _ (List.getElem_mem hk)) bl b1 G)) (Nat.le_trans la.mats (by decide))))) ?_
 obtain ⟨pi,pb,hpv⟩:∃i b,za6 (zc2 (zkg h) 0 h.mats)= .tup [iv i,bv b]:=zdp _
 rw [hpv]
 refine rn ?_;refine rq 2 ?_
 exact ⟨rfl,hpv.symm⟩
theorem yq3 (h:Hist) (la:Lim 3000 h) (bl:Nat) (G:List Res):x4 Tryz.prog 257 [pZ bl] (.box bl 203 (zbz h)::G) (fun r h'=>h'=G∧r=za6 (zci h 10)):=by
 refine z6 Tryz.func257 rfl rfl rfl ?_
 refine rn ?_;refine z8 rfl (x9 rfl rfl rfl fun b1=> ?_)
 refine rn ?_;refine qv rfl rfl (y4 rfl rfl (y3.of_fun (yjn h.wants (.fn (.func 280) [] [pZ b1]) (zjn h) (.box b1 198 [pZ bl]:: .box bl 203 (zbz h)::G) (fun k hk=>y3.of_acall (fs:= []) (cs:= [pZ b1]) (ynb h la k (Nat.le_of_lt hk) _ bl b1 G)) (Nat.le_trans la.wants (by decide))))) ?_
 obtain ⟨pi,pb,hpv⟩:∃i b,za6 (zc2 (zjn h) 0 h.wants)= .tup [iv i,bv b]:=zdp _
 rw [hpv]
 refine rn ?_;refine rq 2 ?_
 exact ⟨rfl,hpv.symm⟩
end Go.Proofs
