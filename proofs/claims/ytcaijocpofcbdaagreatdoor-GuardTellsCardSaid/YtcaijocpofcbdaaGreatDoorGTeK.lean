/- A history read as data. Conditions: none. -/
import Derived.Test.YtcaijocpofcbdaaGreatDoorGTeJ
import Derived.Test.YtcaijocpofcbdaaGreatDoorTie
import Derived.OpenShut
import Derived.Lib.LaidTab
import Derived.Lib.LaidU8
import Derived.ProofKit
import Derived.LaidMore
import Derived.LaidSub
import Derived.LaidHandle
import Derived.Lay
import Derived.SevenTiedAt
import Derived.Stop.Joined
import Derived.ChangeArms
set_option maxHeartbeats 4000000
set_option linter.unusedSectionVars false
set_option linter.unusedSimpArgs false
set_option linter.unusedVariables false
set_option maxRecDepth 100000
namespace Go.Proofs
open Go Go.Ab Go.H
section
variable {K:Type} {enc:TypeId×Value→K} {w:World}
theorem ztz:zdj enc Tryz.prog w 3 (fun n:Int=> [iv n]) (fun _=>True):= .int Tryz.underlying3
theorem yuu:zdj enc Tryz.prog w 4 (fun b:Bool=> [bv b]) (fun _=>True):= .bool Tryz.underlying4
theorem yws:zdj enc Tryz.prog w 9 za2 (fun _=>True):= .string Tryz.underlying9
theorem yv5:zdj enc Tryz.prog w 63 yez (fun _=>True):=
 .map (fun x:Int×Int×Unit=>⟨x.1,x.2.1⟩) (.struct Tryz.underlying63 rfl (tot:=2) (by kernel_rfl) (.cons ztz (s:=1) (by kernel_rfl) (.cons ztz (s:=1) (by kernel_rfl) (.nil 2)))) (fun _=>rfl) (fun _ _=>trivial)
theorem yqf:zdj enc Tryz.prog w 139 zar (fun _=>True):=
 .map (fun x:Int×Ver×Unit=>⟨x.1,x.2.1⟩) (.struct Tryz.underlying139 rfl (tot:=3) (by kernel_rfl) (.cons ztz (s:=1) (by kernel_rfl) (.cons yv5 (s:=2) (by kernel_rfl) (.nil 3)))) (fun _=>rfl) (fun _ _=>trivial)
theorem zni {n b b' c:Nat} (hb:b'=b) (hb0:0 < b) (hc:reachBytes / b≤c) (h:n * b'≤reachBytes):n≤c:=by subst hb;exact Nat.le_trans ((Nat.le_div_iff_mul_le hb0).2 h) hc
theorem yqk:zdj enc Tryz.prog w 64 (fun l:List Seen=> [zkw l]) (fun l=>l.length≤5864062014805):=
 .map (fun l:List Seen=>l) (.slice Tryz.underlying64 yqf (k:=3) (by kernel_rfl) (by decide) (by rw [show Tryz.prog.bytesOf 139=24 by kernel_rfl];decide)) (fun _=>rfl) (fun _ h=>zni (b:=24) (by kernel_rfl) (by decide) (by decide) h.1)
theorem yqs:zdj enc Tryz.prog w 54 (fun l:List Int=> [zbz l]) (fun l=>l.length≤17592186044416):=
 .map (fun l:List Int=>l) (.slice Tryz.underlying54 ztz (k:=1) (by kernel_rfl) (by decide) (by rw [show Tryz.prog.bytesOf 3=8 by kernel_rfl];decide)) (fun _=>rfl) (fun _ h=>zni (b:=8) (by kernel_rfl) (by decide) (by decide) h.1)
theorem yf5:zdj enc Tryz.prog w 22 (fun l:List ByteArray=> [zcf l]) (fun l=>l.length≤8796093022208):=
 .map (fun l:List ByteArray=>l) (.slice Tryz.underlying22 yws (k:=1) (by kernel_rfl) (by decide) (by rw [show Tryz.prog.bytesOf 9=16 by kernel_rfl];decide)) (fun _=>rfl) (fun _ h=>zni (b:=16) (by kernel_rfl) (by decide) (by decide) h.1)
theorem rEv:zdj enc Tryz.prog w 66 evR (fun e=>e.scan.length≤5864062014805):=
 .map (fun x:Int×Int×Int×Int×Int×Ver×Int×List Seen×Unit=>⟨x.1,x.2.1,x.2.2.1,x.2.2.2.1,x.2.2.2.2.1,x.2.2.2.2.2.1,x.2.2.2.2.2.2.1,x.2.2.2.2.2.2.2.1⟩)
  (.struct Tryz.underlying66 rfl (tot:=9) (by kernel_rfl) (.cons ztz (s:=1) (by kernel_rfl) (.cons ztz (s:=1) (by kernel_rfl) (.cons ztz (s:=1) (by kernel_rfl) (.cons ztz (s:=1) (by kernel_rfl) (.cons ztz (s:=1) (by kernel_rfl)
   (.cons yv5 (s:=2) (by kernel_rfl) (.cons ztz (s:=1) (by kernel_rfl) (.cons yqk (s:=1) (by kernel_rfl) (.nil 9)))))))))) (fun _=>rfl) (fun _ h=>h.2.2.2.2.2.2.2.1)
theorem ywu:zdj enc Tryz.prog w 99 zcy (fun e=>e.ts.length≤17592186044416):=
 .map (fun x:Int×List Int×Unit=>⟨x.1,x.2.1⟩) (.struct Tryz.underlying99 rfl (tot:=2) (by kernel_rfl) (.cons ztz (s:=1) (by kernel_rfl) (.cons yqs (s:=1) (by kernel_rfl) (.nil 2)))) (fun _=>rfl) (fun _ h=>h.2.1)
theorem ywv:zdj enc Tryz.prog w 112 zc7 (fun e=>e.ts.length≤17592186044416):=
 .map (fun x:Int×Int×Bool×List Int×Unit=>⟨x.1,x.2.1,x.2.2.1,x.2.2.2.1⟩) (.struct Tryz.underlying112 rfl (tot:=4) (by kernel_rfl) (.cons ztz (s:=1) (by kernel_rfl) (.cons ztz (s:=1) (by kernel_rfl) (.cons yuu (s:=1) (by kernel_rfl) (.cons yqs (s:=1) (by kernel_rfl) (.nil 4)))))) (fun _=>rfl) (fun _ h=>h.2.2.2.1)
theorem ywr:zdj enc Tryz.prog w 51 zco (fun _=>True):=
 .map (fun x:Int×Int×Unit=>⟨x.1,x.2.1⟩) (.struct Tryz.underlying51 rfl (tot:=2) (by kernel_rfl) (.cons ztz (s:=1) (by kernel_rfl) (.cons ztz (s:=1) (by kernel_rfl) (.nil 2)))) (fun _=>rfl) (fun _ _=>trivial)
theorem yww:zdj enc Tryz.prog w 23 (fun l:List Ev=> [zlg l]) (fun l=>l.length≤1599289640401∧∀e∈l,e.scan.length≤5864062014805):=
 .map (fun l:List Ev=>l) (.slice Tryz.underlying23 rEv (k:=9) (by kernel_rfl) (by decide) (by rw [show Tryz.prog.bytesOf 66=88 by kernel_rfl];decide)) (fun _=>rfl) (fun _ h=>⟨zni (b:=88) (by kernel_rfl) (by decide) (by decide) h.1,h.2⟩)
theorem yuq:zdj enc Tryz.prog w 24 (fun l:List H.Ord=> [zpl l]) (fun l=>l.length≤4398046511104∧∀e∈l,e.ts.length≤17592186044416):=
 .map (fun l:List H.Ord=>l) (.slice Tryz.underlying24 ywu (k:=2) (by kernel_rfl) (by decide) (by rw [show Tryz.prog.bytesOf 99=32 by kernel_rfl];decide)) (fun _=>rfl) (fun _ h=>⟨zni (b:=32) (by kernel_rfl) (by decide) (by decide) h.1,h.2⟩)
theorem yur:zdj enc Tryz.prog w 25 (fun l:List Mat=> [zpx l]) (fun l=>l.length≤2932031007402∧∀e∈l,e.ts.length≤17592186044416):=
 .map (fun l:List Mat=>l) (.slice Tryz.underlying25 ywv (k:=4) (by kernel_rfl) (by decide) (by rw [show Tryz.prog.bytesOf 112=48 by kernel_rfl];decide)) (fun _=>rfl) (fun _ h=>⟨zni (b:=48) (by kernel_rfl) (by decide) (by decide) h.1,h.2⟩)
theorem yun:zdj enc Tryz.prog w 26 (fun l:List Wan=> [zg9 l]) (fun l=>l.length≤8796093022208):=
 .map (fun l:List Wan=>l) (.slice Tryz.underlying26 ywr (k:=2) (by kernel_rfl) (by decide) (by rw [show Tryz.prog.bytesOf 51=16 by kernel_rfl];decide)) (fun _=>rfl) (fun _ h=>zni (b:=16) (by kernel_rfl) (by decide) (by decide) h.1)
theorem yus:zdj enc Tryz.prog w 28 x3 Big:=
 .map (fun x:List ByteArray×List ByteArray×List ByteArray×List ByteArray×List Ev×List H.Ord×List Mat×List Wan×Unit=>⟨x.1,x.2.1,x.2.2.1,x.2.2.2.1,x.2.2.2.2.1,x.2.2.2.2.2.1,x.2.2.2.2.2.2.1,x.2.2.2.2.2.2.2.1⟩)
  (.struct Tryz.underlying28 rfl (tot:=8) (by kernel_rfl) (.cons yf5 (s:=1) (by kernel_rfl) (.cons yf5 (s:=1) (by kernel_rfl) (.cons yf5 (s:=1) (by kernel_rfl) (.cons yf5 (s:=1) (by kernel_rfl) (.cons yww (s:=1) (by kernel_rfl)
   (.cons yuq (s:=1) (by kernel_rfl) (.cons yur (s:=1) (by kernel_rfl) (.cons yun (s:=1) (by kernel_rfl) (.nil 8)))))))))) (fun _=>rfl)
  (fun x h=>by
   obtain ⟨h1,h2,h3,h4,⟨h5,h6⟩,⟨h7,h8⟩,⟨h9,hA⟩,hB,_⟩:=h
   exact ⟨⟨Nat.le_trans h1 (by decide),Nat.le_trans h2 (by decide),Nat.le_trans h3 (by decide),Nat.le_trans h4 (by decide),Nat.le_trans h5 (by decide),Nat.le_trans h7 (by decide),Nat.le_trans h9 (by decide),Nat.le_trans hB (by decide),fun e he=>Nat.le_trans (h6 e he) (by decide),fun e he=>Nat.le_trans (h8 e he) (by decide),fun e he=>Nat.le_trans (hA e he) (by decide)⟩,h1,h2,h3,h4,h7,h9,hB,h6,h8,hA⟩)
end
theorem zxh {α:Type} (s:Nat):∀(n:Nat) (cs:List α) (f:Nat→List α),cs.length=n * s→(∀i,i < n→(cs.drop (i * s)).take s=f i)→cs=(List.range n).flatMap f
 |0,cs,f,h,_=>by simp at h;subst h;rfl
 |n+1,cs,f,h,k=>by
  have h0:=k 0 (by omega)
  have ih:=zxh s n (cs.drop s) (fun i=>f (i+1)) (by rw [List.length_drop,h,Nat.add_mul];omega) fun i hi=>by
   have:=k (i+1) (by omega)
   rw [Nat.add_mul,Nat.one_mul,Nat.add_comm,←List.drop_drop] at this
   exact this
  rw [List.range_succ_eq_map,List.flatMap_cons,List.flatMap_map,←h0]
  simp only [Nat.zero_mul,List.drop_zero]
  have e:cs=cs.take s++cs.drop s:=(List.take_append_drop s cs).symm
  rw [ih] at e
  exact e
theorem zp8 {P:Program} {w:World} {n:String} {g t:Nat} {d:DataW Unit} {vals:List Value} {T:TypeId} (hr:Lib.VarReads P w n d) (hg:P.globalNamed n=some g) (ht:(P.globals[g]?).map (·.type)=some t)
 (hv:∀fuel cs p,DataW.trod (fun _=>()) P w 0 (fun _=>true) false fuel t cs=some (d,p)→cs=vals):(Res.glob g T (vals.map .v)).holds w noX:=by
 obtain ⟨g',t',cs,fuel,p,h1,h2,h3,h4⟩:=hr
 obtain rfl:=Option.some.inj (hg.symm.trans h1)
 obtain rfl:=Option.some.inj (ht.symm.trans h2)
 have hcs:=hv _ _ _ h4
 unfold World.var? at h3
 rw [hg] at h3
 simp only [Option.bind_some] at h3
 split at h3
 ·rename_i c T0 fr hh
  cases h3
  refine ⟨fun h=>h,(Array.getElem?_eq_some_iff.1 hh).1,cs,T0,fr,hh,by rw [oM,←hcs];simp,fun j j1 j2=> ?_⟩
  rw [List.getElem_map]
  have:vals[j]'(by simpa using j1)=cs[j]:=by simp [←hcs]
  rw [this]
  exact .v _
 ·cases h3
theorem yvg {w:World} (h:Lib.VarReads Tryz.prog w "yardarm/history.limits" YtcaijocpofcbdaaGreatDoor.Rows.laid_yardarm_history_limits):(Res.glob 3 148 x6).holds w noX:=
 zp8 (vals:= [300,60,300,60].map fun z=>Value.int .i64 z) h (by kernel_rfl) (show _=some 148 by kernel_rfl) fun fuel cs p hd=>
  Lib.cells_of_tab (zs:= [300,60,300,60]) Tryz.underlying148 Tryz.underlying3 (by kernel_rfl) (by kernel_rfl) hd
def zw6:List Int:=(List.range 256).map zai
theorem ztk:YtcaijocpofcbdaaGreatDoor.Rows.laid_unicode_utf8_first=Lib.tabData .u8 zw6:=by kernel_rfl
theorem yvf {w:World} (h:Lib.VarReads Tryz.prog w "unicode/utf8.first" YtcaijocpofcbdaaGreatDoor.Rows.laid_unicode_utf8_first):(Res.glob 5 276 x7).holds w noX:=by
 have:=zp8 (P:=Tryz.prog) (w:=w) (n:= "unicode/utf8.first") (g:=5) (t:=276) (d:=YtcaijocpofcbdaaGreatDoor.Rows.laid_unicode_utf8_first) (T:=276) (vals:=zw6.map fun z=>Value.int .u8 z) h (by kernel_rfl) (by kernel_rfl) fun fuel cs p hd=>
  Lib.cells_of_tab (zs:=zw6) Tryz.underlying276 Tryz.underlying5 (by kernel_rfl) (by kernel_rfl) (ztk ▸ hd)
 simpa [x7,zw6,List.map_map,Function.comp_def] using this
def ywf (i:Nat):List Int:= [[128,160,128,144,128].getD i 0,[191,191,159,191,143].getD i 0]
theorem yeb:(YtcaijocpofcbdaaGreatDoor.Rows.laid_unicode_utf8_acceptRanges:DataW Unit)= .agg ((List.range 16).map fun i=> .agg ((ywf i).map fun z=> .lit (.int .u8 z))):=by kernel_rfl
theorem yoz:y7=((List.range 16).flatMap fun i=>(ywf i).map fun z=>Value.int .u8 z).map .v:=rfl
theorem yve {w:World} (h:Lib.VarReads Tryz.prog w "unicode/utf8.acceptRanges" YtcaijocpofcbdaaGreatDoor.Rows.laid_unicode_utf8_acceptRanges):(Res.glob 6 279 y7).holds w noX:=by
 rw [yoz]
 refine zp8 (T:=279) h (by kernel_rfl) (show _=some 279 by kernel_rfl) fun fuel cs p hd=> ?_
 rw [yeb] at hd
 have c132:Tryz.prog.cellsOf 278=2:=by kernel_rfl
 have c133:Tryz.prog.cellsOf 279=32:=by kernel_rfl
 have hlen:cs.length=16 * 2:=by
  obtain ⟨_,_,_,_,hl,_⟩:=DataW.trod_array Tryz.underlying279 hd
  rw [hl,c133]
 refine zxh 2 16 cs _ hlen fun i hi=> ?_
 obtain ⟨f',d,q,h1,h2⟩:=Lib.array_elem Tryz.underlying279 hd i hi
 simp only [List.getElem?_map,List.getElem?_range hi,Option.map_some,Option.some.injEq] at h1
 subst h1
 rw [c132] at h2
 exact Lib.ints_of_struct Tryz.underlying278 (fun j f hj=>by
  match j,hj with
  |0,hj=>simp at hj;subst hj;exact ⟨Tryz.underlying5,rfl,by kernel_rfl⟩
  |1,hj=>simp at hj;subst hj;exact ⟨Tryz.underlying5,rfl,by kernel_rfl⟩
  |j+2,hj=>simp at hj) (by rw [c132];rfl) h2
end Go.Proofs
set_option maxRecDepth 100000
namespace Go.Proofs.YtcaijocpofcbdaaGreatDoor
open Go Go.Ab Go.H Go.ChangeShapes Go.WideShapes Go.ChangeAt Go.RowKit
theorem own:ownKnob Tryz.prog.godebug=none:=by kernel_rfl
def yv0:List Value:= .nilFunc:: [245,249,250,251,252,253,254,255,256,257].map fun f=> .func (.func f) #[] #[]
theorem zyy {W W':World} (hk:Keep [] W [] W'):RowKit.Below W.heap.size W {W' with tape:=W.tape}:=
 ⟨hk.env.1.1,rfl,hk.env.1.2,hk.size,fun k hk'=>(hk.same k hk' (by simp)).1⟩
theorem yhc {W W':World} (hk:Keep [] W [] W') (may:MemPlace→Prop):W.keptBut W' may:=by
 refine ⟨hk.env.1.1,hk.env.1.2,fun i hi=> ?_⟩
 rw [(hk.same i hi (by simp)).1]
 generalize W.heap[i]? =o
 cases o with
 |none=>rfl
 |some o=>cases o <;> first|rfl|exact ⟨rfl,rfl,rfl,fun _ _=>rfl⟩|exact .inr ⟨rfl,rfl⟩
section
variable {H:Type} {enc:TypeId×Value→H}
theorem zzz {W W':World} {v:Value} {d:DataW H} {ps:List MemPlace} (hk:Keep [] W [] W') (h:DataW.Trod enc Tryz.prog W 0 (fun _=>true) true 28 v d ps) (hlt:∀x∈ps,x.block < W.heap.size):
 DataW.Trod enc Tryz.prog W' 0 (fun b=>decide (b < W.heap.size)) true 28 v d ps:=
 DataW.Trod.of_heap (w:={W' with tape:=W.tape}) (w':=W') rfl (Below.trod (by kernel_rfl) (by kernel_rfl) (by decide+kernel) h (zyy hk) hlt)
theorem yhh {W:World} {cs:Array Value} {d:DataW H} {ps:List MemPlace} (h:DataW.Trod enc Tryz.prog W 0 (fun _=>true) true 28 (.agg cs) d ps) (hw:∀n∈d.weights Tryz.prog 28,n≤reachBytes):
 ∃x,Big x∧Rel W noX (.agg (x3 x)) (.agg cs):=by
 obtain ⟨fuel,hf⟩:=h
 obtain ⟨x,hlim,hx⟩:=yus fuel _ _ hf hw
 exact ⟨x,hlim,.agg _ _ (by simpa [Value.cells] using hx.1) fun j h1 h2=>by simpa [Value.cells] using hx.2 j h1 (by simpa [Value.cells] using h2)⟩
theorem ynk {W:World} {cs:Array Value} {d:DataW H} {ps:List MemPlace} (h:DataW.Trod enc Tryz.prog W 0 (fun _=>true) true 28 (.agg cs) d ps) (hw:∀n∈d.weights Tryz.prog 28,n≤reachBytes):
 ∃x,Lim 4611686018427387904 x∧Rel W noX (.agg (x3 x)) (.agg cs):=by
 obtain ⟨x,hb,hr⟩:=yhh h hw
 exact ⟨x,hb.lim,hr⟩
end
def yoq:DataW Unit:=match (Rows.laid_yardarm_rules_asks:DataW Unit) with| .iface _ d=>d|d=>d
def ybk:List (List UInt8):=match yoq with| .agg ds=>ds.map (fun d=>match d with| .iface _ (.lit (.string b))=>b|_=> [])|_=> []
def nm (k:Nat):List UInt8:=ybk.getD (k+1) []
theorem ydx:yoq.funcsOut= .agg (.nil::(ybk.drop 1).map .held):=by kernel_rfl
theorem zw1 {w:World} {c:Array Value} {T0:TypeId} {fr:Nat×Nat} {g:Nat} {T:TypeId} {vs:List AV} (hh:w.heap[g]? =some (.cells c T0 fr)) (hl:vs.length=c.size) (h:∀j (h1:j < vs.length) (h2:j < c.size),Rel w noX vs[j] c[j]):(Res.glob g T vs).holds w noX:=
 ⟨fun h=>h,(Array.getElem?_eq_some_iff.1 hh).1,c,T0,fr,hh,hl,fun j h1 h2=>h j h1 h2⟩
theorem zju (w:World) (f:Nat):Rel w noX (.fn (.func f) [] []) (.func (.func f) #[] #[]):= .fn _ _ _ _ _ rfl rfl (fun j h=>absurd h (Nat.not_lt_zero _)) (fun j h=>absurd h (Nat.not_lt_zero _))
def fnA:List Nat:= [245,249,250,251,252,253,254,255,256,257]
theorem yih (k:Nat) (hk:k < 10):∃b r,ybk[k+1]? =some (b::r)∧((List.range Tryz.prog.funcs.size).filter fun f=>(Tryz.prog.funcs[f]?).any (·.name.toUTF8.data.toList==b::r))= [fnA.getD k 0]∧u7[k+1]? =some (.fn (.func (fnA.getD k 0)) [] []):=by
 match k,hk with
 |0,_=>exact ⟨(nm 0).headD 0,(nm 0).tail,by kernel_rfl,by kernel_rfl,by kernel_rfl⟩
 |1,_=>exact ⟨(nm 1).headD 0,(nm 1).tail,by kernel_rfl,by kernel_rfl,by kernel_rfl⟩
 |2,_=>exact ⟨(nm 2).headD 0,(nm 2).tail,by kernel_rfl,by kernel_rfl,by kernel_rfl⟩
 |3,_=>exact ⟨(nm 3).headD 0,(nm 3).tail,by kernel_rfl,by kernel_rfl,by kernel_rfl⟩
 |4,_=>exact ⟨(nm 4).headD 0,(nm 4).tail,by kernel_rfl,by kernel_rfl,by kernel_rfl⟩
 |5,_=>exact ⟨(nm 5).headD 0,(nm 5).tail,by kernel_rfl,by kernel_rfl,by kernel_rfl⟩
 |6,_=>exact ⟨(nm 6).headD 0,(nm 6).tail,by kernel_rfl,by kernel_rfl,by kernel_rfl⟩
 |7,_=>exact ⟨(nm 7).headD 0,(nm 7).tail,by kernel_rfl,by kernel_rfl,by kernel_rfl⟩
 |8,_=>exact ⟨(nm 8).headD 0,(nm 8).tail,by kernel_rfl,by kernel_rfl,by kernel_rfl⟩
 |9,_=>exact ⟨(nm 9).headD 0,(nm 9).tail,by kernel_rfl,by kernel_rfl,by kernel_rfl⟩
def nmI:List UInt8:= [121,97,114,100,97,114,109,47,115,101,115,115,105,111,110,46,100,111,105,110,103,115,41,46,105,110,115,116,97,108,108]
def nmR:List UInt8:= [121,97,114,100,97,114,109,47,115,101,115,115,105,111,110,46,100,111,105,110,103,115,41,46,114,101,97,100]
def yv8:DataW Unit:=match (Rows.laid_yardarm_session_guards:DataW Unit) with| .iface _ d=>d|d=>d
theorem yhi:yv8.funcsOut= .agg [.agg [.lit (.int .i64 1),.held (40::nmI),.held (40::nmR)],.agg [.lit (.int .i64 2),.held (40::nmR),.held (40::nmR)],.agg [.lit (.int .i64 4),.held (40::nmI),.held (40::nmI)],.agg [.lit (.int .i64 8),.held (40::nmR),.held (40::nmI)]]:=by kernel_rfl
theorem ytx:((List.range Tryz.prog.funcs.size).filter fun f=>(Tryz.prog.funcs[f]?).any (·.name.toUTF8.data.toList==40::nmI))= [244]:=by kernel_rfl
theorem ytw:((List.range Tryz.prog.funcs.size).filter fun f=>(Tryz.prog.funcs[f]?).any (·.name.toUTF8.data.toList==40::nmR))= [248]:=by kernel_rfl
theorem zp5 {w:World} {base:Nat} {sp:Nat→Bool} {fuel:Nat} {cs:List Value} {z:Int} {r1 r2:List UInt8} {f1 f2:FuncId} {q:List MemPlace} (h1:((List.range Tryz.prog.funcs.size).filter fun f=>(Tryz.prog.funcs[f]?).any (·.name.toUTF8.data.toList==40::r1))= [f1]) (h2:((List.range Tryz.prog.funcs.size).filter fun f=>(Tryz.prog.funcs[f]?).any (·.name.toUTF8.data.toList==40::r2))= [f2])
 (h:DataW.trod (funcToken Tryz.prog) Tryz.prog w base sp true fuel 116 cs=some (.agg [.lit (.int .i64 z),.held (40::r1),.held (40::r2)],q)):cs= [.int .i64 z,.func (.func f1) #[] #[],.func (.func f2) #[] #[]]:=by
 obtain ⟨xs,n,_,hx,hl,hlen,hf⟩:=DataW.trod_struct Tryz.underlying116 h
 rw [show Tryz.prog.cellsOf 116=3 by kernel_rfl] at hl
 match xs,hlen with
 | [y0,y1,y2],_=>
   have hx:=congrArg Prod.fst hx
   simp only [List.map_cons,List.map_nil,DataW.agg.injEq,List.cons.injEq,and_true] at hx
   obtain ⟨x0,x1,x2⟩:=hx
   match cs,hl,hf with
   | [v0,v1,v2],_,hf=>
     have f0:DataW.trod (funcToken Tryz.prog) Tryz.prog w base sp true n 3 (([v0,v1,v2].drop 0).take (Tryz.prog.cellsOf 3))= [y0,y1,y2][0]? :=hf 0 _ rfl
     have f1':DataW.trod (funcToken Tryz.prog) Tryz.prog w base sp true n 115 (([v0,v1,v2].drop 1).take (Tryz.prog.cellsOf 115))= [y0,y1,y2][1]? :=hf 1 _ rfl
     have f2':DataW.trod (funcToken Tryz.prog) Tryz.prog w base sp true n 115 (([v0,v1,v2].drop 2).take (Tryz.prog.cellsOf 115))= [y0,y1,y2][2]? :=hf 2 _ rfl
     rw [show Tryz.prog.cellsOf 3=1 by kernel_rfl] at f0
     rw [show Tryz.prog.cellsOf 115=1 by kernel_rfl] at f1' f2'
     simp only [List.drop_zero,List.drop_succ_cons,List.take_succ_cons,List.take_zero,List.getElem?_cons_zero,List.getElem?_cons_succ] at f0 f1' f2'
     obtain ⟨z',e0,ey,_⟩:=DataW.trod_int Tryz.underlying3 f0
     rw [ey] at x0
     simp only [DataW.lit.injEq,Lit.int.injEq,true_and] at x0
     subst x0
     simp only [List.cons.injEq,and_true] at e0
     rw [e0,func_of_trod (v:=v1) (f0:=f1) Tryz.underlying115 h1 (q:=y1.2) (by rw [x1];exact f1'),func_of_trod (v:=v2) (f0:=f2) Tryz.underlying115 h2 (q:=y2.2) (by rw [x2];exact f2')]
def guaV:List Value:= [.int .i64 1,.func (.func 244) #[] #[],.func (.func 248) #[] #[],.int .i64 2,.func (.func 248) #[] #[],.func (.func 248) #[] #[],.int .i64 4,.func (.func 244) #[] #[],.func (.func 244) #[] #[],.int .i64 8,.func (.func 248) #[] #[],.func (.func 244) #[] #[]]
end Go.Proofs.YtcaijocpofcbdaaGreatDoor
set_option maxRecDepth 10000
namespace Go.Proofs
open Go Go.Ab
attribute [local irreducible] QR QV OE zcz aw zdg zbs zbh za1 thn zfx zed jch zfd
open Go.H
theorem zvp {h:Hist} (hc:v8 h=0):zdb h=(upR h.ss.length).map fun s=>⟨s,yow h.wants s,yo9 h s⟩:=if_pos hc
theorem zvq {h:Hist} (hc:v8 h≠0):zdb h= []:=if_neg hc
def zzf (g:Nat→Grd) (k:Nat):List Grd:=(List.range k).map g
theorem yiw (g:Nat→Grd) (k:Nat):zzf g (k+1)=zzf g k++ [g k]:=by rw [zzf,List.range_succ,List.map_append];rfl
theorem zvr (g:Nat→Grd) (k:Nat):(zzf g k).length=k:=by rw [zzf,oM,List.length_range]
def yt1 (h:Hist) (s:Nat):Grd:=⟨s,yow h.wants s,haO h s⟩
theorem ynr (h:Hist) (la:Lim 4611686018427387904 h) (W:List Res):y8 Tryz.prog 83 [.agg (x3 h)] W (fun r h'=>∃m,h'= .map m (zah zcb (zb4 iv (yil (h.wants))))::W∧r=mpv m):=by
 refine z6 Tryz.func83 rfl rfl rfl ?_
 have lW:=la.wants
 refine rn ?_;refine z8 rfl (x9 rfl rfl rfl fun b1=> ?_)
 refine rn ?_;refine z8 rfl (zbf (enc:=zcb) rfl fun bO=> ?_)
 refine rn ?_;refine zbu h.wants.length (fun _=>True) (fun k=>⟨[(10,iv k),(3,mpv bO),(8,zg9 h.wants),(9,iv (h.wants.map zco).length)],.map bO (zah zcb (zb4 iv (yil (h.wants.take k)))):: .box b1 28 (x3 h)::W,[]⟩) trivial es ?_
 intro k lk _
 refine rn ?_;refine z7 rfl (fun hc11=> ?_) (fun hc11=> ?_)
 ·have hk:=zan hc11
  have rk:=zaf (f:=zco) hk
  refine rn ?_;refine z8 rfl (y6 rfl fun b5=> ?_)
  refine rn ?_;refine z8 rfl (zbp (g:=iv) (enc:=zcb) (k:=h.wants[k].s) (v:=h.wants[k].bits) rfl rfl rfl ?_)
  refine rn ?_;exact ⟨hk,trivial,by rw [yth hk];exact eA⟩
 ·have qk:=zap hc11 lk
  subst qk
  rw [List.take_length]
  refine rn ?_;exact u9 rfl (.trans (.perm (pt1 _ _ _) _) (.drop [_] _ _)) ⟨bO,rfl,rfl⟩
theorem ysc (h:Hist) (hs:h.ss.length≤1000000) (g:Nat→Grd) (f:AV) (W:List Res) (hf:∀k,k < h.ss.length→y3 Tryz.prog f [iv (k:Nat)] W (fun r h'=>h'=W∧r= .agg (zj3 (g k)))):y8 Tryz.prog 84 [.agg (x3 h),f] W (fun r h'=>∃v:SV,h'= .row v.v 3 81 ((zzf g h.ss.length).map zj3)::W∧r= .v v.v):=by
 refine z6 Tryz.func84 rfl rfl rfl ?_
 refine rn ?_;refine z8 rfl (x9 rfl rfl rfl fun b2=> ?_)
 refine rn ?_;refine zet h.ss.length (fun k v=>⟨[(10,iv k),(5,.v v.v),(1,f),(9,iv (h.ss.map za2).length)],.row v.v 3 81 ((zzf g k).map zj3):: .box b2 28 (x3 h)::W,[]⟩) ⟨none,0,0⟩ (w9 (k6 3 81) es) ?_
 intro k v lk
 refine rn ?_;refine z7 rfl (fun hc11=> ?_) (fun hc11=> ?_)
 ·have hk:=zan hc11
  have rk:=zaf (f:=za2) hk
  refine rn ?_;refine z8 rfl (q7 rfl rfl (y3.fr2 (hf k hk)) rfl ?_)
  rintro _ _ ⟨_,rfl,rfl,rfl⟩
  refine qv rfl rfl (q8 rfl rfl) ?_
  refine z8 rfl (u6 rfl rfl (by simp only [oM,zvr,List.length_cons,List.length_nil];omega) rfl (fun s18=> ?_) (fun r hr=>by rw [List.mem_singleton.1 hr];rfl))
  refine zaa s18 fun sv hsv=> ?_
  subst hsv
  refine rn ?_;exact ⟨hk,sv,by rw [yiw,List.map_append];exact eA⟩
 ·have qk:=zap hc11 lk
  subst qk
  refine rn ?_;exact u9 rfl (.trans (.perm (pt1 _ _ _) _) (.drop [_] _ _)) ⟨v,rfl,rfl⟩
theorem yua {h:Hist} (hc:v8 h=0):zzf (yt1 h) h.ss.length=zdb h:=by
 rw [zvp hc,zzf,upR,List.map_map]
 refine List.map_congr_left fun k hk=> ?_
 have hk':k < h.ss.length:=List.mem_range.1 hk
 rw [yt1,ynn (yby hc (zp3.2 ⟨by omega,by omega⟩))];rfl
theorem ysa (h:Hist) (la:Lim 4611686018427387904 h) (m b1 b5:Nat) (k:Nat):y8 Tryz.prog 85 [iv (k:Nat),pZ b1,pZ b5] (.box b5 141 [mpv m]:: .map m (zah zcb (zb4 iv (yil (h.wants)))):: .box b1 28 (x3 h):: .glob 0 117 w7:: .glob 3 148 x6:: .glob 5 276 x7:: .glob 6 279 y7:: .glob 2 197 u7:: []) (fun r h'=>h'= .box b5 141 [mpv m]:: .map m (zah zcb (zb4 iv (yil (h.wants)))):: .box b1 28 (x3 h):: .glob 0 117 w7:: .glob 3 148 x6:: .glob 5 276 x7:: .glob 6 279 y7:: .glob 2 197 u7:: []∧r= .agg (zj3 (yt1 h k))):=by
 refine z6 Tryz.func85 rfl rfl rfl ?_
 refine rn ?_;refine z8 rfl (y6 rfl fun b4=> ?_)
 refine rn ?_;refine qv rfl rfl (y4 rfl rfl (y3.qt (y3.of_fun (yp2 h la k)) ((pt4 _ _ _ _ _ _).trans (.cons _ ((pt4 _ _ _ _ _ _).trans (.cons _ ((pt4 _ _ _ _ _ _).trans (.cons _ ((pt4 _ _ _ _ _ _).trans (.cons _ (pt4 _ _ _ _ _ _))))))))))) ?_
 refine q1 ?_;refine q1 ?_;refine q1 ?_;refine q1 ?_;refine q1 ?_;refine u0 (j7 ?_)
 refine x8 (y5 ?_)
 refine q1 ?_;refine q1 ?_;refine q1 ?_;refine qq rfl rfl (zby (zcr (g:=iv) (enc:=zcb) (k:=((k:Nat):Int)) (0:Int) rfl rfl) (show iv _=iv (yow h.wants k) from rfl)) ?_
 refine q1 ?_;refine qq rfl rfl (zag (out:= [iv k,iv (yow h.wants k),iv (haO h k)]) rfl (by rfl)) ?_
 refine rn ?_;exact ze0 (.cons _ _ _ _ (.agg _ _ _ _ _ _ _ rfl inferInstance inferInstance inferInstance rfl) .nil) (.drop [_] _ _) ⟨rfl,rfl⟩
theorem yhk (h:Hist) (la:Lim 4611686018427387904 h):y8 Tryz.prog 33 [.agg (x3 h)] (.glob 0 117 w7:: .glob 3 148 x6:: .glob 5 276 x7:: .glob 6 279 y7:: .glob 2 197 u7:: []) (fun r h'=>∃v:SV,h'= .row v.v 3 81 ((zdb h).map zj3):: .glob 0 117 w7:: .glob 3 148 x6:: .glob 5 276 x7:: .glob 6 279 y7:: .glob 2 197 u7:: []∧r= .tup [.v v.v,iv (v8 h)]):=by
 refine z6 Tryz.func33 rfl rfl rfl ?_
 refine rn ?_;refine z8 rfl (x9 rfl rfl rfl fun b1=> ?_)
 refine rn ?_;refine qv rfl rfl (y4 rfl rfl (y3.qt (y3.of_fun (zut h la)) ((pt2 _ _ _ _).trans (.cons _ ((pt2 _ _ _ _).trans (.cons _ ((pt2 _ _ _ _).trans (.cons _ (pt2 _ _ _ _))))))))) ?_
 refine rn ?_;refine z7 rfl (fun hc9=> ?_) (fun hc9=> ?_)
 ·have hc:v8 h≠0:=nzT hc9
  refine rn ?_;exact zbw rfl rfl (.trans (.drop [_] _ _) (zam 3 81 _)) ⟨⟨none,0,0⟩,by rw [zvq hc];rfl,rfl⟩
 ·have hc:v8 h=0:=nzF hc9
  have lS:=(zg1 hc).ss
  refine rn ?_;refine z8 rfl (q7 rfl rfl (y3.of_fun (ynr h la _)) rfl ?_)
  rintro _ _ ⟨m,rfl,rfl⟩
  refine z8 rfl (y6 rfl fun b5=> ?_)
  refine rn ?_;refine z8 rfl (q7 rfl rfl (y3.of_fun (ysc h (by omega) (yt1 h) (.fn (.func 85) [] [pZ b1,pZ b5]) _ (fun k hk=>y3.of_acall (fs:= []) (cs:= [pZ b1,pZ b5]) (ysa h la m b1 b5 k)))) rfl ?_)
  rintro _ _ ⟨v,rfl,rfl⟩
  refine rn ?_;exact zbw rfl rfl (.trans (.perm ((pt1 _ _ _).trans (.cons _ ((pt1 _ _ _).trans (.cons _ (pt1 _ _ _))))) _) (.drop [_,_,_] _ _)) ⟨v,by rw [yua hc],by rw [hc];rfl⟩
theorem zp7 (h:Hist) (la:Lim 4611686018427387904 h):y8 Tryz.prog 33 [.agg (x3 h)] (.glob 0 117 w7:: .glob 3 148 x6:: .glob 5 276 x7:: .glob 6 279 y7:: .glob 2 197 u7:: []) (fun r h'=>h'= .glob 0 117 w7:: .glob 3 148 x6:: .glob 5 276 x7:: .glob 6 279 y7:: .glob 2 197 u7:: []∧r= .tup [zc9 (zdb h),iv (v8 h)]):=(yhk h la).ventR (by rintro _ _ ⟨v,rfl,rfl⟩;exact ⟨_,_,zak [] [_],rfl,rfl⟩)
def lkJ (L:List Grd) (g:Grd) (i j:Nat):List (Int×Int):=zau (L.take i)++((((List.range j).map zc2).filter (zm0 g)).map fun b=>(g.s,b))
theorem yri (L:List Grd) (g:Grd) (i:Nat):lkJ L g i 0=zau (L.take i):=by simp [lkJ]
theorem yg4 {L:List Grd} {g:Grd} {i j:Nat} (hb:zm0 g (zc2 j)=true):lkJ L g i (j+1)=lkJ L g i j++ [(g.s,zc2 j)]:=by
 rw [lkJ,lkJ,List.range_succ,List.map_append,List.filter_append,List.map_append,←List.append_assoc]
 simp [hb]
theorem ym2 {L:List Grd} {g:Grd} {i j:Nat} (hb:zm0 g (zc2 j)=false):lkJ L g i (j+1)=lkJ L g i j:=by
 rw [lkJ,lkJ,List.range_succ,List.map_append,List.filter_append,List.map_append,←List.append_assoc]
 simp [hb]
theorem ym3 {L:List Grd} {i:Nat} (hi:i < L.length):lkJ L L[i] i 4=zau (L.take (i+1)):=by
 rw [lkJ,zau,zau,List.take_succ_eq_append_getElem hi,List.flatMap_append]
 simp only [List.flatMap_cons,List.flatMap_nil,List.append_nil]
 rfl
theorem ybw (L:List Grd) (g:Grd) (i:Nat):∀k j,∃r,lkJ L g i (j+k)=lkJ L g i j++r
 |0,j=>⟨[],by simp⟩
 |k+1,j=>by
  obtain ⟨r,hr⟩:=ybw L g i k j
  cases hb:zm0 g (zc2 (j+k)) with
  |true=>exact ⟨r++ [(g.s,zc2 (j+k))],by rw [←Nat.add_assoc,yg4 hb,hr,List.append_assoc]⟩
  |false=>exact ⟨r,by rw [←Nat.add_assoc,ym2 hb,hr]⟩
theorem yrf {L:List Grd} {i j:Nat} (hi:i < L.length) (hj:j < 4) (hb:zm0 L[i] (zc2 j)=true):∃rest,zau L=lkJ L L[i] i j++(L[i].s,zc2 j)::rest:=by
 obtain ⟨r,hr⟩:=ybw L L[i] i (3 - j) (j+1)
 rw [show j+1+(3 - j)=4 by omega,ym3 hi,yg4 hb] at hr
 refine ⟨r++zau (L.drop (i+1)),?_⟩
 have e:zau L=zau (L.take (i+1))++zau (L.drop (i+1)):=by
  rw [zau,zau,zau,←List.flatMap_append,List.take_append_drop]
 rw [e,hr];simp
def riO (h:Hist):Bool:=decide (v8 h=0) && decide (zau (zdb h)= [])
theorem yqa {h:Hist} (hc:v8 h≠0):riO h=false:=by rw [riO,decide_eq_false hc,Bool.false_and]
theorem yft {h:Hist} (hc:v8 h=0):riO h=decide (zau (zdb h)= []):=by rw [riO,decide_eq_true hc,Bool.true_and]
theorem tab_len (h:Hist):(zdb h).length≤3000:=by
 by_cases hc:v8 h=0
 ·rw [zvp hc,oM,upR,oM,List.length_range];exact (zg1 hc).ss
 ·rw [zvq hc];exact Nat.zero_le _
theorem yg1 {d:Int×Int} {pre rest l:List (Int×Int)} (hL:l=pre++d::rest) (h:pre= []):l=d::rest:=by rw [hL,h];rfl
theorem ycj (L:List Grd) (W:List Res):y8 Tryz.prog 86 [zc9 L] W (fun r h'=>∃bl,h'= .box bl 70 [zc9 L]::W∧r= .fn (.func 125) [] [pZ bl]):=by
 refine z6 Tryz.func86 rfl rfl rfl ?_
 refine rn ?_;refine z8 rfl (x9 rfl rfl rfl fun b1=> ?_)
 refine rn ?_;exact u9 rfl (.refl _ _) ⟨_,rfl,rfl⟩
theorem yci (L:List Grd) (hL:L.length≤1000000) (y:AV) (bl:Nat) {σ:Type} (p:List (Int×Int)→σ→Prop) (q:σ→Prop) (I:List (Int×Int)→σ→List Res) (X:σ→List Res) (x0:σ) (hp0:p [] x0) (hy:∀pre d rest x,(zau L)=pre++d::rest→p pre x→y3 Tryz.prog y [iv d.1,iv d.2] (.box bl 70 [zc9 L]::I pre x) (fun r h'=>∃x',(r=bv true∧p (pre++ [d]) x'∧h'= .box bl 70 [zc9 L]::I (pre++ [d]) x')∨(r=bv false∧q x'∧h'= .box bl 70 [zc9 L]::X x'))):y8 Tryz.prog 125 [y,pZ bl] (.box bl 70 [zc9 L]::I [] x0) (fun r h'=>∃x,(p (zau L) x∧h'= .box bl 70 [zc9 L]::I (zau L) x)∨(q x∧h'= .box bl 70 [zc9 L]::X x)):=by
 refine z6 Tryz.func125 rfl rfl rfl ?_
 refine rn ?_;refine zes L.length (fun i (x:σ)=>p (zau (L.take i)) x) (fun i x=>⟨[(9,iv i),(0,y),(7,zc9 L),(8,iv (L.map zj3).length)],.box bl 70 [zc9 L]::I (zau (L.take i)) x,[]⟩) x0 hp0 es ?_
 intro i x li zi
 refine rn ?_;refine z7 rfl (fun hc10=> ?_) (fun hc10=> ?_)
 ·have hi:=zan hc10
  have ri:=zaf (f:=zj3) hi
  refine rn ?_;refine z8 rfl (y6 rfl fun b4=> ?_)
  refine rn ?_;refine zes 4 (fun j (x:σ)=>p (lkJ L L[i] i j) x) (fun j x=>⟨[(13,iv j),(0,y),(4,pZ b4),(7,zc9 L),(8,iv (L.map zj3).length),(9,iv i)],.box b4 81 (zj3 L[i]):: .box bl 70 [zc9 L]::I (lkJ L L[i] i j) x,[]⟩) x (by rw [yri];exact zi) (by rw [yri];exact eA) ?_
  intro j x lj zj
  refine rn ?_;refine z7 rfl (fun hc14=> ?_) (fun hc14=> ?_)
  ·have hj:j < 4:=by have q:=oT hc14;omega
   refine zad ?_;refine j7 ?_;refine x8 ?_;refine zaj ?_;refine x8 (y5 ?_)
   refine q1 ?_;refine q1 ?_;refine u0 (j7 ?_)
   refine x8 (y5 ?_)
   refine q1 ?_;refine qq rfl rfl (zgp (c:=zc2 j) rfl rfl (ypz hj) (Int.natCast_nonneg _)) ?_
   refine rn ?_;refine x4 (fun hg7_8=> ?_) (fun hg7_8=> ?_)
   ·refine q1 ?_;refine q1 ?_;refine q1 ?_;refine q1 ?_;have hb:zm0 L[i] (zc2 j)=true:=hg7_8
    obtain ⟨rest,hL2⟩:=yrf hi hj hb
    refine z8 rfl (q7 rfl rfl (y3.fr1 (hy (lkJ L L[i] i j) _ rest x hL2 zj)) rfl ?_)
    rintro _ _ ⟨_,rfl,x',⟨rfl,hp',rfl⟩|⟨rfl,hq',rfl⟩⟩
    ·refine rn ?_;refine z7 rfl (fun hc33=> ?_) (fun hc33=> ?_)
     ·first|cases hc33|exact absurd hc33 (by decide)|(exfalso;simp_all;done)
     ·refine rn ?_;exact ⟨hj,x',by rw [yg4 hb];exact hp',by rw [yg4 hb];exact eA⟩
    ·refine rn ?_;refine z7 rfl (fun hc33=> ?_) (fun hc33=> ?_)
     ·refine rn ?_;exact ze0 .nil (.drop [_] _ _) ⟨x',.inr ⟨hq',rfl⟩⟩
     ·first|cases hc33|exact absurd hc33 (by decide)|(exfalso;simp_all;done)
   ·refine rn ?_;refine zeu rfl ?_;refine rn ?_;have hb:zm0 L[i] (zc2 j)=false:=hg7_8
    exact ⟨hj,x,by rw [ym2 hb];exact zj,by rw [ym2 hb];exact eA⟩
  ·obtain rfl:j=4:=by have q:=oF hc14;omega
   refine rn ?_;exact ⟨hi,x,by rw [←ym3 hi];exact zj,by rw [←ym3 hi];exact eA⟩
 ·have qi:=zap hc10 li
  subst qi
  rw [List.take_length] at zi ⊢
  refine rn ?_;exact ze9 .nil (.refl _ _) ⟨x,.inl ⟨zi,rfl⟩⟩
theorem ycg (h:Hist) (la:Lim 4611686018427387904 h):y8 Tryz.prog 34 [.agg (x3 h)] (.glob 0 117 w7:: .glob 3 148 x6:: .glob 5 276 x7:: .glob 6 279 y7:: .glob 2 197 u7:: []) (fun r h'=>h'= .glob 0 117 w7:: .glob 3 148 x6:: .glob 5 276 x7:: .glob 6 279 y7:: .glob 2 197 u7:: []∧r= .tup [bv (riO h),iv (v8 h)]):=by
 refine z6 Tryz.func34 rfl rfl rfl ?_
 refine rn ?_;refine z8 rfl (x9 rfl rfl rfl fun b1=> ?_)
 refine rn ?_;refine zj0 ?_;refine rn ?_;refine qv rfl rfl (y4 rfl rfl (y3.qt (y3.of_fun (zp7 h la)) ((pt1 _ _ _).trans (.cons _ ((pt1 _ _ _).trans (.cons _ ((pt1 _ _ _).trans (.cons _ ((pt1 _ _ _).trans (.cons _ (pt1 _ _ _))))))))))) ?_
 refine rn ?_;refine z7 rfl (fun hc13=> ?_) (fun hc13=> ?_)
 ·have hc:v8 h≠0:=nzT hc13
  refine rn ?_;refine ⟨fun l h=>(by cases h),?_⟩
  exact zbw rfl rfl (.drop [_] _ _) ⟨rfl,by rw [yqa hc];rfl⟩
 ·have hc:v8 h=0:=nzF hc13
  refine rn ?_;refine z8 rfl (y6 rfl fun b6=> ?_)
  refine rn ?_;refine z8 rfl (q7 rfl rfl (y3.of_fun (ycj (zdb h) _)) rfl ?_)
  rintro _ _ ⟨bl,rfl,rfl⟩
  refine rn ?_;refine znz (fun pend h''=>(pend=none∧(zau (zdb h))= []∧h''= .box bl 70 [zc9 (zdb h)]:: .box b6 4 [bv true]:: .box b1 28 (x3 h):: .glob 0 117 w7:: .glob 3 148 x6:: .glob 5 276 x7:: .glob 6 279 y7:: .glob 2 197 u7:: [])∨(pend=some (.exit 0)∧(∃d rest,(zau (zdb h))=d::rest)∧h''= .box bl 70 [zc9 (zdb h)]:: .box b6 4 [bv false]:: .box b1 28 (x3 h):: .glob 0 117 w7:: .glob 3 148 x6:: .glob 5 276 x7:: .glob 6 279 y7:: .glob 2 197 u7:: [])) rfl (fun fn l q lp hlp=> ?_) (fun q h'' hK=> ?_) (fun q h'' cc hK=> ?_)
  ·suffices hy:∀pre d rest (x:Unit),(zau (zdb h))=pre++d::rest→pre= []→y3 Tryz.prog (yv l) [iv d.1,iv d.2] (.box bl 70 [zc9 (zdb h)]::lp .ready none:: .defs q:: .box b6 4 [bv true]:: .box b1 28 (x3 h):: .glob 0 117 w7:: .glob 3 148 x6:: .glob 5 276 x7:: .glob 6 279 y7:: .glob 2 197 u7:: []) (fun r h'=>∃x':Unit,(r=bv true∧pre++ [d]= []∧h'= .box bl 70 [zc9 (zdb h)]::lp .ready none:: .defs q:: .box b6 4 [bv true]:: .box b1 28 (x3 h):: .glob 0 117 w7:: .glob 3 148 x6:: .glob 5 276 x7:: .glob 6 279 y7:: .glob 2 197 u7:: [])∨(r=bv false∧(∃d rest,(zau (zdb h))=d::rest)∧h'= .box bl 70 [zc9 (zdb h)]::lp .done (some (.exit 0)):: .defs q:: .box b6 4 [bv false]:: .box b1 28 (x3 h):: .glob 0 117 w7:: .glob 3 148 x6:: .glob 5 276 x7:: .glob 6 279 y7:: .glob 2 197 u7:: [])) by
    refine y8.mono (y8.perm (pt2 _ _ _ _) (yci (zdb h) (by have:=tab_len h;omega) (yv l) bl (fun pre _=>pre= []) (fun _=>∃d rest,(zau (zdb h))=d::rest) (fun _ _=>lp .ready none:: .defs q:: .box b6 4 [bv true]:: .box b1 28 (x3 h):: .glob 0 117 w7:: .glob 3 148 x6:: .glob 5 276 x7:: .glob 6 279 y7:: .glob 2 197 u7:: []) (fun _=>lp .done (some (.exit 0)):: .defs q:: .box b6 4 [bv false]:: .box b1 28 (x3 h):: .glob 0 117 w7:: .glob 3 148 x6:: .glob 5 276 x7:: .glob 6 279 y7:: .glob 2 197 u7:: []) () rfl hy)) ?_
    rintro _ _ ⟨x,⟨hn,rfl⟩|⟨hn,rfl⟩⟩
    ·exact ⟨none,.ready,_,((pt1 _ _ _).trans (.cons _ (pt1 _ _ _))),by simp,.inl ⟨rfl,hn,rfl⟩⟩
    ·exact ⟨some (.exit 0),.done,_,((pt1 _ _ _).trans (.cons _ (pt1 _ _ _))),by simp,.inr ⟨rfl,hn,rfl⟩⟩
   intro pre d rest x hL hpre
   refine y3.perm (pt1 _ _ _) (y3.ventE ?_)
   refine zel hlp rfl rfl ?_
   refine rn ?_;refine ⟨[(6,pZ b6)],.box bl 70 [zc9 (zdb h)]:: .defs q:: .box b6 4 [bv true]:: .box b1 28 (x3 h):: .glob 0 117 w7:: .glob 3 148 x6:: .glob 5 276 x7:: .glob 6 279 y7:: .glob 2 197 u7:: [],eA,?_⟩
   refine rn ?_;exact zmk (.refl _) ⟨_,_,.perm (pt1 _ _ _) _,(),.inr ⟨rfl,⟨d,rest,yg1 hL hpre⟩,rfl⟩⟩
  ·obtain ⟨_,hn,rfl⟩|⟨hc',_⟩:=hK
   rotate_left
   ·cases hc'
   refine rn ?_;refine ⟨fun l h=>(by cases h),?_⟩
   exact zia (.refl _) (.cons _ _ _ _ (.tmp _ _ rfl) (.cons _ _ _ _ (.tmp _ _ rfl) .nil)) (.drop [_,_,_] _ _) ⟨rfl,by rw [yft hc,hn,hc];rfl⟩
  ·obtain ⟨hc',_⟩|⟨hc',⟨d,rest,hn⟩,rfl⟩:=hK
   ·cases hc'
   obtain rfl:cc= .exit 0:=by simpa using hc'
   refine rn ?_;refine ⟨fun l h=>(by cases h),?_⟩
   exact zia (.refl _) (.cons _ _ _ _ (.tmp _ _ rfl) (.cons _ _ _ _ (.tmp _ _ rfl) .nil)) (.drop [_,_,_] _ _) ⟨rfl,by rw [yft hc,hn,hc];rfl⟩
def zoq (h:Hist) (d:Int×Int):Brch:=(seB h d.1 d.2).head?.getD br0
theorem zwt (L:List Grd):(zau L).length≤4 * L.length:=by
 induction L with
 |nil=>simp [zau]
 |cons g L ih=>
  have h1:zau (g::L)=((zen.filter (zm0 g)).map fun b=>(g.s,b))++zau L:=rfl
  have h2:(zen.filter (zm0 g)).length≤4:=List.length_filter_le _ _
  rw [h1,List.length_append,oM,List.length_cons];omega
set_option maxHeartbeats 8000000 in
theorem yhl (h:Hist) (la:Lim 4611686018427387904 h):y8 Tryz.prog 35 [.agg (x3 h)] (.glob 0 117 w7:: .glob 3 148 x6:: .glob 5 276 x7:: .glob 6 279 y7:: .glob 2 197 u7:: []) (fun r h'=>∃v w:SV,h'= .row v.v 6 36 ((((zau (zdb h))).map (zoq h)).map zb9):: .row w.v 1 3 ((((zau (zdb h))).map Prod.fst).map j8):: .glob 0 117 w7:: .glob 3 148 x6:: .glob 5 276 x7:: .glob 6 279 y7:: .glob 2 197 u7:: []∧r= .tup [.v v.v,.v w.v,iv (v8 h)]):=by
 refine z6 Tryz.func35 rfl rfl rfl ?_
 refine rn ?_;refine z8 rfl (x9 rfl rfl rfl fun b1=> ?_)
 refine rn ?_;refine qv rfl rfl (y4 rfl rfl (y3.qt (y3.of_fun (zp7 h la)) ((pt1 _ _ _).trans (.cons _ ((pt1 _ _ _).trans (.cons _ ((pt1 _ _ _).trans (.cons _ ((pt1 _ _ _).trans (.cons _ (pt1 _ _ _))))))))))) ?_
 refine rn ?_;refine z7 rfl (fun hc20=> ?_) (fun hc20=> ?_)
 ·have hc:v8 h≠0:=nzT hc20
  refine rn ?_;exact ze0 (.cons _ _ _ _ (.tmp _ _ rfl) (.cons _ _ _ _ (.tmp _ _ rfl) (.cons _ _ _ _ (.tmp _ _ rfl) .nil))) (.trans (.drop [_] _ _) (.trans (zam 1 3 _) (zam 6 36 _))) ⟨⟨none,0,0⟩,⟨none,0,0⟩,by rw [zvq hc];rfl,rfl⟩
 ·have hc:v8 h=0:=nzF hc20
  refine rn ?_;refine z8 rfl (y6 rfl fun b7=> ?_)
  refine rn ?_;refine z8 rfl (y6 rfl fun b8=> ?_)
  refine rn ?_;refine z8 rfl (q7 rfl rfl (y3.of_fun (ycj (zdb h) _)) rfl ?_)
  rintro _ _ ⟨bl,rfl,rfl⟩
  refine rn ?_;refine zim (s':=⟨[(23,.fn (.func 125) [] [pZ bl]),(1,pZ b1),(7,pZ b7),(8,pZ b8)],.row (⟨none,0,0⟩:SV).v 6 36 (((([]:List (Int×Int))).map (zoq h)).map zb9):: .row (⟨none,0,0⟩:SV).v 1 3 (((([]:List (Int×Int))).map Prod.fst).map j8):: .box bl 70 [zc9 (zdb h)]:: .box b8 54 [.v (⟨none,0,0⟩:SV).v]:: .box b7 44 [.v (⟨none,0,0⟩:SV).v]:: .box b1 28 (x3 h):: .glob 0 117 w7:: .glob 3 148 x6:: .glob 5 276 x7:: .glob 6 279 y7:: .glob 2 197 u7:: [],[]⟩) (w9 (k6 1 3) (w9 (k6 6 36) es)) ?_
  refine znz (fun pend h''=>pend=none∧∃v w:SV,h''= .box bl 70 [zc9 (zdb h)]:: .row v.v 6 36 ((((zau (zdb h))).map (zoq h)).map zb9):: .row w.v 1 3 ((((zau (zdb h))).map Prod.fst).map j8):: .box b8 54 [.v w.v]:: .box b7 44 [.v v.v]:: .box b1 28 (x3 h):: .glob 0 117 w7:: .glob 3 148 x6:: .glob 5 276 x7:: .glob 6 279 y7:: .glob 2 197 u7:: []) rfl (fun fn l q lp hlp=> ?_) (fun q h'' hK=> ?_) (fun q h'' cc hK=> ?_)
  ·suffices hy:∀pre d rest (z:SV×SV),(zau (zdb h))=pre++d::rest→True→y3 Tryz.prog (yv l) [iv d.1,iv d.2] (.box bl 70 [zc9 (zdb h)]::lp .ready none:: .defs q:: .row z.1.v 6 36 (((pre).map (zoq h)).map zb9):: .row z.2.v 1 3 (((pre).map Prod.fst).map j8):: .box b8 54 [.v z.2.v]:: .box b7 44 [.v z.1.v]:: .box b1 28 (x3 h):: .glob 0 117 w7:: .glob 3 148 x6:: .glob 5 276 x7:: .glob 6 279 y7:: .glob 2 197 u7:: []) (fun r h'=>∃z':SV×SV,(r=bv true∧True∧h'= .box bl 70 [zc9 (zdb h)]::lp .ready none:: .defs q:: .row z'.1.v 6 36 (((pre++ [d]).map (zoq h)).map zb9):: .row z'.2.v 1 3 (((pre++ [d]).map Prod.fst).map j8):: .box b8 54 [.v z'.2.v]:: .box b7 44 [.v z'.1.v]:: .box b1 28 (x3 h):: .glob 0 117 w7:: .glob 3 148 x6:: .glob 5 276 x7:: .glob 6 279 y7:: .glob 2 197 u7:: [])∨(r=bv false∧False∧h'= .box bl 70 [zc9 (zdb h)]:: [])) by
    refine y8.mono (y8.perm (pt4 _ _ _ _ _ _) (yci (zdb h) (by have:=tab_len h;omega) (yv l) bl (fun _ (_:SV×SV)=>True) (fun _=>False) (fun pre (z:SV×SV)=>lp .ready none:: .defs q:: .row z.1.v 6 36 (((pre).map (zoq h)).map zb9):: .row z.2.v 1 3 (((pre).map Prod.fst).map j8):: .box b8 54 [.v z.2.v]:: .box b7 44 [.v z.1.v]:: .box b1 28 (x3 h):: .glob 0 117 w7:: .glob 3 148 x6:: .glob 5 276 x7:: .glob 6 279 y7:: .glob 2 197 u7:: []) (fun _=> []) (⟨none,0,0⟩,⟨none,0,0⟩) trivial hy)) ?_
    rintro _ _ ⟨z,⟨-,rfl⟩|⟨hF,_⟩⟩
    ·exact ⟨none,.ready,_,((pt1 _ _ _).trans (.cons _ (pt1 _ _ _))),by simp,rfl,z.1,z.2,rfl⟩
    ·exact hF.elim
   rintro pre d rest ⟨vB,vI⟩ hL _
   show y3 _ _ _ (.box bl 70 [zc9 (zdb h)]::lp .ready none:: .defs q:: .row vB.v 6 36 (((pre).map (zoq h)).map zb9):: .row vI.v 1 3 (((pre).map Prod.fst).map j8):: .box b8 54 [.v vI.v]:: .box b7 44 [.v vB.v]:: .box b1 28 (x3 h):: .glob 0 117 w7:: .glob 3 148 x6:: .glob 5 276 x7:: .glob 6 279 y7:: .glob 2 197 u7:: []) _
   have hpl:pre.length≤12000:=by
    have h1:=zwt (zdb h)
    have h2:=tab_len h
    rw [hL,List.length_append] at h1
    omega
   refine y3.perm (pt1 _ _ _) (y3.ventE ?_)
   refine zel hlp rfl rfl ?_
   refine rn ?_;refine ⟨[(9,iv d.1),(10,iv d.2),(1,pZ b1),(7,pZ b7),(8,pZ b8)],.box bl 70 [zc9 (zdb h)]:: .defs q:: .row vB.v 6 36 (((pre).map (zoq h)).map zb9):: .row vI.v 1 3 (((pre).map Prod.fst).map j8):: .box b8 54 [.v vI.v]:: .box b7 44 [.v vB.v]:: .box b1 28 (x3 h):: .glob 0 117 w7:: .glob 3 148 x6:: .glob 5 276 x7:: .glob 6 279 y7:: .glob 2 197 u7:: [],eA,?_⟩
   refine rn ?_;refine qv rfl rfl (y4 rfl rfl (y3.qt (y3.of_fun (yfk h la d.1 d.2)) ((pt8 _ _ _ _ _ _ _ _ _ _).trans (.cons _ ((pt8 _ _ _ _ _ _ _ _ _ _).trans (.cons _ ((pt8 _ _ _ _ _ _ _ _ _ _).trans (.cons _ ((pt8 _ _ _ _ _ _ _ _ _ _).trans (.cons _ (pt8 _ _ _ _ _ _ _ _ _ _))))))))))) ?_
   refine rn ?_;refine z8 rfl (y6 rfl fun b11=> ?_)
   refine rn ?_;refine zqp 7 (.box b11 36 (zb9 (zoq h d))::lp .busy none:: .box bl 70 [zc9 (zdb h)]:: .defs q:: .row vI.v 1 3 (((pre).map Prod.fst).map j8):: .box b8 54 [.v vI.v]:: .box b7 44 [.v vB.v]:: .box b1 28 (x3 h):: .glob 0 117 w7:: .glob 3 148 x6:: .glob 5 276 x7:: .glob 6 279 y7:: .glob 2 197 u7:: []) rfl ?_
   refine rn ?_;refine mv rfl rfl (q8 rfl rfl) ?_
   refine yv7 (xs:=((pre.map (zoq h)).map zb9)) rfl rfl rfl rfl rfl rfl (by simp only [oM,List.length_cons,List.length_nil];omega) (fun r hr=>by rw [List.mem_singleton.1 hr];rfl) ?_
   refine rn ?_;refine mv rfl rfl (q8 rfl rfl) ?_
   refine yms ⟨(pt4 _ _ _ _ _ _),?_⟩
   refine rn ?_;refine zep fun s37=> ?_
   refine rn ?_;refine z8 rfl (u6 rfl rfl (by simp only [oM,List.length_cons,List.length_nil];omega) rfl (fun s41=> ?_) (fun r hr=>by rw [List.mem_singleton.1 hr];rfl))
   refine zaa s41 fun sv hsv=> ?_
   subst hsv
   refine rn ?_;exact zir (pt2 _ _ _ _) ⟨_,_,.trans (.perm ((pt2 _ _ _ _).trans (.cons _ ((pt2 _ _ _ _).trans (.cons _ (.cons _ (pt1 _ _ _)))))) _) (.drop [_] _ _),(s37,sv),.inl ⟨rfl,trivial,by simp only [List.map_append];rfl⟩⟩
  ·obtain ⟨_,v,w,rfl⟩:=hK
   refine rn ?_;refine j4 3 rfl ?_
   refine rn ?_;exact zia (.refl _) (.cons _ _ _ _ (.tmp _ _ rfl) (.cons _ _ _ _ (.tmp _ _ rfl) (.cons _ _ _ _ (.tmp _ _ rfl) .nil))) (.trans (.perm (.cons _ ((pt2 _ _ _ _).trans (.cons _ ((pt2 _ _ _ _).trans (.cons _ (pt2 _ _ _ _)))))) _) (.drop [_,_,_,_] _ _)) ⟨v,w,rfl,by rw [hc];rfl⟩
  ·obtain ⟨hc',_⟩:=hK
   exact absurd hc' (by simp)
theorem ych (h:Hist) (la:Lim 4611686018427387904 h):y8 Tryz.prog 35 [.agg (x3 h)] (.glob 0 117 w7:: .glob 3 148 x6:: .glob 5 276 x7:: .glob 6 279 y7:: .glob 2 197 u7:: []) (fun r h'=>h'= .glob 0 117 w7:: .glob 3 148 x6:: .glob 5 276 x7:: .glob 6 279 y7:: .glob 2 197 u7:: []∧r= .tup [zxi ((zau (zdb h)).map (zoq h)),zbz ((zau (zdb h)).map Prod.fst),iv (v8 h)]):=(yhl h la).ventR (by rintro _ _ ⟨v,w,rfl,rfl⟩;exact ⟨_,_,(zak [] [_,_]).trans (zak [_] [_]),rfl,rfl⟩)
set_option maxHeartbeats 8000000 in
theorem ysb (h:Hist) (la:Lim 1000000 h):y8 Tryz.prog 90 [.agg (x3 h)] [] (fun r h'=>∃(n:NV) (o:SV×SV×SV) (E:List (SV×Ev)) (O:List (SV×H.Ord)) (M:List (SV×Mat)),E.map (·.2)=h.evs∧O.map (·.2)=h.ords∧M.map (·.2)=h.mats∧h'= .row n.vT.v 1 9 (h.ts.map za2):: .row n.vS.v 1 9 (h.ss.map za2):: .row n.vO.v 1 9 (h.os.map za2):: .row n.vP.v 1 9 (h.ps.map za2):: .row o.1.v 9 66 (E.map yjo):: .row o.2.1.v 2 99 (O.map zt9):: .row o.2.2.v 4 112 (M.map zys)::(scR 139 E++(otR 3 O++mtR 3 M))∧r= .agg [.v n.vT.v,.v n.vS.v,.v n.vO.v,.v n.vP.v,.v o.1.v,.v o.2.1.v,.v o.2.2.v,zg9 h.wants]):=by
 refine z6 Tryz.func90 rfl rfl rfl ?_
 refine rn ?_;refine z8 rfl (x9 rfl rfl rfl fun b1=> ?_)
 refine z8 rfl (y6 rfl fun b2=> ?_)
 refine rn0 ?_;refine zi2 (fun _:SV×SV×SV×SV=>True) (fun x=>⟨[(1,pZ b1),(2,pZ b2)],.box b2 28 zgc:: .box b1 28 [.v x.1.v,.v x.2.1.v,.v x.2.2.1.v,.v x.2.2.2.v,zlg h.evs,zpl h.ords,zpx h.mats,zg9 h.wants]:: .row x.1.v 1 9 (h.ts.map za2):: .row x.2.1.v 1 9 (h.ss.map za2):: .row x.2.2.1.v 1 9 (h.os.map za2):: .row x.2.2.2.v 1 9 (h.ps.map za2):: [],[]⟩) ?_ ?_
 ·refine zj1 13 rfl ?_
  refine rn ?_;refine zny (zug 1 9 (h.ts.map za2)) rfl rfl rfl (zii (y3.of_fun (zfh _ (by rw [oM];have:=la.ts;omega) (zmt _)))) ?_
  refine rn ?_;refine zny (zug 1 9 (h.ss.map za2)) rfl rfl rfl (zii (y3.of_fun (zfh _ (by rw [oM];have:=la.ss;omega) (zmt _)))) ?_
  refine rn ?_;refine zny (zug 1 9 (h.os.map za2)) rfl rfl rfl (zii (y3.of_fun (zfh _ (by rw [oM];have:=la.os;omega) (zmt _)))) ?_
  refine rn ?_;refine zny (zug 1 9 (h.ps.map za2)) rfl rfl rfl (zii (y3.of_fun (zfh _ (by rw [oM];have:=la.ps;omega) (zmt _)))) ?_
  refine rn ?_;refine yms ⟨.refl _,?_⟩
  refine rn ?_;refine zep fun s8=> ?_
  refine rn ?_;refine zep fun s11=> ?_
  refine rn ?_;refine zep fun s14=> ?_
  refine rn ?_;refine zep fun s17=> ?_
  refine rn ?_;exact ⟨(s8,s11,s14,s17),trivial,w9 (zax ((pt4 _ _ _ _ _ _).trans (.cons _ ((pt4 _ _ _ _ _ _).trans (.cons _ ((pt3 _ _ _ _ _).trans (.cons _ ((pt2 _ _ _ _).trans (.cons _ (pt1 _ _ _)))))))))) (w6 (.cons _ _ _ rfl (.cons _ _ _ rfl (.nil))))⟩
 ·rintro ⟨s8,s11,s14,s17⟩ _
  refine zi2 (fun _:SV×SV×SV=>True) (fun x=>⟨[(1,pZ b1),(2,pZ b2)],.box b2 28 zgc:: .box b1 28 [.v s8.v,.v s11.v,.v s14.v,.v s17.v,.v x.1.v,.v x.2.1.v,.v x.2.2.v,zg9 h.wants]:: .row s8.v 1 9 (h.ts.map za2):: .row s11.v 1 9 (h.ss.map za2):: .row s14.v 1 9 (h.os.map za2):: .row s17.v 1 9 (h.ps.map za2):: .row x.1.v 9 66 (h.evs.map evR):: .row x.2.1.v 2 99 (h.ords.map zcy):: .row x.2.2.v 4 112 (h.mats.map zc7):: [],[]⟩) ?_ ?_
  ·refine zj1 10 rfl ?_
   refine rn ?_;refine zny (zug 9 66 (h.evs.map evR)) rfl rfl rfl (zii (y3.of_fun (zy8 _ (by rw [oM];have:=la.evs;omega) (yi9 _)))) ?_
   refine rn ?_;refine zny (zug 2 99 (h.ords.map zcy)) rfl rfl rfl (zii (y3.of_fun (zu6 _ (by rw [oM];have:=la.ords;omega) (ymm _)))) ?_
   refine rn ?_;refine zny (zug 4 112 (h.mats.map zc7)) rfl rfl rfl (zii (y3.of_fun (zu7 _ (by rw [oM];have:=la.mats;omega) (ymn _)))) ?_
   refine rn ?_;refine yms ⟨.refl _,?_⟩
   refine rn ?_;refine zep fun s24=> ?_
   refine rn ?_;refine zep fun s27=> ?_
   refine rn ?_;refine zep fun s30=> ?_
   refine rn ?_;exact ⟨(s24,s27,s30),trivial,w9 (zax ((pt3 _ _ _ _ _).trans (.cons _ ((pt3 _ _ _ _ _).trans (.cons _ ((pt3 _ _ _ _ _).trans (.cons _ ((pt3 _ _ _ _ _).trans (.cons _ ((pt3 _ _ _ _ _).trans (.cons _ ((pt3 _ _ _ _ _).trans (.cons _ ((pt2 _ _ _ _).trans (.cons _ (pt1 _ _ _)))))))))))))))) (w6 (.cons _ _ _ rfl (.cons _ _ _ rfl (.nil))))⟩
  ·rintro ⟨s24,s27,s30⟩ _
   refine rn ?_;refine u5 (fun x:Nat×List (SV×Ev)=>x.1≤h.evs.length∧x.2.map (·.2)=h.evs.take x.1) (fun x=>⟨[(37,iv x.1),(36,iv (h.evs.map evR).length),(1,pZ b1),(2,pZ b2)],.box b2 28 zgc:: .box b1 28 [.v s8.v,.v s11.v,.v s14.v,.v s17.v,.v s24.v,.v s27.v,.v s30.v,zg9 h.wants]:: .row s8.v 1 9 (h.ts.map za2):: .row s11.v 1 9 (h.ss.map za2):: .row s14.v 1 9 (h.os.map za2):: .row s17.v 1 9 (h.ps.map za2):: .row s24.v 9 66 (x.2.map yjo++(h.evs.drop x.1).map evR):: .row s27.v 2 99 (h.ords.map zcy):: .row s30.v 4 112 (h.mats.map zc7)::scR 139 x.2,[]⟩) (fun x=>h.evs.length - x.1) (0,[]) ⟨by omega,rfl⟩
    (w6 (.cons _ _ _ rfl (.cons _ _ _ rfl (.cons _ _ _ rfl (.cons _ _ _ rfl (.nil)))))) ?_
   rintro ⟨k,x⟩ ⟨hk,hx⟩
   simp only at hk hx
   have hxl:=zps hx hk
   refine rn ?_;refine z7 rfl (fun hc38=> ?_) (fun hc38=> ?_)
   ·have hk2:k < h.evs.length:=by have q:=oT hc38;rw [oM] at q;omega
    obtain ⟨e,he⟩:∃e,e=h.evs[k]:=⟨_,rfl⟩
    have hd:=List.drop_eq_getElem_cons hk2
    rw [←he] at hd
    have hrow:(x.map yjo++(h.evs.drop k).map evR)[k]? =some (evR e):=zpu hxl hd
    have hmem:e∈h.evs:=by rw [he];exact List.getElem_mem hk2
    have hle:=la.evs
    have hk3:k < (x.map yjo++(h.evs.drop k).map evR).length:=by rw [zpt hxl hk];exact hk2
    refine rn ?_;refine zj1 10 rfl ?_
    refine mq rfl rfl qrA ?_;refine mq rfl rfl qrA ?_;refine mq rfl rfl qrA ?_;refine mq rfl rfl qrA ?_;refine mq rfl rfl qrA ?_;refine mq rfl rfl qrA ?_;refine mq rfl rfl (q9 rfl rfl hk3) ?_
    refine mq rfl rfl qrA ?_;refine mq rfl rfl (zdf rfl hrow rfl) ?_
    refine zny (zug 3 139 (e.scan.map zar)) rfl rfl rfl (zii (y3.of_fun (zsv _ (by rw [oM];have:=(la.scans e hmem);omega) (ygl _)))) ?_
    refine yms ⟨.refl _,?_⟩
    refine rn ?_;refine zep fun s49=> ?_
    refine rn2 ?_;refine qq rfl rfl (q9 rfl rfl hk3) ?_
    refine rn ?_;refine z8 rfl (zaz rfl rfl rfl hrow rfl (Nat.le_of_ble_eq_true rfl) ?_)
    refine rn ?_;have hset:=zpr (f:=yjo) (g:=evR) (a:=(s49,e)) (r:=(evR e).take 8++ [.v s49.v]++(evR e).drop (8+1)) hxl hd rfl
    have htl:scR 139 (x++ [(s49,e)])=scR 139 x++ [.row s49.v 3 139 (e.scan.map zar)]:=by simp [scR]
    exact ⟨(k+1,x++ [(s49,e)]),⟨by omega,zpq hx hk2 he⟩,by simp only [htl];exact w9 (zax (zdw [_] _)) (by rw [←hset];exact (w6 (.cons _ _ _ rfl (.cons _ _ _ rfl (.cons _ _ _ rfl (.cons _ _ _ rfl (.nil))))))),by simp only;omega⟩
   ·obtain rfl:k=h.evs.length:=by
     have q:=oF hc38
     rw [oM] at q
     omega
    rw [List.take_length] at hx
    obtain ⟨E,hE⟩:∃E,E=x:=⟨_,rfl⟩
    rw [←hE] at hx ⊢
    have hxE:=hx
    rw [List.drop_length,List.map_nil,List.append_nil]
    refine rn ?_;refine u5 (fun x:Nat×List (SV×H.Ord)=>x.1≤h.ords.length∧x.2.map (·.2)=h.ords.take x.1) (fun x=>⟨[(56,iv x.1),(55,iv (h.ords.map zcy).length),(1,pZ b1),(2,pZ b2)],.box b2 28 zgc:: .box b1 28 [.v s8.v,.v s11.v,.v s14.v,.v s17.v,.v s24.v,.v s27.v,.v s30.v,zg9 h.wants]:: .row s8.v 1 9 (h.ts.map za2):: .row s11.v 1 9 (h.ss.map za2):: .row s14.v 1 9 (h.os.map za2):: .row s17.v 1 9 (h.ps.map za2):: .row s24.v 9 66 (E.map yjo):: .row s27.v 2 99 (x.2.map zt9++(h.ords.drop x.1).map zcy):: .row s30.v 4 112 (h.mats.map zc7)::(scR 139 E++otR 3 x.2),[]⟩) (fun x=>h.ords.length - x.1) (0,[]) ⟨by omega,rfl⟩
     (by simp only [otR,List.map_nil,List.append_nil];exact (w6 (.cons _ _ _ rfl (.cons _ _ _ rfl (.cons _ _ _ rfl (.cons _ _ _ rfl (.nil))))))) ?_
    rintro ⟨k,x⟩ ⟨hk,hx⟩
    simp only at hk hx
    have hxl:=zps hx hk
    refine rn ?_;refine z7 rfl (fun hc57=> ?_) (fun hc57=> ?_)
    ·have hk2:k < h.ords.length:=by have q:=oT hc57;rw [oM] at q;omega
     obtain ⟨e,he⟩:∃e,e=h.ords[k]:=⟨_,rfl⟩
     have hd:=List.drop_eq_getElem_cons hk2
     rw [←he] at hd
     have hrow:(x.map zt9++(h.ords.drop k).map zcy)[k]? =some (zcy e):=zpu hxl hd
     have hmem:e∈h.ords:=by rw [he];exact List.getElem_mem hk2
     have hle:=la.ords
     have hk3:k < (x.map zt9++(h.ords.drop k).map zcy).length:=by rw [zpt hxl hk];exact hk2
     refine rn ?_;refine zj1 10 rfl ?_
     refine mq rfl rfl qrA ?_;refine mq rfl rfl qrA ?_;refine mq rfl rfl qrA ?_;refine mq rfl rfl qrA ?_;refine mq rfl rfl qrA ?_;refine mq rfl rfl qrA ?_;refine mq rfl rfl (q9 rfl rfl hk3) ?_
     refine mq rfl rfl qrA ?_;refine mq rfl rfl (zdf rfl hrow rfl) ?_
     refine zny (zug 1 3 (e.ts.map j8)) rfl rfl rfl (zii (y3.of_fun (zg0 _ (by rw [oM];have:=(la.ordts e hmem);omega) (ziv _)))) ?_
     refine yms ⟨.refl _,?_⟩
     refine rn ?_;refine zep fun s68=> ?_
     refine rn2 ?_;refine qq rfl rfl (q9 rfl rfl hk3) ?_
     refine rn ?_;refine z8 rfl (zaz rfl rfl rfl hrow rfl (Nat.le_of_ble_eq_true rfl) ?_)
     refine rn ?_;have hset:=zpr (f:=zt9) (g:=zcy) (a:=(s68,e)) (r:=(zcy e).take 1++ [.v s68.v]++(zcy e).drop (1+1)) hxl hd rfl
     have htl:∀L:List Res,L++otR 3 (x++ [(s68,e)])=(L++otR 3 x)++ [.row s68.v 1 3 (e.ts.map j8)]:=by simp [otR]
     exact ⟨(k+1,x++ [(s68,e)]),⟨by omega,zpq hx hk2 he⟩,by simp only [htl];exact w9 (zax (zdw [_] _)) (by rw [←hset];exact (w6 (.cons _ _ _ rfl (.cons _ _ _ rfl (.cons _ _ _ rfl (.cons _ _ _ rfl (.nil))))))),by simp only;omega⟩
    ·obtain rfl:k=h.ords.length:=by
      have q:=oF hc57
      rw [oM] at q
      omega
     rw [List.take_length] at hx
     obtain ⟨O,hO⟩:∃O,O=x:=⟨_,rfl⟩
     rw [←hO] at hx ⊢
     have hxO:=hx
     rw [List.drop_length,List.map_nil,List.append_nil]
     refine rn ?_;refine u5 (fun x:Nat×List (SV×Mat)=>x.1≤h.mats.length∧x.2.map (·.2)=h.mats.take x.1) (fun x=>⟨[(75,iv x.1),(74,iv (h.mats.map zc7).length),(1,pZ b1),(2,pZ b2)],.box b2 28 zgc:: .box b1 28 [.v s8.v,.v s11.v,.v s14.v,.v s17.v,.v s24.v,.v s27.v,.v s30.v,zg9 h.wants]:: .row s8.v 1 9 (h.ts.map za2):: .row s11.v 1 9 (h.ss.map za2):: .row s14.v 1 9 (h.os.map za2):: .row s17.v 1 9 (h.ps.map za2):: .row s24.v 9 66 (E.map yjo):: .row s27.v 2 99 (O.map zt9):: .row s30.v 4 112 (x.2.map zys++(h.mats.drop x.1).map zc7)::(scR 139 E++(otR 3 O++mtR 3 x.2)),[]⟩) (fun x=>h.mats.length - x.1) (0,[]) ⟨by omega,rfl⟩
      (by simp only [mtR,List.map_nil,List.append_nil];exact (w6 (.cons _ _ _ rfl (.cons _ _ _ rfl (.cons _ _ _ rfl (.cons _ _ _ rfl (.nil))))))) ?_
     rintro ⟨k,x⟩ ⟨hk,hx⟩
     simp only at hk hx
     have hxl:=zps hx hk
     refine rn ?_;refine z7 rfl (fun hc76=> ?_) (fun hc76=> ?_)
     ·have hk2:k < h.mats.length:=by have q:=oT hc76;rw [oM] at q;omega
      obtain ⟨e,he⟩:∃e,e=h.mats[k]:=⟨_,rfl⟩
      have hd:=List.drop_eq_getElem_cons hk2
      rw [←he] at hd
      have hrow:(x.map zys++(h.mats.drop k).map zc7)[k]? =some (zc7 e):=zpu hxl hd
      have hmem:e∈h.mats:=by rw [he];exact List.getElem_mem hk2
      have hle:=la.mats
      have hk3:k < (x.map zys++(h.mats.drop k).map zc7).length:=by rw [zpt hxl hk];exact hk2
      refine rn ?_;refine zj1 10 rfl ?_
      refine mq rfl rfl qrA ?_;refine mq rfl rfl qrA ?_;refine mq rfl rfl qrA ?_;refine mq rfl rfl qrA ?_;refine mq rfl rfl qrA ?_;refine mq rfl rfl qrA ?_;refine mq rfl rfl (q9 rfl rfl hk3) ?_
      refine mq rfl rfl qrA ?_;refine mq rfl rfl (zdf rfl hrow rfl) ?_
      refine zny (zug 1 3 (e.ts.map j8)) rfl rfl rfl (zii (y3.of_fun (zg0 _ (by rw [oM];have:=(la.matts e hmem);omega) (ziv _)))) ?_
      refine yms ⟨.refl _,?_⟩
      refine rn ?_;refine zep fun s87=> ?_
      refine rn2 ?_;refine qq rfl rfl (q9 rfl rfl hk3) ?_
      refine rn ?_;refine z8 rfl (zaz rfl rfl rfl hrow rfl (Nat.le_of_ble_eq_true rfl) ?_)
      refine rn ?_;have hset:=zpr (f:=zys) (g:=zc7) (a:=(s87,e)) (r:=(zc7 e).take 3++ [.v s87.v]++(zc7 e).drop (3+1)) hxl hd rfl
      have htl:∀L L2:List Res,L++(L2++mtR 3 (x++ [(s87,e)]))=(L++(L2++mtR 3 x))++ [.row s87.v 1 3 (e.ts.map j8)]:=by simp [mtR]
      exact ⟨(k+1,x++ [(s87,e)]),⟨by omega,zpq hx hk2 he⟩,by simp only [htl];exact w9 (zax (zdw [_] _)) (by rw [←hset];exact (w6 (.cons _ _ _ rfl (.cons _ _ _ rfl (.cons _ _ _ rfl (.cons _ _ _ rfl (.nil))))))),by simp only;omega⟩
     ·obtain rfl:k=h.mats.length:=by
       have q:=oF hc76
       rw [oM] at q
       omega
      rw [List.take_length] at hx
      obtain ⟨M,hM⟩:∃M,M=x:=⟨_,rfl⟩
      rw [←hM] at hx ⊢
      have hxM:=hx
      rw [List.drop_length,List.map_nil,List.append_nil]
      refine rn ?_;exact ze0 (.cons _ _ _ _ (.agg _ _ _ _ _ _ _ rfl inferInstance inferInstance inferInstance rfl) .nil) (.drop [_,_] _ _) ⟨⟨s8,s11,s14,s17⟩,⟨s24,s27,s30⟩,E,O,M,hxE,hxO,hxM,rfl,rfl⟩
theorem yvc (h:Hist) (la:Lim 1000000 h):y8 Tryz.prog 90 [.agg (x3 h)] [] (fun r h'=>h'= []∧r= .agg (x3 h)):=
 (ysb h la).ventR (by
  rintro _ _ ⟨n,o,E,O,M,hE,hO,hM,rfl,rfl⟩
  exact ⟨_,_,zt8 [] n o.1.v o.2.1.v o.2.2.v h E O M 9 66 99 112 139 3 _ hE hO hM (by simp) (by simp) (by simp) (by simp) (by simp) (by simp) (by simp) (fun r hr=>by simp [hr]) (fun r hr=>by simp [hr]) (fun r hr=>by simp [hr]),rfl,rfl⟩)
theorem yko (l:List Wan):∀r∈l.map zco,r.all AV.one=true:=by
 intro r hr
 obtain ⟨x,_,rfl⟩:=List.mem_map.1 hr
 rfl
theorem yvu (l:List Wan) (z:List AV):(l.map zco).take l.length++(List.replicate (l.map zco).length z).drop l.length=l.map zco:=by
 rw [List.drop_of_length_le (by simp),List.append_nil,List.take_of_length_le (by simp)]
theorem zzr {l:List Wan} {s b:Int} (h:za9 (fun w:Wan=>w.s==s) 0 l < 0):(l++ [(⟨0,0⟩:Wan)]).set l.length ⟨s,b⟩=zi6 l s b:=by
 rw [zi6,if_pos h];simp
theorem zzq {l:List Wan} {s b:Int} {k:Nat} (h:za9 (fun w:Wan=>w.s==s) 0 l=(k:Int)):l.set k ⟨s,b⟩=zi6 l s b:=by
 rw [zi6,if_neg (by omega),h];rfl
theorem ykk {l:List Wan} {s:Int} (h:¬za9 (fun w:Wan=>w.s==s) 0 l < 0):∃k:Nat,k < l.length∧za9 (fun w:Wan=>w.s==s) 0 l=(k:Int):=by
 obtain ⟨k,hk,e,_⟩:=zsg (p:=fun w:Wan=>w.s==s) (l:=l) (i:=0) (by omega)
 exact ⟨k,hk,by rw [e];simp⟩
theorem zs0 {cs:List AV} (h:cs.all AV.one=true) {a:AV} (ha:a.one=true):(AV.agg (cs++ [a])).cellsOf=some (cs++ [a]):=by
 have e:(cs++ [a]).all AV.one=true:=by rw [List.all_append,h];simp [ha]
 show (match (cs++ [a]).all AV.one with|true=>some (cs++ [a])|false=>none)=_
 rw [e]
theorem yce (sv:SV) (l:List Wan) (fv:AV) (p:Wan→Bool) (G:List Res) (hp:∀a∈l,y3 Tryz.prog fv [.agg (zco a)] G (fun r h'=>h'=G∧r=bv (p a))) (hlen:l.length≤4611686018427387904):y8 Tryz.prog 102 [.v sv.v,fv] (.row sv.v 2 51 ((l).map zco)::G) (fun r h'=>h'= .row sv.v 2 51 ((l).map zco)::G∧r=iv (za9 p 0 l)):=by
 refine z6 Tryz.func102 rfl rfl rfl ?_
 refine rn ?_;refine u5 (fun k:Nat=>k≤l.length∧za9 p 0 l=za9 p k (l.drop k)) (fun k=>⟨[(8,iv k),(7,iv (l.map zco).length),(0,.v sv.v),(1,fv)],.row sv.v 2 51 ((l).map zco)::G,[]⟩) (fun k=>l.length - k) 0 ⟨Nat.zero_le _,by simp⟩
  (w6 (.cons _ _ _ rfl (.cons _ _ _ rfl (.cons _ _ _ rfl (.cons _ _ _ rfl (.nil)))))) ?_
 rintro k ⟨hk,hnot⟩
 refine rn ?_;refine z7 rfl (fun hc9=> ?_) (fun hc9=> ?_)
 ·have hk2:k < l.length:=by have q:=oT hc9;rw [oM] at q;omega
  have hrow:(l.map zco)[k]? =some (zco l[k]):=by simp [hk2]
  have hk3:k < (l.map zco).length:=by rw [oM];exact hk2
  have hd:=List.drop_eq_getElem_cons hk2
  have hq9:y3 Tryz.prog fv [.agg (zco l[k])] (.row sv.v 2 51 ((l).map zco)::G) (fun r h'=>h'= .row sv.v 2 51 ((l).map zco)::G∧r=bv (p l[k])):=y3.quiet (R:=fun x=>x=bv (p l[k])) (h2:= [.row sv.v 2 51 ((l).map zco)]) (List.perm_append_comm (l₁:= [_])) (hp l[k] (List.getElem_mem hk2))
  refine zad ?_;refine j7 ?_;refine x8 ?_;refine zaj ?_;refine x8 (y5 ?_)
  refine q1 ?_;refine q1 ?_;refine u0 (j7 ?_)
  refine x8 (y5 ?_)
  refine q1 ?_;refine q1 ?_;refine q1 ?_;refine qq rfl rfl (q9 rfl rfl hk3) ?_
  refine qq rfl rfl (j5 rfl hrow rfl) ?_
  refine qv rfl rfl (y4 rfl rfl hq9) ?_
  refine rn ?_;refine z7 rfl (fun hc16=> ?_) (fun hc16=> ?_)
  ·refine rn ?_;exact u9 rfl (.refl _ _) ⟨rfl,by rw [hnot,hd,za9,if_pos hc16];rfl⟩
  ·refine rn ?_;exact ⟨k+1,⟨by omega,by rw [hnot,hd,za9,if_neg (by simp [hc16])]⟩,(w6 (.cons _ _ _ rfl (.cons _ _ _ rfl (.cons _ _ _ rfl (.cons _ _ _ rfl (.nil)))))),by omega⟩
 ·have hk3:k=l.length:=by
   have q:=oF hc9
   rw [oM] at q
   omega
  refine rn ?_;exact u9 rfl (.refl _ _) ⟨rfl,by rw [hnot,hk3,List.drop_length,za9];rfl⟩
theorem yr9 (w:Wan) (s:Int) (b4:Nat):y8 Tryz.prog 127 [.agg (zco w),pZ b4] (.box b4 3 [iv s]:: []) (fun r h'=>h'= .box b4 3 [iv s]:: []∧r=bv (w.s==s)):=by
 refine z6 Tryz.func127 rfl rfl rfl ?_
 refine rn ?_;refine z8 rfl (x9 rfl rfl rfl fun b2=> ?_)
 refine rn ?_;refine rq 1 ?_
 exact ⟨rfl,rfl⟩
theorem ynp (c0 c1 c2 c3 c4 c5 c6:AV) (ho: [c0,c1,c2,c3,c4,c5,c6].all AV.one=true) (l:List Wan) (hl:l.length≤1000000) (s bits:Int):y8 Tryz.prog 89 [.agg [c0,c1,c2,c3,c4,c5,c6,zg9 l],iv s,iv bits] [] (fun r h'=>∃v:SV,h'= .row v.v 2 51 ((zi6 l s bits).map zco):: []∧r= .agg [c0,c1,c2,c3,c4,c5,c6,.v v.v]):=by
 refine z6 Tryz.func89 rfl rfl rfl ?_
 have hone:(AV.agg [c0,c1,c2,c3,c4,c5,c6,zg9 l]).cellsOf=some [c0,c1,c2,c3,c4,c5,c6,zg9 l]:=zs0 (cs:= [c0,c1,c2,c3,c4,c5,c6]) ho rfl
 have hone2:∀v:SV,(AV.agg [c0,c1,c2,c3,c4,c5,c6,.v v.v]).cellsOf=some [c0,c1,c2,c3,c4,c5,c6,.v v.v]:=fun v=>zs0 (cs:= [c0,c1,c2,c3,c4,c5,c6]) ho rfl
 refine rn ?_;refine z8 rfl (x9 rfl hone rfl fun b3=> ?_)
 refine z8 rfl (x9 rfl rfl rfl fun b4=> ?_)
 refine z8 rfl (y6 rfl fun b6=> ?_)
 refine u0 (j7 ?_)
 refine x8 (y5 ?_)
 refine q1 ?_;refine q1 ?_;refine q1 ?_;refine q1 ?_;refine q1 ?_;refine q1 ?_;refine qq rfl rfl (k9 (c:=(((l.map zco).length+1:Nat):Int)) rfl rfl rfl (by rw [oM];omega)) ?_
 refine z8 rfl (ygo rfl rfl rfl (by omega) (by rw [oM];omega) (hk:=fun b=> ?_))
 refine zaa (.slice (some ⟨b,0,none⟩) (l.map zco).length ((l.map zco).length+1)) fun sv hsv=> ?_
 rw [hsv]
 clear hsv
 refine rn ?_;refine z8 rfl (zyr l.length rfl rfl (by simp) rfl (hk:= ?_) (yko l))
 rw [yvu]
 refine rn ?_;refine z8 rfl (q7 rfl rfl (y3.of_fun (yce sv l _ (fun w:Wan=>w.s==s) _ (fun w _=>y3.qt (y3.of_acall (fs:= []) (cs:= [pZ b4]) (yr9 w s b4)) (pt1 _ _ _)) (by omega))) rfl ?_)
 rintro _ _ ⟨rfl,rfl⟩
 refine rn0 ?_;refine zi2 (fun z:SV×List Wan×Nat=>z.2.2 < z.2.1.length∧z.2.1.set z.2.2 ⟨s,bits⟩=zi6 l s bits) (fun z=>⟨[(7,.v z.1.v),(8,iv z.2.2),(2,iv bits),(3,pZ b3),(4,pZ b4),(6,pZ b6)],.row z.1.v 2 51 ((z.2.1).map zco):: .box b6 28 zgc:: .box b4 3 [iv s]:: .box b3 28 [c0,c1,c2,c3,c4,c5,c6,zg9 l]:: [],[]⟩) ?_ ?_
 ·refine rn ?_;refine z7 rfl (fun hc25=> ?_) (fun hc25=> ?_)
  ·have hn:za9 (fun w:Wan=>w.s==s) 0 l < 0:=oT hc25
   refine x8 (y5 ?_)
   refine q1 ?_;refine q1 ?_;refine q1 ?_;refine u0 (j7 ?_)
   refine y5 ?_;refine q1 ?_;refine qq rfl rfl (zag (out:= [iv 0,iv 0]) rfl (by rfl)) ?_
   refine qv rfl rfl (q8 rfl rfl) ?_
   refine z8 rfl (u6 rfl rfl (by simp only [oM,List.length_cons,List.length_nil];omega) rfl (fun s31=> ?_) (fun r hr=>by rw [List.mem_singleton.1 hr];rfl))
   refine zaa s31 fun sv2 hsv=> ?_
   subst hsv
   refine rn ?_;first
   |exact ⟨(sv2,l++ [⟨0,0⟩],l.length),⟨by simp,zzr hn⟩,by simp only [List.map_append,oM];exact eA⟩
   |exact ⟨(sv,l,k),⟨hk,zzq ek⟩,eA⟩
  ·have hn:¬za9 (fun w:Wan=>w.s==s) 0 l < 0:=oF hc25
   obtain ⟨k,hk,ek⟩:=ykk hn
   rw [ek]
   refine rn ?_;first
   |exact ⟨(sv2,l++ [⟨0,0⟩],l.length),⟨by simp,zzr hn⟩,by simp only [List.map_append,oM];exact eA⟩
   |exact ⟨(sv,l,k),⟨hk,zzq ek⟩,eA⟩
 ·rintro ⟨sv,m,i⟩ ⟨hi,hm⟩
  simp only at hi hm
  have hk3:i < (m.map zco).length:=by rw [oM];exact hi
  have hrow:(m.map zco)[i]? =some (zco m[i]):=by simp [hi]
  refine x8 (y5 ?_)
  refine q1 ?_;refine q1 ?_;refine q1 ?_;refine q1 ?_;refine qq rfl rfl (zag (out:= [iv s,iv bits]) rfl (by rfl)) ?_
  refine qq rfl rfl (q9 rfl rfl hk3) ?_
  refine z8 rfl (zaz rfl rfl rfl hrow rfl (Nat.le_of_ble_eq_true rfl) ?_)
  refine rn ?_;refine z8 rfl (zbr rfl rfl (hone2 sv) rfl (Nat.le_of_ble_eq_true rfl) ?_)
  refine rn ?_;exact ze0 (.cons _ _ _ _ (.agg _ _ _ _ _ _ _ rfl inferInstance inferInstance inferInstance rfl) .nil) (.trans (.perm ((pt1 _ _ _).trans (.cons _ ((pt1 _ _ _).trans (.cons _ (pt1 _ _ _))))) _) (.drop [_,_,_] _ _)) ⟨sv,by rw [←hm,List.map_set];rfl,rfl⟩
end Go.Proofs
