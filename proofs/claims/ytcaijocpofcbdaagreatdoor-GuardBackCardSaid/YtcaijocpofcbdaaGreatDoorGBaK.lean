/- A history read as data. Conditions: none. -/
import Derived.Test.YtcaijocpofcbdaaGreatDoorGBaJ
import Derived.Test.YtcaijocpofcbdaaGreatDoorTie
import Derived.OpenShut
import Derived.Lib.LaidTab
import Derived.Lib.LaidU8
import Derived.ProofKit
import Derived.LaidMore
import Derived.LaidSub
import Derived.LaidHandle
import Derived.Lay
import Derived.SevenTiedAt
import Derived.Stop.Joined
import Derived.ChangeArms
set_option maxHeartbeats 4000000
set_option linter.unusedSectionVars false
set_option linter.unusedSimpArgs false
set_option linter.unusedVariables false
set_option maxRecDepth 100000
namespace Go.Proofs
open Go Go.Ab Go.H
section
variable {K:Type} {enc:TypeId×Value→K} {w:World}
theorem zqr:zcl enc Tryz.prog w 3 (fun n:Int=> [iv n]) (fun _=>True):= .int Tryz.underlying3
theorem yl9:zcl enc Tryz.prog w 4 (fun b:Bool=> [bv b]) (fun _=>True):= .bool Tryz.underlying4
theorem yn4:zcl enc Tryz.prog w 9 zay (fun _=>True):= .string Tryz.underlying9
theorem ynl:zcl enc Tryz.prog w 63 yg8 (fun _=>True):=
 .map (fun x:Int×Int×Unit=>⟨x.1,x.2.1⟩) (.struct Tryz.underlying63 rfl (tot:=2) (by kernel_rfl) (.cons zqr (s:=1) (by kernel_rfl) (.cons zqr (s:=1) (by kernel_rfl) (.nil 2)))) (fun _=>rfl) (fun _ _=>trivial)
theorem yh1:zcl enc Tryz.prog w 139 zaz (fun _=>True):=
 .map (fun x:Int×Ver×Unit=>⟨x.1,x.2.1⟩) (.struct Tryz.underlying139 rfl (tot:=3) (by kernel_rfl) (.cons zqr (s:=1) (by kernel_rfl) (.cons ynl (s:=2) (by kernel_rfl) (.nil 3)))) (fun _=>rfl) (fun _ _=>trivial)
theorem zk9 {n b b' c:Nat} (hb:b'=b) (hb0:0 < b) (hc:reachBytes / b≤c) (h:n * b'≤reachBytes):n≤c:=by subst hb;exact Nat.le_trans ((Nat.le_div_iff_mul_le hb0).2 h) hc
theorem yh7:zcl enc Tryz.prog w 64 (fun l:List Seen=> [zso l]) (fun l=>l.length≤5864062014805):=
 .map (fun l:List Seen=>l) (.slice Tryz.underlying64 yh1 (k:=3) (by kernel_rfl) (by decide) (by rw [show Tryz.prog.bytesOf 139=24 by kernel_rfl];decide)) (fun _=>rfl) (fun _ h=>zk9 (b:=24) (by kernel_rfl) (by decide) (by decide) h.1)
theorem yif:zcl enc Tryz.prog w 54 (fun l:List Int=> [zft l]) (fun l=>l.length≤17592186044416):=
 .map (fun l:List Int=>l) (.slice Tryz.underlying54 zqr (k:=1) (by kernel_rfl) (by decide) (by rw [show Tryz.prog.bytesOf 3=8 by kernel_rfl];decide)) (fun _=>rfl) (fun _ h=>zk9 (b:=8) (by kernel_rfl) (by decide) (by decide) h.1)
theorem zzv:zcl enc Tryz.prog w 22 (fun l:List ByteArray=> [zbv l]) (fun l=>l.length≤8796093022208):=
 .map (fun l:List ByteArray=>l) (.slice Tryz.underlying22 yn4 (k:=1) (by kernel_rfl) (by decide) (by rw [show Tryz.prog.bytesOf 9=16 by kernel_rfl];decide)) (fun _=>rfl) (fun _ h=>zk9 (b:=16) (by kernel_rfl) (by decide) (by decide) h.1)
theorem rEv:zcl enc Tryz.prog w 66 evR (fun e=>e.scan.length≤5864062014805):=
 .map (fun x:Int×Int×Int×Int×Int×Ver×Int×List Seen×Unit=>⟨x.1,x.2.1,x.2.2.1,x.2.2.2.1,x.2.2.2.2.1,x.2.2.2.2.2.1,x.2.2.2.2.2.2.1,x.2.2.2.2.2.2.2.1⟩)
  (.struct Tryz.underlying66 rfl (tot:=9) (by kernel_rfl) (.cons zqr (s:=1) (by kernel_rfl) (.cons zqr (s:=1) (by kernel_rfl) (.cons zqr (s:=1) (by kernel_rfl) (.cons zqr (s:=1) (by kernel_rfl) (.cons zqr (s:=1) (by kernel_rfl)
   (.cons ynl (s:=2) (by kernel_rfl) (.cons zqr (s:=1) (by kernel_rfl) (.cons yh7 (s:=1) (by kernel_rfl) (.nil 9)))))))))) (fun _=>rfl) (fun _ h=>h.2.2.2.2.2.2.2.1)
theorem yn6:zcl enc Tryz.prog w 99 zb7 (fun e=>e.ts.length≤17592186044416):=
 .map (fun x:Int×List Int×Unit=>⟨x.1,x.2.1⟩) (.struct Tryz.underlying99 rfl (tot:=2) (by kernel_rfl) (.cons zqr (s:=1) (by kernel_rfl) (.cons yif (s:=1) (by kernel_rfl) (.nil 2)))) (fun _=>rfl) (fun _ h=>h.2.1)
theorem yn7:zcl enc Tryz.prog w 112 zcc (fun e=>e.ts.length≤17592186044416):=
 .map (fun x:Int×Int×Bool×List Int×Unit=>⟨x.1,x.2.1,x.2.2.1,x.2.2.2.1⟩) (.struct Tryz.underlying112 rfl (tot:=4) (by kernel_rfl) (.cons zqr (s:=1) (by kernel_rfl) (.cons zqr (s:=1) (by kernel_rfl) (.cons yl9 (s:=1) (by kernel_rfl) (.cons yif (s:=1) (by kernel_rfl) (.nil 4)))))) (fun _=>rfl) (fun _ h=>h.2.2.2.1)
theorem yn3:zcl enc Tryz.prog w 51 zbi (fun _=>True):=
 .map (fun x:Int×Int×Unit=>⟨x.1,x.2.1⟩) (.struct Tryz.underlying51 rfl (tot:=2) (by kernel_rfl) (.cons zqr (s:=1) (by kernel_rfl) (.cons zqr (s:=1) (by kernel_rfl) (.nil 2)))) (fun _=>rfl) (fun _ _=>trivial)
theorem yn8:zcl enc Tryz.prog w 23 (fun l:List Ev=> [zte l]) (fun l=>l.length≤1599289640401∧∀e∈l,e.scan.length≤5864062014805):=
 .map (fun l:List Ev=>l) (.slice Tryz.underlying23 rEv (k:=9) (by kernel_rfl) (by decide) (by rw [show Tryz.prog.bytesOf 66=88 by kernel_rfl];decide)) (fun _=>rfl) (fun _ h=>⟨zk9 (b:=88) (by kernel_rfl) (by decide) (by decide) h.1,h.2⟩)
theorem yl5:zcl enc Tryz.prog w 24 (fun l:List H.Ord=> [zuc l]) (fun l=>l.length≤4398046511104∧∀e∈l,e.ts.length≤17592186044416):=
 .map (fun l:List H.Ord=>l) (.slice Tryz.underlying24 yn6 (k:=2) (by kernel_rfl) (by decide) (by rw [show Tryz.prog.bytesOf 99=32 by kernel_rfl];decide)) (fun _=>rfl) (fun _ h=>⟨zk9 (b:=32) (by kernel_rfl) (by decide) (by decide) h.1,h.2⟩)
theorem yl6:zcl enc Tryz.prog w 25 (fun l:List Mat=> [zug l]) (fun l=>l.length≤2932031007402∧∀e∈l,e.ts.length≤17592186044416):=
 .map (fun l:List Mat=>l) (.slice Tryz.underlying25 yn7 (k:=4) (by kernel_rfl) (by decide) (by rw [show Tryz.prog.bytesOf 112=48 by kernel_rfl];decide)) (fun _=>rfl) (fun _ h=>⟨zk9 (b:=48) (by kernel_rfl) (by decide) (by decide) h.1,h.2⟩)
theorem yl2:zcl enc Tryz.prog w 26 (fun l:List Wan=> [zfl l]) (fun l=>l.length≤8796093022208):=
 .map (fun l:List Wan=>l) (.slice Tryz.underlying26 yn3 (k:=2) (by kernel_rfl) (by decide) (by rw [show Tryz.prog.bytesOf 51=16 by kernel_rfl];decide)) (fun _=>rfl) (fun _ h=>zk9 (b:=16) (by kernel_rfl) (by decide) (by decide) h.1)
theorem yl7:zcl enc Tryz.prog w 28 x4 Big:=
 .map (fun x:List ByteArray×List ByteArray×List ByteArray×List ByteArray×List Ev×List H.Ord×List Mat×List Wan×Unit=>⟨x.1,x.2.1,x.2.2.1,x.2.2.2.1,x.2.2.2.2.1,x.2.2.2.2.2.1,x.2.2.2.2.2.2.1,x.2.2.2.2.2.2.2.1⟩)
  (.struct Tryz.underlying28 rfl (tot:=8) (by kernel_rfl) (.cons zzv (s:=1) (by kernel_rfl) (.cons zzv (s:=1) (by kernel_rfl) (.cons zzv (s:=1) (by kernel_rfl) (.cons zzv (s:=1) (by kernel_rfl) (.cons yn8 (s:=1) (by kernel_rfl)
   (.cons yl5 (s:=1) (by kernel_rfl) (.cons yl6 (s:=1) (by kernel_rfl) (.cons yl2 (s:=1) (by kernel_rfl) (.nil 8)))))))))) (fun _=>rfl)
  (fun x h=>by
   obtain ⟨h1,h2,h3,h4,⟨h5,h6⟩,⟨h7,h8⟩,⟨h9,hA⟩,hB,_⟩:=h
   exact ⟨⟨Nat.le_trans h1 (by decide),Nat.le_trans h2 (by decide),Nat.le_trans h3 (by decide),Nat.le_trans h4 (by decide),Nat.le_trans h5 (by decide),Nat.le_trans h7 (by decide),Nat.le_trans h9 (by decide),Nat.le_trans hB (by decide),fun e he=>Nat.le_trans (h6 e he) (by decide),fun e he=>Nat.le_trans (h8 e he) (by decide),fun e he=>Nat.le_trans (hA e he) (by decide)⟩,h1,h2,h3,h4,h7,h9,hB,h6,h8,hA⟩)
end
theorem ztk {α:Type} (s:Nat):∀(n:Nat) (cs:List α) (f:Nat→List α),cs.length=n * s→(∀i,i < n→(cs.drop (i * s)).take s=f i)→cs=(List.range n).flatMap f
 |0,cs,f,h,_=>by simp at h;subst h;rfl
 |n+1,cs,f,h,k=>by
  have h0:=k 0 (by omega)
  have ih:=ztk s n (cs.drop s) (fun i=>f (i+1)) (by rw [List.length_drop,h,Nat.add_mul];omega) fun i hi=>by
   have:=k (i+1) (by omega)
   rw [Nat.add_mul,Nat.one_mul,Nat.add_comm,←List.drop_drop] at this
   exact this
  rw [List.range_succ_eq_map,List.flatMap_cons,List.flatMap_map,←h0]
  simp only [Nat.zero_mul,List.drop_zero]
  have e:cs=cs.take s++cs.drop s:=(List.take_append_drop s cs).symm
  rw [ih] at e
  exact e
theorem znl {P:Program} {w:World} {n:String} {g t:Nat} {d:DataW Unit} {vals:List Value} {T:TypeId} (hr:Lib.VarReads P w n d) (hg:P.globalNamed n=some g) (ht:(P.globals[g]?).map (·.type)=some t)
 (hv:∀fuel cs p,DataW.trod (fun _=>()) P w 0 (fun _=>true) false fuel t cs=some (d,p)→cs=vals):(Res.glob g T (vals.map .v)).holds w noX:=by
 obtain ⟨g',t',cs,fuel,p,h1,h2,h3,h4⟩:=hr
 obtain rfl:=Option.some.inj (hg.symm.trans h1)
 obtain rfl:=Option.some.inj (ht.symm.trans h2)
 have hcs:=hv _ _ _ h4
 unfold World.var? at h3
 rw [hg] at h3
 simp only [Option.bind_some] at h3
 split at h3
 ·rename_i c T0 fr hh
  cases h3
  refine ⟨fun h=>h,(Array.getElem?_eq_some_iff.1 hh).1,cs,T0,fr,hh,by rw [oM,←hcs];simp,fun j j1 j2=> ?_⟩
  rw [List.getElem_map]
  have:vals[j]'(by simpa using j1)=cs[j]:=by simp [←hcs]
  rw [this]
  exact .v _
 ·cases h3
theorem ymt {w:World} (h:Lib.VarReads Tryz.prog w "yardarm/history.limits" YtcaijocpofcbdaaGreatDoor.Rows.laid_yardarm_history_limits):(Res.glob 3 148 y8).holds w noX:=
 znl (vals:= [300,60,300,60].map fun z=>Value.int .i64 z) h (by kernel_rfl) (show _=some 148 by kernel_rfl) fun fuel cs p hd=>
  Lib.cells_of_tab (zs:= [300,60,300,60]) Tryz.underlying148 Tryz.underlying3 (by kernel_rfl) (by kernel_rfl) hd
def ztc:List Int:=(List.range 256).map zb4
theorem zqg:YtcaijocpofcbdaaGreatDoor.Rows.laid_unicode_utf8_first=Lib.tabData .u8 ztc:=by kernel_rfl
theorem yms {w:World} (h:Lib.VarReads Tryz.prog w "unicode/utf8.first" YtcaijocpofcbdaaGreatDoor.Rows.laid_unicode_utf8_first):(Res.glob 5 276 x3).holds w noX:=by
 have:=znl (P:=Tryz.prog) (w:=w) (n:= "unicode/utf8.first") (g:=5) (t:=276) (d:=YtcaijocpofcbdaaGreatDoor.Rows.laid_unicode_utf8_first) (T:=276) (vals:=ztc.map fun z=>Value.int .u8 z) h (by kernel_rfl) (by kernel_rfl) fun fuel cs p hd=>
  Lib.cells_of_tab (zs:=ztc) Tryz.underlying276 Tryz.underlying5 (by kernel_rfl) (by kernel_rfl) (zqg ▸ hd)
 simpa [x3,ztc,List.map_map,Function.comp_def] using this
def ynr (i:Nat):List Int:= [[128,160,128,144,128].getD i 0,[191,191,159,191,143].getD i 0]
theorem zym:(YtcaijocpofcbdaaGreatDoor.Rows.laid_unicode_utf8_acceptRanges:DataW Unit)= .agg ((List.range 16).map fun i=> .agg ((ynr i).map fun z=> .lit (.int .u8 z))):=by kernel_rfl
theorem ygq:y5=((List.range 16).flatMap fun i=>(ynr i).map fun z=>Value.int .u8 z).map .v:=rfl
theorem ymr {w:World} (h:Lib.VarReads Tryz.prog w "unicode/utf8.acceptRanges" YtcaijocpofcbdaaGreatDoor.Rows.laid_unicode_utf8_acceptRanges):(Res.glob 6 279 y5).holds w noX:=by
 rw [ygq]
 refine znl (T:=279) h (by kernel_rfl) (show _=some 279 by kernel_rfl) fun fuel cs p hd=> ?_
 rw [zym] at hd
 have c132:Tryz.prog.cellsOf 278=2:=by kernel_rfl
 have c133:Tryz.prog.cellsOf 279=32:=by kernel_rfl
 have hlen:cs.length=16 * 2:=by
  obtain ⟨_,_,_,_,hl,_⟩:=DataW.trod_array Tryz.underlying279 hd
  rw [hl,c133]
 refine ztk 2 16 cs _ hlen fun i hi=> ?_
 obtain ⟨f',d,q,h1,h2⟩:=Lib.array_elem Tryz.underlying279 hd i hi
 simp only [List.getElem?_map,List.getElem?_range hi,Option.map_some,Option.some.injEq] at h1
 subst h1
 rw [c132] at h2
 exact Lib.ints_of_struct Tryz.underlying278 (fun j f hj=>by
  match j,hj with
  |0,hj=>simp at hj;subst hj;exact ⟨Tryz.underlying5,rfl,by kernel_rfl⟩
  |1,hj=>simp at hj;subst hj;exact ⟨Tryz.underlying5,rfl,by kernel_rfl⟩
  |j+2,hj=>simp at hj) (by rw [c132];rfl) h2
end Go.Proofs
set_option maxRecDepth 100000
namespace Go.Proofs.YtcaijocpofcbdaaGreatDoor
open Go Go.Ab Go.H Go.ChangeShapes Go.WideShapes Go.ChangeAt Go.RowKit
theorem own:ownKnob Tryz.prog.godebug=none:=by kernel_rfl
def ynd:List Value:= .nilFunc:: [245,249,250,251,252,253,254,255,256,257].map fun f=> .func (.func f) #[] #[]
theorem zuo {W W':World} (hk:Keep [] W [] W'):RowKit.Below W.heap.size W {W' with tape:=W.tape}:=
 ⟨hk.env.1.1,rfl,hk.env.1.2,hk.size,fun k hk'=>(hk.same k hk' (by simp)).1⟩
theorem yaz {W W':World} (hk:Keep [] W [] W') (may:MemPlace→Prop):W.keptBut W' may:=by
 refine ⟨hk.env.1.1,hk.env.1.2,fun i hi=> ?_⟩
 rw [(hk.same i hi (by simp)).1]
 generalize W.heap[i]? =o
 cases o with
 |none=>rfl
 |some o=>cases o <;> first|rfl|exact ⟨rfl,rfl,rfl,fun _ _=>rfl⟩|exact .inr ⟨rfl,rfl⟩
section
variable {H:Type} {enc:TypeId×Value→H}
theorem zvj {W W':World} {v:Value} {d:DataW H} {ps:List MemPlace} (hk:Keep [] W [] W') (h:DataW.Trod enc Tryz.prog W 0 (fun _=>true) true 28 v d ps) (hlt:∀x∈ps,x.block < W.heap.size):
 DataW.Trod enc Tryz.prog W' 0 (fun b=>decide (b < W.heap.size)) true 28 v d ps:=
 DataW.Trod.of_heap (w:={W' with tape:=W.tape}) (w':=W') rfl (Below.trod (by kernel_rfl) (by kernel_rfl) (by decide+kernel) h (zuo hk) hlt)
theorem ya2 {W:World} {cs:Array Value} {d:DataW H} {ps:List MemPlace} (h:DataW.Trod enc Tryz.prog W 0 (fun _=>true) true 28 (.agg cs) d ps) (hw:∀n∈d.weights Tryz.prog 28,n≤reachBytes):
 ∃x,Big x∧Rel W noX (.agg (x4 x)) (.agg cs):=by
 obtain ⟨fuel,hf⟩:=h
 obtain ⟨x,hlim,hx⟩:=yl7 fuel _ _ hf hw
 exact ⟨x,hlim,.agg _ _ (by simpa [Value.cells] using hx.1) fun j h1 h2=>by simpa [Value.cells] using hx.2 j h1 (by simpa [Value.cells] using h2)⟩
theorem yfg {W:World} {cs:Array Value} {d:DataW H} {ps:List MemPlace} (h:DataW.Trod enc Tryz.prog W 0 (fun _=>true) true 28 (.agg cs) d ps) (hw:∀n∈d.weights Tryz.prog 28,n≤reachBytes):
 ∃x,Lim 4611686018427387904 x∧Rel W noX (.agg (x4 x)) (.agg cs):=by
 obtain ⟨x,hb,hr⟩:=ya2 h hw
 exact ⟨x,hb.lim,hr⟩
end
def ygh:DataW Unit:=match (Rows.laid_yardarm_rules_asks:DataW Unit) with| .iface _ d=>d|d=>d
def zwj:List (List UInt8):=match ygh with| .agg ds=>ds.map (fun d=>match d with| .iface _ (.lit (.string b))=>b|_=> [])|_=> []
def nm (k:Nat):List UInt8:=zwj.getD (k+1) []
theorem zyb:ygh.funcsOut= .agg (.nil::(zwj.drop 1).map .held):=by kernel_rfl
theorem zs7 {w:World} {c:Array Value} {T0:TypeId} {fr:Nat×Nat} {g:Nat} {T:TypeId} {vs:List AV} (hh:w.heap[g]? =some (.cells c T0 fr)) (hl:vs.length=c.size) (h:∀j (h1:j < vs.length) (h2:j < c.size),Rel w noX vs[j] c[j]):(Res.glob g T vs).holds w noX:=
 ⟨fun h=>h,(Array.getElem?_eq_some_iff.1 hh).1,c,T0,fr,hh,hl,fun j h1 h2=>h j h1 h2⟩
theorem zhn (w:World) (f:Nat):Rel w noX (.fn (.func f) [] []) (.func (.func f) #[] #[]):= .fn _ _ _ _ _ rfl rfl (fun j h=>absurd h (Nat.not_lt_zero _)) (fun j h=>absurd h (Nat.not_lt_zero _))
def fnA:List Nat:= [245,249,250,251,252,253,254,255,256,257]
theorem ybo (k:Nat) (hk:k < 10):∃b r,zwj[k+1]? =some (b::r)∧((List.range Tryz.prog.funcs.size).filter fun f=>(Tryz.prog.funcs[f]?).any (·.name.toUTF8.data.toList==b::r))= [fnA.getD k 0]∧u0[k+1]? =some (.fn (.func (fnA.getD k 0)) [] []):=by
 match k,hk with
 |0,_=>exact ⟨(nm 0).headD 0,(nm 0).tail,by kernel_rfl,by kernel_rfl,by kernel_rfl⟩
 |1,_=>exact ⟨(nm 1).headD 0,(nm 1).tail,by kernel_rfl,by kernel_rfl,by kernel_rfl⟩
 |2,_=>exact ⟨(nm 2).headD 0,(nm 2).tail,by kernel_rfl,by kernel_rfl,by kernel_rfl⟩
 |3,_=>exact ⟨(nm 3).headD 0,(nm 3).tail,by kernel_rfl,by kernel_rfl,by kernel_rfl⟩
 |4,_=>exact ⟨(nm 4).headD 0,(nm 4).tail,by kernel_rfl,by kernel_rfl,by kernel_rfl⟩
 |5,_=>exact ⟨(nm 5).headD 0,(nm 5).tail,by kernel_rfl,by kernel_rfl,by kernel_rfl⟩
 |6,_=>exact ⟨(nm 6).headD 0,(nm 6).tail,by kernel_rfl,by kernel_rfl,by kernel_rfl⟩
 |7,_=>exact ⟨(nm 7).headD 0,(nm 7).tail,by kernel_rfl,by kernel_rfl,by kernel_rfl⟩
 |8,_=>exact ⟨(nm 8).headD 0,(nm 8).tail,by kernel_rfl,by kernel_rfl,by kernel_rfl⟩
 |9,_=>exact ⟨(nm 9).headD 0,(nm 9).tail,by kernel_rfl,by kernel_rfl,by kernel_rfl⟩
def nmI:List UInt8:= [121,97,114,100,97,114,109,47,115,101,115,115,105,111,110,46,100,111,105,110,103,115,41,46,105,110,115,116,97,108,108]
def nmR:List UInt8:= [121,97,114,100,97,114,109,47,115,101,115,115,105,111,110,46,100,111,105,110,103,115,41,46,114,101,97,100]
def ynn:DataW Unit:=match (Rows.laid_yardarm_session_guards:DataW Unit) with| .iface _ d=>d|d=>d
theorem ya3:ynn.funcsOut= .agg [.agg [.lit (.int .i64 1),.held (40::nmI),.held (40::nmR)],.agg [.lit (.int .i64 2),.held (40::nmR),.held (40::nmR)],.agg [.lit (.int .i64 4),.held (40::nmI),.held (40::nmI)],.agg [.lit (.int .i64 8),.held (40::nmR),.held (40::nmI)]]:=by kernel_rfl
theorem ylb:((List.range Tryz.prog.funcs.size).filter fun f=>(Tryz.prog.funcs[f]?).any (·.name.toUTF8.data.toList==40::nmI))= [244]:=by kernel_rfl
theorem yla:((List.range Tryz.prog.funcs.size).filter fun f=>(Tryz.prog.funcs[f]?).any (·.name.toUTF8.data.toList==40::nmR))= [248]:=by kernel_rfl
theorem zni {w:World} {base:Nat} {sp:Nat→Bool} {fuel:Nat} {cs:List Value} {z:Int} {r1 r2:List UInt8} {f1 f2:FuncId} {q:List MemPlace} (h1:((List.range Tryz.prog.funcs.size).filter fun f=>(Tryz.prog.funcs[f]?).any (·.name.toUTF8.data.toList==40::r1))= [f1]) (h2:((List.range Tryz.prog.funcs.size).filter fun f=>(Tryz.prog.funcs[f]?).any (·.name.toUTF8.data.toList==40::r2))= [f2])
 (h:DataW.trod (funcToken Tryz.prog) Tryz.prog w base sp true fuel 116 cs=some (.agg [.lit (.int .i64 z),.held (40::r1),.held (40::r2)],q)):cs= [.int .i64 z,.func (.func f1) #[] #[],.func (.func f2) #[] #[]]:=by
 obtain ⟨xs,n,_,hx,hl,hlen,hf⟩:=DataW.trod_struct Tryz.underlying116 h
 rw [show Tryz.prog.cellsOf 116=3 by kernel_rfl] at hl
 match xs,hlen with
 | [y0,y1,y2],_=>
   have hx:=congrArg Prod.fst hx
   simp only [List.map_cons,List.map_nil,DataW.agg.injEq,List.cons.injEq,and_true] at hx
   obtain ⟨x0,x1,x2⟩:=hx
   match cs,hl,hf with
   | [v0,v1,v2],_,hf=>
     have f0:DataW.trod (funcToken Tryz.prog) Tryz.prog w base sp true n 3 (([v0,v1,v2].drop 0).take (Tryz.prog.cellsOf 3))= [y0,y1,y2][0]? :=hf 0 _ rfl
     have f1':DataW.trod (funcToken Tryz.prog) Tryz.prog w base sp true n 115 (([v0,v1,v2].drop 1).take (Tryz.prog.cellsOf 115))= [y0,y1,y2][1]? :=hf 1 _ rfl
     have f2':DataW.trod (funcToken Tryz.prog) Tryz.prog w base sp true n 115 (([v0,v1,v2].drop 2).take (Tryz.prog.cellsOf 115))= [y0,y1,y2][2]? :=hf 2 _ rfl
     rw [show Tryz.prog.cellsOf 3=1 by kernel_rfl] at f0
     rw [show Tryz.prog.cellsOf 115=1 by kernel_rfl] at f1' f2'
     simp only [List.drop_zero,List.drop_succ_cons,List.take_succ_cons,List.take_zero,List.getElem?_cons_zero,List.getElem?_cons_succ] at f0 f1' f2'
     obtain ⟨z',e0,ey,_⟩:=DataW.trod_int Tryz.underlying3 f0
     rw [ey] at x0
     simp only [DataW.lit.injEq,Lit.int.injEq,true_and] at x0
     subst x0
     simp only [List.cons.injEq,and_true] at e0
     rw [e0,func_of_trod (v:=v1) (f0:=f1) Tryz.underlying115 h1 (q:=y1.2) (by rw [x1];exact f1'),func_of_trod (v:=v2) (f0:=f2) Tryz.underlying115 h2 (q:=y2.2) (by rw [x2];exact f2')]
def guaV:List Value:= [.int .i64 1,.func (.func 244) #[] #[],.func (.func 248) #[] #[],.int .i64 2,.func (.func 248) #[] #[],.func (.func 248) #[] #[],.int .i64 4,.func (.func 244) #[] #[],.func (.func 244) #[] #[],.int .i64 8,.func (.func 248) #[] #[],.func (.func 244) #[] #[]]
end Go.Proofs.YtcaijocpofcbdaaGreatDoor
set_option maxRecDepth 10000
namespace Go.Proofs
open Go Go.Ab
attribute [local irreducible] QR QV OE zca aw zcu zbh za3 zam thn ze6 zdj jch zeh
open Go.H
theorem zog {h:Hist} (hc:u6 h=0):zec h=(upR h.ss.length).map fun s=>⟨s,ybs h.wants s,yjj h s⟩:=if_pos hc
theorem zvn {h:Hist} (hc:u6 h≠0):zec h= []:=if_neg hc
def zy9 (g:Nat→Grd) (k:Nat):List Grd:=(List.range k).map g
theorem yhg (g:Nat→Grd) (k:Nat):zy9 g (k+1)=zy9 g k++ [g k]:=by rw [zy9,List.range_succ,List.map_append];rfl
theorem zy8 (g:Nat→Grd) (k:Nat):(zy9 g k).length=k:=by rw [zy9,oM,List.length_range]
def yle (h:Hist) (s:Nat):Grd:=⟨s,ybs h.wants s,haO h s⟩
theorem yfo (h:Hist) (la:Lim 4611686018427387904 h) (W:List Res):y9 Tryz.prog 83 [.agg (x4 h)] W (fun r h'=>∃m,h'= .map m (j9 zbm (zbe iv (ybt (h.wants))))::W∧r=mpv m):=by
 refine z6 Tryz.func83 rfl rfl rfl ?_
 have lW:=la.wants
 refine rn ?_;refine z7 rfl (x9 rfl rfl rfl fun b1=> ?_)
 refine rn ?_;refine z7 rfl (zau (enc:=zbm) rfl fun bO=> ?_)
 refine rn ?_;refine zbc h.wants.length (fun _=>True) (fun k=>⟨[(10,iv k),(3,mpv bO),(8,zfl h.wants),(9,iv (h.wants.map zbi).length)],.map bO (j9 zbm (zbe iv (ybt (h.wants.take k)))):: .box b1 28 (x4 h)::W,[]⟩) trivial es ?_
 intro k lk _
 refine rn ?_;refine z8 rfl (fun hc11=> ?_) (fun hc11=> ?_)
 ·have hk:=zd0 hc11
  have rk:=zdp (f:=zbi) hk
  refine rn ?_;refine z7 rfl (x5 rfl fun b5=> ?_)
  refine rn ?_;refine z7 rfl (za0 (g:=iv) (enc:=zbm) (k:=h.wants[k].s) (v:=h.wants[k].bits) rfl rfl rfl ?_)
  refine rn ?_;exact ⟨hk,trivial,by rw [yks hk];exact eA⟩
 ·have qk:=zd1 hc11 lk
  subst qk
  rw [List.take_length]
  refine rn ?_;exact j6 rfl (.trans (.perm (pt1 _ _ _) _) (.drop [_] _ _)) ⟨bO,rfl,rfl⟩
theorem yjr (h:Hist) (hs:h.ss.length≤1000000) (g:Nat→Grd) (f:AV) (W:List Res) (hf:∀k,k < h.ss.length→y3 Tryz.prog f [iv (k:Nat)] W (fun r h'=>h'=W∧r= .agg (zn8 (g k)))):y9 Tryz.prog 84 [.agg (x4 h),f] W (fun r h'=>∃v:SV,h'= .row v.v 3 81 ((zy9 g h.ss.length).map zn8)::W∧r= .v v.v):=by
 refine z6 Tryz.func84 rfl rfl rfl ?_
 refine rn ?_;refine z7 rfl (x9 rfl rfl rfl fun b2=> ?_)
 refine rn ?_;refine zrx h.ss.length (fun k v=>⟨[(10,iv k),(5,.v v.v),(1,f),(9,iv (h.ss.map zay).length)],.row v.v 3 81 ((zy9 g k).map zn8):: .box b2 28 (x4 h)::W,[]⟩) ⟨none,0,0⟩ (w7 (za1 3 81) es) ?_
 intro k v lk
 refine rn ?_;refine z8 rfl (fun hc11=> ?_) (fun hc11=> ?_)
 ·have hk:=zd0 hc11
  have rk:=zdp (f:=zay) hk
  refine rn ?_;refine z7 rfl (w8 rfl rfl (y3.fr2 (hf k hk)) rfl ?_)
  rintro _ _ ⟨_,rfl,rfl,rfl⟩
  refine qv rfl rfl (v8 rfl rfl) ?_
  refine z7 rfl (j8 rfl rfl (by simp only [oM,zy8,List.length_cons,List.length_nil];omega) rfl (fun s18=> ?_) (fun r hr=>by rw [List.mem_singleton.1 hr];rfl))
  refine zak s18 fun sv hsv=> ?_
  subst hsv
  refine rn ?_;exact ⟨hk,sv,by rw [yhg,List.map_append];exact eA⟩
 ·have qk:=zd1 hc11 lk
  subst qk
  refine rn ?_;exact j6 rfl (.trans (.perm (pt1 _ _ _) _) (.drop [_] _ _)) ⟨v,rfl,rfl⟩
theorem ylo {h:Hist} (hc:u6 h=0):zy9 (yle h) h.ss.length=zec h:=by
 rw [zog hc,zy9,upR,List.map_map]
 refine List.map_congr_left fun k hk=> ?_
 have hk':k < h.ss.length:=List.mem_range.1 hk
 rw [yle,yfi (zwx hc (zh9.2 ⟨by omega,by omega⟩))];rfl
theorem yjp (h:Hist) (la:Lim 4611686018427387904 h) (m b1 b5:Nat) (k:Nat):y9 Tryz.prog 85 [iv (k:Nat),pZ b1,pZ b5] (.box b5 141 [mpv m]:: .map m (j9 zbm (zbe iv (ybt (h.wants)))):: .box b1 28 (x4 h):: .glob 0 117 x6:: .glob 3 148 y8:: .glob 5 276 x3:: .glob 6 279 y5:: .glob 2 197 u0:: []) (fun r h'=>h'= .box b5 141 [mpv m]:: .map m (j9 zbm (zbe iv (ybt (h.wants)))):: .box b1 28 (x4 h):: .glob 0 117 x6:: .glob 3 148 y8:: .glob 5 276 x3:: .glob 6 279 y5:: .glob 2 197 u0:: []∧r= .agg (zn8 (yle h k))):=by
 refine z6 Tryz.func85 rfl rfl rfl ?_
 refine rn ?_;refine z7 rfl (x5 rfl fun b4=> ?_)
 refine rn ?_;refine qv rfl rfl (y4 rfl rfl (y3.qt (y3.of_fun (yhu h la k)) ((pt4 _ _ _ _ _ _).trans (.cons _ ((pt4 _ _ _ _ _ _).trans (.cons _ ((pt4 _ _ _ _ _ _).trans (.cons _ ((pt4 _ _ _ _ _ _).trans (.cons _ (pt4 _ _ _ _ _ _))))))))))) ?_
 refine q1 ?_;refine q1 ?_;refine q1 ?_;refine q1 ?_;refine q1 ?_;refine u3 (k6 ?_)
 refine w6 (y6 ?_)
 refine q1 ?_;refine q1 ?_;refine q1 ?_;refine qq rfl rfl (za7 (zbx (g:=iv) (enc:=zbm) (k:=((k:Nat):Int)) (0:Int) rfl rfl) (show iv _=iv (ybs h.wants k) from rfl)) ?_
 refine q1 ?_;refine qq rfl rfl (zab (out:= [iv k,iv (ybs h.wants k),iv (haO h k)]) rfl (by rfl)) ?_
 refine rn ?_;exact zd7 (.cons _ _ _ _ (.agg _ _ _ _ _ _ _ rfl inferInstance inferInstance inferInstance rfl) .nil) (.drop [_] _ _) ⟨rfl,rfl⟩
theorem ya5 (h:Hist) (la:Lim 4611686018427387904 h):y9 Tryz.prog 33 [.agg (x4 h)] (.glob 0 117 x6:: .glob 3 148 y8:: .glob 5 276 x3:: .glob 6 279 y5:: .glob 2 197 u0:: []) (fun r h'=>∃v:SV,h'= .row v.v 3 81 ((zec h).map zn8):: .glob 0 117 x6:: .glob 3 148 y8:: .glob 5 276 x3:: .glob 6 279 y5:: .glob 2 197 u0:: []∧r= .tup [.v v.v,iv (u6 h)]):=by
 refine z6 Tryz.func33 rfl rfl rfl ?_
 refine rn ?_;refine z7 rfl (x9 rfl rfl rfl fun b1=> ?_)
 refine rn ?_;refine qv rfl rfl (y4 rfl rfl (y3.qt (y3.of_fun (zrf h la)) ((pt2 _ _ _ _).trans (.cons _ ((pt2 _ _ _ _).trans (.cons _ ((pt2 _ _ _ _).trans (.cons _ (pt2 _ _ _ _))))))))) ?_
 refine rn ?_;refine z8 rfl (fun hc9=> ?_) (fun hc9=> ?_)
 ·have hc:u6 h≠0:=nzT hc9
  refine rn ?_;exact zbl rfl rfl (.trans (.drop [_] _ _) (k9 3 81 _)) ⟨⟨none,0,0⟩,by rw [zvn hc];rfl,rfl⟩
 ·have hc:u6 h=0:=nzF hc9
  have lS:=(zfa hc).ss
  refine rn ?_;refine z7 rfl (w8 rfl rfl (y3.of_fun (yfo h la _)) rfl ?_)
  rintro _ _ ⟨m,rfl,rfl⟩
  refine z7 rfl (x5 rfl fun b5=> ?_)
  refine rn ?_;refine z7 rfl (w8 rfl rfl (y3.of_fun (yjr h (by omega) (yle h) (.fn (.func 85) [] [pZ b1,pZ b5]) _ (fun k hk=>y3.of_acall (fs:= []) (cs:= [pZ b1,pZ b5]) (yjp h la m b1 b5 k)))) rfl ?_)
  rintro _ _ ⟨v,rfl,rfl⟩
  refine rn ?_;exact zbl rfl rfl (.trans (.perm ((pt1 _ _ _).trans (.cons _ ((pt1 _ _ _).trans (.cons _ (pt1 _ _ _))))) _) (.drop [_,_,_] _ _)) ⟨v,by rw [ylo hc],by rw [hc];rfl⟩
theorem znk (h:Hist) (la:Lim 4611686018427387904 h):y9 Tryz.prog 33 [.agg (x4 h)] (.glob 0 117 x6:: .glob 3 148 y8:: .glob 5 276 x3:: .glob 6 279 y5:: .glob 2 197 u0:: []) (fun r h'=>h'= .glob 0 117 x6:: .glob 3 148 y8:: .glob 5 276 x3:: .glob 6 279 y5:: .glob 2 197 u0:: []∧r= .tup [zc7 (zec h),iv (u6 h)]):=(ya5 h la).ventR (by rintro _ _ ⟨v,rfl,rfl⟩;exact ⟨_,_,zai [] [_],rfl,rfl⟩)
def lkJ (L:List Grd) (g:Grd) (i j:Nat):List (Int×Int):=zbw (L.take i)++((((List.range j).map zdu).filter (zln g)).map fun b=>(g.s,b))
theorem yi2 (L:List Grd) (g:Grd) (i:Nat):lkJ L g i 0=zbw (L.take i):=by simp [lkJ]
theorem yas {L:List Grd} {g:Grd} {i j:Nat} (hb:zln g (zdu j)=true):lkJ L g i (j+1)=lkJ L g i j++ [(g.s,zdu j)]:=by
 rw [lkJ,lkJ,List.range_succ,List.map_append,List.filter_append,List.map_append,←List.append_assoc]
 simp [hb]
theorem ye2 {L:List Grd} {g:Grd} {i j:Nat} (hb:zln g (zdu j)=false):lkJ L g i (j+1)=lkJ L g i j:=by
 rw [lkJ,lkJ,List.range_succ,List.map_append,List.filter_append,List.map_append,←List.append_assoc]
 simp [hb]
theorem ye3 {L:List Grd} {i:Nat} (hi:i < L.length):lkJ L L[i] i 4=zbw (L.take (i+1)):=by
 rw [lkJ,zbw,zbw,List.take_succ_eq_append_getElem hi,List.flatMap_append]
 simp only [List.flatMap_cons,List.flatMap_nil,List.append_nil]
 rfl
theorem zwt (L:List Grd) (g:Grd) (i:Nat):∀k j,∃r,lkJ L g i (j+k)=lkJ L g i j++r
 |0,j=>⟨[],by simp⟩
 |k+1,j=>by
  obtain ⟨r,hr⟩:=zwt L g i k j
  cases hb:zln g (zdu (j+k)) with
  |true=>exact ⟨r++ [(g.s,zdu (j+k))],by rw [←Nat.add_assoc,yas hb,hr,List.append_assoc]⟩
  |false=>exact ⟨r,by rw [←Nat.add_assoc,ye2 hb,hr]⟩
theorem yi0 {L:List Grd} {i j:Nat} (hi:i < L.length) (hj:j < 4) (hb:zln L[i] (zdu j)=true):∃rest,zbw L=lkJ L L[i] i j++(L[i].s,zdu j)::rest:=by
 obtain ⟨r,hr⟩:=zwt L L[i] i (3 - j) (j+1)
 rw [show j+1+(3 - j)=4 by omega,ye3 hi,yas hb] at hr
 refine ⟨r++zbw (L.drop (i+1)),?_⟩
 have e:zbw L=zbw (L.take (i+1))++zbw (L.drop (i+1)):=by
  rw [zbw,zbw,zbw,←List.flatMap_append,List.take_append_drop]
 rw [e,hr];simp
def riO (h:Hist):Bool:=decide (u6 h=0) && decide (zbw (zec h)= [])
theorem yl0 {h:Hist} (hc:u6 h≠0):riO h=false:=by rw [riO,decide_eq_false hc,Bool.false_and]
theorem yeb {h:Hist} (hc:u6 h=0):riO h=decide (zbw (zec h)= []):=by rw [riO,decide_eq_true hc,Bool.true_and]
theorem tab_len (h:Hist):(zec h).length≤3000:=by
 by_cases hc:u6 h=0
 ·rw [zog hc,oM,upR,oM,List.length_range];exact (zfa hc).ss
 ·rw [zvn hc];exact Nat.zero_le _
theorem yap {d:Int×Int} {pre rest l:List (Int×Int)} (hL:l=pre++d::rest) (h:pre= []):l=d::rest:=by rw [hL,h];rfl
theorem zxf (L:List Grd) (W:List Res):y9 Tryz.prog 86 [zc7 L] W (fun r h'=>∃bl,h'= .box bl 70 [zc7 L]::W∧r= .fn (.func 125) [] [pZ bl]):=by
 refine z6 Tryz.func86 rfl rfl rfl ?_
 refine rn ?_;refine z7 rfl (x9 rfl rfl rfl fun b1=> ?_)
 refine rn ?_;exact j6 rfl (.refl _ _) ⟨_,rfl,rfl⟩
theorem zxe (L:List Grd) (hL:L.length≤1000000) (y:AV) (bl:Nat) {σ:Type} (p:List (Int×Int)→σ→Prop) (q:σ→Prop) (I:List (Int×Int)→σ→List Res) (X:σ→List Res) (x0:σ) (hp0:p [] x0) (hy:∀pre d rest x,(zbw L)=pre++d::rest→p pre x→y3 Tryz.prog y [iv d.1,iv d.2] (.box bl 70 [zc7 L]::I pre x) (fun r h'=>∃x',(r=bv true∧p (pre++ [d]) x'∧h'= .box bl 70 [zc7 L]::I (pre++ [d]) x')∨(r=bv false∧q x'∧h'= .box bl 70 [zc7 L]::X x'))):y9 Tryz.prog 125 [y,pZ bl] (.box bl 70 [zc7 L]::I [] x0) (fun r h'=>∃x,(p (zbw L) x∧h'= .box bl 70 [zc7 L]::I (zbw L) x)∨(q x∧h'= .box bl 70 [zc7 L]::X x)):=by
 refine z6 Tryz.func125 rfl rfl rfl ?_
 refine rn ?_;refine zem L.length (fun i (x:σ)=>p (zbw (L.take i)) x) (fun i x=>⟨[(9,iv i),(0,y),(7,zc7 L),(8,iv (L.map zn8).length)],.box bl 70 [zc7 L]::I (zbw (L.take i)) x,[]⟩) x0 hp0 es ?_
 intro i x li zi
 refine rn ?_;refine z8 rfl (fun hc10=> ?_) (fun hc10=> ?_)
 ·have hi:=zd0 hc10
  have ri:=zdp (f:=zn8) hi
  refine rn ?_;refine z7 rfl (x5 rfl fun b4=> ?_)
  refine rn ?_;refine zem 4 (fun j (x:σ)=>p (lkJ L L[i] i j) x) (fun j x=>⟨[(13,iv j),(0,y),(4,pZ b4),(7,zc7 L),(8,iv (L.map zn8).length),(9,iv i)],.box b4 81 (zn8 L[i]):: .box bl 70 [zc7 L]::I (lkJ L L[i] i j) x,[]⟩) x (by rw [yi2];exact zi) (by rw [yi2];exact eA) ?_
  intro j x lj zj
  refine rn ?_;refine z8 rfl (fun hc14=> ?_) (fun hc14=> ?_)
  ·have hj:j < 4:=by have q:=oT hc14;omega
   refine zad ?_;refine k6 ?_;refine w6 ?_;refine zae ?_;refine w6 (y6 ?_)
   refine q1 ?_;refine q1 ?_;refine u3 (k6 ?_)
   refine w6 (y6 ?_)
   refine q1 ?_;refine qq rfl rfl (ze1 (c:=zdu j) rfl rfl (yhr hj) (Int.natCast_nonneg _)) ?_
   refine rn ?_;refine q8 (fun hg7_8=> ?_) (fun hg7_8=> ?_)
   ·refine q1 ?_;refine q1 ?_;refine q1 ?_;refine q1 ?_;have hb:zln L[i] (zdu j)=true:=hg7_8
    obtain ⟨rest,hL2⟩:=yi0 hi hj hb
    refine z7 rfl (w8 rfl rfl (y3.fr1 (hy (lkJ L L[i] i j) _ rest x hL2 zj)) rfl ?_)
    rintro _ _ ⟨_,rfl,x',⟨rfl,hp',rfl⟩|⟨rfl,hq',rfl⟩⟩
    ·refine rn ?_;refine z8 rfl (fun hc33=> ?_) (fun hc33=> ?_)
     ·first|cases hc33|exact absurd hc33 (by decide)|(exfalso;simp_all;done)
     ·refine rn ?_;exact ⟨hj,x',by rw [yas hb];exact hp',by rw [yas hb];exact eA⟩
    ·refine rn ?_;refine z8 rfl (fun hc33=> ?_) (fun hc33=> ?_)
     ·refine rn ?_;exact zd7 .nil (.drop [_] _ _) ⟨x',.inr ⟨hq',rfl⟩⟩
     ·first|cases hc33|exact absurd hc33 (by decide)|(exfalso;simp_all;done)
   ·refine rn ?_;refine zp3 rfl ?_;refine rn ?_;have hb:zln L[i] (zdu j)=false:=hg7_8
    exact ⟨hj,x,by rw [ye2 hb];exact zj,by rw [ye2 hb];exact eA⟩
  ·obtain rfl:j=4:=by have q:=oF hc14;omega
   refine rn ?_;exact ⟨hi,x,by rw [←ye3 hi];exact zj,by rw [←ye3 hi];exact eA⟩
 ·have qi:=zd1 hc10 li
  subst qi
  rw [List.take_length] at zi ⊢
  refine rn ?_;exact zdw .nil (.refl _ _) ⟨x,.inl ⟨zi,rfl⟩⟩
theorem yfm (h:Hist) (la:Lim 4611686018427387904 h):y9 Tryz.prog 34 [.agg (x4 h)] (.glob 0 117 x6:: .glob 3 148 y8:: .glob 5 276 x3:: .glob 6 279 y5:: .glob 2 197 u0:: []) (fun r h'=>h'= .glob 0 117 x6:: .glob 3 148 y8:: .glob 5 276 x3:: .glob 6 279 y5:: .glob 2 197 u0:: []∧r= .tup [bv (riO h),iv (u6 h)]):=by
 refine z6 Tryz.func34 rfl rfl rfl ?_
 refine rn ?_;refine z7 rfl (x9 rfl rfl rfl fun b1=> ?_)
 refine rn ?_;refine zht ?_;refine rn ?_;refine qv rfl rfl (y4 rfl rfl (y3.qt (y3.of_fun (znk h la)) ((pt1 _ _ _).trans (.cons _ ((pt1 _ _ _).trans (.cons _ ((pt1 _ _ _).trans (.cons _ ((pt1 _ _ _).trans (.cons _ (pt1 _ _ _))))))))))) ?_
 refine rn ?_;refine z8 rfl (fun hc13=> ?_) (fun hc13=> ?_)
 ·have hc:u6 h≠0:=nzT hc13
  refine rn ?_;refine ⟨fun l h=>(by cases h),?_⟩
  exact zbl rfl rfl (.drop [_] _ _) ⟨rfl,by rw [yl0 hc];rfl⟩
 ·have hc:u6 h=0:=nzF hc13
  refine rn ?_;refine z7 rfl (x5 rfl fun b6=> ?_)
  refine rn ?_;refine z7 rfl (w8 rfl rfl (y3.of_fun (zxf (zec h) _)) rfl ?_)
  rintro _ _ ⟨bl,rfl,rfl⟩
  refine rn ?_;refine zlo (fun pend h''=>(pend=none∧(zbw (zec h))= []∧h''= .box bl 70 [zc7 (zec h)]:: .box b6 4 [bv true]:: .box b1 28 (x4 h):: .glob 0 117 x6:: .glob 3 148 y8:: .glob 5 276 x3:: .glob 6 279 y5:: .glob 2 197 u0:: [])∨(pend=some (.exit 0)∧(∃d rest,(zbw (zec h))=d::rest)∧h''= .box bl 70 [zc7 (zec h)]:: .box b6 4 [bv false]:: .box b1 28 (x4 h):: .glob 0 117 x6:: .glob 3 148 y8:: .glob 5 276 x3:: .glob 6 279 y5:: .glob 2 197 u0:: [])) rfl (fun fn l q lp hlp=> ?_) (fun q h'' hK=> ?_) (fun q h'' cc hK=> ?_)
  ·suffices hy:∀pre d rest (x:Unit),(zbw (zec h))=pre++d::rest→pre= []→y3 Tryz.prog (yv l) [iv d.1,iv d.2] (.box bl 70 [zc7 (zec h)]::lp .ready none:: .defs q:: .box b6 4 [bv true]:: .box b1 28 (x4 h):: .glob 0 117 x6:: .glob 3 148 y8:: .glob 5 276 x3:: .glob 6 279 y5:: .glob 2 197 u0:: []) (fun r h'=>∃x':Unit,(r=bv true∧pre++ [d]= []∧h'= .box bl 70 [zc7 (zec h)]::lp .ready none:: .defs q:: .box b6 4 [bv true]:: .box b1 28 (x4 h):: .glob 0 117 x6:: .glob 3 148 y8:: .glob 5 276 x3:: .glob 6 279 y5:: .glob 2 197 u0:: [])∨(r=bv false∧(∃d rest,(zbw (zec h))=d::rest)∧h'= .box bl 70 [zc7 (zec h)]::lp .done (some (.exit 0)):: .defs q:: .box b6 4 [bv false]:: .box b1 28 (x4 h):: .glob 0 117 x6:: .glob 3 148 y8:: .glob 5 276 x3:: .glob 6 279 y5:: .glob 2 197 u0:: [])) by
    refine y9.mono (y9.perm (pt2 _ _ _ _) (zxe (zec h) (by have:=tab_len h;omega) (yv l) bl (fun pre _=>pre= []) (fun _=>∃d rest,(zbw (zec h))=d::rest) (fun _ _=>lp .ready none:: .defs q:: .box b6 4 [bv true]:: .box b1 28 (x4 h):: .glob 0 117 x6:: .glob 3 148 y8:: .glob 5 276 x3:: .glob 6 279 y5:: .glob 2 197 u0:: []) (fun _=>lp .done (some (.exit 0)):: .defs q:: .box b6 4 [bv false]:: .box b1 28 (x4 h):: .glob 0 117 x6:: .glob 3 148 y8:: .glob 5 276 x3:: .glob 6 279 y5:: .glob 2 197 u0:: []) () rfl hy)) ?_
    rintro _ _ ⟨x,⟨hn,rfl⟩|⟨hn,rfl⟩⟩
    ·exact ⟨none,.ready,_,((pt1 _ _ _).trans (.cons _ (pt1 _ _ _))),by simp,.inl ⟨rfl,hn,rfl⟩⟩
    ·exact ⟨some (.exit 0),.done,_,((pt1 _ _ _).trans (.cons _ (pt1 _ _ _))),by simp,.inr ⟨rfl,hn,rfl⟩⟩
   intro pre d rest x hL hpre
   refine y3.perm (pt1 _ _ _) (y3.ventE ?_)
   refine zdl hlp rfl rfl ?_
   refine rn ?_;refine ⟨[(6,pZ b6)],.box bl 70 [zc7 (zec h)]:: .defs q:: .box b6 4 [bv true]:: .box b1 28 (x4 h):: .glob 0 117 x6:: .glob 3 148 y8:: .glob 5 276 x3:: .glob 6 279 y5:: .glob 2 197 u0:: [],eA,?_⟩
   refine rn ?_;exact zj8 (.refl _) ⟨_,_,.perm (pt1 _ _ _) _,(),.inr ⟨rfl,⟨d,rest,yap hL hpre⟩,rfl⟩⟩
  ·obtain ⟨_,hn,rfl⟩|⟨hc',_⟩:=hK
   rotate_left
   ·cases hc'
   refine rn ?_;refine ⟨fun l h=>(by cases h),?_⟩
   exact zgf (.refl _) (.cons _ _ _ _ (.tmp _ _ rfl) (.cons _ _ _ _ (.tmp _ _ rfl) .nil)) (.drop [_,_,_] _ _) ⟨rfl,by rw [yeb hc,hn,hc];rfl⟩
  ·obtain ⟨hc',_⟩|⟨hc',⟨d,rest,hn⟩,rfl⟩:=hK
   ·cases hc'
   obtain rfl:cc= .exit 0:=by simpa using hc'
   refine rn ?_;refine ⟨fun l h=>(by cases h),?_⟩
   exact zgf (.refl _) (.cons _ _ _ _ (.tmp _ _ rfl) (.cons _ _ _ _ (.tmp _ _ rfl) .nil)) (.drop [_,_,_] _ _) ⟨rfl,by rw [yeb hc,hn,hc];rfl⟩
def zus (h:Hist) (d:Int×Int):Brch:=(seB h d.1 d.2).head?.getD br0
theorem yay (L:List Grd):(zbw L).length≤4 * L.length:=by
 induction L with
 |nil=>simp [zbw]
 |cons g L ih=>
  have h1:zbw (g::L)=((yga.filter (zln g)).map fun b=>(g.s,b))++zbw L:=rfl
  have h2:(yga.filter (zln g)).length≤4:=List.length_filter_le _ _
  rw [h1,List.length_append,oM,List.length_cons];omega
set_option maxHeartbeats 8000000 in
theorem ya6 (h:Hist) (la:Lim 4611686018427387904 h):y9 Tryz.prog 35 [.agg (x4 h)] (.glob 0 117 x6:: .glob 3 148 y8:: .glob 5 276 x3:: .glob 6 279 y5:: .glob 2 197 u0:: []) (fun r h'=>∃v w:SV,h'= .row v.v 6 36 ((((zbw (zec h))).map (zus h)).map zc8):: .row w.v 1 3 ((((zbw (zec h))).map Prod.fst).map za8):: .glob 0 117 x6:: .glob 3 148 y8:: .glob 5 276 x3:: .glob 6 279 y5:: .glob 2 197 u0:: []∧r= .tup [.v v.v,.v w.v,iv (u6 h)]):=by
 refine z6 Tryz.func35 rfl rfl rfl ?_
 refine rn ?_;refine z7 rfl (x9 rfl rfl rfl fun b1=> ?_)
 refine rn ?_;refine qv rfl rfl (y4 rfl rfl (y3.qt (y3.of_fun (znk h la)) ((pt1 _ _ _).trans (.cons _ ((pt1 _ _ _).trans (.cons _ ((pt1 _ _ _).trans (.cons _ ((pt1 _ _ _).trans (.cons _ (pt1 _ _ _))))))))))) ?_
 refine rn ?_;refine z8 rfl (fun hc20=> ?_) (fun hc20=> ?_)
 ·have hc:u6 h≠0:=nzT hc20
  refine rn ?_;exact zd7 (.cons _ _ _ _ (.tmp _ _ rfl) (.cons _ _ _ _ (.tmp _ _ rfl) (.cons _ _ _ _ (.tmp _ _ rfl) .nil))) (.trans (.drop [_] _ _) (.trans (k9 1 3 _) (k9 6 36 _))) ⟨⟨none,0,0⟩,⟨none,0,0⟩,by rw [zvn hc];rfl,rfl⟩
 ·have hc:u6 h=0:=nzF hc20
  refine rn ?_;refine z7 rfl (x5 rfl fun b7=> ?_)
  refine rn ?_;refine z7 rfl (x5 rfl fun b8=> ?_)
  refine rn ?_;refine z7 rfl (w8 rfl rfl (y3.of_fun (zxf (zec h) _)) rfl ?_)
  rintro _ _ ⟨bl,rfl,rfl⟩
  refine rn ?_;refine ziw (s':=⟨[(23,.fn (.func 125) [] [pZ bl]),(1,pZ b1),(7,pZ b7),(8,pZ b8)],.row (⟨none,0,0⟩:SV).v 6 36 (((([]:List (Int×Int))).map (zus h)).map zc8):: .row (⟨none,0,0⟩:SV).v 1 3 (((([]:List (Int×Int))).map Prod.fst).map za8):: .box bl 70 [zc7 (zec h)]:: .box b8 54 [.v (⟨none,0,0⟩:SV).v]:: .box b7 44 [.v (⟨none,0,0⟩:SV).v]:: .box b1 28 (x4 h):: .glob 0 117 x6:: .glob 3 148 y8:: .glob 5 276 x3:: .glob 6 279 y5:: .glob 2 197 u0:: [],[]⟩) (w7 (za1 1 3) (w7 (za1 6 36) es)) ?_
  refine zlo (fun pend h''=>pend=none∧∃v w:SV,h''= .box bl 70 [zc7 (zec h)]:: .row v.v 6 36 ((((zbw (zec h))).map (zus h)).map zc8):: .row w.v 1 3 ((((zbw (zec h))).map Prod.fst).map za8):: .box b8 54 [.v w.v]:: .box b7 44 [.v v.v]:: .box b1 28 (x4 h):: .glob 0 117 x6:: .glob 3 148 y8:: .glob 5 276 x3:: .glob 6 279 y5:: .glob 2 197 u0:: []) rfl (fun fn l q lp hlp=> ?_) (fun q h'' hK=> ?_) (fun q h'' cc hK=> ?_)
  ·suffices hy:∀pre d rest (z:SV×SV),(zbw (zec h))=pre++d::rest→True→y3 Tryz.prog (yv l) [iv d.1,iv d.2] (.box bl 70 [zc7 (zec h)]::lp .ready none:: .defs q:: .row z.1.v 6 36 (((pre).map (zus h)).map zc8):: .row z.2.v 1 3 (((pre).map Prod.fst).map za8):: .box b8 54 [.v z.2.v]:: .box b7 44 [.v z.1.v]:: .box b1 28 (x4 h):: .glob 0 117 x6:: .glob 3 148 y8:: .glob 5 276 x3:: .glob 6 279 y5:: .glob 2 197 u0:: []) (fun r h'=>∃z':SV×SV,(r=bv true∧True∧h'= .box bl 70 [zc7 (zec h)]::lp .ready none:: .defs q:: .row z'.1.v 6 36 (((pre++ [d]).map (zus h)).map zc8):: .row z'.2.v 1 3 (((pre++ [d]).map Prod.fst).map za8):: .box b8 54 [.v z'.2.v]:: .box b7 44 [.v z'.1.v]:: .box b1 28 (x4 h):: .glob 0 117 x6:: .glob 3 148 y8:: .glob 5 276 x3:: .glob 6 279 y5:: .glob 2 197 u0:: [])∨(r=bv false∧False∧h'= .box bl 70 [zc7 (zec h)]:: [])) by
    refine y9.mono (y9.perm (pt4 _ _ _ _ _ _) (zxe (zec h) (by have:=tab_len h;omega) (yv l) bl (fun _ (_:SV×SV)=>True) (fun _=>False) (fun pre (z:SV×SV)=>lp .ready none:: .defs q:: .row z.1.v 6 36 (((pre).map (zus h)).map zc8):: .row z.2.v 1 3 (((pre).map Prod.fst).map za8):: .box b8 54 [.v z.2.v]:: .box b7 44 [.v z.1.v]:: .box b1 28 (x4 h):: .glob 0 117 x6:: .glob 3 148 y8:: .glob 5 276 x3:: .glob 6 279 y5:: .glob 2 197 u0:: []) (fun _=> []) (⟨none,0,0⟩,⟨none,0,0⟩) trivial hy)) ?_
    rintro _ _ ⟨z,⟨-,rfl⟩|⟨hF,_⟩⟩
    ·exact ⟨none,.ready,_,((pt1 _ _ _).trans (.cons _ (pt1 _ _ _))),by simp,rfl,z.1,z.2,rfl⟩
    ·exact hF.elim
   rintro pre d rest ⟨vB,vI⟩ hL _
   show y3 _ _ _ (.box bl 70 [zc7 (zec h)]::lp .ready none:: .defs q:: .row vB.v 6 36 (((pre).map (zus h)).map zc8):: .row vI.v 1 3 (((pre).map Prod.fst).map za8):: .box b8 54 [.v vI.v]:: .box b7 44 [.v vB.v]:: .box b1 28 (x4 h):: .glob 0 117 x6:: .glob 3 148 y8:: .glob 5 276 x3:: .glob 6 279 y5:: .glob 2 197 u0:: []) _
   have hpl:pre.length≤12000:=by
    have h1:=yay (zec h)
    have h2:=tab_len h
    rw [hL,List.length_append] at h1
    omega
   refine y3.perm (pt1 _ _ _) (y3.ventE ?_)
   refine zdl hlp rfl rfl ?_
   refine rn ?_;refine ⟨[(9,iv d.1),(10,iv d.2),(1,pZ b1),(7,pZ b7),(8,pZ b8)],.box bl 70 [zc7 (zec h)]:: .defs q:: .row vB.v 6 36 (((pre).map (zus h)).map zc8):: .row vI.v 1 3 (((pre).map Prod.fst).map za8):: .box b8 54 [.v vI.v]:: .box b7 44 [.v vB.v]:: .box b1 28 (x4 h):: .glob 0 117 x6:: .glob 3 148 y8:: .glob 5 276 x3:: .glob 6 279 y5:: .glob 2 197 u0:: [],eA,?_⟩
   refine rn ?_;refine qv rfl rfl (y4 rfl rfl (y3.qt (y3.of_fun (zzn h la d.1 d.2)) ((pt8 _ _ _ _ _ _ _ _ _ _).trans (.cons _ ((pt8 _ _ _ _ _ _ _ _ _ _).trans (.cons _ ((pt8 _ _ _ _ _ _ _ _ _ _).trans (.cons _ ((pt8 _ _ _ _ _ _ _ _ _ _).trans (.cons _ (pt8 _ _ _ _ _ _ _ _ _ _))))))))))) ?_
   refine rn ?_;refine z7 rfl (x5 rfl fun b11=> ?_)
   refine rn ?_;refine ztq 7 (.box b11 36 (zc8 (zus h d))::lp .busy none:: .box bl 70 [zc7 (zec h)]:: .defs q:: .row vI.v 1 3 (((pre).map Prod.fst).map za8):: .box b8 54 [.v vI.v]:: .box b7 44 [.v vB.v]:: .box b1 28 (x4 h):: .glob 0 117 x6:: .glob 3 148 y8:: .glob 5 276 x3:: .glob 6 279 y5:: .glob 2 197 u0:: []) rfl ?_
   refine rn ?_;refine mv rfl rfl (v8 rfl rfl) ?_
   refine yof (xs:=((pre.map (zus h)).map zc8)) rfl rfl rfl rfl rfl rfl (by simp only [oM,List.length_cons,List.length_nil];omega) (fun r hr=>by rw [List.mem_singleton.1 hr];rfl) ?_
   refine rn ?_;refine mv rfl rfl (v8 rfl rfl) ?_
   refine ygz ⟨(pt4 _ _ _ _ _ _),?_⟩
   refine rn ?_;refine zdz fun s37=> ?_
   refine rn ?_;refine z7 rfl (j8 rfl rfl (by simp only [oM,List.length_cons,List.length_nil];omega) rfl (fun s41=> ?_) (fun r hr=>by rw [List.mem_singleton.1 hr];rfl))
   refine zak s41 fun sv hsv=> ?_
   subst hsv
   refine rn ?_;exact zgw (pt2 _ _ _ _) ⟨_,_,.trans (.perm ((pt2 _ _ _ _).trans (.cons _ ((pt2 _ _ _ _).trans (.cons _ (.cons _ (pt1 _ _ _)))))) _) (.drop [_] _ _),(s37,sv),.inl ⟨rfl,trivial,by simp only [List.map_append];rfl⟩⟩
  ·obtain ⟨_,v,w,rfl⟩:=hK
   refine rn ?_;refine j4 3 rfl ?_
   refine rn ?_;exact zgf (.refl _) (.cons _ _ _ _ (.tmp _ _ rfl) (.cons _ _ _ _ (.tmp _ _ rfl) (.cons _ _ _ _ (.tmp _ _ rfl) .nil))) (.trans (.perm (.cons _ ((pt2 _ _ _ _).trans (.cons _ ((pt2 _ _ _ _).trans (.cons _ (pt2 _ _ _ _)))))) _) (.drop [_,_,_,_] _ _)) ⟨v,w,rfl,by rw [hc];rfl⟩
  ·obtain ⟨hc',_⟩:=hK
   exact absurd hc' (by simp)
theorem yfn (h:Hist) (la:Lim 4611686018427387904 h):y9 Tryz.prog 35 [.agg (x4 h)] (.glob 0 117 x6:: .glob 3 148 y8:: .glob 5 276 x3:: .glob 6 279 y5:: .glob 2 197 u0:: []) (fun r h'=>h'= .glob 0 117 x6:: .glob 3 148 y8:: .glob 5 276 x3:: .glob 6 279 y5:: .glob 2 197 u0:: []∧r= .tup [yct ((zbw (zec h)).map (zus h)),zft ((zbw (zec h)).map Prod.fst),iv (u6 h)]):=(ya6 h la).ventR (by rintro _ _ ⟨v,w,rfl,rfl⟩;exact ⟨_,_,(zai [] [_,_]).trans (zai [_] [_]),rfl,rfl⟩)
set_option maxHeartbeats 8000000 in
theorem yjq (h:Hist) (la:Lim 1000000 h):y9 Tryz.prog 90 [.agg (x4 h)] [] (fun r h'=>∃(n:NV) (o:SV×SV×SV) (E:List (SV×Ev)) (O:List (SV×H.Ord)) (M:List (SV×Mat)),E.map (·.2)=h.evs∧O.map (·.2)=h.ords∧M.map (·.2)=h.mats∧h'= .row n.vT.v 1 9 (h.ts.map zay):: .row n.vS.v 1 9 (h.ss.map zay):: .row n.vO.v 1 9 (h.os.map zay):: .row n.vP.v 1 9 (h.ps.map zay):: .row o.1.v 9 66 (E.map ycn):: .row o.2.1.v 2 99 (O.map zq1):: .row o.2.2.v 4 112 (M.map zuh)::(scR 139 E++(otR 3 O++mtR 3 M))∧r= .agg [.v n.vT.v,.v n.vS.v,.v n.vO.v,.v n.vP.v,.v o.1.v,.v o.2.1.v,.v o.2.2.v,zfl h.wants]):=by
 refine z6 Tryz.func90 rfl rfl rfl ?_
 refine rn ?_;refine z7 rfl (x9 rfl rfl rfl fun b1=> ?_)
 refine z7 rfl (x5 rfl fun b2=> ?_)
 refine rn0 ?_;refine zih (fun _:SV×SV×SV×SV=>True) (fun x=>⟨[(1,pZ b1),(2,pZ b2)],.box b2 28 zek:: .box b1 28 [.v x.1.v,.v x.2.1.v,.v x.2.2.1.v,.v x.2.2.2.v,zte h.evs,zuc h.ords,zug h.mats,zfl h.wants]:: .row x.1.v 1 9 (h.ts.map zay):: .row x.2.1.v 1 9 (h.ss.map zay):: .row x.2.2.1.v 1 9 (h.os.map zay):: .row x.2.2.2.v 1 9 (h.ps.map zay):: [],[]⟩) ?_ ?_
 ·refine zhu 13 rfl ?_
  refine rn ?_;refine zll (zq6 1 9 (h.ts.map zay)) rfl rfl rfl (zgm (y3.of_fun (zd5 _ (by rw [oM];have:=la.ts;omega) (zkg _)))) ?_
  refine rn ?_;refine zll (zq6 1 9 (h.ss.map zay)) rfl rfl rfl (zgm (y3.of_fun (zd5 _ (by rw [oM];have:=la.ss;omega) (zkg _)))) ?_
  refine rn ?_;refine zll (zq6 1 9 (h.os.map zay)) rfl rfl rfl (zgm (y3.of_fun (zd5 _ (by rw [oM];have:=la.os;omega) (zkg _)))) ?_
  refine rn ?_;refine zll (zq6 1 9 (h.ps.map zay)) rfl rfl rfl (zgm (y3.of_fun (zd5 _ (by rw [oM];have:=la.ps;omega) (zkg _)))) ?_
  refine rn ?_;refine ygz ⟨.refl _,?_⟩
  refine rn ?_;refine zdz fun s8=> ?_
  refine rn ?_;refine zdz fun s11=> ?_
  refine rn ?_;refine zdz fun s14=> ?_
  refine rn ?_;refine zdz fun s17=> ?_
  refine rn ?_;exact ⟨(s8,s11,s14,s17),trivial,w7 (k8 ((pt4 _ _ _ _ _ _).trans (.cons _ ((pt4 _ _ _ _ _ _).trans (.cons _ ((pt3 _ _ _ _ _).trans (.cons _ ((pt2 _ _ _ _).trans (.cons _ (pt1 _ _ _)))))))))) (x7 (.cons _ _ _ rfl (.cons _ _ _ rfl (.nil))))⟩
 ·rintro ⟨s8,s11,s14,s17⟩ _
  refine zih (fun _:SV×SV×SV=>True) (fun x=>⟨[(1,pZ b1),(2,pZ b2)],.box b2 28 zek:: .box b1 28 [.v s8.v,.v s11.v,.v s14.v,.v s17.v,.v x.1.v,.v x.2.1.v,.v x.2.2.v,zfl h.wants]:: .row s8.v 1 9 (h.ts.map zay):: .row s11.v 1 9 (h.ss.map zay):: .row s14.v 1 9 (h.os.map zay):: .row s17.v 1 9 (h.ps.map zay):: .row x.1.v 9 66 (h.evs.map evR):: .row x.2.1.v 2 99 (h.ords.map zb7):: .row x.2.2.v 4 112 (h.mats.map zcc):: [],[]⟩) ?_ ?_
  ·refine zhu 10 rfl ?_
   refine rn ?_;refine zll (zq6 9 66 (h.evs.map evR)) rfl rfl rfl (zgm (y3.of_fun (zuy _ (by rw [oM];have:=la.evs;omega) (yiq _)))) ?_
   refine rn ?_;refine zll (zq6 2 99 (h.ords.map zb7)) rfl rfl rfl (zgm (y3.of_fun (zru _ (by rw [oM];have:=la.ords;omega) (yeu _)))) ?_
   refine rn ?_;refine zll (zq6 4 112 (h.mats.map zcc)) rfl rfl rfl (zgm (y3.of_fun (zrv _ (by rw [oM];have:=la.mats;omega) (yev _)))) ?_
   refine rn ?_;refine ygz ⟨.refl _,?_⟩
   refine rn ?_;refine zdz fun s24=> ?_
   refine rn ?_;refine zdz fun s27=> ?_
   refine rn ?_;refine zdz fun s30=> ?_
   refine rn ?_;exact ⟨(s24,s27,s30),trivial,w7 (k8 ((pt3 _ _ _ _ _).trans (.cons _ ((pt3 _ _ _ _ _).trans (.cons _ ((pt3 _ _ _ _ _).trans (.cons _ ((pt3 _ _ _ _ _).trans (.cons _ ((pt3 _ _ _ _ _).trans (.cons _ ((pt3 _ _ _ _ _).trans (.cons _ ((pt2 _ _ _ _).trans (.cons _ (pt1 _ _ _)))))))))))))))) (x7 (.cons _ _ _ rfl (.cons _ _ _ rfl (.nil))))⟩
  ·rintro ⟨s24,s27,s30⟩ _
   refine rn ?_;refine u5 (fun x:Nat×List (SV×Ev)=>x.1≤h.evs.length∧x.2.map (·.2)=h.evs.take x.1) (fun x=>⟨[(37,iv x.1),(36,iv (h.evs.map evR).length),(1,pZ b1),(2,pZ b2)],.box b2 28 zek:: .box b1 28 [.v s8.v,.v s11.v,.v s14.v,.v s17.v,.v s24.v,.v s27.v,.v s30.v,zfl h.wants]:: .row s8.v 1 9 (h.ts.map zay):: .row s11.v 1 9 (h.ss.map zay):: .row s14.v 1 9 (h.os.map zay):: .row s17.v 1 9 (h.ps.map zay):: .row s24.v 9 66 (x.2.map ycn++(h.evs.drop x.1).map evR):: .row s27.v 2 99 (h.ords.map zb7):: .row s30.v 4 112 (h.mats.map zcc)::scR 139 x.2,[]⟩) (fun x=>h.evs.length - x.1) (0,[]) ⟨by omega,rfl⟩
    (x7 (.cons _ _ _ rfl (.cons _ _ _ rfl (.cons _ _ _ rfl (.cons _ _ _ rfl (.nil)))))) ?_
   rintro ⟨k,x⟩ ⟨hk,hx⟩
   simp only at hk hx
   have hxl:=zm6 hx hk
   refine rn ?_;refine z8 rfl (fun hc38=> ?_) (fun hc38=> ?_)
   ·have hk2:k < h.evs.length:=by have q:=oT hc38;rw [oM] at q;omega
    obtain ⟨e,he⟩:∃e,e=h.evs[k]:=⟨_,rfl⟩
    have hd:=List.drop_eq_getElem_cons hk2
    rw [←he] at hd
    have hrow:(x.map ycn++(h.evs.drop k).map evR)[k]? =some (evR e):=zm8 hxl hd
    have hmem:e∈h.evs:=by rw [he];exact List.getElem_mem hk2
    have hle:=la.evs
    have hk3:k < (x.map ycn++(h.evs.drop k).map evR).length:=by rw [zm7 hxl hk];exact hk2
    refine rn ?_;refine zhu 10 rfl ?_
    refine mq rfl rfl qrA ?_;refine mq rfl rfl qrA ?_;refine mq rfl rfl qrA ?_;refine mq rfl rfl qrA ?_;refine mq rfl rfl qrA ?_;refine mq rfl rfl qrA ?_;refine mq rfl rfl (w9 rfl rfl hk3) ?_
    refine mq rfl rfl qrA ?_;refine mq rfl rfl (zch rfl hrow rfl) ?_
    refine zll (zq6 3 139 (e.scan.map zaz)) rfl rfl rfl (zgm (y3.of_fun (zpv _ (by rw [oM];have:=(la.scans e hmem);omega) (yaa _)))) ?_
    refine ygz ⟨.refl _,?_⟩
    refine rn ?_;refine zdz fun s49=> ?_
    refine rn2 ?_;refine qq rfl rfl (w9 rfl rfl hk3) ?_
    refine rn ?_;refine z7 rfl (zag rfl rfl rfl hrow rfl (Nat.le_of_ble_eq_true rfl) ?_)
    refine rn ?_;have hset:=zm5 (f:=ycn) (g:=evR) (a:=(s49,e)) (r:=(evR e).take 8++ [.v s49.v]++(evR e).drop (8+1)) hxl hd rfl
    have htl:scR 139 (x++ [(s49,e)])=scR 139 x++ [.row s49.v 3 139 (e.scan.map zaz)]:=by simp [scR]
    exact ⟨(k+1,x++ [(s49,e)]),⟨by omega,zm4 hx hk2 he⟩,by simp only [htl];exact w7 (k8 (zc0 [_] _)) (by rw [←hset];exact (x7 (.cons _ _ _ rfl (.cons _ _ _ rfl (.cons _ _ _ rfl (.cons _ _ _ rfl (.nil))))))),by simp only;omega⟩
   ·obtain rfl:k=h.evs.length:=by
     have q:=oF hc38
     rw [oM] at q
     omega
    rw [List.take_length] at hx
    obtain ⟨E,hE⟩:∃E,E=x:=⟨_,rfl⟩
    rw [←hE] at hx ⊢
    have hxE:=hx
    rw [List.drop_length,List.map_nil,List.append_nil]
    refine rn ?_;refine u5 (fun x:Nat×List (SV×H.Ord)=>x.1≤h.ords.length∧x.2.map (·.2)=h.ords.take x.1) (fun x=>⟨[(56,iv x.1),(55,iv (h.ords.map zb7).length),(1,pZ b1),(2,pZ b2)],.box b2 28 zek:: .box b1 28 [.v s8.v,.v s11.v,.v s14.v,.v s17.v,.v s24.v,.v s27.v,.v s30.v,zfl h.wants]:: .row s8.v 1 9 (h.ts.map zay):: .row s11.v 1 9 (h.ss.map zay):: .row s14.v 1 9 (h.os.map zay):: .row s17.v 1 9 (h.ps.map zay):: .row s24.v 9 66 (E.map ycn):: .row s27.v 2 99 (x.2.map zq1++(h.ords.drop x.1).map zb7):: .row s30.v 4 112 (h.mats.map zcc)::(scR 139 E++otR 3 x.2),[]⟩) (fun x=>h.ords.length - x.1) (0,[]) ⟨by omega,rfl⟩
     (by simp only [otR,List.map_nil,List.append_nil];exact (x7 (.cons _ _ _ rfl (.cons _ _ _ rfl (.cons _ _ _ rfl (.cons _ _ _ rfl (.nil))))))) ?_
    rintro ⟨k,x⟩ ⟨hk,hx⟩
    simp only at hk hx
    have hxl:=zm6 hx hk
    refine rn ?_;refine z8 rfl (fun hc57=> ?_) (fun hc57=> ?_)
    ·have hk2:k < h.ords.length:=by have q:=oT hc57;rw [oM] at q;omega
     obtain ⟨e,he⟩:∃e,e=h.ords[k]:=⟨_,rfl⟩
     have hd:=List.drop_eq_getElem_cons hk2
     rw [←he] at hd
     have hrow:(x.map zq1++(h.ords.drop k).map zb7)[k]? =some (zb7 e):=zm8 hxl hd
     have hmem:e∈h.ords:=by rw [he];exact List.getElem_mem hk2
     have hle:=la.ords
     have hk3:k < (x.map zq1++(h.ords.drop k).map zb7).length:=by rw [zm7 hxl hk];exact hk2
     refine rn ?_;refine zhu 10 rfl ?_
     refine mq rfl rfl qrA ?_;refine mq rfl rfl qrA ?_;refine mq rfl rfl qrA ?_;refine mq rfl rfl qrA ?_;refine mq rfl rfl qrA ?_;refine mq rfl rfl qrA ?_;refine mq rfl rfl (w9 rfl rfl hk3) ?_
     refine mq rfl rfl qrA ?_;refine mq rfl rfl (zch rfl hrow rfl) ?_
     refine zll (zq6 1 3 (e.ts.map za8)) rfl rfl rfl (zgm (y3.of_fun (ze9 _ (by rw [oM];have:=(la.ordts e hmem);omega) (zkh _)))) ?_
     refine ygz ⟨.refl _,?_⟩
     refine rn ?_;refine zdz fun s68=> ?_
     refine rn2 ?_;refine qq rfl rfl (w9 rfl rfl hk3) ?_
     refine rn ?_;refine z7 rfl (zag rfl rfl rfl hrow rfl (Nat.le_of_ble_eq_true rfl) ?_)
     refine rn ?_;have hset:=zm5 (f:=zq1) (g:=zb7) (a:=(s68,e)) (r:=(zb7 e).take 1++ [.v s68.v]++(zb7 e).drop (1+1)) hxl hd rfl
     have htl:∀L:List Res,L++otR 3 (x++ [(s68,e)])=(L++otR 3 x)++ [.row s68.v 1 3 (e.ts.map za8)]:=by simp [otR]
     exact ⟨(k+1,x++ [(s68,e)]),⟨by omega,zm4 hx hk2 he⟩,by simp only [htl];exact w7 (k8 (zc0 [_] _)) (by rw [←hset];exact (x7 (.cons _ _ _ rfl (.cons _ _ _ rfl (.cons _ _ _ rfl (.cons _ _ _ rfl (.nil))))))),by simp only;omega⟩
    ·obtain rfl:k=h.ords.length:=by
      have q:=oF hc57
      rw [oM] at q
      omega
     rw [List.take_length] at hx
     obtain ⟨O,hO⟩:∃O,O=x:=⟨_,rfl⟩
     rw [←hO] at hx ⊢
     have hxO:=hx
     rw [List.drop_length,List.map_nil,List.append_nil]
     refine rn ?_;refine u5 (fun x:Nat×List (SV×Mat)=>x.1≤h.mats.length∧x.2.map (·.2)=h.mats.take x.1) (fun x=>⟨[(75,iv x.1),(74,iv (h.mats.map zcc).length),(1,pZ b1),(2,pZ b2)],.box b2 28 zek:: .box b1 28 [.v s8.v,.v s11.v,.v s14.v,.v s17.v,.v s24.v,.v s27.v,.v s30.v,zfl h.wants]:: .row s8.v 1 9 (h.ts.map zay):: .row s11.v 1 9 (h.ss.map zay):: .row s14.v 1 9 (h.os.map zay):: .row s17.v 1 9 (h.ps.map zay):: .row s24.v 9 66 (E.map ycn):: .row s27.v 2 99 (O.map zq1):: .row s30.v 4 112 (x.2.map zuh++(h.mats.drop x.1).map zcc)::(scR 139 E++(otR 3 O++mtR 3 x.2)),[]⟩) (fun x=>h.mats.length - x.1) (0,[]) ⟨by omega,rfl⟩
      (by simp only [mtR,List.map_nil,List.append_nil];exact (x7 (.cons _ _ _ rfl (.cons _ _ _ rfl (.cons _ _ _ rfl (.cons _ _ _ rfl (.nil))))))) ?_
     rintro ⟨k,x⟩ ⟨hk,hx⟩
     simp only at hk hx
     have hxl:=zm6 hx hk
     refine rn ?_;refine z8 rfl (fun hc76=> ?_) (fun hc76=> ?_)
     ·have hk2:k < h.mats.length:=by have q:=oT hc76;rw [oM] at q;omega
      obtain ⟨e,he⟩:∃e,e=h.mats[k]:=⟨_,rfl⟩
      have hd:=List.drop_eq_getElem_cons hk2
      rw [←he] at hd
      have hrow:(x.map zuh++(h.mats.drop k).map zcc)[k]? =some (zcc e):=zm8 hxl hd
      have hmem:e∈h.mats:=by rw [he];exact List.getElem_mem hk2
      have hle:=la.mats
      have hk3:k < (x.map zuh++(h.mats.drop k).map zcc).length:=by rw [zm7 hxl hk];exact hk2
      refine rn ?_;refine zhu 10 rfl ?_
      refine mq rfl rfl qrA ?_;refine mq rfl rfl qrA ?_;refine mq rfl rfl qrA ?_;refine mq rfl rfl qrA ?_;refine mq rfl rfl qrA ?_;refine mq rfl rfl qrA ?_;refine mq rfl rfl (w9 rfl rfl hk3) ?_
      refine mq rfl rfl qrA ?_;refine mq rfl rfl (zch rfl hrow rfl) ?_
      refine zll (zq6 1 3 (e.ts.map za8)) rfl rfl rfl (zgm (y3.of_fun (ze9 _ (by rw [oM];have:=(la.matts e hmem);omega) (zkh _)))) ?_
      refine ygz ⟨.refl _,?_⟩
      refine rn ?_;refine zdz fun s87=> ?_
      refine rn2 ?_;refine qq rfl rfl (w9 rfl rfl hk3) ?_
      refine rn ?_;refine z7 rfl (zag rfl rfl rfl hrow rfl (Nat.le_of_ble_eq_true rfl) ?_)
      refine rn ?_;have hset:=zm5 (f:=zuh) (g:=zcc) (a:=(s87,e)) (r:=(zcc e).take 3++ [.v s87.v]++(zcc e).drop (3+1)) hxl hd rfl
      have htl:∀L L2:List Res,L++(L2++mtR 3 (x++ [(s87,e)]))=(L++(L2++mtR 3 x))++ [.row s87.v 1 3 (e.ts.map za8)]:=by simp [mtR]
      exact ⟨(k+1,x++ [(s87,e)]),⟨by omega,zm4 hx hk2 he⟩,by simp only [htl];exact w7 (k8 (zc0 [_] _)) (by rw [←hset];exact (x7 (.cons _ _ _ rfl (.cons _ _ _ rfl (.cons _ _ _ rfl (.cons _ _ _ rfl (.nil))))))),by simp only;omega⟩
     ·obtain rfl:k=h.mats.length:=by
       have q:=oF hc76
       rw [oM] at q
       omega
      rw [List.take_length] at hx
      obtain ⟨M,hM⟩:∃M,M=x:=⟨_,rfl⟩
      rw [←hM] at hx ⊢
      have hxM:=hx
      rw [List.drop_length,List.map_nil,List.append_nil]
      refine rn ?_;exact zd7 (.cons _ _ _ _ (.agg _ _ _ _ _ _ _ rfl inferInstance inferInstance inferInstance rfl) .nil) (.drop [_,_] _ _) ⟨⟨s8,s11,s14,s17⟩,⟨s24,s27,s30⟩,E,O,M,hxE,hxO,hxM,rfl,rfl⟩
theorem ymp (h:Hist) (la:Lim 1000000 h):y9 Tryz.prog 90 [.agg (x4 h)] [] (fun r h'=>h'= []∧r= .agg (x4 h)):=
 (yjq h la).ventR (by
  rintro _ _ ⟨n,o,E,O,M,hE,hO,hM,rfl,rfl⟩
  exact ⟨_,_,zq0 [] n o.1.v o.2.1.v o.2.2.v h E O M 9 66 99 112 139 3 _ hE hO hM (by simp) (by simp) (by simp) (by simp) (by simp) (by simp) (by simp) (fun r hr=>by simp [hr]) (fun r hr=>by simp [hr]) (fun r hr=>by simp [hr]),rfl,rfl⟩)
theorem yc9 (l:List Wan):∀r∈l.map zbi,r.all AV.one=true:=by
 intro r hr
 obtain ⟨x,_,rfl⟩:=List.mem_map.1 hr
 rfl
theorem ym8 (l:List Wan) (z:List AV):(l.map zbi).take l.length++(List.replicate (l.map zbi).length z).drop l.length=l.map zbi:=by
 rw [List.drop_of_length_le (by simp),List.append_nil,List.take_of_length_le (by simp)]
theorem zvf {l:List Wan} {s b:Int} (h:za5 (fun w:Wan=>w.s==s) 0 l < 0):(l++ [(⟨0,0⟩:Wan)]).set l.length ⟨s,b⟩=zew l s b:=by
 rw [zew,if_pos h];simp
theorem zve {l:List Wan} {s b:Int} {k:Nat} (h:za5 (fun w:Wan=>w.s==s) 0 l=(k:Int)):l.set k ⟨s,b⟩=zew l s b:=by
 rw [zew,if_neg (by omega),h];rfl
theorem yc6 {l:List Wan} {s:Int} (h:¬za5 (fun w:Wan=>w.s==s) 0 l < 0):∃k:Nat,k < l.length∧za5 (fun w:Wan=>w.s==s) 0 l=(k:Int):=by
 obtain ⟨k,hk,e,_⟩:=zkx (p:=fun w:Wan=>w.s==s) (l:=l) (i:=0) (by omega)
 exact ⟨k,hk,by rw [e];simp⟩
theorem zp0 {cs:List AV} (h:cs.all AV.one=true) {a:AV} (ha:a.one=true):(AV.agg (cs++ [a])).cellsOf=some (cs++ [a]):=by
 have e:(cs++ [a]).all AV.one=true:=by rw [List.all_append,h];simp [ha]
 show (match (cs++ [a]).all AV.one with|true=>some (cs++ [a])|false=>none)=_
 rw [e]
theorem zxc (sv:SV) (l:List Wan) (fv:AV) (p:Wan→Bool) (G:List Res) (hp:∀a∈l,y3 Tryz.prog fv [.agg (zbi a)] G (fun r h'=>h'=G∧r=bv (p a))) (hlen:l.length≤4611686018427387904):y9 Tryz.prog 102 [.v sv.v,fv] (.row sv.v 2 51 ((l).map zbi)::G) (fun r h'=>h'= .row sv.v 2 51 ((l).map zbi)::G∧r=iv (za5 p 0 l)):=by
 refine z6 Tryz.func102 rfl rfl rfl ?_
 refine rn ?_;refine u5 (fun k:Nat=>k≤l.length∧za5 p 0 l=za5 p k (l.drop k)) (fun k=>⟨[(8,iv k),(7,iv (l.map zbi).length),(0,.v sv.v),(1,fv)],.row sv.v 2 51 ((l).map zbi)::G,[]⟩) (fun k=>l.length - k) 0 ⟨Nat.zero_le _,by simp⟩
  (x7 (.cons _ _ _ rfl (.cons _ _ _ rfl (.cons _ _ _ rfl (.cons _ _ _ rfl (.nil)))))) ?_
 rintro k ⟨hk,hnot⟩
 refine rn ?_;refine z8 rfl (fun hc9=> ?_) (fun hc9=> ?_)
 ·have hk2:k < l.length:=by have q:=oT hc9;rw [oM] at q;omega
  have hrow:(l.map zbi)[k]? =some (zbi l[k]):=by simp [hk2]
  have hk3:k < (l.map zbi).length:=by rw [oM];exact hk2
  have hd:=List.drop_eq_getElem_cons hk2
  have hq9:y3 Tryz.prog fv [.agg (zbi l[k])] (.row sv.v 2 51 ((l).map zbi)::G) (fun r h'=>h'= .row sv.v 2 51 ((l).map zbi)::G∧r=bv (p l[k])):=y3.quiet (R:=fun x=>x=bv (p l[k])) (h2:= [.row sv.v 2 51 ((l).map zbi)]) (List.perm_append_comm (l₁:= [_])) (hp l[k] (List.getElem_mem hk2))
  refine zad ?_;refine k6 ?_;refine w6 ?_;refine zae ?_;refine w6 (y6 ?_)
  refine q1 ?_;refine q1 ?_;refine u3 (k6 ?_)
  refine w6 (y6 ?_)
  refine q1 ?_;refine q1 ?_;refine q1 ?_;refine qq rfl rfl (w9 rfl rfl hk3) ?_
  refine qq rfl rfl (u4 rfl hrow rfl) ?_
  refine qv rfl rfl (y4 rfl rfl hq9) ?_
  refine rn ?_;refine z8 rfl (fun hc16=> ?_) (fun hc16=> ?_)
  ·refine rn ?_;exact j6 rfl (.refl _ _) ⟨rfl,by rw [hnot,hd,za5,if_pos hc16];rfl⟩
  ·refine rn ?_;exact ⟨k+1,⟨by omega,by rw [hnot,hd,za5,if_neg (by simp [hc16])]⟩,(x7 (.cons _ _ _ rfl (.cons _ _ _ rfl (.cons _ _ _ rfl (.cons _ _ _ rfl (.nil)))))),by omega⟩
 ·have hk3:k=l.length:=by
   have q:=oF hc9
   rw [oM] at q
   omega
  refine rn ?_;exact j6 rfl (.refl _ _) ⟨rfl,by rw [hnot,hk3,List.drop_length,za5];rfl⟩
theorem yjo (w:Wan) (s:Int) (b4:Nat):y9 Tryz.prog 127 [.agg (zbi w),pZ b4] (.box b4 3 [iv s]:: []) (fun r h'=>h'= .box b4 3 [iv s]:: []∧r=bv (w.s==s)):=by
 refine z6 Tryz.func127 rfl rfl rfl ?_
 refine rn ?_;refine z7 rfl (x9 rfl rfl rfl fun b2=> ?_)
 refine rn ?_;refine rq 1 ?_
 exact ⟨rfl,rfl⟩
theorem yfk (c0 c1 c2 c3 c4 c5 c6:AV) (ho: [c0,c1,c2,c3,c4,c5,c6].all AV.one=true) (l:List Wan) (hl:l.length≤1000000) (s bits:Int):y9 Tryz.prog 89 [.agg [c0,c1,c2,c3,c4,c5,c6,zfl l],iv s,iv bits] [] (fun r h'=>∃v:SV,h'= .row v.v 2 51 ((zew l s bits).map zbi):: []∧r= .agg [c0,c1,c2,c3,c4,c5,c6,.v v.v]):=by
 refine z6 Tryz.func89 rfl rfl rfl ?_
 have hone:(AV.agg [c0,c1,c2,c3,c4,c5,c6,zfl l]).cellsOf=some [c0,c1,c2,c3,c4,c5,c6,zfl l]:=zp0 (cs:= [c0,c1,c2,c3,c4,c5,c6]) ho rfl
 have hone2:∀v:SV,(AV.agg [c0,c1,c2,c3,c4,c5,c6,.v v.v]).cellsOf=some [c0,c1,c2,c3,c4,c5,c6,.v v.v]:=fun v=>zp0 (cs:= [c0,c1,c2,c3,c4,c5,c6]) ho rfl
 refine rn ?_;refine z7 rfl (x9 rfl hone rfl fun b3=> ?_)
 refine z7 rfl (x9 rfl rfl rfl fun b4=> ?_)
 refine z7 rfl (x5 rfl fun b6=> ?_)
 refine u3 (k6 ?_)
 refine w6 (y6 ?_)
 refine q1 ?_;refine q1 ?_;refine q1 ?_;refine q1 ?_;refine q1 ?_;refine q1 ?_;refine qq rfl rfl (k7 (c:=(((l.map zbi).length+1:Nat):Int)) rfl rfl rfl (by rw [oM];omega)) ?_
 refine z7 rfl (yad rfl rfl rfl (by omega) (by rw [oM];omega) (hk:=fun b=> ?_))
 refine zak (.slice (some ⟨b,0,none⟩) (l.map zbi).length ((l.map zbi).length+1)) fun sv hsv=> ?_
 rw [hsv]
 clear hsv
 refine rn ?_;refine z7 rfl (zuf l.length rfl rfl (by simp) rfl (hk:= ?_) (yc9 l))
 rw [ym8]
 refine rn ?_;refine z7 rfl (w8 rfl rfl (y3.of_fun (zxc sv l _ (fun w:Wan=>w.s==s) _ (fun w _=>y3.qt (y3.of_acall (fs:= []) (cs:= [pZ b4]) (yjo w s b4)) (pt1 _ _ _)) (by omega))) rfl ?_)
 rintro _ _ ⟨rfl,rfl⟩
 refine rn0 ?_;refine zih (fun z:SV×List Wan×Nat=>z.2.2 < z.2.1.length∧z.2.1.set z.2.2 ⟨s,bits⟩=zew l s bits) (fun z=>⟨[(7,.v z.1.v),(8,iv z.2.2),(2,iv bits),(3,pZ b3),(4,pZ b4),(6,pZ b6)],.row z.1.v 2 51 ((z.2.1).map zbi):: .box b6 28 zek:: .box b4 3 [iv s]:: .box b3 28 [c0,c1,c2,c3,c4,c5,c6,zfl l]:: [],[]⟩) ?_ ?_
 ·refine rn ?_;refine z8 rfl (fun hc25=> ?_) (fun hc25=> ?_)
  ·have hn:za5 (fun w:Wan=>w.s==s) 0 l < 0:=oT hc25
   refine w6 (y6 ?_)
   refine q1 ?_;refine q1 ?_;refine q1 ?_;refine u3 (k6 ?_)
   refine y6 ?_;refine q1 ?_;refine qq rfl rfl (zab (out:= [iv 0,iv 0]) rfl (by rfl)) ?_
   refine qv rfl rfl (v8 rfl rfl) ?_
   refine z7 rfl (j8 rfl rfl (by simp only [oM,List.length_cons,List.length_nil];omega) rfl (fun s31=> ?_) (fun r hr=>by rw [List.mem_singleton.1 hr];rfl))
   refine zak s31 fun sv2 hsv=> ?_
   subst hsv
   refine rn ?_;first
   |exact ⟨(sv2,l++ [⟨0,0⟩],l.length),⟨by simp,zvf hn⟩,by simp only [List.map_append,oM];exact eA⟩
   |exact ⟨(sv,l,k),⟨hk,zve ek⟩,eA⟩
  ·have hn:¬za5 (fun w:Wan=>w.s==s) 0 l < 0:=oF hc25
   obtain ⟨k,hk,ek⟩:=yc6 hn
   rw [ek]
   refine rn ?_;first
   |exact ⟨(sv2,l++ [⟨0,0⟩],l.length),⟨by simp,zvf hn⟩,by simp only [List.map_append,oM];exact eA⟩
   |exact ⟨(sv,l,k),⟨hk,zve ek⟩,eA⟩
 ·rintro ⟨sv,m,i⟩ ⟨hi,hm⟩
  simp only at hi hm
  have hk3:i < (m.map zbi).length:=by rw [oM];exact hi
  have hrow:(m.map zbi)[i]? =some (zbi m[i]):=by simp [hi]
  refine w6 (y6 ?_)
  refine q1 ?_;refine q1 ?_;refine q1 ?_;refine q1 ?_;refine qq rfl rfl (zab (out:= [iv s,iv bits]) rfl (by rfl)) ?_
  refine qq rfl rfl (w9 rfl rfl hk3) ?_
  refine z7 rfl (zag rfl rfl rfl hrow rfl (Nat.le_of_ble_eq_true rfl) ?_)
  refine rn ?_;refine z7 rfl (zby rfl rfl (hone2 sv) rfl (Nat.le_of_ble_eq_true rfl) ?_)
  refine rn ?_;exact zd7 (.cons _ _ _ _ (.agg _ _ _ _ _ _ _ rfl inferInstance inferInstance inferInstance rfl) .nil) (.trans (.perm ((pt1 _ _ _).trans (.cons _ ((pt1 _ _ _).trans (.cons _ (pt1 _ _ _))))) _) (.drop [_,_,_] _ _)) ⟨sv,by rw [←hm,List.map_set];rfl,rfl⟩
end Go.Proofs
