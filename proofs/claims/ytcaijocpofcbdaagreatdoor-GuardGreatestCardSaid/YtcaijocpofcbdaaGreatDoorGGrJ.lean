/- A history read as data. Conditions: none. -/
import Derived.Test.YtcaijocpofcbdaaGreatDoorGGrI
import Derived.Test.YtcaijocpofcbdaaGreatDoorTie
import Derived.OpenShut
import Derived.Lib.LaidTab
import Derived.Lib.LaidU8
import Derived.ProofKit
import Derived.LaidMore
import Derived.LaidSub
import Derived.LaidHandle
import Derived.Lay
import Derived.SevenTiedAt
import Derived.Stop.Joined
import Derived.ChangeArms
set_option maxHeartbeats 4000000
set_option linter.unusedSectionVars false
set_option linter.unusedSimpArgs false
set_option linter.unusedVariables false
set_option maxRecDepth 100000
namespace Go.Proofs
open Go Go.Ab Go.H
section
variable {K:Type} {enc:TypeId×Value→K} {w:World}
theorem zql:zci enc Tryz.prog w 3 (fun n:Int=> [iv n]) (fun _=>True):= .int Tryz.underlying3
theorem ymj:zci enc Tryz.prog w 4 (fun b:Bool=> [bv b]) (fun _=>True):= .bool Tryz.underlying4
theorem yn9:zci enc Tryz.prog w 9 za7 (fun _=>True):= .string Tryz.underlying9
theorem ynq:zci enc Tryz.prog w 63 yhl (fun _=>True):=
 .map (fun x:Int×Int×Unit=>⟨x.1,x.2.1⟩) (.struct Tryz.underlying63 rfl (tot:=2) (by kernel_rfl) (.cons zql (s:=1) (by kernel_rfl) (.cons zql (s:=1) (by kernel_rfl) (.nil 2)))) (fun _=>rfl) (fun _ _=>trivial)
theorem yie:zci enc Tryz.prog w 139 zaw (fun _=>True):=
 .map (fun x:Int×Ver×Unit=>⟨x.1,x.2.1⟩) (.struct Tryz.underlying139 rfl (tot:=3) (by kernel_rfl) (.cons zql (s:=1) (by kernel_rfl) (.cons ynq (s:=2) (by kernel_rfl) (.nil 3)))) (fun _=>rfl) (fun _ _=>trivial)
theorem zk2 {n b b' c:Nat} (hb:b'=b) (hb0:0 < b) (hc:reachBytes / b≤c) (h:n * b'≤reachBytes):n≤c:=by subst hb;exact Nat.le_trans ((Nat.le_div_iff_mul_le hb0).2 h) hc
theorem yij:zci enc Tryz.prog w 64 (fun l:List Seen=> [zso l]) (fun l=>l.length≤5864062014805):=
 .map (fun l:List Seen=>l) (.slice Tryz.underlying64 yie (k:=3) (by kernel_rfl) (by decide) (by rw [show Tryz.prog.bytesOf 139=24 by kernel_rfl];decide)) (fun _=>rfl) (fun _ h=>zk2 (b:=24) (by kernel_rfl) (by decide) (by decide) h.1)
theorem yir:zci enc Tryz.prog w 54 (fun l:List Int=> [zfy l]) (fun l=>l.length≤17592186044416):=
 .map (fun l:List Int=>l) (.slice Tryz.underlying54 zql (k:=1) (by kernel_rfl) (by decide) (by rw [show Tryz.prog.bytesOf 3=8 by kernel_rfl];decide)) (fun _=>rfl) (fun _ h=>zk2 (b:=8) (by kernel_rfl) (by decide) (by decide) h.1)
theorem zz6:zci enc Tryz.prog w 22 (fun l:List ByteArray=> [zbg l]) (fun l=>l.length≤8796093022208):=
 .map (fun l:List ByteArray=>l) (.slice Tryz.underlying22 yn9 (k:=1) (by kernel_rfl) (by decide) (by rw [show Tryz.prog.bytesOf 9=16 by kernel_rfl];decide)) (fun _=>rfl) (fun _ h=>zk2 (b:=16) (by kernel_rfl) (by decide) (by decide) h.1)
theorem rEv:zci enc Tryz.prog w 66 evR (fun e=>e.scan.length≤5864062014805):=
 .map (fun x:Int×Int×Int×Int×Int×Ver×Int×List Seen×Unit=>⟨x.1,x.2.1,x.2.2.1,x.2.2.2.1,x.2.2.2.2.1,x.2.2.2.2.2.1,x.2.2.2.2.2.2.1,x.2.2.2.2.2.2.2.1⟩)
  (.struct Tryz.underlying66 rfl (tot:=9) (by kernel_rfl) (.cons zql (s:=1) (by kernel_rfl) (.cons zql (s:=1) (by kernel_rfl) (.cons zql (s:=1) (by kernel_rfl) (.cons zql (s:=1) (by kernel_rfl) (.cons zql (s:=1) (by kernel_rfl)
   (.cons ynq (s:=2) (by kernel_rfl) (.cons zql (s:=1) (by kernel_rfl) (.cons yij (s:=1) (by kernel_rfl) (.nil 9)))))))))) (fun _=>rfl) (fun _ h=>h.2.2.2.2.2.2.2.1)
theorem yob:zci enc Tryz.prog w 99 zc7 (fun e=>e.ts.length≤17592186044416):=
 .map (fun x:Int×List Int×Unit=>⟨x.1,x.2.1⟩) (.struct Tryz.underlying99 rfl (tot:=2) (by kernel_rfl) (.cons zql (s:=1) (by kernel_rfl) (.cons yir (s:=1) (by kernel_rfl) (.nil 2)))) (fun _=>rfl) (fun _ h=>h.2.1)
theorem yoc:zci enc Tryz.prog w 112 zdc (fun e=>e.ts.length≤17592186044416):=
 .map (fun x:Int×Int×Bool×List Int×Unit=>⟨x.1,x.2.1,x.2.2.1,x.2.2.2.1⟩) (.struct Tryz.underlying112 rfl (tot:=4) (by kernel_rfl) (.cons zql (s:=1) (by kernel_rfl) (.cons zql (s:=1) (by kernel_rfl) (.cons ymj (s:=1) (by kernel_rfl) (.cons yir (s:=1) (by kernel_rfl) (.nil 4)))))) (fun _=>rfl) (fun _ h=>h.2.2.2.1)
theorem yn8:zci enc Tryz.prog w 51 zcm (fun _=>True):=
 .map (fun x:Int×Int×Unit=>⟨x.1,x.2.1⟩) (.struct Tryz.underlying51 rfl (tot:=2) (by kernel_rfl) (.cons zql (s:=1) (by kernel_rfl) (.cons zql (s:=1) (by kernel_rfl) (.nil 2)))) (fun _=>rfl) (fun _ _=>trivial)
theorem yod:zci enc Tryz.prog w 23 (fun l:List Ev=> [zrk l]) (fun l=>l.length≤1599289640401∧∀e∈l,e.scan.length≤5864062014805):=
 .map (fun l:List Ev=>l) (.slice Tryz.underlying23 rEv (k:=9) (by kernel_rfl) (by decide) (by rw [show Tryz.prog.bytesOf 66=88 by kernel_rfl];decide)) (fun _=>rfl) (fun _ h=>⟨zk2 (b:=88) (by kernel_rfl) (by decide) (by decide) h.1,h.2⟩)
theorem ymf:zci enc Tryz.prog w 24 (fun l:List H.Ord=> [zqv l]) (fun l=>l.length≤4398046511104∧∀e∈l,e.ts.length≤17592186044416):=
 .map (fun l:List H.Ord=>l) (.slice Tryz.underlying24 yob (k:=2) (by kernel_rfl) (by decide) (by rw [show Tryz.prog.bytesOf 99=32 by kernel_rfl];decide)) (fun _=>rfl) (fun _ h=>⟨zk2 (b:=32) (by kernel_rfl) (by decide) (by decide) h.1,h.2⟩)
theorem ymg:zci enc Tryz.prog w 25 (fun l:List Mat=> [zq4 l]) (fun l=>l.length≤2932031007402∧∀e∈l,e.ts.length≤17592186044416):=
 .map (fun l:List Mat=>l) (.slice Tryz.underlying25 yoc (k:=4) (by kernel_rfl) (by decide) (by rw [show Tryz.prog.bytesOf 112=48 by kernel_rfl];decide)) (fun _=>rfl) (fun _ h=>⟨zk2 (b:=48) (by kernel_rfl) (by decide) (by decide) h.1,h.2⟩)
theorem ymc:zci enc Tryz.prog w 26 (fun l:List Wan=> [zfp l]) (fun l=>l.length≤8796093022208):=
 .map (fun l:List Wan=>l) (.slice Tryz.underlying26 yn8 (k:=2) (by kernel_rfl) (by decide) (by rw [show Tryz.prog.bytesOf 51=16 by kernel_rfl];decide)) (fun _=>rfl) (fun _ h=>zk2 (b:=16) (by kernel_rfl) (by decide) (by decide) h.1)
theorem ymh:zci enc Tryz.prog w 28 x4 Big:=
 .map (fun x:List ByteArray×List ByteArray×List ByteArray×List ByteArray×List Ev×List H.Ord×List Mat×List Wan×Unit=>⟨x.1,x.2.1,x.2.2.1,x.2.2.2.1,x.2.2.2.2.1,x.2.2.2.2.2.1,x.2.2.2.2.2.2.1,x.2.2.2.2.2.2.2.1⟩)
  (.struct Tryz.underlying28 rfl (tot:=8) (by kernel_rfl) (.cons zz6 (s:=1) (by kernel_rfl) (.cons zz6 (s:=1) (by kernel_rfl) (.cons zz6 (s:=1) (by kernel_rfl) (.cons zz6 (s:=1) (by kernel_rfl) (.cons yod (s:=1) (by kernel_rfl)
   (.cons ymf (s:=1) (by kernel_rfl) (.cons ymg (s:=1) (by kernel_rfl) (.cons ymc (s:=1) (by kernel_rfl) (.nil 8)))))))))) (fun _=>rfl)
  (fun x h=>by
   obtain ⟨h1,h2,h3,h4,⟨h5,h6⟩,⟨h7,h8⟩,⟨h9,hA⟩,hB,_⟩:=h
   exact ⟨⟨Nat.le_trans h1 (by decide),Nat.le_trans h2 (by decide),Nat.le_trans h3 (by decide),Nat.le_trans h4 (by decide),Nat.le_trans h5 (by decide),Nat.le_trans h7 (by decide),Nat.le_trans h9 (by decide),Nat.le_trans hB (by decide),fun e he=>Nat.le_trans (h6 e he) (by decide),fun e he=>Nat.le_trans (h8 e he) (by decide),fun e he=>Nat.le_trans (hA e he) (by decide)⟩,h1,h2,h3,h4,h7,h9,hB,h6,h8,hA⟩)
end
theorem ztj {α:Type} (s:Nat):∀(n:Nat) (cs:List α) (f:Nat→List α),cs.length=n * s→(∀i,i < n→(cs.drop (i * s)).take s=f i)→cs=(List.range n).flatMap f
 |0,cs,f,h,_=>by simp at h;subst h;rfl
 |n+1,cs,f,h,k=>by
  have h0:=k 0 (by omega)
  have ih:=ztj s n (cs.drop s) (fun i=>f (i+1)) (by rw [List.length_drop,h,Nat.add_mul];omega) fun i hi=>by
   have:=k (i+1) (by omega)
   rw [Nat.add_mul,Nat.one_mul,Nat.add_comm,←List.drop_drop] at this
   exact this
  rw [List.range_succ_eq_map,List.flatMap_cons,List.flatMap_map,←h0]
  simp only [Nat.zero_mul,List.drop_zero]
  have e:cs=cs.take s++cs.drop s:=(List.take_append_drop s cs).symm
  rw [ih] at e
  exact e
theorem znd {P:Program} {w:World} {n:String} {g t:Nat} {d:DataW Unit} {vals:List Value} {T:TypeId} (hr:Lib.VarReads P w n d) (hg:P.globalNamed n=some g) (ht:(P.globals[g]?).map (·.type)=some t)
 (hv:∀fuel cs p,DataW.trod (fun _=>()) P w 0 (fun _=>true) false fuel t cs=some (d,p)→cs=vals):(Res.glob g T (vals.map .v)).holds w noX:=by
 obtain ⟨g',t',cs,fuel,p,h1,h2,h3,h4⟩:=hr
 obtain rfl:=Option.some.inj (hg.symm.trans h1)
 obtain rfl:=Option.some.inj (ht.symm.trans h2)
 have hcs:=hv _ _ _ h4
 unfold World.var? at h3
 rw [hg] at h3
 simp only [Option.bind_some] at h3
 split at h3
 ·rename_i c T0 fr hh
  cases h3
  refine ⟨fun h=>h,(Array.getElem?_eq_some_iff.1 hh).1,cs,T0,fr,hh,by rw [oM,←hcs];simp,fun j j1 j2=> ?_⟩
  rw [List.getElem_map]
  have:vals[j]'(by simpa using j1)=cs[j]:=by simp [←hcs]
  rw [this]
  exact .v _
 ·cases h3
theorem ym1 {w:World} (h:Lib.VarReads Tryz.prog w "yardarm/history.limits" YtcaijocpofcbdaaGreatDoor.Rows.laid_yardarm_history_limits):(Res.glob 3 148 y7).holds w noX:=
 znd (vals:= [300,60,300,60].map fun z=>Value.int .i64 z) h (by kernel_rfl) (show _=some 148 by kernel_rfl) fun fuel cs p hd=>
  Lib.cells_of_tab (zs:= [300,60,300,60]) Tryz.underlying148 Tryz.underlying3 (by kernel_rfl) (by kernel_rfl) hd
def ztc:List Int:=(List.range 256).map zb5
theorem zp9:YtcaijocpofcbdaaGreatDoor.Rows.laid_unicode_utf8_first=Lib.tabData .u8 ztc:=by kernel_rfl
theorem ym0 {w:World} (h:Lib.VarReads Tryz.prog w "unicode/utf8.first" YtcaijocpofcbdaaGreatDoor.Rows.laid_unicode_utf8_first):(Res.glob 5 276 y9).holds w noX:=by
 have:=znd (P:=Tryz.prog) (w:=w) (n:= "unicode/utf8.first") (g:=5) (t:=276) (d:=YtcaijocpofcbdaaGreatDoor.Rows.laid_unicode_utf8_first) (T:=276) (vals:=ztc.map fun z=>Value.int .u8 z) h (by kernel_rfl) (by kernel_rfl) fun fuel cs p hd=>
  Lib.cells_of_tab (zs:=ztc) Tryz.underlying276 Tryz.underlying5 (by kernel_rfl) (by kernel_rfl) (zp9 ▸ hd)
 simpa [y9,ztc,List.map_map,Function.comp_def] using this
def ynw (i:Nat):List Int:= [[128,160,128,144,128].getD i 0,[191,191,159,191,143].getD i 0]
theorem zyy:(YtcaijocpofcbdaaGreatDoor.Rows.laid_unicode_utf8_acceptRanges:DataW Unit)= .agg ((List.range 16).map fun i=> .agg ((ynw i).map fun z=> .lit (.int .u8 z))):=by kernel_rfl
theorem yg2:y4=((List.range 16).flatMap fun i=>(ynw i).map fun z=>Value.int .u8 z).map .v:=rfl
theorem ymz {w:World} (h:Lib.VarReads Tryz.prog w "unicode/utf8.acceptRanges" YtcaijocpofcbdaaGreatDoor.Rows.laid_unicode_utf8_acceptRanges):(Res.glob 6 279 y4).holds w noX:=by
 rw [yg2]
 refine znd (T:=279) h (by kernel_rfl) (show _=some 279 by kernel_rfl) fun fuel cs p hd=> ?_
 rw [zyy] at hd
 have c132:Tryz.prog.cellsOf 278=2:=by kernel_rfl
 have c133:Tryz.prog.cellsOf 279=32:=by kernel_rfl
 have hlen:cs.length=16 * 2:=by
  obtain ⟨_,_,_,_,hl,_⟩:=DataW.trod_array Tryz.underlying279 hd
  rw [hl,c133]
 refine ztj 2 16 cs _ hlen fun i hi=> ?_
 obtain ⟨f',d,q,h1,h2⟩:=Lib.array_elem Tryz.underlying279 hd i hi
 simp only [List.getElem?_map,List.getElem?_range hi,Option.map_some,Option.some.injEq] at h1
 subst h1
 rw [c132] at h2
 exact Lib.ints_of_struct Tryz.underlying278 (fun j f hj=>by
  match j,hj with
  |0,hj=>simp at hj;subst hj;exact ⟨Tryz.underlying5,rfl,by kernel_rfl⟩
  |1,hj=>simp at hj;subst hj;exact ⟨Tryz.underlying5,rfl,by kernel_rfl⟩
  |j+2,hj=>simp at hj) (by rw [c132];rfl) h2
end Go.Proofs
set_option maxRecDepth 100000
namespace Go.Proofs.YtcaijocpofcbdaaGreatDoor
open Go Go.Ab Go.H Go.ChangeShapes Go.WideShapes Go.ChangeAt Go.RowKit
theorem own:ownKnob Tryz.prog.godebug=none:=by kernel_rfl
def ynk:List Value:= .nilFunc:: [245,249,250,251,252,253,254,255,256,257].map fun f=> .func (.func f) #[] #[]
theorem zum {W W':World} (hk:Keep [] W [] W'):RowKit.Below W.heap.size W {W' with tape:=W.tape}:=
 ⟨hk.env.1.1,rfl,hk.env.1.2,hk.size,fun k hk'=>(hk.same k hk' (by simp)).1⟩
theorem ya7 {W W':World} (hk:Keep [] W [] W') (may:MemPlace→Prop):W.keptBut W' may:=by
 refine ⟨hk.env.1.1,hk.env.1.2,fun i hi=> ?_⟩
 rw [(hk.same i hi (by simp)).1]
 generalize W.heap[i]? =o
 cases o with
 |none=>rfl
 |some o=>cases o <;> first|rfl|exact ⟨rfl,rfl,rfl,fun _ _=>rfl⟩|exact .inr ⟨rfl,rfl⟩
section
variable {H:Type} {enc:TypeId×Value→H}
theorem zvj {W W':World} {v:Value} {d:DataW H} {ps:List MemPlace} (hk:Keep [] W [] W') (h:DataW.Trod enc Tryz.prog W 0 (fun _=>true) true 28 v d ps) (hlt:∀x∈ps,x.block < W.heap.size):
 DataW.Trod enc Tryz.prog W' 0 (fun b=>decide (b < W.heap.size)) true 28 v d ps:=
 DataW.Trod.of_heap (w:={W' with tape:=W.tape}) (w':=W') rfl (Below.trod (by kernel_rfl) (by kernel_rfl) (by decide+kernel) h (zum hk) hlt)
theorem ybc {W:World} {cs:Array Value} {d:DataW H} {ps:List MemPlace} (h:DataW.Trod enc Tryz.prog W 0 (fun _=>true) true 28 (.agg cs) d ps) (hw:∀n∈d.weights Tryz.prog 28,n≤reachBytes):
 ∃x,Big x∧Rel W noX (.agg (x4 x)) (.agg cs):=by
 obtain ⟨fuel,hf⟩:=h
 obtain ⟨x,hlim,hx⟩:=ymh fuel _ _ hf hw
 exact ⟨x,hlim,.agg _ _ (by simpa [Value.cells] using hx.1) fun j h1 h2=>by simpa [Value.cells] using hx.2 j h1 (by simpa [Value.cells] using h2)⟩
theorem yfz {W:World} {cs:Array Value} {d:DataW H} {ps:List MemPlace} (h:DataW.Trod enc Tryz.prog W 0 (fun _=>true) true 28 (.agg cs) d ps) (hw:∀n∈d.weights Tryz.prog 28,n≤reachBytes):
 ∃x,Lim 4611686018427387904 x∧Rel W noX (.agg (x4 x)) (.agg cs):=by
 obtain ⟨x,hb,hr⟩:=ybc h hw
 exact ⟨x,hb.lim,hr⟩
end
def ygw:DataW Unit:=match (Rows.laid_yardarm_rules_asks:DataW Unit) with| .iface _ d=>d|d=>d
def zwn:List (List UInt8):=match ygw with| .agg ds=>ds.map (fun d=>match d with| .iface _ (.lit (.string b))=>b|_=> [])|_=> []
def nm (k:Nat):List UInt8:=zwn.getD (k+1) []
theorem zyi:ygw.funcsOut= .agg (.nil::(zwn.drop 1).map .held):=by kernel_rfl
theorem zs8 {w:World} {c:Array Value} {T0:TypeId} {fr:Nat×Nat} {g:Nat} {T:TypeId} {vs:List AV} (hh:w.heap[g]? =some (.cells c T0 fr)) (hl:vs.length=c.size) (h:∀j (h1:j < vs.length) (h2:j < c.size),Rel w noX vs[j] c[j]):(Res.glob g T vs).holds w noX:=
 ⟨fun h=>h,(Array.getElem?_eq_some_iff.1 hh).1,c,T0,fr,hh,hl,fun j h1 h2=>h j h1 h2⟩
theorem zhp (w:World) (f:Nat):Rel w noX (.fn (.func f) [] []) (.func (.func f) #[] #[]):= .fn _ _ _ _ _ rfl rfl (fun j h=>absurd h (Nat.not_lt_zero _)) (fun j h=>absurd h (Nat.not_lt_zero _))
def fnA:List Nat:= [245,249,250,251,252,253,254,255,256,257]
theorem yb3 (k:Nat) (hk:k < 10):∃b r,zwn[k+1]? =some (b::r)∧((List.range Tryz.prog.funcs.size).filter fun f=>(Tryz.prog.funcs[f]?).any (·.name.toUTF8.data.toList==b::r))= [fnA.getD k 0]∧v7[k+1]? =some (.fn (.func (fnA.getD k 0)) [] []):=by
 match k,hk with
 |0,_=>exact ⟨(nm 0).headD 0,(nm 0).tail,by kernel_rfl,by kernel_rfl,by kernel_rfl⟩
 |1,_=>exact ⟨(nm 1).headD 0,(nm 1).tail,by kernel_rfl,by kernel_rfl,by kernel_rfl⟩
 |2,_=>exact ⟨(nm 2).headD 0,(nm 2).tail,by kernel_rfl,by kernel_rfl,by kernel_rfl⟩
 |3,_=>exact ⟨(nm 3).headD 0,(nm 3).tail,by kernel_rfl,by kernel_rfl,by kernel_rfl⟩
 |4,_=>exact ⟨(nm 4).headD 0,(nm 4).tail,by kernel_rfl,by kernel_rfl,by kernel_rfl⟩
 |5,_=>exact ⟨(nm 5).headD 0,(nm 5).tail,by kernel_rfl,by kernel_rfl,by kernel_rfl⟩
 |6,_=>exact ⟨(nm 6).headD 0,(nm 6).tail,by kernel_rfl,by kernel_rfl,by kernel_rfl⟩
 |7,_=>exact ⟨(nm 7).headD 0,(nm 7).tail,by kernel_rfl,by kernel_rfl,by kernel_rfl⟩
 |8,_=>exact ⟨(nm 8).headD 0,(nm 8).tail,by kernel_rfl,by kernel_rfl,by kernel_rfl⟩
 |9,_=>exact ⟨(nm 9).headD 0,(nm 9).tail,by kernel_rfl,by kernel_rfl,by kernel_rfl⟩
def nmI:List UInt8:= [121,97,114,100,97,114,109,47,115,101,115,115,105,111,110,46,100,111,105,110,103,115,41,46,105,110,115,116,97,108,108]
def nmR:List UInt8:= [121,97,114,100,97,114,109,47,115,101,115,115,105,111,110,46,100,111,105,110,103,115,41,46,114,101,97,100]
def yns:DataW Unit:=match (Rows.laid_yardarm_session_guards:DataW Unit) with| .iface _ d=>d|d=>d
theorem ybd:yns.funcsOut= .agg [.agg [.lit (.int .i64 1),.held (40::nmI),.held (40::nmR)],.agg [.lit (.int .i64 2),.held (40::nmR),.held (40::nmR)],.agg [.lit (.int .i64 4),.held (40::nmI),.held (40::nmI)],.agg [.lit (.int .i64 8),.held (40::nmR),.held (40::nmI)]]:=by kernel_rfl
theorem yll:((List.range Tryz.prog.funcs.size).filter fun f=>(Tryz.prog.funcs[f]?).any (·.name.toUTF8.data.toList==40::nmI))= [244]:=by kernel_rfl
theorem ylk:((List.range Tryz.prog.funcs.size).filter fun f=>(Tryz.prog.funcs[f]?).any (·.name.toUTF8.data.toList==40::nmR))= [248]:=by kernel_rfl
theorem znb {w:World} {base:Nat} {sp:Nat→Bool} {fuel:Nat} {cs:List Value} {z:Int} {r1 r2:List UInt8} {f1 f2:FuncId} {q:List MemPlace} (h1:((List.range Tryz.prog.funcs.size).filter fun f=>(Tryz.prog.funcs[f]?).any (·.name.toUTF8.data.toList==40::r1))= [f1]) (h2:((List.range Tryz.prog.funcs.size).filter fun f=>(Tryz.prog.funcs[f]?).any (·.name.toUTF8.data.toList==40::r2))= [f2])
 (h:DataW.trod (funcToken Tryz.prog) Tryz.prog w base sp true fuel 116 cs=some (.agg [.lit (.int .i64 z),.held (40::r1),.held (40::r2)],q)):cs= [.int .i64 z,.func (.func f1) #[] #[],.func (.func f2) #[] #[]]:=by
 obtain ⟨xs,n,_,hx,hl,hlen,hf⟩:=DataW.trod_struct Tryz.underlying116 h
 rw [show Tryz.prog.cellsOf 116=3 by kernel_rfl] at hl
 match xs,hlen with
 | [y0,y1,y2],_=>
   have hx:=congrArg Prod.fst hx
   simp only [List.map_cons,List.map_nil,DataW.agg.injEq,List.cons.injEq,and_true] at hx
   obtain ⟨x0,x1,x2⟩:=hx
   match cs,hl,hf with
   | [v0,v1,v2],_,hf=>
     have f0:DataW.trod (funcToken Tryz.prog) Tryz.prog w base sp true n 3 (([v0,v1,v2].drop 0).take (Tryz.prog.cellsOf 3))= [y0,y1,y2][0]? :=hf 0 _ rfl
     have f1':DataW.trod (funcToken Tryz.prog) Tryz.prog w base sp true n 115 (([v0,v1,v2].drop 1).take (Tryz.prog.cellsOf 115))= [y0,y1,y2][1]? :=hf 1 _ rfl
     have f2':DataW.trod (funcToken Tryz.prog) Tryz.prog w base sp true n 115 (([v0,v1,v2].drop 2).take (Tryz.prog.cellsOf 115))= [y0,y1,y2][2]? :=hf 2 _ rfl
     rw [show Tryz.prog.cellsOf 3=1 by kernel_rfl] at f0
     rw [show Tryz.prog.cellsOf 115=1 by kernel_rfl] at f1' f2'
     simp only [List.drop_zero,List.drop_succ_cons,List.take_succ_cons,List.take_zero,List.getElem?_cons_zero,List.getElem?_cons_succ] at f0 f1' f2'
     obtain ⟨z',e0,ey,_⟩:=DataW.trod_int Tryz.underlying3 f0
     rw [ey] at x0
     simp only [DataW.lit.injEq,Lit.int.injEq,true_and] at x0
     subst x0
     simp only [List.cons.injEq,and_true] at e0
     rw [e0,func_of_trod (v:=v1) (f0:=f1) Tryz.underlying115 h1 (q:=y1.2) (by rw [x1];exact f1'),func_of_trod (v:=v2) (f0:=f2) Tryz.underlying115 h2 (q:=y2.2) (by rw [x2];exact f2')]
def guaV:List Value:= [.int .i64 1,.func (.func 244) #[] #[],.func (.func 248) #[] #[],.int .i64 2,.func (.func 248) #[] #[],.func (.func 248) #[] #[],.int .i64 4,.func (.func 244) #[] #[],.func (.func 244) #[] #[],.int .i64 8,.func (.func 248) #[] #[],.func (.func 244) #[] #[]]
end Go.Proofs.YtcaijocpofcbdaaGreatDoor
set_option maxRecDepth 10000
namespace Go.Proofs
open Go Go.Ab
attribute [local irreducible] QR QV OE zcc aw zco za8 zav zah thn zez zdl jch zeb
open Go.H
theorem zls {h:Hist} (hc:q8 h=0):zb1 h=(upR h.ss.length).map fun s=>⟨s,ydg h.wants s,zk6 h s⟩:=if_pos hc
theorem zlt {h:Hist} (hc:q8 h≠0):zb1 h= []:=if_neg hc
def zzk (g:Nat→Grd) (k:Nat):List Grd:=(List.range k).map g
theorem yht (g:Nat→Grd) (k:Nat):zzk g (k+1)=zzk g k++ [g k]:=by rw [zzk,List.range_succ,List.map_append];rfl
theorem zzj (g:Nat→Grd) (k:Nat):(zzk g k).length=k:=by rw [zzk,oM,List.length_range]
def yln (h:Hist) (s:Nat):Grd:=⟨s,ydg h.wants s,haO h s⟩
theorem yf6 (h:Hist) (la:Lim 4611686018427387904 h) (W:List Res):x3 Tryz.prog 83 [.agg (x4 h)] W (fun r h'=>∃m,h'= .map m (j9 zbq (zbh iv (yb7 (h.wants))))::W∧r=mpv m):=by
 refine z6 Tryz.func83 rfl rfl rfl ?_
 have lW:=la.wants
 refine rn ?_;refine z7 rfl (w6 rfl rfl rfl fun b1=> ?_)
 refine rn ?_;refine z7 rfl (zaq (enc:=zbq) rfl fun bO=> ?_)
 refine rn ?_;refine za5 h.wants.length (fun _=>True) (fun k=>⟨[(10,iv k),(3,mpv bO),(8,zfp h.wants),(9,iv (h.wants.map zcm).length)],.map bO (j9 zbq (zbh iv (yb7 (h.wants.take k)))):: .box b1 28 (x4 h)::W,[]⟩) trivial es ?_
 intro k lk _
 refine rn ?_;refine z8 rfl (fun hc11=> ?_) (fun hc11=> ?_)
 ·have hk:=zdr hc11
  have rk:=zdp (f:=zcm) hk
  refine rn ?_;refine z7 rfl (x6 rfl fun b5=> ?_)
  refine rn ?_;refine z7 rfl (za0 (g:=iv) (enc:=zbq) (k:=h.wants[k].s) (v:=h.wants[k].bits) rfl rfl rfl ?_)
  refine rn ?_;exact ⟨hk,trivial,by rw [yk3 hk];exact eA⟩
 ·have qk:=zdx hc11 lk
  subst qk
  rw [List.take_length]
  refine rn ?_;exact k7 rfl (.trans (.perm (pt1 _ _ _) _) (.drop [_] _ _)) ⟨bO,rfl,rfl⟩
theorem yj3 (h:Hist) (hs:h.ss.length≤1000000) (g:Nat→Grd) (f:AV) (W:List Res) (hf:∀k,k < h.ss.length→y3 Tryz.prog f [iv (k:Nat)] W (fun r h'=>h'=W∧r= .agg (zjm (g k)))):x3 Tryz.prog 84 [.agg (x4 h),f] W (fun r h'=>∃v:SV,h'= .row v.v 3 81 ((zzk g h.ss.length).map zjm)::W∧r= .v v.v):=by
 refine z6 Tryz.func84 rfl rfl rfl ?_
 refine rn ?_;refine z7 rfl (w6 rfl rfl rfl fun b2=> ?_)
 refine rn ?_;refine zrv h.ss.length (fun k v=>⟨[(10,iv k),(5,.v v.v),(1,f),(9,iv (h.ss.map za7).length)],.row v.v 3 81 ((zzk g k).map zjm):: .box b2 28 (x4 h)::W,[]⟩) ⟨none,0,0⟩ (w9 (za1 3 81) es) ?_
 intro k v lk
 refine rn ?_;refine z8 rfl (fun hc11=> ?_) (fun hc11=> ?_)
 ·have hk:=zdr hc11
  have rk:=zdp (f:=za7) hk
  refine rn ?_;refine z7 rfl (w7 rfl rfl (y3.fr2 (hf k hk)) rfl ?_)
  rintro _ _ ⟨_,rfl,rfl,rfl⟩
  refine qv rfl rfl (u1 rfl rfl) ?_
  refine z7 rfl (j7 rfl rfl (by simp only [oM,zzj,List.length_cons,List.length_nil];omega) rfl (fun s18=> ?_) (fun r hr=>by rw [List.mem_singleton.1 hr];rfl))
  refine zal s18 fun sv hsv=> ?_
  subst hsv
  refine rn ?_;exact ⟨hk,sv,by rw [yht,List.map_append];exact eA⟩
 ·have qk:=zdx hc11 lk
  subst qk
  refine rn ?_;exact k7 rfl (.trans (.perm (pt1 _ _ _) _) (.drop [_] _ _)) ⟨v,rfl,rfl⟩
theorem ylx {h:Hist} (hc:q8 h=0):zzk (yln h) h.ss.length=zb1 h:=by
 rw [zls hc,zzk,upR,List.map_map]
 refine List.map_congr_left fun k hk=> ?_
 have hk':k < h.ss.length:=List.mem_range.1 hk
 rw [yln,yf1 (zwx hc (zm8.2 ⟨by omega,by omega⟩))];rfl
theorem yj0 (h:Hist) (la:Lim 4611686018427387904 h) (m b1 b5:Nat) (k:Nat):x3 Tryz.prog 85 [iv (k:Nat),pZ b1,pZ b5] (.box b5 141 [mpv m]:: .map m (j9 zbq (zbh iv (yb7 (h.wants)))):: .box b1 28 (x4 h):: .glob 0 117 x5:: .glob 3 148 y7:: .glob 5 276 y9:: .glob 6 279 y4:: .glob 2 197 v7:: []) (fun r h'=>h'= .box b5 141 [mpv m]:: .map m (j9 zbq (zbh iv (yb7 (h.wants)))):: .box b1 28 (x4 h):: .glob 0 117 x5:: .glob 3 148 y7:: .glob 5 276 y9:: .glob 6 279 y4:: .glob 2 197 v7:: []∧r= .agg (zjm (yln h k))):=by
 refine z6 Tryz.func85 rfl rfl rfl ?_
 refine rn ?_;refine z7 rfl (x6 rfl fun b4=> ?_)
 refine rn ?_;refine qv rfl rfl (y6 rfl rfl (y3.qt (y3.of_fun (yh8 h la k)) ((pt4 _ _ _ _ _ _).trans (.cons _ ((pt4 _ _ _ _ _ _).trans (.cons _ ((pt4 _ _ _ _ _ _).trans (.cons _ ((pt4 _ _ _ _ _ _).trans (.cons _ (pt4 _ _ _ _ _ _))))))))))) ?_
 refine q1 ?_;refine q1 ?_;refine q1 ?_;refine q1 ?_;refine q1 ?_;refine u3 (j8 ?_)
 refine x9 (y5 ?_)
 refine q1 ?_;refine q1 ?_;refine q1 ?_;refine qq rfl rfl (za9 (zbz (g:=iv) (enc:=zbq) (k:=((k:Nat):Int)) (0:Int) rfl rfl) (show iv _=iv (ydg h.wants k) from rfl)) ?_
 refine q1 ?_;refine qq rfl rfl (zac (out:= [iv k,iv (ydg h.wants k),iv (haO h k)]) rfl (by rfl)) ?_
 refine rn ?_;exact zea (.cons _ _ _ _ (.agg _ _ _ _ _ _ _ rfl inferInstance inferInstance inferInstance rfl) .nil) (.drop [_] _ _) ⟨rfl,rfl⟩
theorem ybf (h:Hist) (la:Lim 4611686018427387904 h):x3 Tryz.prog 33 [.agg (x4 h)] (.glob 0 117 x5:: .glob 3 148 y7:: .glob 5 276 y9:: .glob 6 279 y4:: .glob 2 197 v7:: []) (fun r h'=>∃v:SV,h'= .row v.v 3 81 ((zb1 h).map zjm):: .glob 0 117 x5:: .glob 3 148 y7:: .glob 5 276 y9:: .glob 6 279 y4:: .glob 2 197 v7:: []∧r= .tup [.v v.v,iv (q8 h)]):=by
 refine z6 Tryz.func33 rfl rfl rfl ?_
 refine rn ?_;refine z7 rfl (w6 rfl rfl rfl fun b1=> ?_)
 refine rn ?_;refine qv rfl rfl (y6 rfl rfl (y3.qt (y3.of_fun (zrc h la)) ((pt2 _ _ _ _).trans (.cons _ ((pt2 _ _ _ _).trans (.cons _ ((pt2 _ _ _ _).trans (.cons _ (pt2 _ _ _ _))))))))) ?_
 refine rn ?_;refine z8 rfl (fun hc9=> ?_) (fun hc9=> ?_)
 ·have hc:q8 h≠0:=nzT hc9
  refine rn ?_;exact zbo rfl rfl (.trans (.drop [_] _ _) (k9 3 81 _)) ⟨⟨none,0,0⟩,by rw [zlt hc];rfl,rfl⟩
 ·have hc:q8 h=0:=nzF hc9
  have lS:=(zd9 hc).ss
  refine rn ?_;refine z7 rfl (w7 rfl rfl (y3.of_fun (yf6 h la _)) rfl ?_)
  rintro _ _ ⟨m,rfl,rfl⟩
  refine z7 rfl (x6 rfl fun b5=> ?_)
  refine rn ?_;refine z7 rfl (w7 rfl rfl (y3.of_fun (yj3 h (by omega) (yln h) (.fn (.func 85) [] [pZ b1,pZ b5]) _ (fun k hk=>y3.of_acall (fs:= []) (cs:= [pZ b1,pZ b5]) (yj0 h la m b1 b5 k)))) rfl ?_)
  rintro _ _ ⟨v,rfl,rfl⟩
  refine rn ?_;exact zbo rfl rfl (.trans (.perm ((pt1 _ _ _).trans (.cons _ ((pt1 _ _ _).trans (.cons _ (pt1 _ _ _))))) _) (.drop [_,_,_] _ _)) ⟨v,by rw [ylx hc],by rw [hc];rfl⟩
theorem zh9 (h:Hist) (la:Lim 4611686018427387904 h):x3 Tryz.prog 33 [.agg (x4 h)] (.glob 0 117 x5:: .glob 3 148 y7:: .glob 5 276 y9:: .glob 6 279 y4:: .glob 2 197 v7:: []) (fun r h'=>h'= .glob 0 117 x5:: .glob 3 148 y7:: .glob 5 276 y9:: .glob 6 279 y4:: .glob 2 197 v7:: []∧r= .tup [zct (zb1 h),iv (q8 h)]):=(ybf h la).ventR (by rintro _ _ ⟨v,rfl,rfl⟩;exact ⟨_,_,zag [] [_],rfl,rfl⟩)
def lkJ (L:List Grd) (g:Grd) (i j:Nat):List (Int×Int):=zbk (L.take i)++((((List.range j).map zdz).filter (zhn g)).map fun b=>(g.s,b))
theorem yje (L:List Grd) (g:Grd) (i:Nat):lkJ L g i 0=zbk (L.take i):=by simp [lkJ]
theorem yaz {L:List Grd} {g:Grd} {i j:Nat} (hb:zhn g (zdz j)=true):lkJ L g i (j+1)=lkJ L g i j++ [(g.s,zdz j)]:=by
 rw [lkJ,lkJ,List.range_succ,List.map_append,List.filter_append,List.map_append,←List.append_assoc]
 simp [hb]
theorem yfk {L:List Grd} {g:Grd} {i j:Nat} (hb:zhn g (zdz j)=false):lkJ L g i (j+1)=lkJ L g i j:=by
 rw [lkJ,lkJ,List.range_succ,List.map_append,List.filter_append,List.map_append,←List.append_assoc]
 simp [hb]
theorem yfl {L:List Grd} {i:Nat} (hi:i < L.length):lkJ L L[i] i 4=zbk (L.take (i+1)):=by
 rw [lkJ,zbk,zbk,List.take_succ_eq_append_getElem hi,List.flatMap_append]
 simp only [List.flatMap_cons,List.flatMap_nil,List.append_nil]
 rfl
theorem zwv (L:List Grd) (g:Grd) (i:Nat):∀k j,∃r,lkJ L g i (j+k)=lkJ L g i j++r
 |0,j=>⟨[],by simp⟩
 |k+1,j=>by
  obtain ⟨r,hr⟩:=zwv L g i k j
  cases hb:zhn g (zdz (j+k)) with
  |true=>exact ⟨r++ [(g.s,zdz (j+k))],by rw [←Nat.add_assoc,yaz hb,hr,List.append_assoc]⟩
  |false=>exact ⟨r,by rw [←Nat.add_assoc,yfk hb,hr]⟩
theorem yjc {L:List Grd} {i j:Nat} (hi:i < L.length) (hj:j < 4) (hb:zhn L[i] (zdz j)=true):∃rest,zbk L=lkJ L L[i] i j++(L[i].s,zdz j)::rest:=by
 obtain ⟨r,hr⟩:=zwv L L[i] i (3 - j) (j+1)
 rw [show j+1+(3 - j)=4 by omega,yfl hi,yaz hb] at hr
 refine ⟨r++zbk (L.drop (i+1)),?_⟩
 have e:zbk L=zbk (L.take (i+1))++zbk (L.drop (i+1)):=by
  rw [zbk,zbk,zbk,←List.flatMap_append,List.take_append_drop]
 rw [e,hr];simp
def riO (h:Hist):Bool:=decide (q8 h=0) && decide (zbk (zb1 h)= [])
theorem yma {h:Hist} (hc:q8 h≠0):riO h=false:=by rw [riO,decide_eq_false hc,Bool.false_and]
theorem zz4 {h:Hist} (hc:q8 h=0):riO h=decide (zbk (zb1 h)= []):=by rw [riO,decide_eq_true hc,Bool.true_and]
theorem tab_len (h:Hist):(zb1 h).length≤3000:=by
 by_cases hc:q8 h=0
 ·rw [zls hc,oM,upR,oM,List.length_range];exact (zd9 hc).ss
 ·rw [zlt hc];exact Nat.zero_le _
theorem yaw {d:Int×Int} {pre rest l:List (Int×Int)} (hL:l=pre++d::rest) (h:pre= []):l=d::rest:=by rw [hL,h];rfl
theorem zxl (L:List Grd) (W:List Res):x3 Tryz.prog 86 [zct L] W (fun r h'=>∃bl,h'= .box bl 70 [zct L]::W∧r= .fn (.func 125) [] [pZ bl]):=by
 refine z6 Tryz.func86 rfl rfl rfl ?_
 refine rn ?_;refine z7 rfl (w6 rfl rfl rfl fun b1=> ?_)
 refine rn ?_;exact k7 rfl (.refl _ _) ⟨_,rfl,rfl⟩
theorem zxk (L:List Grd) (hL:L.length≤1000000) (y:AV) (bl:Nat) {σ:Type} (p:List (Int×Int)→σ→Prop) (q:σ→Prop) (I:List (Int×Int)→σ→List Res) (X:σ→List Res) (x0:σ) (hp0:p [] x0) (hy:∀pre d rest x,(zbk L)=pre++d::rest→p pre x→y3 Tryz.prog y [iv d.1,iv d.2] (.box bl 70 [zct L]::I pre x) (fun r h'=>∃x',(r=bv true∧p (pre++ [d]) x'∧h'= .box bl 70 [zct L]::I (pre++ [d]) x')∨(r=bv false∧q x'∧h'= .box bl 70 [zct L]::X x'))):x3 Tryz.prog 125 [y,pZ bl] (.box bl 70 [zct L]::I [] x0) (fun r h'=>∃x,(p (zbk L) x∧h'= .box bl 70 [zct L]::I (zbk L) x)∨(q x∧h'= .box bl 70 [zct L]::X x)):=by
 refine z6 Tryz.func125 rfl rfl rfl ?_
 refine rn ?_;refine zer L.length (fun i (x:σ)=>p (zbk (L.take i)) x) (fun i x=>⟨[(9,iv i),(0,y),(7,zct L),(8,iv (L.map zjm).length)],.box bl 70 [zct L]::I (zbk (L.take i)) x,[]⟩) x0 hp0 es ?_
 intro i x li zi
 refine rn ?_;refine z8 rfl (fun hc10=> ?_) (fun hc10=> ?_)
 ·have hi:=zdr hc10
  have ri:=zdp (f:=zjm) hi
  refine rn ?_;refine z7 rfl (x6 rfl fun b4=> ?_)
  refine rn ?_;refine zer 4 (fun j (x:σ)=>p (lkJ L L[i] i j) x) (fun j x=>⟨[(13,iv j),(0,y),(4,pZ b4),(7,zct L),(8,iv (L.map zjm).length),(9,iv i)],.box b4 81 (zjm L[i]):: .box bl 70 [zct L]::I (lkJ L L[i] i j) x,[]⟩) x (by rw [yje];exact zi) (by rw [yje];exact eA) ?_
  intro j x lj zj
  refine rn ?_;refine z8 rfl (fun hc14=> ?_) (fun hc14=> ?_)
  ·have hj:j < 4:=by have q:=oT hc14;omega
   refine zab ?_;refine j8 ?_;refine x9 ?_;refine zad ?_;refine x9 (y5 ?_)
   refine q1 ?_;refine q1 ?_;refine u3 (j8 ?_)
   refine x9 (y5 ?_)
   refine q1 ?_;refine qq rfl rfl (ze5 (c:=zdz j) rfl rfl (yh5 hj) (Int.natCast_nonneg _)) ?_
   refine rn ?_;refine q9 (fun hg7_8=> ?_) (fun hg7_8=> ?_)
   ·refine q1 ?_;refine q1 ?_;refine q1 ?_;refine q1 ?_;have hb:zhn L[i] (zdz j)=true:=hg7_8
    obtain ⟨rest,hL2⟩:=yjc hi hj hb
    refine z7 rfl (w7 rfl rfl (y3.fr1 (hy (lkJ L L[i] i j) _ rest x hL2 zj)) rfl ?_)
    rintro _ _ ⟨_,rfl,x',⟨rfl,hp',rfl⟩|⟨rfl,hq',rfl⟩⟩
    ·refine rn ?_;refine z8 rfl (fun hc33=> ?_) (fun hc33=> ?_)
     ·first|cases hc33|exact absurd hc33 (by decide)|(exfalso;simp_all;done)
     ·refine rn ?_;exact ⟨hj,x',by rw [yaz hb];exact hp',by rw [yaz hb];exact eA⟩
    ·refine rn ?_;refine z8 rfl (fun hc33=> ?_) (fun hc33=> ?_)
     ·refine rn ?_;exact zea .nil (.drop [_] _ _) ⟨x',.inr ⟨hq',rfl⟩⟩
     ·first|cases hc33|exact absurd hc33 (by decide)|(exfalso;simp_all;done)
   ·refine rn ?_;refine zpv rfl ?_;refine rn ?_;have hb:zhn L[i] (zdz j)=false:=hg7_8
    exact ⟨hj,x,by rw [yfk hb];exact zj,by rw [yfk hb];exact eA⟩
  ·obtain rfl:j=4:=by have q:=oF hc14;omega
   refine rn ?_;exact ⟨hi,x,by rw [←yfl hi];exact zj,by rw [←yfl hi];exact eA⟩
 ·have qi:=zdx hc10 li
  subst qi
  rw [List.take_length] at zi ⊢
  refine rn ?_;exact zd1 .nil (.refl _ _) ⟨x,.inl ⟨zi,rfl⟩⟩
theorem zxj (h:Hist) (la:Lim 4611686018427387904 h):x3 Tryz.prog 34 [.agg (x4 h)] (.glob 0 117 x5:: .glob 3 148 y7:: .glob 5 276 y9:: .glob 6 279 y4:: .glob 2 197 v7:: []) (fun r h'=>h'= .glob 0 117 x5:: .glob 3 148 y7:: .glob 5 276 y9:: .glob 6 279 y4:: .glob 2 197 v7:: []∧r= .tup [bv (riO h),iv (q8 h)]):=by
 refine z6 Tryz.func34 rfl rfl rfl ?_
 refine rn ?_;refine z7 rfl (w6 rfl rfl rfl fun b1=> ?_)
 refine rn ?_;refine zhv ?_;refine rn ?_;refine qv rfl rfl (y6 rfl rfl (y3.qt (y3.of_fun (zh9 h la)) ((pt1 _ _ _).trans (.cons _ ((pt1 _ _ _).trans (.cons _ ((pt1 _ _ _).trans (.cons _ ((pt1 _ _ _).trans (.cons _ (pt1 _ _ _))))))))))) ?_
 refine rn ?_;refine z8 rfl (fun hc13=> ?_) (fun hc13=> ?_)
 ·have hc:q8 h≠0:=nzT hc13
  refine rn ?_;refine ⟨fun l h=>(by cases h),?_⟩
  exact zbo rfl rfl (.drop [_] _ _) ⟨rfl,by rw [yma hc];rfl⟩
 ·have hc:q8 h=0:=nzF hc13
  refine rn ?_;refine z7 rfl (x6 rfl fun b6=> ?_)
  refine rn ?_;refine z7 rfl (w7 rfl rfl (y3.of_fun (zxl (zb1 h) _)) rfl ?_)
  rintro _ _ ⟨bl,rfl,rfl⟩
  refine rn ?_;refine zli (fun pend h''=>(pend=none∧(zbk (zb1 h))= []∧h''= .box bl 70 [zct (zb1 h)]:: .box b6 4 [bv true]:: .box b1 28 (x4 h):: .glob 0 117 x5:: .glob 3 148 y7:: .glob 5 276 y9:: .glob 6 279 y4:: .glob 2 197 v7:: [])∨(pend=some (.exit 0)∧(∃d rest,(zbk (zb1 h))=d::rest)∧h''= .box bl 70 [zct (zb1 h)]:: .box b6 4 [bv false]:: .box b1 28 (x4 h):: .glob 0 117 x5:: .glob 3 148 y7:: .glob 5 276 y9:: .glob 6 279 y4:: .glob 2 197 v7:: [])) rfl (fun fn l q lp hlp=> ?_) (fun q h'' hK=> ?_) (fun q h'' cc hK=> ?_)
  ·suffices hy:∀pre d rest (x:Unit),(zbk (zb1 h))=pre++d::rest→pre= []→y3 Tryz.prog (yv l) [iv d.1,iv d.2] (.box bl 70 [zct (zb1 h)]::lp .ready none:: .defs q:: .box b6 4 [bv true]:: .box b1 28 (x4 h):: .glob 0 117 x5:: .glob 3 148 y7:: .glob 5 276 y9:: .glob 6 279 y4:: .glob 2 197 v7:: []) (fun r h'=>∃x':Unit,(r=bv true∧pre++ [d]= []∧h'= .box bl 70 [zct (zb1 h)]::lp .ready none:: .defs q:: .box b6 4 [bv true]:: .box b1 28 (x4 h):: .glob 0 117 x5:: .glob 3 148 y7:: .glob 5 276 y9:: .glob 6 279 y4:: .glob 2 197 v7:: [])∨(r=bv false∧(∃d rest,(zbk (zb1 h))=d::rest)∧h'= .box bl 70 [zct (zb1 h)]::lp .done (some (.exit 0)):: .defs q:: .box b6 4 [bv false]:: .box b1 28 (x4 h):: .glob 0 117 x5:: .glob 3 148 y7:: .glob 5 276 y9:: .glob 6 279 y4:: .glob 2 197 v7:: [])) by
    refine x3.mono (x3.perm (pt2 _ _ _ _) (zxk (zb1 h) (by have:=tab_len h;omega) (yv l) bl (fun pre _=>pre= []) (fun _=>∃d rest,(zbk (zb1 h))=d::rest) (fun _ _=>lp .ready none:: .defs q:: .box b6 4 [bv true]:: .box b1 28 (x4 h):: .glob 0 117 x5:: .glob 3 148 y7:: .glob 5 276 y9:: .glob 6 279 y4:: .glob 2 197 v7:: []) (fun _=>lp .done (some (.exit 0)):: .defs q:: .box b6 4 [bv false]:: .box b1 28 (x4 h):: .glob 0 117 x5:: .glob 3 148 y7:: .glob 5 276 y9:: .glob 6 279 y4:: .glob 2 197 v7:: []) () rfl hy)) ?_
    rintro _ _ ⟨x,⟨hn,rfl⟩|⟨hn,rfl⟩⟩
    ·exact ⟨none,.ready,_,((pt1 _ _ _).trans (.cons _ (pt1 _ _ _))),by simp,.inl ⟨rfl,hn,rfl⟩⟩
    ·exact ⟨some (.exit 0),.done,_,((pt1 _ _ _).trans (.cons _ (pt1 _ _ _))),by simp,.inr ⟨rfl,hn,rfl⟩⟩
   intro pre d rest x hL hpre
   refine y3.perm (pt1 _ _ _) (y3.ventE ?_)
   refine zdn hlp rfl rfl ?_
   refine rn ?_;refine ⟨[(6,pZ b6)],.box bl 70 [zct (zb1 h)]:: .defs q:: .box b6 4 [bv true]:: .box b1 28 (x4 h):: .glob 0 117 x5:: .glob 3 148 y7:: .glob 5 276 y9:: .glob 6 279 y4:: .glob 2 197 v7:: [],eA,?_⟩
   refine rn ?_;exact zj7 (.refl _) ⟨_,_,.perm (pt1 _ _ _) _,(),.inr ⟨rfl,⟨d,rest,yaw hL hpre⟩,rfl⟩⟩
  ·obtain ⟨_,hn,rfl⟩|⟨hc',_⟩:=hK
   rotate_left
   ·cases hc'
   refine rn ?_;refine ⟨fun l h=>(by cases h),?_⟩
   exact zgk (.refl _) (.cons _ _ _ _ (.tmp _ _ rfl) (.cons _ _ _ _ (.tmp _ _ rfl) .nil)) (.drop [_,_,_] _ _) ⟨rfl,by rw [zz4 hc,hn,hc];rfl⟩
  ·obtain ⟨hc',_⟩|⟨hc',⟨d,rest,hn⟩,rfl⟩:=hK
   ·cases hc'
   obtain rfl:cc= .exit 0:=by simpa using hc'
   refine rn ?_;refine ⟨fun l h=>(by cases h),?_⟩
   exact zgk (.refl _) (.cons _ _ _ _ (.tmp _ _ rfl) (.cons _ _ _ _ (.tmp _ _ rfl) .nil)) (.drop [_,_,_] _ _) ⟨rfl,by rw [zz4 hc,hn,hc];rfl⟩
def zur (h:Hist) (d:Int×Int):Brch:=(seB h d.1 d.2).head?.getD br0
theorem ya5 (L:List Grd):(zbk L).length≤4 * L.length:=by
 induction L with
 |nil=>simp [zbk]
 |cons g L ih=>
  have h1:zbk (g::L)=((znr.filter (zhn g)).map fun b=>(g.s,b))++zbk L:=rfl
  have h2:(znr.filter (zhn g)).length≤4:=List.length_filter_le _ _
  rw [h1,List.length_append,oM,List.length_cons];omega
set_option maxHeartbeats 8000000 in
theorem ybj (h:Hist) (la:Lim 4611686018427387904 h):x3 Tryz.prog 35 [.agg (x4 h)] (.glob 0 117 x5:: .glob 3 148 y7:: .glob 5 276 y9:: .glob 6 279 y4:: .glob 2 197 v7:: []) (fun r h'=>∃v w:SV,h'= .row v.v 6 36 ((((zbk (zb1 h))).map (zur h)).map zc6):: .row w.v 1 3 ((((zbk (zb1 h))).map Prod.fst).map zba):: .glob 0 117 x5:: .glob 3 148 y7:: .glob 5 276 y9:: .glob 6 279 y4:: .glob 2 197 v7:: []∧r= .tup [.v v.v,.v w.v,iv (q8 h)]):=by
 refine z6 Tryz.func35 rfl rfl rfl ?_
 refine rn ?_;refine z7 rfl (w6 rfl rfl rfl fun b1=> ?_)
 refine rn ?_;refine qv rfl rfl (y6 rfl rfl (y3.qt (y3.of_fun (zh9 h la)) ((pt1 _ _ _).trans (.cons _ ((pt1 _ _ _).trans (.cons _ ((pt1 _ _ _).trans (.cons _ ((pt1 _ _ _).trans (.cons _ (pt1 _ _ _))))))))))) ?_
 refine rn ?_;refine z8 rfl (fun hc20=> ?_) (fun hc20=> ?_)
 ·have hc:q8 h≠0:=nzT hc20
  refine rn ?_;exact zea (.cons _ _ _ _ (.tmp _ _ rfl) (.cons _ _ _ _ (.tmp _ _ rfl) (.cons _ _ _ _ (.tmp _ _ rfl) .nil))) (.trans (.drop [_] _ _) (.trans (k9 1 3 _) (k9 6 36 _))) ⟨⟨none,0,0⟩,⟨none,0,0⟩,by rw [zlt hc];rfl,rfl⟩
 ·have hc:q8 h=0:=nzF hc20
  refine rn ?_;refine z7 rfl (x6 rfl fun b7=> ?_)
  refine rn ?_;refine z7 rfl (x6 rfl fun b8=> ?_)
  refine rn ?_;refine z7 rfl (w7 rfl rfl (y3.of_fun (zxl (zb1 h) _)) rfl ?_)
  rintro _ _ ⟨bl,rfl,rfl⟩
  refine rn ?_;refine zix (s':=⟨[(23,.fn (.func 125) [] [pZ bl]),(1,pZ b1),(7,pZ b7),(8,pZ b8)],.row (⟨none,0,0⟩:SV).v 6 36 (((([]:List (Int×Int))).map (zur h)).map zc6):: .row (⟨none,0,0⟩:SV).v 1 3 (((([]:List (Int×Int))).map Prod.fst).map zba):: .box bl 70 [zct (zb1 h)]:: .box b8 54 [.v (⟨none,0,0⟩:SV).v]:: .box b7 44 [.v (⟨none,0,0⟩:SV).v]:: .box b1 28 (x4 h):: .glob 0 117 x5:: .glob 3 148 y7:: .glob 5 276 y9:: .glob 6 279 y4:: .glob 2 197 v7:: [],[]⟩) (w9 (za1 1 3) (w9 (za1 6 36) es)) ?_
  refine zli (fun pend h''=>pend=none∧∃v w:SV,h''= .box bl 70 [zct (zb1 h)]:: .row v.v 6 36 ((((zbk (zb1 h))).map (zur h)).map zc6):: .row w.v 1 3 ((((zbk (zb1 h))).map Prod.fst).map zba):: .box b8 54 [.v w.v]:: .box b7 44 [.v v.v]:: .box b1 28 (x4 h):: .glob 0 117 x5:: .glob 3 148 y7:: .glob 5 276 y9:: .glob 6 279 y4:: .glob 2 197 v7:: []) rfl (fun fn l q lp hlp=> ?_) (fun q h'' hK=> ?_) (fun q h'' cc hK=> ?_)
  ·suffices hy:∀pre d rest (z:SV×SV),(zbk (zb1 h))=pre++d::rest→True→y3 Tryz.prog (yv l) [iv d.1,iv d.2] (.box bl 70 [zct (zb1 h)]::lp .ready none:: .defs q:: .row z.1.v 6 36 (((pre).map (zur h)).map zc6):: .row z.2.v 1 3 (((pre).map Prod.fst).map zba):: .box b8 54 [.v z.2.v]:: .box b7 44 [.v z.1.v]:: .box b1 28 (x4 h):: .glob 0 117 x5:: .glob 3 148 y7:: .glob 5 276 y9:: .glob 6 279 y4:: .glob 2 197 v7:: []) (fun r h'=>∃z':SV×SV,(r=bv true∧True∧h'= .box bl 70 [zct (zb1 h)]::lp .ready none:: .defs q:: .row z'.1.v 6 36 (((pre++ [d]).map (zur h)).map zc6):: .row z'.2.v 1 3 (((pre++ [d]).map Prod.fst).map zba):: .box b8 54 [.v z'.2.v]:: .box b7 44 [.v z'.1.v]:: .box b1 28 (x4 h):: .glob 0 117 x5:: .glob 3 148 y7:: .glob 5 276 y9:: .glob 6 279 y4:: .glob 2 197 v7:: [])∨(r=bv false∧False∧h'= .box bl 70 [zct (zb1 h)]:: [])) by
    refine x3.mono (x3.perm (pt4 _ _ _ _ _ _) (zxk (zb1 h) (by have:=tab_len h;omega) (yv l) bl (fun _ (_:SV×SV)=>True) (fun _=>False) (fun pre (z:SV×SV)=>lp .ready none:: .defs q:: .row z.1.v 6 36 (((pre).map (zur h)).map zc6):: .row z.2.v 1 3 (((pre).map Prod.fst).map zba):: .box b8 54 [.v z.2.v]:: .box b7 44 [.v z.1.v]:: .box b1 28 (x4 h):: .glob 0 117 x5:: .glob 3 148 y7:: .glob 5 276 y9:: .glob 6 279 y4:: .glob 2 197 v7:: []) (fun _=> []) (⟨none,0,0⟩,⟨none,0,0⟩) trivial hy)) ?_
    rintro _ _ ⟨z,⟨-,rfl⟩|⟨hF,_⟩⟩
    ·exact ⟨none,.ready,_,((pt1 _ _ _).trans (.cons _ (pt1 _ _ _))),by simp,rfl,z.1,z.2,rfl⟩
    ·exact hF.elim
   rintro pre d rest ⟨vB,vI⟩ hL _
   show y3 _ _ _ (.box bl 70 [zct (zb1 h)]::lp .ready none:: .defs q:: .row vB.v 6 36 (((pre).map (zur h)).map zc6):: .row vI.v 1 3 (((pre).map Prod.fst).map zba):: .box b8 54 [.v vI.v]:: .box b7 44 [.v vB.v]:: .box b1 28 (x4 h):: .glob 0 117 x5:: .glob 3 148 y7:: .glob 5 276 y9:: .glob 6 279 y4:: .glob 2 197 v7:: []) _
   have hpl:pre.length≤12000:=by
    have h1:=ya5 (zb1 h)
    have h2:=tab_len h
    rw [hL,List.length_append] at h1
    omega
   refine y3.perm (pt1 _ _ _) (y3.ventE ?_)
   refine zdn hlp rfl rfl ?_
   refine rn ?_;refine ⟨[(9,iv d.1),(10,iv d.2),(1,pZ b1),(7,pZ b7),(8,pZ b8)],.box bl 70 [zct (zb1 h)]:: .defs q:: .row vB.v 6 36 (((pre).map (zur h)).map zc6):: .row vI.v 1 3 (((pre).map Prod.fst).map zba):: .box b8 54 [.v vI.v]:: .box b7 44 [.v vB.v]:: .box b1 28 (x4 h):: .glob 0 117 x5:: .glob 3 148 y7:: .glob 5 276 y9:: .glob 6 279 y4:: .glob 2 197 v7:: [],eA,?_⟩
   refine rn ?_;refine qv rfl rfl (y6 rfl rfl (y3.qt (y3.of_fun (zzx h la d.1 d.2)) ((pt8 _ _ _ _ _ _ _ _ _ _).trans (.cons _ ((pt8 _ _ _ _ _ _ _ _ _ _).trans (.cons _ ((pt8 _ _ _ _ _ _ _ _ _ _).trans (.cons _ ((pt8 _ _ _ _ _ _ _ _ _ _).trans (.cons _ (pt8 _ _ _ _ _ _ _ _ _ _))))))))))) ?_
   refine rn ?_;refine z7 rfl (x6 rfl fun b11=> ?_)
   refine rn ?_;refine ztp 7 (.box b11 36 (zc6 (zur h d))::lp .busy none:: .box bl 70 [zct (zb1 h)]:: .defs q:: .row vI.v 1 3 (((pre).map Prod.fst).map zba):: .box b8 54 [.v vI.v]:: .box b7 44 [.v vB.v]:: .box b1 28 (x4 h):: .glob 0 117 x5:: .glob 3 148 y7:: .glob 5 276 y9:: .glob 6 279 y4:: .glob 2 197 v7:: []) rfl ?_
   refine rn ?_;refine mv rfl rfl (u1 rfl rfl) ?_
   refine yol (xs:=((pre.map (zur h)).map zc6)) rfl rfl rfl rfl rfl rfl (by simp only [oM,List.length_cons,List.length_nil];omega) (fun r hr=>by rw [List.mem_singleton.1 hr];rfl) ?_
   refine rn ?_;refine mv rfl rfl (u1 rfl rfl) ?_
   refine yha ⟨(pt4 _ _ _ _ _ _),?_⟩
   refine rn ?_;refine zd4 fun s37=> ?_
   refine rn ?_;refine z7 rfl (j7 rfl rfl (by simp only [oM,List.length_cons,List.length_nil];omega) rfl (fun s41=> ?_) (fun r hr=>by rw [List.mem_singleton.1 hr];rfl))
   refine zal s41 fun sv hsv=> ?_
   subst hsv
   refine rn ?_;exact zgw (pt2 _ _ _ _) ⟨_,_,.trans (.perm ((pt2 _ _ _ _).trans (.cons _ ((pt2 _ _ _ _).trans (.cons _ (.cons _ (pt1 _ _ _)))))) _) (.drop [_] _ _),(s37,sv),.inl ⟨rfl,trivial,by simp only [List.map_append];rfl⟩⟩
  ·obtain ⟨_,v,w,rfl⟩:=hK
   refine rn ?_;refine j5 3 rfl ?_
   refine rn ?_;exact zgk (.refl _) (.cons _ _ _ _ (.tmp _ _ rfl) (.cons _ _ _ _ (.tmp _ _ rfl) (.cons _ _ _ _ (.tmp _ _ rfl) .nil))) (.trans (.perm (.cons _ ((pt2 _ _ _ _).trans (.cons _ ((pt2 _ _ _ _).trans (.cons _ (pt2 _ _ _ _)))))) _) (.drop [_,_,_,_] _ _)) ⟨v,w,rfl,by rw [hc];rfl⟩
  ·obtain ⟨hc',_⟩:=hK
   exact absurd hc' (by simp)
theorem yf5 (h:Hist) (la:Lim 4611686018427387904 h):x3 Tryz.prog 35 [.agg (x4 h)] (.glob 0 117 x5:: .glob 3 148 y7:: .glob 5 276 y9:: .glob 6 279 y4:: .glob 2 197 v7:: []) (fun r h'=>h'= .glob 0 117 x5:: .glob 3 148 y7:: .glob 5 276 y9:: .glob 6 279 y4:: .glob 2 197 v7:: []∧r= .tup [ydb ((zbk (zb1 h)).map (zur h)),zfy ((zbk (zb1 h)).map Prod.fst),iv (q8 h)]):=(ybj h la).ventR (by rintro _ _ ⟨v,w,rfl,rfl⟩;exact ⟨_,_,(zag [] [_,_]).trans (zag [_] [_]),rfl,rfl⟩)
set_option maxHeartbeats 8000000 in
theorem yj1 (h:Hist) (la:Lim 1000000 h):x3 Tryz.prog 90 [.agg (x4 h)] [] (fun r h'=>∃(n:NV) (o:SV×SV×SV) (E:List (SV×Ev)) (O:List (SV×H.Ord)) (M:List (SV×Mat)),E.map (·.2)=h.evs∧O.map (·.2)=h.ords∧M.map (·.2)=h.mats∧h'= .row n.vT.v 1 9 (h.ts.map za7):: .row n.vS.v 1 9 (h.ss.map za7):: .row n.vO.v 1 9 (h.os.map za7):: .row n.vP.v 1 9 (h.ps.map za7):: .row o.1.v 9 66 (E.map yc5):: .row o.2.1.v 2 99 (O.map zqw):: .row o.2.2.v 4 112 (M.map zuf)::(scR 139 E++(otR 3 O++mtR 3 M))∧r= .agg [.v n.vT.v,.v n.vS.v,.v n.vO.v,.v n.vP.v,.v o.1.v,.v o.2.1.v,.v o.2.2.v,zfp h.wants]):=by
 refine z6 Tryz.func90 rfl rfl rfl ?_
 refine rn ?_;refine z7 rfl (w6 rfl rfl rfl fun b1=> ?_)
 refine z7 rfl (x6 rfl fun b2=> ?_)
 refine rn0 ?_;refine zig (fun _:SV×SV×SV×SV=>True) (fun x=>⟨[(1,pZ b1),(2,pZ b2)],.box b2 28 zd5:: .box b1 28 [.v x.1.v,.v x.2.1.v,.v x.2.2.1.v,.v x.2.2.2.v,zrk h.evs,zqv h.ords,zq4 h.mats,zfp h.wants]:: .row x.1.v 1 9 (h.ts.map za7):: .row x.2.1.v 1 9 (h.ss.map za7):: .row x.2.2.1.v 1 9 (h.os.map za7):: .row x.2.2.2.v 1 9 (h.ps.map za7):: [],[]⟩) ?_ ?_
 ·refine zhw 13 rfl ?_
  refine rn ?_;refine zlg (zq1 1 9 (h.ts.map za7)) rfl rfl rfl (zgq (y3.of_fun (zd8 _ (by rw [oM];have:=la.ts;omega) (zke _)))) ?_
  refine rn ?_;refine zlg (zq1 1 9 (h.ss.map za7)) rfl rfl rfl (zgq (y3.of_fun (zd8 _ (by rw [oM];have:=la.ss;omega) (zke _)))) ?_
  refine rn ?_;refine zlg (zq1 1 9 (h.os.map za7)) rfl rfl rfl (zgq (y3.of_fun (zd8 _ (by rw [oM];have:=la.os;omega) (zke _)))) ?_
  refine rn ?_;refine zlg (zq1 1 9 (h.ps.map za7)) rfl rfl rfl (zgq (y3.of_fun (zd8 _ (by rw [oM];have:=la.ps;omega) (zke _)))) ?_
  refine rn ?_;refine yha ⟨.refl _,?_⟩
  refine rn ?_;refine zd4 fun s8=> ?_
  refine rn ?_;refine zd4 fun s11=> ?_
  refine rn ?_;refine zd4 fun s14=> ?_
  refine rn ?_;refine zd4 fun s17=> ?_
  refine rn ?_;exact ⟨(s8,s11,s14,s17),trivial,w9 (zak ((pt4 _ _ _ _ _ _).trans (.cons _ ((pt4 _ _ _ _ _ _).trans (.cons _ ((pt3 _ _ _ _ _).trans (.cons _ ((pt2 _ _ _ _).trans (.cons _ (pt1 _ _ _)))))))))) (x8 (.cons _ _ _ rfl (.cons _ _ _ rfl (.nil))))⟩
 ·rintro ⟨s8,s11,s14,s17⟩ _
  refine zig (fun _:SV×SV×SV=>True) (fun x=>⟨[(1,pZ b1),(2,pZ b2)],.box b2 28 zd5:: .box b1 28 [.v s8.v,.v s11.v,.v s14.v,.v s17.v,.v x.1.v,.v x.2.1.v,.v x.2.2.v,zfp h.wants]:: .row s8.v 1 9 (h.ts.map za7):: .row s11.v 1 9 (h.ss.map za7):: .row s14.v 1 9 (h.os.map za7):: .row s17.v 1 9 (h.ps.map za7):: .row x.1.v 9 66 (h.evs.map evR):: .row x.2.1.v 2 99 (h.ords.map zc7):: .row x.2.2.v 4 112 (h.mats.map zdc):: [],[]⟩) ?_ ?_
  ·refine zhw 10 rfl ?_
   refine rn ?_;refine zlg (zq1 9 66 (h.evs.map evR)) rfl rfl rfl (zgq (y3.of_fun (zu0 _ (by rw [oM];have:=la.evs;omega) (yi2 _)))) ?_
   refine rn ?_;refine zlg (zq1 2 99 (h.ords.map zc7)) rfl rfl rfl (zgq (y3.of_fun (zrs _ (by rw [oM];have:=la.ords;omega) (yfb _)))) ?_
   refine rn ?_;refine zlg (zq1 4 112 (h.mats.map zdc)) rfl rfl rfl (zgq (y3.of_fun (zrt _ (by rw [oM];have:=la.mats;omega) (yfc _)))) ?_
   refine rn ?_;refine yha ⟨.refl _,?_⟩
   refine rn ?_;refine zd4 fun s24=> ?_
   refine rn ?_;refine zd4 fun s27=> ?_
   refine rn ?_;refine zd4 fun s30=> ?_
   refine rn ?_;exact ⟨(s24,s27,s30),trivial,w9 (zak ((pt3 _ _ _ _ _).trans (.cons _ ((pt3 _ _ _ _ _).trans (.cons _ ((pt3 _ _ _ _ _).trans (.cons _ ((pt3 _ _ _ _ _).trans (.cons _ ((pt3 _ _ _ _ _).trans (.cons _ ((pt3 _ _ _ _ _).trans (.cons _ ((pt2 _ _ _ _).trans (.cons _ (pt1 _ _ _)))))))))))))))) (x8 (.cons _ _ _ rfl (.cons _ _ _ rfl (.nil))))⟩
  ·rintro ⟨s24,s27,s30⟩ _
   refine rn ?_;refine u9 (fun x:Nat×List (SV×Ev)=>x.1≤h.evs.length∧x.2.map (·.2)=h.evs.take x.1) (fun x=>⟨[(37,iv x.1),(36,iv (h.evs.map evR).length),(1,pZ b1),(2,pZ b2)],.box b2 28 zd5:: .box b1 28 [.v s8.v,.v s11.v,.v s14.v,.v s17.v,.v s24.v,.v s27.v,.v s30.v,zfp h.wants]:: .row s8.v 1 9 (h.ts.map za7):: .row s11.v 1 9 (h.ss.map za7):: .row s14.v 1 9 (h.os.map za7):: .row s17.v 1 9 (h.ps.map za7):: .row s24.v 9 66 (x.2.map yc5++(h.evs.drop x.1).map evR):: .row s27.v 2 99 (h.ords.map zc7):: .row s30.v 4 112 (h.mats.map zdc)::scR 139 x.2,[]⟩) (fun x=>h.evs.length - x.1) (0,[]) ⟨by omega,rfl⟩
    (x8 (.cons _ _ _ rfl (.cons _ _ _ rfl (.cons _ _ _ rfl (.cons _ _ _ rfl (.nil)))))) ?_
   rintro ⟨k,x⟩ ⟨hk,hx⟩
   simp only at hk hx
   have hxl:=zm0 hx hk
   refine rn ?_;refine z8 rfl (fun hc38=> ?_) (fun hc38=> ?_)
   ·have hk2:k < h.evs.length:=by have q:=oT hc38;rw [oM] at q;omega
    obtain ⟨e,he⟩:∃e,e=h.evs[k]:=⟨_,rfl⟩
    have hd:=List.drop_eq_getElem_cons hk2
    rw [←he] at hd
    have hrow:(x.map yc5++(h.evs.drop k).map evR)[k]? =some (evR e):=zm2 hxl hd
    have hmem:e∈h.evs:=by rw [he];exact List.getElem_mem hk2
    have hle:=la.evs
    have hk3:k < (x.map yc5++(h.evs.drop k).map evR).length:=by rw [zm1 hxl hk];exact hk2
    refine rn ?_;refine zhw 10 rfl ?_
    refine mq rfl rfl qrA ?_;refine mq rfl rfl qrA ?_;refine mq rfl rfl qrA ?_;refine mq rfl rfl qrA ?_;refine mq rfl rfl qrA ?_;refine mq rfl rfl qrA ?_;refine mq rfl rfl (w8 rfl rfl hk3) ?_
    refine mq rfl rfl qrA ?_;refine mq rfl rfl (zcf rfl hrow rfl) ?_
    refine zlg (zq1 3 139 (e.scan.map zaw)) rfl rfl rfl (zgq (y3.of_fun (zpn _ (by rw [oM];have:=(la.scans e hmem);omega) (yak _)))) ?_
    refine yha ⟨.refl _,?_⟩
    refine rn ?_;refine zd4 fun s49=> ?_
    refine rn2 ?_;refine qq rfl rfl (w8 rfl rfl hk3) ?_
    refine rn ?_;refine z7 rfl (zae rfl rfl rfl hrow rfl (Nat.le_of_ble_eq_true rfl) ?_)
    refine rn ?_;have hset:=zmz (f:=yc5) (g:=evR) (a:=(s49,e)) (r:=(evR e).take 8++ [.v s49.v]++(evR e).drop (8+1)) hxl hd rfl
    have htl:scR 139 (x++ [(s49,e)])=scR 139 x++ [.row s49.v 3 139 (e.scan.map zaw)]:=by simp [scR]
    exact ⟨(k+1,x++ [(s49,e)]),⟨by omega,zmy hx hk2 he⟩,by simp only [htl];exact w9 (zak (zcy [_] _)) (by rw [←hset];exact (x8 (.cons _ _ _ rfl (.cons _ _ _ rfl (.cons _ _ _ rfl (.cons _ _ _ rfl (.nil))))))),by simp only;omega⟩
   ·obtain rfl:k=h.evs.length:=by
     have q:=oF hc38
     rw [oM] at q
     omega
    rw [List.take_length] at hx
    obtain ⟨E,hE⟩:∃E,E=x:=⟨_,rfl⟩
    rw [←hE] at hx ⊢
    have hxE:=hx
    rw [List.drop_length,List.map_nil,List.append_nil]
    refine rn ?_;refine u9 (fun x:Nat×List (SV×H.Ord)=>x.1≤h.ords.length∧x.2.map (·.2)=h.ords.take x.1) (fun x=>⟨[(56,iv x.1),(55,iv (h.ords.map zc7).length),(1,pZ b1),(2,pZ b2)],.box b2 28 zd5:: .box b1 28 [.v s8.v,.v s11.v,.v s14.v,.v s17.v,.v s24.v,.v s27.v,.v s30.v,zfp h.wants]:: .row s8.v 1 9 (h.ts.map za7):: .row s11.v 1 9 (h.ss.map za7):: .row s14.v 1 9 (h.os.map za7):: .row s17.v 1 9 (h.ps.map za7):: .row s24.v 9 66 (E.map yc5):: .row s27.v 2 99 (x.2.map zqw++(h.ords.drop x.1).map zc7):: .row s30.v 4 112 (h.mats.map zdc)::(scR 139 E++otR 3 x.2),[]⟩) (fun x=>h.ords.length - x.1) (0,[]) ⟨by omega,rfl⟩
     (by simp only [otR,List.map_nil,List.append_nil];exact (x8 (.cons _ _ _ rfl (.cons _ _ _ rfl (.cons _ _ _ rfl (.cons _ _ _ rfl (.nil))))))) ?_
    rintro ⟨k,x⟩ ⟨hk,hx⟩
    simp only at hk hx
    have hxl:=zm0 hx hk
    refine rn ?_;refine z8 rfl (fun hc57=> ?_) (fun hc57=> ?_)
    ·have hk2:k < h.ords.length:=by have q:=oT hc57;rw [oM] at q;omega
     obtain ⟨e,he⟩:∃e,e=h.ords[k]:=⟨_,rfl⟩
     have hd:=List.drop_eq_getElem_cons hk2
     rw [←he] at hd
     have hrow:(x.map zqw++(h.ords.drop k).map zc7)[k]? =some (zc7 e):=zm2 hxl hd
     have hmem:e∈h.ords:=by rw [he];exact List.getElem_mem hk2
     have hle:=la.ords
     have hk3:k < (x.map zqw++(h.ords.drop k).map zc7).length:=by rw [zm1 hxl hk];exact hk2
     refine rn ?_;refine zhw 10 rfl ?_
     refine mq rfl rfl qrA ?_;refine mq rfl rfl qrA ?_;refine mq rfl rfl qrA ?_;refine mq rfl rfl qrA ?_;refine mq rfl rfl qrA ?_;refine mq rfl rfl qrA ?_;refine mq rfl rfl (w8 rfl rfl hk3) ?_
     refine mq rfl rfl qrA ?_;refine mq rfl rfl (zcf rfl hrow rfl) ?_
     refine zlg (zq1 1 3 (e.ts.map zba)) rfl rfl rfl (zgq (y3.of_fun (zfd _ (by rw [oM];have:=(la.ordts e hmem);omega) (zkf _)))) ?_
     refine yha ⟨.refl _,?_⟩
     refine rn ?_;refine zd4 fun s68=> ?_
     refine rn2 ?_;refine qq rfl rfl (w8 rfl rfl hk3) ?_
     refine rn ?_;refine z7 rfl (zae rfl rfl rfl hrow rfl (Nat.le_of_ble_eq_true rfl) ?_)
     refine rn ?_;have hset:=zmz (f:=zqw) (g:=zc7) (a:=(s68,e)) (r:=(zc7 e).take 1++ [.v s68.v]++(zc7 e).drop (1+1)) hxl hd rfl
     have htl:∀L:List Res,L++otR 3 (x++ [(s68,e)])=(L++otR 3 x)++ [.row s68.v 1 3 (e.ts.map zba)]:=by simp [otR]
     exact ⟨(k+1,x++ [(s68,e)]),⟨by omega,zmy hx hk2 he⟩,by simp only [htl];exact w9 (zak (zcy [_] _)) (by rw [←hset];exact (x8 (.cons _ _ _ rfl (.cons _ _ _ rfl (.cons _ _ _ rfl (.cons _ _ _ rfl (.nil))))))),by simp only;omega⟩
    ·obtain rfl:k=h.ords.length:=by
      have q:=oF hc57
      rw [oM] at q
      omega
     rw [List.take_length] at hx
     obtain ⟨O,hO⟩:∃O,O=x:=⟨_,rfl⟩
     rw [←hO] at hx ⊢
     have hxO:=hx
     rw [List.drop_length,List.map_nil,List.append_nil]
     refine rn ?_;refine u9 (fun x:Nat×List (SV×Mat)=>x.1≤h.mats.length∧x.2.map (·.2)=h.mats.take x.1) (fun x=>⟨[(75,iv x.1),(74,iv (h.mats.map zdc).length),(1,pZ b1),(2,pZ b2)],.box b2 28 zd5:: .box b1 28 [.v s8.v,.v s11.v,.v s14.v,.v s17.v,.v s24.v,.v s27.v,.v s30.v,zfp h.wants]:: .row s8.v 1 9 (h.ts.map za7):: .row s11.v 1 9 (h.ss.map za7):: .row s14.v 1 9 (h.os.map za7):: .row s17.v 1 9 (h.ps.map za7):: .row s24.v 9 66 (E.map yc5):: .row s27.v 2 99 (O.map zqw):: .row s30.v 4 112 (x.2.map zuf++(h.mats.drop x.1).map zdc)::(scR 139 E++(otR 3 O++mtR 3 x.2)),[]⟩) (fun x=>h.mats.length - x.1) (0,[]) ⟨by omega,rfl⟩
      (by simp only [mtR,List.map_nil,List.append_nil];exact (x8 (.cons _ _ _ rfl (.cons _ _ _ rfl (.cons _ _ _ rfl (.cons _ _ _ rfl (.nil))))))) ?_
     rintro ⟨k,x⟩ ⟨hk,hx⟩
     simp only at hk hx
     have hxl:=zm0 hx hk
     refine rn ?_;refine z8 rfl (fun hc76=> ?_) (fun hc76=> ?_)
     ·have hk2:k < h.mats.length:=by have q:=oT hc76;rw [oM] at q;omega
      obtain ⟨e,he⟩:∃e,e=h.mats[k]:=⟨_,rfl⟩
      have hd:=List.drop_eq_getElem_cons hk2
      rw [←he] at hd
      have hrow:(x.map zuf++(h.mats.drop k).map zdc)[k]? =some (zdc e):=zm2 hxl hd
      have hmem:e∈h.mats:=by rw [he];exact List.getElem_mem hk2
      have hle:=la.mats
      have hk3:k < (x.map zuf++(h.mats.drop k).map zdc).length:=by rw [zm1 hxl hk];exact hk2
      refine rn ?_;refine zhw 10 rfl ?_
      refine mq rfl rfl qrA ?_;refine mq rfl rfl qrA ?_;refine mq rfl rfl qrA ?_;refine mq rfl rfl qrA ?_;refine mq rfl rfl qrA ?_;refine mq rfl rfl qrA ?_;refine mq rfl rfl (w8 rfl rfl hk3) ?_
      refine mq rfl rfl qrA ?_;refine mq rfl rfl (zcf rfl hrow rfl) ?_
      refine zlg (zq1 1 3 (e.ts.map zba)) rfl rfl rfl (zgq (y3.of_fun (zfd _ (by rw [oM];have:=(la.matts e hmem);omega) (zkf _)))) ?_
      refine yha ⟨.refl _,?_⟩
      refine rn ?_;refine zd4 fun s87=> ?_
      refine rn2 ?_;refine qq rfl rfl (w8 rfl rfl hk3) ?_
      refine rn ?_;refine z7 rfl (zae rfl rfl rfl hrow rfl (Nat.le_of_ble_eq_true rfl) ?_)
      refine rn ?_;have hset:=zmz (f:=zuf) (g:=zdc) (a:=(s87,e)) (r:=(zdc e).take 3++ [.v s87.v]++(zdc e).drop (3+1)) hxl hd rfl
      have htl:∀L L2:List Res,L++(L2++mtR 3 (x++ [(s87,e)]))=(L++(L2++mtR 3 x))++ [.row s87.v 1 3 (e.ts.map zba)]:=by simp [mtR]
      exact ⟨(k+1,x++ [(s87,e)]),⟨by omega,zmy hx hk2 he⟩,by simp only [htl];exact w9 (zak (zcy [_] _)) (by rw [←hset];exact (x8 (.cons _ _ _ rfl (.cons _ _ _ rfl (.cons _ _ _ rfl (.cons _ _ _ rfl (.nil))))))),by simp only;omega⟩
     ·obtain rfl:k=h.mats.length:=by
       have q:=oF hc76
       rw [oM] at q
       omega
      rw [List.take_length] at hx
      obtain ⟨M,hM⟩:∃M,M=x:=⟨_,rfl⟩
      rw [←hM] at hx ⊢
      have hxM:=hx
      rw [List.drop_length,List.map_nil,List.append_nil]
      refine rn ?_;exact zea (.cons _ _ _ _ (.agg _ _ _ _ _ _ _ rfl inferInstance inferInstance inferInstance rfl) .nil) (.drop [_,_] _ _) ⟨⟨s8,s11,s14,s17⟩,⟨s24,s27,s30⟩,E,O,M,hxE,hxO,hxM,rfl,rfl⟩
theorem yj2 (h:Hist) (la:Lim 1000000 h):x3 Tryz.prog 90 [.agg (x4 h)] [] (fun r h'=>h'= []∧r= .agg (x4 h)):=
 (yj1 h la).ventR (by
  rintro _ _ ⟨n,o,E,O,M,hE,hO,hM,rfl,rfl⟩
  exact ⟨_,_,zqu [] n o.1.v o.2.1.v o.2.2.v h E O M 9 66 99 112 139 3 _ hE hO hM (by simp) (by simp) (by simp) (by simp) (by simp) (by simp) (by simp) (fun r hr=>by simp [hr]) (fun r hr=>by simp [hr]) (fun r hr=>by simp [hr]),rfl,rfl⟩)
theorem ydt (l:List Wan):∀r∈l.map zcm,r.all AV.one=true:=by
 intro r hr
 obtain ⟨x,_,rfl⟩:=List.mem_map.1 hr
 rfl
theorem ynf (l:List Wan) (z:List AV):(l.map zcm).take l.length++(List.replicate (l.map zcm).length z).drop l.length=l.map zcm:=by
 rw [List.drop_of_length_le (by simp),List.append_nil,List.take_of_length_le (by simp)]
theorem zve {l:List Wan} {s b:Int} (h:zbl (fun w:Wan=>w.s==s) 0 l < 0):(l++ [(⟨0,0⟩:Wan)]).set l.length ⟨s,b⟩=zfk l s b:=by
 rw [zfk,if_pos h];simp
theorem zvd {l:List Wan} {s b:Int} {k:Nat} (h:zbl (fun w:Wan=>w.s==s) 0 l=(k:Int)):l.set k ⟨s,b⟩=zfk l s b:=by
 rw [zfk,if_neg (by omega),h];rfl
theorem ydq {l:List Wan} {s:Int} (h:¬zbl (fun w:Wan=>w.s==s) 0 l < 0):∃k:Nat,k < l.length∧zbl (fun w:Wan=>w.s==s) 0 l=(k:Int):=by
 obtain ⟨k,hk,e,_⟩:=zkq (p:=fun w:Wan=>w.s==s) (l:=l) (i:=0) (by omega)
 exact ⟨k,hk,by rw [e];simp⟩
theorem zps {cs:List AV} (h:cs.all AV.one=true) {a:AV} (ha:a.one=true):(AV.agg (cs++ [a])).cellsOf=some (cs++ [a]):=by
 have e:(cs++ [a]).all AV.one=true:=by rw [List.all_append,h];simp [ha]
 show (match (cs++ [a]).all AV.one with|true=>some (cs++ [a])|false=>none)=_
 rw [e]
theorem zxe (sv:SV) (l:List Wan) (fv:AV) (p:Wan→Bool) (G:List Res) (hp:∀a∈l,y3 Tryz.prog fv [.agg (zcm a)] G (fun r h'=>h'=G∧r=bv (p a))) (hlen:l.length≤4611686018427387904):x3 Tryz.prog 102 [.v sv.v,fv] (.row sv.v 2 51 ((l).map zcm)::G) (fun r h'=>h'= .row sv.v 2 51 ((l).map zcm)::G∧r=iv (zbl p 0 l)):=by
 refine z6 Tryz.func102 rfl rfl rfl ?_
 refine rn ?_;refine u9 (fun k:Nat=>k≤l.length∧zbl p 0 l=zbl p k (l.drop k)) (fun k=>⟨[(8,iv k),(7,iv (l.map zcm).length),(0,.v sv.v),(1,fv)],.row sv.v 2 51 ((l).map zcm)::G,[]⟩) (fun k=>l.length - k) 0 ⟨Nat.zero_le _,by simp⟩
  (x8 (.cons _ _ _ rfl (.cons _ _ _ rfl (.cons _ _ _ rfl (.cons _ _ _ rfl (.nil)))))) ?_
 rintro k ⟨hk,hnot⟩
 refine rn ?_;refine z8 rfl (fun hc9=> ?_) (fun hc9=> ?_)
 ·have hk2:k < l.length:=by have q:=oT hc9;rw [oM] at q;omega
  have hrow:(l.map zcm)[k]? =some (zcm l[k]):=by simp [hk2]
  have hk3:k < (l.map zcm).length:=by rw [oM];exact hk2
  have hd:=List.drop_eq_getElem_cons hk2
  have hq9:y3 Tryz.prog fv [.agg (zcm l[k])] (.row sv.v 2 51 ((l).map zcm)::G) (fun r h'=>h'= .row sv.v 2 51 ((l).map zcm)::G∧r=bv (p l[k])):=y3.quiet (R:=fun x=>x=bv (p l[k])) (h2:= [.row sv.v 2 51 ((l).map zcm)]) (List.perm_append_comm (l₁:= [_])) (hp l[k] (List.getElem_mem hk2))
  refine zab ?_;refine j8 ?_;refine x9 ?_;refine zad ?_;refine x9 (y5 ?_)
  refine q1 ?_;refine q1 ?_;refine u3 (j8 ?_)
  refine x9 (y5 ?_)
  refine q1 ?_;refine q1 ?_;refine q1 ?_;refine qq rfl rfl (w8 rfl rfl hk3) ?_
  refine qq rfl rfl (u5 rfl hrow rfl) ?_
  refine qv rfl rfl (y6 rfl rfl hq9) ?_
  refine rn ?_;refine z8 rfl (fun hc16=> ?_) (fun hc16=> ?_)
  ·refine rn ?_;exact k7 rfl (.refl _ _) ⟨rfl,by rw [hnot,hd,zbl,if_pos hc16];rfl⟩
  ·refine rn ?_;exact ⟨k+1,⟨by omega,by rw [hnot,hd,zbl,if_neg (by simp [hc16])]⟩,(x8 (.cons _ _ _ rfl (.cons _ _ _ rfl (.cons _ _ _ rfl (.cons _ _ _ rfl (.nil)))))),by omega⟩
 ·have hk3:k=l.length:=by
   have q:=oF hc9
   rw [oM] at q
   omega
  refine rn ?_;exact k7 rfl (.refl _ _) ⟨rfl,by rw [hnot,hk3,List.drop_length,zbl];rfl⟩
theorem yjz (w:Wan) (s:Int) (b4:Nat):x3 Tryz.prog 127 [.agg (zcm w),pZ b4] (.box b4 3 [iv s]:: []) (fun r h'=>h'= .box b4 3 [iv s]:: []∧r=bv (w.s==s)):=by
 refine z6 Tryz.func127 rfl rfl rfl ?_
 refine rn ?_;refine z7 rfl (w6 rfl rfl rfl fun b2=> ?_)
 refine rn ?_;refine rq 1 ?_
 exact ⟨rfl,rfl⟩
theorem yf4 (c0 c1 c2 c3 c4 c5 c6:AV) (ho: [c0,c1,c2,c3,c4,c5,c6].all AV.one=true) (l:List Wan) (hl:l.length≤1000000) (s bits:Int):x3 Tryz.prog 89 [.agg [c0,c1,c2,c3,c4,c5,c6,zfp l],iv s,iv bits] [] (fun r h'=>∃v:SV,h'= .row v.v 2 51 ((zfk l s bits).map zcm):: []∧r= .agg [c0,c1,c2,c3,c4,c5,c6,.v v.v]):=by
 refine z6 Tryz.func89 rfl rfl rfl ?_
 have hone:(AV.agg [c0,c1,c2,c3,c4,c5,c6,zfp l]).cellsOf=some [c0,c1,c2,c3,c4,c5,c6,zfp l]:=zps (cs:= [c0,c1,c2,c3,c4,c5,c6]) ho rfl
 have hone2:∀v:SV,(AV.agg [c0,c1,c2,c3,c4,c5,c6,.v v.v]).cellsOf=some [c0,c1,c2,c3,c4,c5,c6,.v v.v]:=fun v=>zps (cs:= [c0,c1,c2,c3,c4,c5,c6]) ho rfl
 refine rn ?_;refine z7 rfl (w6 rfl hone rfl fun b3=> ?_)
 refine z7 rfl (w6 rfl rfl rfl fun b4=> ?_)
 refine z7 rfl (x6 rfl fun b6=> ?_)
 refine u3 (j8 ?_)
 refine x9 (y5 ?_)
 refine q1 ?_;refine q1 ?_;refine q1 ?_;refine q1 ?_;refine q1 ?_;refine q1 ?_;refine qq rfl rfl (k6 (c:=(((l.map zcm).length+1:Nat):Int)) rfl rfl rfl (by rw [oM];omega)) ?_
 refine z7 rfl (yan rfl rfl rfl (by omega) (by rw [oM];omega) (hk:=fun b=> ?_))
 refine zal (.slice (some ⟨b,0,none⟩) (l.map zcm).length ((l.map zcm).length+1)) fun sv hsv=> ?_
 rw [hsv]
 clear hsv
 refine rn ?_;refine z7 rfl (zue l.length rfl rfl (by simp) rfl (hk:= ?_) (ydt l))
 rw [ynf]
 refine rn ?_;refine z7 rfl (w7 rfl rfl (y3.of_fun (zxe sv l _ (fun w:Wan=>w.s==s) _ (fun w _=>y3.qt (y3.of_acall (fs:= []) (cs:= [pZ b4]) (yjz w s b4)) (pt1 _ _ _)) (by omega))) rfl ?_)
 rintro _ _ ⟨rfl,rfl⟩
 refine rn0 ?_;refine zig (fun z:SV×List Wan×Nat=>z.2.2 < z.2.1.length∧z.2.1.set z.2.2 ⟨s,bits⟩=zfk l s bits) (fun z=>⟨[(7,.v z.1.v),(8,iv z.2.2),(2,iv bits),(3,pZ b3),(4,pZ b4),(6,pZ b6)],.row z.1.v 2 51 ((z.2.1).map zcm):: .box b6 28 zd5:: .box b4 3 [iv s]:: .box b3 28 [c0,c1,c2,c3,c4,c5,c6,zfp l]:: [],[]⟩) ?_ ?_
 ·refine rn ?_;refine z8 rfl (fun hc25=> ?_) (fun hc25=> ?_)
  ·have hn:zbl (fun w:Wan=>w.s==s) 0 l < 0:=oT hc25
   refine x9 (y5 ?_)
   refine q1 ?_;refine q1 ?_;refine q1 ?_;refine u3 (j8 ?_)
   refine y5 ?_;refine q1 ?_;refine qq rfl rfl (zac (out:= [iv 0,iv 0]) rfl (by rfl)) ?_
   refine qv rfl rfl (u1 rfl rfl) ?_
   refine z7 rfl (j7 rfl rfl (by simp only [oM,List.length_cons,List.length_nil];omega) rfl (fun s31=> ?_) (fun r hr=>by rw [List.mem_singleton.1 hr];rfl))
   refine zal s31 fun sv2 hsv=> ?_
   subst hsv
   refine rn ?_;first
   |exact ⟨(sv2,l++ [⟨0,0⟩],l.length),⟨by simp,zve hn⟩,by simp only [List.map_append,oM];exact eA⟩
   |exact ⟨(sv,l,k),⟨hk,zvd ek⟩,eA⟩
  ·have hn:¬zbl (fun w:Wan=>w.s==s) 0 l < 0:=oF hc25
   obtain ⟨k,hk,ek⟩:=ydq hn
   rw [ek]
   refine rn ?_;first
   |exact ⟨(sv2,l++ [⟨0,0⟩],l.length),⟨by simp,zve hn⟩,by simp only [List.map_append,oM];exact eA⟩
   |exact ⟨(sv,l,k),⟨hk,zvd ek⟩,eA⟩
 ·rintro ⟨sv,m,i⟩ ⟨hi,hm⟩
  simp only at hi hm
  have hk3:i < (m.map zcm).length:=by rw [oM];exact hi
  have hrow:(m.map zcm)[i]? =some (zcm m[i]):=by simp [hi]
  refine x9 (y5 ?_)
  refine q1 ?_;refine q1 ?_;refine q1 ?_;refine q1 ?_;refine qq rfl rfl (zac (out:= [iv s,iv bits]) rfl (by rfl)) ?_
  refine qq rfl rfl (w8 rfl rfl hk3) ?_
  refine z7 rfl (zae rfl rfl rfl hrow rfl (Nat.le_of_ble_eq_true rfl) ?_)
  refine rn ?_;refine z7 rfl (zbs rfl rfl (hone2 sv) rfl (Nat.le_of_ble_eq_true rfl) ?_)
  refine rn ?_;exact zea (.cons _ _ _ _ (.agg _ _ _ _ _ _ _ rfl inferInstance inferInstance inferInstance rfl) .nil) (.trans (.perm ((pt1 _ _ _).trans (.cons _ ((pt1 _ _ _).trans (.cons _ (pt1 _ _ _))))) _) (.drop [_,_,_] _ _)) ⟨sv,by rw [←hm,List.map_set];rfl,rfl⟩
end Go.Proofs
