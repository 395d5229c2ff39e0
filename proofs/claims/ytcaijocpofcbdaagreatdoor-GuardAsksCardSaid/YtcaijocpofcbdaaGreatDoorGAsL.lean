/- A history read as data. Conditions: none. -/
import Derived.Test.YtcaijocpofcbdaaGreatDoorGAsK
import Derived.Test.YtcaijocpofcbdaaGreatDoorTie
import Derived.OpenShut
import Derived.Lib.LaidTab
import Derived.Lib.LaidU8
import Derived.ProofKit
import Derived.LaidMore
import Derived.LaidSub
import Derived.LaidHandle
import Derived.Lay
import Derived.SevenTiedAt
import Derived.Stop.Joined
import Derived.ChangeArms
set_option maxHeartbeats 4000000
set_option linter.unusedSectionVars false
set_option linter.unusedSimpArgs false
set_option linter.unusedVariables false
set_option maxRecDepth 100000
namespace Go.Proofs
open Go Go.Ab Go.H
section
variable {K:Type} {enc:TypeId×Value→K} {w:World}
theorem zu8:zdu enc Tryz.prog w 3 (fun n:Int=> [iv n]) (fun _=>True):= .int Tryz.underlying3
theorem yvi:zdu enc Tryz.prog w 4 (fun b:Bool=> [bv b]) (fun _=>True):= .bool Tryz.underlying4
theorem yxd:zdu enc Tryz.prog w 9 zaq (fun _=>True):= .string Tryz.underlying9
theorem ywq:zdu enc Tryz.prog w 63 yf2 (fun _=>True):=
 .map (fun x:Int×Int×Unit=>⟨x.1,x.2.1⟩) (.struct Tryz.underlying63 rfl (tot:=2) (by kernel_rfl) (.cons zu8 (s:=1) (by kernel_rfl) (.cons zu8 (s:=1) (by kernel_rfl) (.nil 2)))) (fun _=>rfl) (fun _ _=>trivial)
theorem yqz:zdu enc Tryz.prog w 139 zav (fun _=>True):=
 .map (fun x:Int×Ver×Unit=>⟨x.1,x.2.1⟩) (.struct Tryz.underlying139 rfl (tot:=3) (by kernel_rfl) (.cons zu8 (s:=1) (by kernel_rfl) (.cons ywq (s:=2) (by kernel_rfl) (.nil 3)))) (fun _=>rfl) (fun _ _=>trivial)
theorem zn0 {n b b' c:Nat} (hb:b'=b) (hb0:0 < b) (hc:reachBytes / b≤c) (h:n * b'≤reachBytes):n≤c:=by subst hb;exact B8 ((Nat.le_div_iff_mul_le hb0).2 h) hc
theorem yq4:zdu enc Tryz.prog w 64 (fun l:List Seen=> [zlb l]) (fun l=>l.length≤5864062014805):=
 .map (fun l:List Seen=>l) (.slice Tryz.underlying64 yqz (k:=3) (by kernel_rfl) (by decide) (by rw [show Tryz.prog.bytesOf 139=24 by kernel_rfl];decide)) (fun _=>rfl) (fun _ h=>zn0 (b:=24) (by kernel_rfl) (by decide) (by decide) h.1)
theorem yrc:zdu enc Tryz.prog w 54 (fun l:List Int=> [zcs l]) (fun l=>l.length≤17592186044416):=
 .map (fun l:List Int=>l) (.slice Tryz.underlying54 zu8 (k:=1) (by kernel_rfl) (by decide) (by rw [show Tryz.prog.bytesOf 3=8 by kernel_rfl];decide)) (fun _=>rfl) (fun _ h=>zn0 (b:=8) (by kernel_rfl) (by decide) (by decide) h.1)
theorem yg6:zdu enc Tryz.prog w 22 (fun l:List ByteArray=> [v7 l]) (fun l=>l.length≤8796093022208):=
 .map (fun l:List ByteArray=>l) (.slice Tryz.underlying22 yxd (k:=1) (by kernel_rfl) (by decide) (by rw [show Tryz.prog.bytesOf 9=16 by kernel_rfl];decide)) (fun _=>rfl) (fun _ h=>zn0 (b:=16) (by kernel_rfl) (by decide) (by decide) h.1)
theorem rEv:zdu enc Tryz.prog w 66 evR (fun e=>e.scan.length≤5864062014805):=
 .map (fun x:Int×Int×Int×Int×Int×Ver×Int×List Seen×Unit=>⟨x.1,x.2.1,x.2.2.1,x.2.2.2.1,x.2.2.2.2.1,x.2.2.2.2.2.1,x.2.2.2.2.2.2.1,x.2.2.2.2.2.2.2.1⟩)
  (.struct Tryz.underlying66 rfl (tot:=9) (by kernel_rfl) (.cons zu8 (s:=1) (by kernel_rfl) (.cons zu8 (s:=1) (by kernel_rfl) (.cons zu8 (s:=1) (by kernel_rfl) (.cons zu8 (s:=1) (by kernel_rfl) (.cons zu8 (s:=1) (by kernel_rfl)
   (.cons ywq (s:=2) (by kernel_rfl) (.cons zu8 (s:=1) (by kernel_rfl) (.cons yq4 (s:=1) (by kernel_rfl) (.nil 9)))))))))) (fun _=>rfl) (fun _ h=>h.2.2.2.2.2.2.2.1)
theorem yxf:zdu enc Tryz.prog w 99 zb7 (fun e=>e.ts.length≤17592186044416):=
 .map (fun x:Int×List Int×Unit=>⟨x.1,x.2.1⟩) (.struct Tryz.underlying99 rfl (tot:=2) (by kernel_rfl) (.cons zu8 (s:=1) (by kernel_rfl) (.cons yrc (s:=1) (by kernel_rfl) (.nil 2)))) (fun _=>rfl) (fun _ h=>h.2.1)
theorem yxg:zdu enc Tryz.prog w 112 zck (fun e=>e.ts.length≤17592186044416):=
 .map (fun x:Int×Int×Bool×List Int×Unit=>⟨x.1,x.2.1,x.2.2.1,x.2.2.2.1⟩) (.struct Tryz.underlying112 rfl (tot:=4) (by kernel_rfl) (.cons zu8 (s:=1) (by kernel_rfl) (.cons zu8 (s:=1) (by kernel_rfl) (.cons yvi (s:=1) (by kernel_rfl) (.cons yrc (s:=1) (by kernel_rfl) (.nil 4)))))) (fun _=>rfl) (fun _ h=>h.2.2.2.1)
theorem yxc:zdu enc Tryz.prog w 51 zar (fun _=>True):=
 .map (fun x:Int×Int×Unit=>⟨x.1,x.2.1⟩) (.struct Tryz.underlying51 rfl (tot:=2) (by kernel_rfl) (.cons zu8 (s:=1) (by kernel_rfl) (.cons zu8 (s:=1) (by kernel_rfl) (.nil 2)))) (fun _=>rfl) (fun _ _=>trivial)
theorem yxh:zdu enc Tryz.prog w 23 (fun l:List Ev=> [zll l]) (fun l=>l.length≤1599289640401∧∀e∈l,e.scan.length≤5864062014805):=
 .map (fun l:List Ev=>l) (.slice Tryz.underlying23 rEv (k:=9) (by kernel_rfl) (by decide) (by rw [show Tryz.prog.bytesOf 66=88 by kernel_rfl];decide)) (fun _=>rfl) (fun _ h=>⟨zn0 (b:=88) (by kernel_rfl) (by decide) (by decide) h.1,h.2⟩)
theorem yve:zdu enc Tryz.prog w 24 (fun l:List H.Ord=> [zb2 l]) (fun l=>l.length≤4398046511104∧∀e∈l,e.ts.length≤17592186044416):=
 .map (fun l:List H.Ord=>l) (.slice Tryz.underlying24 yxf (k:=2) (by kernel_rfl) (by decide) (by rw [show Tryz.prog.bytesOf 99=32 by kernel_rfl];decide)) (fun _=>rfl) (fun _ h=>⟨zn0 (b:=32) (by kernel_rfl) (by decide) (by decide) h.1,h.2⟩)
theorem yvf:zdu enc Tryz.prog w 25 (fun l:List Mat=> [zb3 l]) (fun l=>l.length≤2932031007402∧∀e∈l,e.ts.length≤17592186044416):=
 .map (fun l:List Mat=>l) (.slice Tryz.underlying25 yxg (k:=4) (by kernel_rfl) (by decide) (by rw [show Tryz.prog.bytesOf 112=48 by kernel_rfl];decide)) (fun _=>rfl) (fun _ h=>⟨zn0 (b:=48) (by kernel_rfl) (by decide) (by decide) h.1,h.2⟩)
theorem yvb:zdu enc Tryz.prog w 26 (fun l:List Wan=> [zd3 l]) (fun l=>l.length≤8796093022208):=
 .map (fun l:List Wan=>l) (.slice Tryz.underlying26 yxc (k:=2) (by kernel_rfl) (by decide) (by rw [show Tryz.prog.bytesOf 51=16 by kernel_rfl];decide)) (fun _=>rfl) (fun _ h=>zn0 (b:=16) (by kernel_rfl) (by decide) (by decide) h.1)
theorem yvg:zdu enc Tryz.prog w 28 y8 Big:=
 .map (fun x:List ByteArray×List ByteArray×List ByteArray×List ByteArray×List Ev×List H.Ord×List Mat×List Wan×Unit=>⟨x.1,x.2.1,x.2.2.1,x.2.2.2.1,x.2.2.2.2.1,x.2.2.2.2.2.1,x.2.2.2.2.2.2.1,x.2.2.2.2.2.2.2.1⟩)
  (.struct Tryz.underlying28 rfl (tot:=8) (by kernel_rfl) (.cons yg6 (s:=1) (by kernel_rfl) (.cons yg6 (s:=1) (by kernel_rfl) (.cons yg6 (s:=1) (by kernel_rfl) (.cons yg6 (s:=1) (by kernel_rfl) (.cons yxh (s:=1) (by kernel_rfl)
   (.cons yve (s:=1) (by kernel_rfl) (.cons yvf (s:=1) (by kernel_rfl) (.cons yvb (s:=1) (by kernel_rfl) (.nil 8)))))))))) (fun _=>rfl)
  (fun x h=>by
   obtain ⟨h1,h2,h3,h4,⟨h5,h6⟩,⟨h7,h8⟩,⟨h9,hA⟩,hB,_⟩:=h;exact ⟨⟨B8 h1 (by decide),B8 h2 (by decide),B8 h3 (by decide),B8 h4 (by decide),B8 h5 (by decide),B8 h7 (by decide),B8 h9 (by decide),B8 hB (by decide),fun e he=>B8 (h6 e he) (by decide),fun e he=>B8 (h8 e he) (by decide),fun e he=>B8 (hA e he) (by decide)⟩,h1,h2,h3,h4,h7,h9,hB,h6,h8,hA⟩)
end
theorem zyj {α:Type} (s:Nat):∀(n:Nat) (cs:List α) (f:Nat→List α),cs.length=n * s→(∀i,i < n→(cs.drop (i * s)).take s=f i)→cs=(List.range n).flatMap f
 |0,cs,f,h,_=>by simp at h;subst h;rfl
 |n+1,cs,f,h,k=>by
  have h0:=k 0 (by omega)
  have ih:=zyj s n (cs.drop s) (fun i=>f (i+1)) (by rw [L9,h,K2];omega) fun i hi=>by
   have:=k (i+1) (by omega);rw [K2,Nat.one_mul,Nat.add_comm,←List.drop_drop] at this;exact this
  rw [List.range_succ_eq_map,I6,List.flatMap_map,←h0];simp only [A0w,R7];have e:cs=cs.take s++cs.drop s:=(G9 s cs).symm;rw [ih] at e;exact e
theorem zqt {P:Program} {w:World} {n:String} {g t:Nat} {d:DataW Unit} {vals:List Value} {T:TypeId} (hr:Lib.VarReads P w n d) (hg:P.globalNamed n=some g) (ht:(P.globals[g]?).map (·.type)=some t)
 (hv:∀fuel cs p,DataW.trod (fun _=>()) P w 0 (fun _=>true) false fuel t cs=some (d,p)→cs=vals):(Res.glob g T (vals.map .v)).holds w noX:=by
 obtain ⟨g',t',cs,fuel,p,h1,h2,h3,h4⟩:=hr;obtain rfl:=B6 (hg.symm.trans h1);obtain rfl:=B6 (ht.symm.trans h2);have hcs:=hv _ _ _ h4;unfold World.var? at h3;rw [hg] at h3;simp only [J3] at h3;split at h3
 ·rename_i c T0 fr hh;cases h3;refine ⟨fun h=>h,(J0.1 hh).1,cs,T0,fr,hh,by rw [oM,←hcs];simp,fun j j1 j2=>?_⟩;rw [H7];have:vals[j]'(by simpa using j1)=cs[j]:=by simp [←hcs]
  rw [this];exact .v _
 cases h3
theorem yv0 {w:World} (h:Lib.VarReads Tryz.prog w "yardarm/history.limits" YtcaijocpofcbdaaGreatDoor.Rows.laid_yardarm_history_limits):(Res.glob 3 148 x3).holds w noX:=
 zqt (vals:= [300,60,300,60].map fun z=>Value.int .i64 z) h (by kernel_rfl) (show _=some 148 by kernel_rfl) fun fuel cs p hd=>
  Lib.cells_of_tab (zs:= [300,60,300,60]) Tryz.underlying148 Tryz.underlying3 (by kernel_rfl) (by kernel_rfl) hd
def zya:List Int:=(List.range 256).map zao
theorem zuv:YtcaijocpofcbdaaGreatDoor.Rows.laid_unicode_utf8_first=Lib.tabData .u8 zya:=by kernel_rfl
theorem yvz {w:World} (h:Lib.VarReads Tryz.prog w "unicode/utf8.first" YtcaijocpofcbdaaGreatDoor.Rows.laid_unicode_utf8_first):(Res.glob 5 276 x6).holds w noX:=by
 have:=zqt (P:=Tryz.prog) (w:=w) (n:= "unicode/utf8.first") (g:=5) (t:=276) (d:=YtcaijocpofcbdaaGreatDoor.Rows.laid_unicode_utf8_first) (T:=276) (vals:=zya.map fun z=>Value.int .u8 z) h (by kernel_rfl) (by kernel_rfl) fun fuel cs p hd=>
  Lib.cells_of_tab (zs:=zya) Tryz.underlying276 Tryz.underlying5 (by kernel_rfl) (by kernel_rfl) (zuv ▸ hd)
 simpa [x6,zya,N9,Function.comp_def] using this
def ywz (i:Nat):List Int:= [[128,160,128,144,128].getD i 0,[191,191,159,191,143].getD i 0]
theorem yff:(YtcaijocpofcbdaaGreatDoor.Rows.laid_unicode_utf8_acceptRanges:DataW Unit)= .agg ((List.range 16).map fun i=> .agg ((ywz i).map fun z=> .lit (.int .u8 z))):=by kernel_rfl
theorem ypm:y7=((List.range 16).flatMap fun i=>(ywz i).map fun z=>Value.int .u8 z).map .v:=rfl
theorem yvy {w:World} (h:Lib.VarReads Tryz.prog w "unicode/utf8.acceptRanges" YtcaijocpofcbdaaGreatDoor.Rows.laid_unicode_utf8_acceptRanges):(Res.glob 6 279 y7).holds w noX:=by
 rw [ypm];refine zqt (T:=279) h (by kernel_rfl) (show _=some 279 by kernel_rfl) fun fuel cs p hd=>?_;rw [yff] at hd;have c132:Tryz.prog.cellsOf 278=2:=by kernel_rfl
 have c133:Tryz.prog.cellsOf 279=32:=by kernel_rfl
 have hlen:cs.length=16 * 2:=by
  obtain ⟨_,_,_,_,hl,_⟩:=DataW.trod_array Tryz.underlying279 hd;rw [hl,c133]
 refine zyj 2 16 cs _ hlen fun i hi=>?_;obtain ⟨f',d,q,h1,h2⟩:=Lib.array_elem Tryz.underlying279 hd i hi;simp only [M1,X4 hi,K8,D6] at h1;subst h1;rw [c132] at h2
 exact Lib.ints_of_struct Tryz.underlying278 (fun j f hj=>by
  match j,hj with
  |0,hj=>simp at hj;subst hj;exact ⟨Tryz.underlying5,rfl,by kernel_rfl⟩
  |1,hj=>simp at hj;subst hj;exact ⟨Tryz.underlying5,rfl,by kernel_rfl⟩
  |j+2,hj=>simp at hj) (by rw [c132];rfl) h2
end Go.Proofs
set_option maxRecDepth 100000
namespace Go.Proofs.YtcaijocpofcbdaaGreatDoor
open Go Go.Ab Go.H Go.ChangeShapes Go.WideShapes Go.ChangeAt Go.RowKit
theorem own:ownKnob Tryz.prog.godebug=none:=by kernel_rfl
def ywj:List Value:= .nilFunc:: [245,249,250,251,252,253,254,255,256,257].map fun f=> .func (.func f) #[] #[]
theorem zz2 {W W':World} (hk:Keep [] W [] W'):RowKit.Below W.heap.size W {W' with tape:=W.tape}:=
 ⟨hk.env.1.1,rfl,hk.env.1.2,hk.size,fun k hk'=>(hk.same k hk' (by simp)).1⟩
theorem yie {W W':World} (hk:Keep [] W [] W') (may:MemPlace→Prop):W.keptBut W' may:=by
 refine ⟨hk.env.1.1,hk.env.1.2,fun i hi=>?_⟩;rw [(hk.same i hi (by simp)).1];generalize W.heap[i]? =o;cases o with
 |none=>rfl
 |some o=>cases o <;> first|rfl|exact ⟨rfl,rfl,rfl,fun _ _=>rfl⟩|exact .inr ⟨rfl,rfl⟩
section
variable {H:Type} {enc:TypeId×Value→H}
theorem ya2 {W W':World} {v:Value} {d:DataW H} {ps:List MemPlace} (hk:Keep [] W [] W') (h:DataW.Trod enc Tryz.prog W 0 (fun _=>true) true 28 v d ps) (hlt:∀x∈ps,x.block < W.heap.size):
 DataW.Trod enc Tryz.prog W' 0 (fun b=>decide (b < W.heap.size)) true 28 v d ps:=
 DataW.Trod.of_heap (w:={W' with tape:=W.tape}) (w':=W') rfl (Below.trod (by kernel_rfl) (by kernel_rfl) (by decide+kernel) h (zz2 hk) hlt)
theorem yij {W:World} {cs:Array Value} {d:DataW H} {ps:List MemPlace} (h:DataW.Trod enc Tryz.prog W 0 (fun _=>true) true 28 (.agg cs) d ps) (hw:∀n∈d.weights Tryz.prog 28,n≤reachBytes):
 ∃x,Big x∧Rel W noX (.agg (y8 x)) (.agg cs):=by
 obtain ⟨fuel,hf⟩:=h;obtain ⟨x,hlim,hx⟩:=yvg fuel _ _ hf hw;exact ⟨x,hlim,.agg _ _ (by simpa [Value.cells] using hx.1) fun j h1 h2=>by simpa [Value.cells] using hx.2 j h1 (by simpa [Value.cells] using h2)⟩
theorem yn8 {W:World} {cs:Array Value} {d:DataW H} {ps:List MemPlace} (h:DataW.Trod enc Tryz.prog W 0 (fun _=>true) true 28 (.agg cs) d ps) (hw:∀n∈d.weights Tryz.prog 28,n≤reachBytes):
 ∃x,Lim 4611686018427387904 x∧Rel W noX (.agg (y8 x)) (.agg cs):=by
 obtain ⟨x,hb,hr⟩:=yij h hw;exact ⟨x,hb.lim,hr⟩
end
def ypb:DataW Unit:=match (Rows.laid_yardarm_rules_asks:DataW Unit) with| .iface _ d=>d|d=>d
def ycp:List (List UInt8):=match ypb with| .agg ds=>ds.map (fun d=>match d with| .iface _ (.lit (.string b))=>b|_=> [])|_=> []
def nm (k:Nat):List UInt8:=ycp.getD (k+1) []
theorem ye3:ypb.funcsOut= .agg (.nil::(ycp.drop 1).map .held):=by kernel_rfl
theorem zx5 {w:World} {c:Array Value} {T0:TypeId} {fr:Nat×Nat} {g:Nat} {T:TypeId} {vs:List AV} (hh:w.heap[g]? =some (.cells c T0 fr)) (hl:vs.length=c.size) (h:∀j (h1:j < vs.length) (h2:j < c.size),Rel w noX vs[j] c[j]):(Res.glob g T vs).holds w noX:=
 ⟨fun h=>h,(J0.1 hh).1,c,T0,fr,hh,hl,fun j h1 h2=>h j h1 h2⟩
theorem zj8 (w:World) (f:Nat):Rel w noX (.fn (.func f) [] []) (.func (.func f) #[] #[]):= .fn _ _ _ _ _ rfl rfl (fun j h=>absurd h (H6 _)) (fun j h=>absurd h (H6 _))
def fnA:List Nat:= [245,249,250,251,252,253,254,255,256,257]
theorem yji (k:Nat) (hk:k < 10):∃b r,ycp[k+1]? =some (b::r)∧((List.range Tryz.prog.funcs.size).filter fun f=>(Tryz.prog.funcs[f]?).any (·.name.toUTF8.data.toList==b::r))= [fnA.getD k 0]∧u3[k+1]? =some (.fn (.func (fnA.getD k 0)) [] []):=by
 match k,hk with
 |0,_=>exact ⟨(nm 0).headD 0,(nm 0).tail,by kernel_rfl,by kernel_rfl,by kernel_rfl⟩
 |1,_=>exact ⟨(nm 1).headD 0,(nm 1).tail,by kernel_rfl,by kernel_rfl,by kernel_rfl⟩
 |2,_=>exact ⟨(nm 2).headD 0,(nm 2).tail,by kernel_rfl,by kernel_rfl,by kernel_rfl⟩
 |3,_=>exact ⟨(nm 3).headD 0,(nm 3).tail,by kernel_rfl,by kernel_rfl,by kernel_rfl⟩
 |4,_=>exact ⟨(nm 4).headD 0,(nm 4).tail,by kernel_rfl,by kernel_rfl,by kernel_rfl⟩
 |5,_=>exact ⟨(nm 5).headD 0,(nm 5).tail,by kernel_rfl,by kernel_rfl,by kernel_rfl⟩
 |6,_=>exact ⟨(nm 6).headD 0,(nm 6).tail,by kernel_rfl,by kernel_rfl,by kernel_rfl⟩
 |7,_=>exact ⟨(nm 7).headD 0,(nm 7).tail,by kernel_rfl,by kernel_rfl,by kernel_rfl⟩
 |8,_=>exact ⟨(nm 8).headD 0,(nm 8).tail,by kernel_rfl,by kernel_rfl,by kernel_rfl⟩
 |9,_=>exact ⟨(nm 9).headD 0,(nm 9).tail,by kernel_rfl,by kernel_rfl,by kernel_rfl⟩
def nmI:List UInt8:= [121,97,114,100,97,114,109,47,115,101,115,115,105,111,110,46,100,111,105,110,103,115,41,46,105,110,115,116,97,108,108]
def nmR:List UInt8:= [121,97,114,100,97,114,109,47,115,101,115,115,105,111,110,46,100,111,105,110,103,115,41,46,114,101,97,100]
def yws:DataW Unit:=match (Rows.laid_yardarm_session_guards:DataW Unit) with| .iface _ d=>d|d=>d
theorem yim:yws.funcsOut= .agg [.agg [.lit (.int .i64 1),.held (40::nmI),.held (40::nmR)],.agg [.lit (.int .i64 2),.held (40::nmR),.held (40::nmR)],.agg [.lit (.int .i64 4),.held (40::nmI),.held (40::nmI)],.agg [.lit (.int .i64 8),.held (40::nmR),.held (40::nmI)]]:=by kernel_rfl
theorem yuj:((List.range Tryz.prog.funcs.size).filter fun f=>(Tryz.prog.funcs[f]?).any (·.name.toUTF8.data.toList==40::nmI))= [244]:=by kernel_rfl
theorem yui:((List.range Tryz.prog.funcs.size).filter fun f=>(Tryz.prog.funcs[f]?).any (·.name.toUTF8.data.toList==40::nmR))= [248]:=by kernel_rfl
theorem zqq {w:World} {base:Nat} {sp:Nat→Bool} {fuel:Nat} {cs:List Value} {z:Int} {r1 r2:List UInt8} {f1 f2:FuncId} {q:List MemPlace} (h1:((List.range Tryz.prog.funcs.size).filter fun f=>(Tryz.prog.funcs[f]?).any (·.name.toUTF8.data.toList==40::r1))= [f1]) (h2:((List.range Tryz.prog.funcs.size).filter fun f=>(Tryz.prog.funcs[f]?).any (·.name.toUTF8.data.toList==40::r2))= [f2])
 (h:DataW.trod (funcToken Tryz.prog) Tryz.prog w base sp true fuel 116 cs=some (.agg [.lit (.int .i64 z),.held (40::r1),.held (40::r2)],q)):cs= [.int .i64 z,.func (.func f1) #[] #[],.func (.func f2) #[] #[]]:=by
 obtain ⟨xs,n,_,hx,hl,hlen,hf⟩:=DataW.trod_struct Tryz.underlying116 h;rw [show Tryz.prog.cellsOf 116=3 by kernel_rfl] at hl;match xs,hlen with
 | [y0,y1,y2],_=>
   have hx:=A4 Prod.fst hx;simp only [F6,I1,DataW.agg.injEq,P9,Z5] at hx;obtain ⟨x0,x1,x2⟩:=hx;match cs,hl,hf with
   | [v0,v1,v2],_,hf=>
     have f0:DataW.trod (funcToken Tryz.prog) Tryz.prog w base sp true n 3 (([v0,v1,v2].drop 0).take (Tryz.prog.cellsOf 3))= [y0,y1,y2][0]? :=hf 0 _ rfl;have f1':DataW.trod (funcToken Tryz.prog) Tryz.prog w base sp true n 115 (([v0,v1,v2].drop 1).take (Tryz.prog.cellsOf 115))= [y0,y1,y2][1]? :=hf 1 _ rfl;have f2':DataW.trod (funcToken Tryz.prog) Tryz.prog w base sp true n 115 (([v0,v1,v2].drop 2).take (Tryz.prog.cellsOf 115))= [y0,y1,y2][2]? :=hf 2 _ rfl;rw [show Tryz.prog.cellsOf 3=1 by kernel_rfl] at f0;rw [show Tryz.prog.cellsOf 115=1 by kernel_rfl] at f1' f2';simp only [R7,List.drop_succ_cons,U9,Q4,G0,I7] at f0 f1' f2';obtain ⟨z',e0,ey,_⟩:=DataW.trod_int Tryz.underlying3 f0;rw [ey] at x0;simp only [DataW.lit.injEq,Lit.int.injEq,Z3] at x0;subst x0;simp only [P9,Z5] at e0;rw [e0,func_of_trod (v:=v1) (f0:=f1) Tryz.underlying115 h1 (q:=y1.2) (by rw [x1];exact f1'),func_of_trod (v:=v2) (f0:=f2) Tryz.underlying115 h2 (q:=y2.2) (by rw [x2];exact f2')]
def guaV:List Value:= [.int .i64 1,.func (.func 244) #[] #[],.func (.func 248) #[] #[],.int .i64 2,.func (.func 248) #[] #[],.func (.func 248) #[] #[],.int .i64 4,.func (.func 244) #[] #[],.func (.func 244) #[] #[],.int .i64 8,.func (.func 248) #[] #[],.func (.func 244) #[] #[]]
end Go.Proofs.YtcaijocpofcbdaaGreatDoor
set_option maxRecDepth 10000
namespace Go.Proofs
open Go Go.Ab
attribute [local irreducible] QR QV OE zc9 aw zds zb0 zbp za8 thn zgc zem jch zfo
open Go.H
theorem zwt {h:Hist} (hc:v6 h=0):zdb h=(upR h.ss.length).map fun s=>⟨s,yph h.wants s,ypy h s⟩:=A6 hc
theorem ya7 {h:Hist} (hc:v6 h≠0):zdb h= []:=A0 hc
def yaj (g:Nat→Grd) (k:Nat):List Grd:=(List.range k).map g
theorem yjx (g:Nat→Grd) (k:Nat):yaj g (k+1)=yaj g k++ [g k]:=by rw [yaj,S3,D9];rfl
theorem zwu (g:Nat→Grd) (k:Nat):(yaj g k).length=k:=by rw [yaj,oM,S9]
def yun (h:Hist) (s:Nat):Grd:=⟨s,yph h.wants s,haO h s⟩
theorem yog (h:Hist) (la:Lim 4611686018427387904 h) (W:List Res):y9 Tryz.prog 83 [.agg (y8 h)] W (fun r h'=>∃m,h'= .map m (zan zcm (zce iv (yjm (h.wants))))::W∧r=mpv m):=by
 refine z6 Tryz.func83 rfl rfl rfl ?_;have lW:=la.wants;refine rn ?_;refine z8 rfl (w7 rfl rfl rfl fun b1=>?_);refine rn ?_;refine z8 rfl (zbm (enc:=zcm) rfl fun bO=>?_);refine rn ?_;refine zbv h.wants.length (fun _=>True) (fun k=>⟨[(10,iv k),(3,mpv bO),(8,zd3 h.wants),(9,iv (h.wants.map zar).length)],.map bO (zan zcm (zce iv (yjm (h.wants.take k)))):: .box b1 28 (y8 h)::W,[]⟩) trivial es ?_;intro k lk _;refine rn ?_;refine z7 rfl (fun hc11=>?_) (fun hc11=>?_)
 ·have hk:=zaw hc11;have rk:=zam (f:=zar) hk;refine rn ?_;refine z8 rfl (y6 rfl fun b5=>?_);refine rn ?_;refine z8 rfl (zby (g:=iv) (enc:=zcm) (k:=h.wants[k].s) (v:=h.wants[k].bits) rfl rfl rfl ?_);refine rn ?_;exact ⟨hk,trivial,by rw [yt1 hk];exact eA⟩
 have qk:=zaz hc11 lk;subst qk;rw [C7];refine rn ?_;exact u6 rfl (.trans (.perm (pt1 _ _ _) _) (.drop [_] _ _)) ⟨bO,rfl,rfl⟩
theorem ysu (h:Hist) (hs:h.ss.length≤1000000) (g:Nat→Grd) (f:AV) (W:List Res) (hf:∀k,k < h.ss.length→y4 Tryz.prog f [iv (k:Nat)] W (fun r h'=>h'=W∧r= .agg (znk (g k)))):y9 Tryz.prog 84 [.agg (y8 h),f] W (fun r h'=>∃v:SV,h'= .row v.v 3 81 ((yaj g h.ss.length).map znk)::W∧r= .v v.v):=by
 refine z6 Tryz.func84 rfl rfl rfl ?_;refine rn ?_;refine z8 rfl (w7 rfl rfl rfl fun b2=>?_);refine rn ?_;refine zer h.ss.length (fun k v=>⟨[(10,iv k),(5,.v v.v),(1,f),(9,iv (h.ss.map zaq).length)],.row v.v 3 81 ((yaj g k).map znk):: .box b2 28 (y8 h)::W,[]⟩) ⟨none,0,0⟩ (w8 (zaf 3 81) es) ?_;intro k v lk;refine rn ?_;refine z7 rfl (fun hc11=>?_) (fun hc11=>?_)
 ·have hk:=zaw hc11;have rk:=zam (f:=zaq) hk;refine rn ?_;refine z8 rfl (q7 rfl rfl (y4.fr2 (hf k hk)) rfl ?_);rintro _ _ ⟨_,rfl,rfl,rfl⟩;refine qv rfl rfl (q8 rfl rfl) ?_;refine z8 rfl (j3 rfl rfl (by simp only [oM,zwu,E6,F3];omega) rfl (fun s18=>?_) (fun r hr=>by rw [D7.1 hr];rfl));refine zac s18 fun sv hsv=>?_;subst hsv;refine rn ?_;exact ⟨hk,sv,by rw [yjx,D9];exact eA⟩
 have qk:=zaz hc11 lk;subst qk;refine rn ?_;exact u6 rfl (.trans (.perm (pt1 _ _ _) _) (.drop [_] _ _)) ⟨v,rfl,rfl⟩
theorem yuw {h:Hist} (hc:v6 h=0):yaj (yun h) h.ss.length=zdb h:=by
 rw [zwt hc,yaj,upR,N9];refine Q3 fun k hk=>?_;have hk':k < h.ss.length:=H4.1 hk;rw [yun,yoa (yc4 hc (zni.2 ⟨by omega,by omega⟩))];rfl
theorem yst (h:Hist) (la:Lim 4611686018427387904 h) (m b1 b5:Nat) (k:Nat):y9 Tryz.prog 85 [iv (k:Nat),pZ b1,pZ b5] (.box b5 141 [mpv m]:: .map m (zan zcm (zce iv (yjm (h.wants)))):: .box b1 28 (y8 h):: .glob 0 117 x9:: .glob 3 148 x3:: .glob 5 276 x6:: .glob 6 279 y7:: .glob 2 197 u3:: []) (fun r h'=>h'= .box b5 141 [mpv m]:: .map m (zan zcm (zce iv (yjm (h.wants)))):: .box b1 28 (y8 h):: .glob 0 117 x9:: .glob 3 148 x3:: .glob 5 276 x6:: .glob 6 279 y7:: .glob 2 197 u3:: []∧r= .agg (znk (yun h k))):=by
 refine z6 Tryz.func85 rfl rfl rfl ?_;refine rn ?_;refine z8 rfl (y6 rfl fun b4=>?_);refine rn ?_;refine qv rfl rfl (y3 rfl rfl (y4.qt (y4.of_fun (yqp h la k)) ((pt4 _ _ _ _ _ _).trans (.cons _ ((pt4 _ _ _ _ _ _).trans (.cons _ ((pt4 _ _ _ _ _ _).trans (.cons _ ((pt4 _ _ _ _ _ _).trans (.cons _ (pt4 _ _ _ _ _ _))))))))))) ?_;refine q1 ?_;refine q1 ?_;refine q1 ?_;refine q1 ?_;refine q1 ?_;refine u1 (j8 ?_);refine x7 (y5 ?_);refine q1 ?_;refine q1 ?_;refine q1 ?_;refine qq rfl rfl (za9 (zc0 (g:=iv) (enc:=zcm) (k:=((k:Nat):Int)) (0:Int) rfl rfl) (show iv _=iv (yph h.wants k) from rfl)) ?_;refine q1 ?_;refine qq rfl rfl (zal (out:= [iv k,iv (yph h.wants k),iv (haO h k)]) rfl (by rfl)) ?_;refine rn ?_;exact zdn (.cons _ _ _ _ (.agg _ _ _ _ _ _ _ rfl inferInstance inferInstance inferInstance rfl) .nil) (.drop [_] _ _) ⟨rfl,rfl⟩
theorem yin (h:Hist) (la:Lim 4611686018427387904 h):y9 Tryz.prog 33 [.agg (y8 h)] (.glob 0 117 x9:: .glob 3 148 x3:: .glob 5 276 x6:: .glob 6 279 y7:: .glob 2 197 u3:: []) (fun r h'=>∃v:SV,h'= .row v.v 3 81 ((zdb h).map znk):: .glob 0 117 x9:: .glob 3 148 x3:: .glob 5 276 x6:: .glob 6 279 y7:: .glob 2 197 u3:: []∧r= .tup [.v v.v,iv (v6 h)]):=by
 refine z6 Tryz.func33 rfl rfl rfl ?_;refine rn ?_;refine z8 rfl (w7 rfl rfl rfl fun b1=>?_);refine rn ?_;refine qv rfl rfl (y3 rfl rfl (y4.qt (y4.of_fun (zqn h la)) ((pt2 _ _ _ _).trans (.cons _ ((pt2 _ _ _ _).trans (.cons _ ((pt2 _ _ _ _).trans (.cons _ (pt2 _ _ _ _))))))))) ?_;refine rn ?_;refine z7 rfl (fun hc9=>?_) (fun hc9=>?_)
 ·have hc:v6 h≠0:=nzT hc9;refine rn ?_;exact zb9 rfl rfl (.trans (.drop [_] _ _) (j7 3 81 _)) ⟨⟨none,0,0⟩,by rw [ya7 hc];rfl,rfl⟩
 have hc:v6 h=0:=nzF hc9;have lS:=(zeq hc).ss;refine rn ?_;refine z8 rfl (q7 rfl rfl (y4.of_fun (yog h la _)) rfl ?_);rintro _ _ ⟨m,rfl,rfl⟩;refine z8 rfl (y6 rfl fun b5=>?_);refine rn ?_;refine z8 rfl (q7 rfl rfl (y4.of_fun (ysu h (by omega) (yun h) (.fn (.func 85) [] [pZ b1,pZ b5]) _ (fun k hk=>y4.of_acall (fs:= []) (cs:= [pZ b1,pZ b5]) (yst h la m b1 b5 k)))) rfl ?_);rintro _ _ ⟨v,rfl,rfl⟩;refine rn ?_;exact zb9 rfl rfl (.trans (.perm ((pt1 _ _ _).trans (.cons _ ((pt1 _ _ _).trans (.cons _ (pt1 _ _ _))))) _) (.drop [_,_,_] _ _)) ⟨v,by rw [yuw hc],by rw [hc];rfl⟩
theorem zqs (h:Hist) (la:Lim 4611686018427387904 h):y9 Tryz.prog 33 [.agg (y8 h)] (.glob 0 117 x9:: .glob 3 148 x3:: .glob 5 276 x6:: .glob 6 279 y7:: .glob 2 197 u3:: []) (fun r h'=>h'= .glob 0 117 x9:: .glob 3 148 x3:: .glob 5 276 x6:: .glob 6 279 y7:: .glob 2 197 u3:: []∧r= .tup [zdq (zdb h),iv (v6 h)]):=(yin h la).ventR (by rintro _ _ ⟨v,rfl,rfl⟩;exact ⟨_,_,zba [] [_],rfl,rfl⟩)
def lkJ (L:List Grd) (g:Grd) (i j:Nat):List (Int×Int):=zcx (L.take i)++((((List.range j).map zfe).filter (zoh g)).map fun b=>(g.s,b))
theorem yr0 (L:List Grd) (g:Grd) (i:Nat):lkJ L g i 0=zcx (L.take i):=by simp [lkJ]
theorem yh6 {L:List Grd} {g:Grd} {i j:Nat} (hb:zoh g (zfe j)=true):lkJ L g i (j+1)=lkJ L g i j++ [(g.s,zfe j)]:=by
 rw [lkJ,lkJ,S3,D9,K5,D9,←E0];simp [hb]
theorem ynt {L:List Grd} {g:Grd} {i j:Nat} (hb:zoh g (zfe j)=false):lkJ L g i (j+1)=lkJ L g i j:=by
 rw [lkJ,lkJ,S3,D9,K5,D9,←E0];simp [hb]
theorem ynu {L:List Grd} {i:Nat} (hi:i < L.length):lkJ L L[i] i 4=zcx (L.take (i+1)):=by
 rw [lkJ,zcx,zcx,A5 hi,M0];simp only [I6,N7,F8];rfl
theorem yc2 (L:List Grd) (g:Grd) (i:Nat):∀k j,∃r,lkJ L g i (j+k)=lkJ L g i j++r
 |0,j=>⟨[],by simp⟩
 |k+1,j=>by
  obtain ⟨r,hr⟩:=yc2 L g i k j;cases hb:zoh g (zfe (j+k)) with
  |true=>exact ⟨r++ [(g.s,zfe (j+k))],by rw [←O9,yh6 hb,hr,E0]⟩
  |false=>exact ⟨r,by rw [←O9,ynt hb,hr]⟩
theorem yry {L:List Grd} {i j:Nat} (hi:i < L.length) (hj:j < 4) (hb:zoh L[i] (zfe j)=true):∃rest,zcx L=lkJ L L[i] i j++(L[i].s,zfe j)::rest:=by
 obtain ⟨r,hr⟩:=yc2 L L[i] i (3 - j) (j+1);rw [show j+1+(3 - j)=4 by omega,ynu hi,yh6 hb] at hr;refine ⟨r++zcx (L.drop (i+1)),?_⟩;have e:zcx L=zcx (L.take (i+1))++zcx (L.drop (i+1)):=by
  rw [zcx,zcx,zcx,←M0,G9]
 rw [e,hr];simp
def riO (h:Hist):Bool:=decide (v6 h=0) && decide (zcx (zdb h)= [])
theorem yu9 {h:Hist} (hc:v6 h≠0):riO h=false:=by rw [riO,I9 hc,B0]
theorem ymu {h:Hist} (hc:v6 h=0):riO h=decide (zcx (zdb h)= []):=by rw [riO,I4 hc,B9]
theorem tab_len (h:Hist):(zdb h).length≤3000:=by
 by_cases hc:v6 h=0
 ·rw [zwt hc,oM,upR,oM,S9];exact (zeq hc).ss
 rw [ya7 hc];exact G1 _
theorem yh3 {d:Int×Int} {pre rest l:List (Int×Int)} (hL:l=pre++d::rest) (h:pre= []):l=d::rest:=by rw [hL,h];rfl
theorem ydq (L:List Grd) (W:List Res):y9 Tryz.prog 86 [zdq L] W (fun r h'=>∃bl,h'= .box bl 70 [zdq L]::W∧r= .fn (.func 125) [] [pZ bl]):=by
 refine z6 Tryz.func86 rfl rfl rfl ?_;refine rn ?_;refine z8 rfl (w7 rfl rfl rfl fun b1=>?_);refine rn ?_;exact u6 rfl (.refl _ _) ⟨_,rfl,rfl⟩
theorem ydp (L:List Grd) (hL:L.length≤1000000) (y:AV) (bl:Nat) {σ:Type} (p:List (Int×Int)→σ→Prop) (q:σ→Prop) (I:List (Int×Int)→σ→List Res) (X:σ→List Res) (x0:σ) (hp0:p [] x0) (hy:∀pre d rest x,(zcx L)=pre++d::rest→p pre x→y4 Tryz.prog y [iv d.1,iv d.2] (.box bl 70 [zdq L]::I pre x) (fun r h'=>∃x',(r=bv true∧p (pre++ [d]) x'∧h'= .box bl 70 [zdq L]::I (pre++ [d]) x')∨(r=bv false∧q x'∧h'= .box bl 70 [zdq L]::X x'))):y9 Tryz.prog 125 [y,pZ bl] (.box bl 70 [zdq L]::I [] x0) (fun r h'=>∃x,(p (zcx L) x∧h'= .box bl 70 [zdq L]::I (zcx L) x)∨(q x∧h'= .box bl 70 [zdq L]::X x)):=by
 refine z6 Tryz.func125 rfl rfl rfl ?_;refine rn ?_;refine zb5 L.length (fun i (x:σ)=>p (zcx (L.take i)) x) (fun i x=>⟨[(9,iv i),(0,y),(7,zdq L),(8,iv (L.map znk).length)],.box bl 70 [zdq L]::I (zcx (L.take i)) x,[]⟩) x0 hp0 es ?_;intro i x li zi;refine rn ?_;refine z7 rfl (fun hc10=>?_) (fun hc10=>?_)
 ·have hi:=zaw hc10;have ri:=zam (f:=znk) hi;refine rn ?_;refine z8 rfl (y6 rfl fun b4=>?_);refine rn ?_;refine zb5 4 (fun j (x:σ)=>p (lkJ L L[i] i j) x) (fun j x=>⟨[(13,iv j),(0,y),(4,pZ b4),(7,zdq L),(8,iv (L.map znk).length),(9,iv i)],.box b4 81 (znk L[i]):: .box bl 70 [zdq L]::I (lkJ L L[i] i j) x,[]⟩) x (by rw [yr0];exact zi) (by rw [yr0];exact eA) ?_;intro j x lj zj;refine rn ?_;refine z7 rfl (fun hc14=>?_) (fun hc14=>?_)
  ·have hj:j < 4:=by have q:=oT hc14;omega
   refine k7 ?_;refine j8 ?_;refine x7 ?_;refine k8 ?_;refine x7 (y5 ?_);refine q1 ?_;refine q1 ?_;refine u1 (j8 ?_);refine x7 (y5 ?_);refine q1 ?_;refine qq rfl rfl (zg5 (c:=zfe j) rfl rfl (yqm hj) (Int.natCast_nonneg _)) ?_;refine rn ?_;refine x5 (fun hg7_8=>?_) (fun hg7_8=>?_)
   ·refine q1 ?_;refine q1 ?_;refine q1 ?_;refine q1 ?_;have hb:zoh L[i] (zfe j)=true:=hg7_8;obtain ⟨rest,hL2⟩:=yry hi hj hb;refine z8 rfl (q7 rfl rfl (y4.fr1 (hy (lkJ L L[i] i j) _ rest x hL2 zj)) rfl ?_);rintro _ _ ⟨_,rfl,x',⟨rfl,hp',rfl⟩|⟨rfl,hq',rfl⟩⟩
    ·refine rn ?_;refine z7 rfl (fun hc33=>?_) (fun hc33=>?_)
     ·first|cases hc33|exact absurd hc33 (by decide)|(exfalso;simp_all;done)
     refine rn ?_;exact ⟨hj,x',by rw [yh6 hb];exact hp',by rw [yh6 hb];exact eA⟩
    refine rn ?_;refine z7 rfl (fun hc33=>?_) (fun hc33=>?_)
    ·refine rn ?_;exact zdn .nil (.drop [_] _ _) ⟨x',.inr ⟨hq',rfl⟩⟩
    first|cases hc33|exact absurd hc33 (by decide)|(exfalso;simp_all;done)
   refine rn ?_;refine zfd rfl ?_;refine rn ?_;have hb:zoh L[i] (zfe j)=false:=hg7_8;exact ⟨hj,x,by rw [ynt hb];exact zj,by rw [ynt hb];exact eA⟩
  obtain rfl:j=4:=by have q:=oF hc14;omega
  refine rn ?_;exact ⟨hi,x,by rw [←ynu hi];exact zj,by rw [←ynu hi];exact eA⟩
 have qi:=zaz hc10 li;subst qi;rw [C7] at zi ⊢;refine rn ?_;exact zfi .nil (.refl _ _) ⟨x,.inl ⟨zi,rfl⟩⟩
theorem yoe (h:Hist) (la:Lim 4611686018427387904 h):y9 Tryz.prog 34 [.agg (y8 h)] (.glob 0 117 x9:: .glob 3 148 x3:: .glob 5 276 x6:: .glob 6 279 y7:: .glob 2 197 u3:: []) (fun r h'=>h'= .glob 0 117 x9:: .glob 3 148 x3:: .glob 5 276 x6:: .glob 6 279 y7:: .glob 2 197 u3:: []∧r= .tup [bv (riO h),iv (v6 h)]):=by
 refine z6 Tryz.func34 rfl rfl rfl ?_;refine rn ?_;refine z8 rfl (w7 rfl rfl rfl fun b1=>?_);refine rn ?_;refine zke ?_;refine rn ?_;refine qv rfl rfl (y3 rfl rfl (y4.qt (y4.of_fun (zqs h la)) ((pt1 _ _ _).trans (.cons _ ((pt1 _ _ _).trans (.cons _ ((pt1 _ _ _).trans (.cons _ ((pt1 _ _ _).trans (.cons _ (pt1 _ _ _))))))))))) ?_;refine rn ?_;refine z7 rfl (fun hc13=>?_) (fun hc13=>?_)
 ·have hc:v6 h≠0:=nzT hc13;refine rn ?_;refine ⟨fun l h=>(by cases h),?_⟩;exact zb9 rfl rfl (.drop [_] _ _) ⟨rfl,by rw [yu9 hc];rfl⟩
 have hc:v6 h=0:=nzF hc13;refine rn ?_;refine z8 rfl (y6 rfl fun b6=>?_);refine rn ?_;refine z8 rfl (q7 rfl rfl (y4.of_fun (ydq (zdb h) _)) rfl ?_);rintro _ _ ⟨bl,rfl,rfl⟩;refine rn ?_;refine zoi (fun pend h''=>(pend=none∧(zcx (zdb h))= []∧h''= .box bl 70 [zdq (zdb h)]:: .box b6 4 [bv true]:: .box b1 28 (y8 h):: .glob 0 117 x9:: .glob 3 148 x3:: .glob 5 276 x6:: .glob 6 279 y7:: .glob 2 197 u3:: [])∨(pend=some (.exit 0)∧(∃d rest,(zcx (zdb h))=d::rest)∧h''= .box bl 70 [zdq (zdb h)]:: .box b6 4 [bv false]:: .box b1 28 (y8 h):: .glob 0 117 x9:: .glob 3 148 x3:: .glob 5 276 x6:: .glob 6 279 y7:: .glob 2 197 u3:: [])) rfl (fun fn l q lp hlp=>?_) (fun q h'' hK=>?_) (fun q h'' cc hK=>?_)
 ·suffices hy:∀pre d rest (x:Unit),(zcx (zdb h))=pre++d::rest→pre= []→y4 Tryz.prog (yv l) [iv d.1,iv d.2] (.box bl 70 [zdq (zdb h)]::lp .ready none:: .defs q:: .box b6 4 [bv true]:: .box b1 28 (y8 h):: .glob 0 117 x9:: .glob 3 148 x3:: .glob 5 276 x6:: .glob 6 279 y7:: .glob 2 197 u3:: []) (fun r h'=>∃x':Unit,(r=bv true∧pre++ [d]= []∧h'= .box bl 70 [zdq (zdb h)]::lp .ready none:: .defs q:: .box b6 4 [bv true]:: .box b1 28 (y8 h):: .glob 0 117 x9:: .glob 3 148 x3:: .glob 5 276 x6:: .glob 6 279 y7:: .glob 2 197 u3:: [])∨(r=bv false∧(∃d rest,(zcx (zdb h))=d::rest)∧h'= .box bl 70 [zdq (zdb h)]::lp .done (some (.exit 0)):: .defs q:: .box b6 4 [bv false]:: .box b1 28 (y8 h):: .glob 0 117 x9:: .glob 3 148 x3:: .glob 5 276 x6:: .glob 6 279 y7:: .glob 2 197 u3:: [])) by
   refine y9.mono (y9.perm (pt2 _ _ _ _) (ydp (zdb h) (by have:=tab_len h;omega) (yv l) bl (fun pre _=>pre= []) (fun _=>∃d rest,(zcx (zdb h))=d::rest) (fun _ _=>lp .ready none:: .defs q:: .box b6 4 [bv true]:: .box b1 28 (y8 h):: .glob 0 117 x9:: .glob 3 148 x3:: .glob 5 276 x6:: .glob 6 279 y7:: .glob 2 197 u3:: []) (fun _=>lp .done (some (.exit 0)):: .defs q:: .box b6 4 [bv false]:: .box b1 28 (y8 h):: .glob 0 117 x9:: .glob 3 148 x3:: .glob 5 276 x6:: .glob 6 279 y7:: .glob 2 197 u3:: []) () rfl hy)) ?_;rintro _ _ ⟨x,⟨hn,rfl⟩|⟨hn,rfl⟩⟩
   ·exact ⟨none,.ready,_,((pt1 _ _ _).trans (.cons _ (pt1 _ _ _))),by simp,.inl ⟨rfl,hn,rfl⟩⟩
   exact ⟨some (.exit 0),.done,_,((pt1 _ _ _).trans (.cons _ (pt1 _ _ _))),by simp,.inr ⟨rfl,hn,rfl⟩⟩
  intro pre d rest x hL hpre;refine y4.perm (pt1 _ _ _) (y4.ventE ?_);refine zez hlp rfl rfl ?_;refine rn ?_;refine ⟨[(6,pZ b6)],.box bl 70 [zdq (zdb h)]:: .defs q:: .box b6 4 [bv true]:: .box b1 28 (y8 h):: .glob 0 117 x9:: .glob 3 148 x3:: .glob 5 276 x6:: .glob 6 279 y7:: .glob 2 197 u3:: [],eA,?_⟩;refine rn ?_;exact zmy (.refl _) ⟨_,_,.perm (pt1 _ _ _) _,(),.inr ⟨rfl,⟨d,rest,yh3 hL hpre⟩,rfl⟩⟩
 ·obtain ⟨_,hn,rfl⟩|⟨hc',_⟩:=hK
  rotate_left
  ·cases hc'
  refine rn ?_;refine ⟨fun l h=>(by cases h),?_⟩;exact zio (.refl _) (.cons _ _ _ _ (.tmp _ _ rfl) (.cons _ _ _ _ (.tmp _ _ rfl) .nil)) (.drop [_,_,_] _ _) ⟨rfl,by rw [ymu hc,hn,hc];rfl⟩
 obtain ⟨hc',_⟩|⟨hc',⟨d,rest,hn⟩,rfl⟩:=hK
 ·cases hc'
 obtain rfl:cc= .exit 0:=by simpa using hc'
 refine rn ?_;refine ⟨fun l h=>(by cases h),?_⟩;exact zio (.refl _) (.cons _ _ _ _ (.tmp _ _ rfl) (.cons _ _ _ _ (.tmp _ _ rfl) .nil)) (.drop [_,_,_] _ _) ⟨rfl,by rw [ymu hc,hn,hc];rfl⟩
def zz6 (h:Hist) (d:Int×Int):Brch:=(seB h d.1 d.2).head?.getD br0
theorem yid (L:List Grd):(zcx L).length≤4 * L.length:=by
 induction L with
 |nil=>simp [zcx]
 |cons g L ih=>
  have h1:zcx (g::L)=((zjh.filter (zoh g)).map fun b=>(g.s,b))++zcx L:=rfl;have h2:(zjh.filter (zoh g)).length≤4:=K6 _ _;rw [h1,D4,oM,E6];omega
set_option maxHeartbeats 8000000 in
theorem yio (h:Hist) (la:Lim 4611686018427387904 h):y9 Tryz.prog 35 [.agg (y8 h)] (.glob 0 117 x9:: .glob 3 148 x3:: .glob 5 276 x6:: .glob 6 279 y7:: .glob 2 197 u3:: []) (fun r h'=>∃v w:SV,h'= .row v.v 6 36 ((((zcx (zdb h))).map (zz6 h)).map zc4):: .row w.v 1 3 ((((zcx (zdb h))).map Prod.fst).map zag):: .glob 0 117 x9:: .glob 3 148 x3:: .glob 5 276 x6:: .glob 6 279 y7:: .glob 2 197 u3:: []∧r= .tup [.v v.v,.v w.v,iv (v6 h)]):=by
 refine z6 Tryz.func35 rfl rfl rfl ?_;refine rn ?_;refine z8 rfl (w7 rfl rfl rfl fun b1=>?_);refine rn ?_;refine qv rfl rfl (y3 rfl rfl (y4.qt (y4.of_fun (zqs h la)) ((pt1 _ _ _).trans (.cons _ ((pt1 _ _ _).trans (.cons _ ((pt1 _ _ _).trans (.cons _ ((pt1 _ _ _).trans (.cons _ (pt1 _ _ _))))))))))) ?_;refine rn ?_;refine z7 rfl (fun hc20=>?_) (fun hc20=>?_)
 ·have hc:v6 h≠0:=nzT hc20;refine rn ?_;exact zdn (.cons _ _ _ _ (.tmp _ _ rfl) (.cons _ _ _ _ (.tmp _ _ rfl) (.cons _ _ _ _ (.tmp _ _ rfl) .nil))) (.trans (.drop [_] _ _) (.trans (j7 1 3 _) (j7 6 36 _))) ⟨⟨none,0,0⟩,⟨none,0,0⟩,by rw [ya7 hc];rfl,rfl⟩
 have hc:v6 h=0:=nzF hc20;refine rn ?_;refine z8 rfl (y6 rfl fun b7=>?_);refine rn ?_;refine z8 rfl (y6 rfl fun b8=>?_);refine rn ?_;refine z8 rfl (q7 rfl rfl (y4.of_fun (ydq (zdb h) _)) rfl ?_);rintro _ _ ⟨bl,rfl,rfl⟩;refine rn ?_;refine zgv (s':=⟨[(23,.fn (.func 125) [] [pZ bl]),(1,pZ b1),(7,pZ b7),(8,pZ b8)],.row (⟨none,0,0⟩:SV).v 6 36 (((([]:List (Int×Int))).map (zz6 h)).map zc4):: .row (⟨none,0,0⟩:SV).v 1 3 (((([]:List (Int×Int))).map Prod.fst).map zag):: .box bl 70 [zdq (zdb h)]:: .box b8 54 [.v (⟨none,0,0⟩:SV).v]:: .box b7 44 [.v (⟨none,0,0⟩:SV).v]:: .box b1 28 (y8 h):: .glob 0 117 x9:: .glob 3 148 x3:: .glob 5 276 x6:: .glob 6 279 y7:: .glob 2 197 u3:: [],[]⟩) (w8 (zaf 1 3) (w8 (zaf 6 36) es)) ?_;refine zoi (fun pend h''=>pend=none∧∃v w:SV,h''= .box bl 70 [zdq (zdb h)]:: .row v.v 6 36 ((((zcx (zdb h))).map (zz6 h)).map zc4):: .row w.v 1 3 ((((zcx (zdb h))).map Prod.fst).map zag):: .box b8 54 [.v w.v]:: .box b7 44 [.v v.v]:: .box b1 28 (y8 h):: .glob 0 117 x9:: .glob 3 148 x3:: .glob 5 276 x6:: .glob 6 279 y7:: .glob 2 197 u3:: []) rfl (fun fn l q lp hlp=>?_) (fun q h'' hK=>?_) (fun q h'' cc hK=>?_)
 ·suffices hy:∀pre d rest (z:SV×SV),(zcx (zdb h))=pre++d::rest→True→y4 Tryz.prog (yv l) [iv d.1,iv d.2] (.box bl 70 [zdq (zdb h)]::lp .ready none:: .defs q:: .row z.1.v 6 36 (((pre).map (zz6 h)).map zc4):: .row z.2.v 1 3 (((pre).map Prod.fst).map zag):: .box b8 54 [.v z.2.v]:: .box b7 44 [.v z.1.v]:: .box b1 28 (y8 h):: .glob 0 117 x9:: .glob 3 148 x3:: .glob 5 276 x6:: .glob 6 279 y7:: .glob 2 197 u3:: []) (fun r h'=>∃z':SV×SV,(r=bv true∧True∧h'= .box bl 70 [zdq (zdb h)]::lp .ready none:: .defs q:: .row z'.1.v 6 36 (((pre++ [d]).map (zz6 h)).map zc4):: .row z'.2.v 1 3 (((pre++ [d]).map Prod.fst).map zag):: .box b8 54 [.v z'.2.v]:: .box b7 44 [.v z'.1.v]:: .box b1 28 (y8 h):: .glob 0 117 x9:: .glob 3 148 x3:: .glob 5 276 x6:: .glob 6 279 y7:: .glob 2 197 u3:: [])∨(r=bv false∧False∧h'= .box bl 70 [zdq (zdb h)]:: [])) by
   refine y9.mono (y9.perm (pt4 _ _ _ _ _ _) (ydp (zdb h) (by have:=tab_len h;omega) (yv l) bl (fun _ (_:SV×SV)=>True) (fun _=>False) (fun pre (z:SV×SV)=>lp .ready none:: .defs q:: .row z.1.v 6 36 (((pre).map (zz6 h)).map zc4):: .row z.2.v 1 3 (((pre).map Prod.fst).map zag):: .box b8 54 [.v z.2.v]:: .box b7 44 [.v z.1.v]:: .box b1 28 (y8 h):: .glob 0 117 x9:: .glob 3 148 x3:: .glob 5 276 x6:: .glob 6 279 y7:: .glob 2 197 u3:: []) (fun _=> []) (⟨none,0,0⟩,⟨none,0,0⟩) trivial hy)) ?_;rintro _ _ ⟨z,⟨-,rfl⟩|⟨hF,_⟩⟩
   ·exact ⟨none,.ready,_,((pt1 _ _ _).trans (.cons _ (pt1 _ _ _))),by simp,rfl,z.1,z.2,rfl⟩
   exact hF.elim
  rintro pre d rest ⟨vB,vI⟩ hL _;show y4 _ _ _ (.box bl 70 [zdq (zdb h)]::lp .ready none:: .defs q:: .row vB.v 6 36 (((pre).map (zz6 h)).map zc4):: .row vI.v 1 3 (((pre).map Prod.fst).map zag):: .box b8 54 [.v vI.v]:: .box b7 44 [.v vB.v]:: .box b1 28 (y8 h):: .glob 0 117 x9:: .glob 3 148 x3:: .glob 5 276 x6:: .glob 6 279 y7:: .glob 2 197 u3:: []) _;have hpl:pre.length≤12000:=by
   have h1:=yid (zdb h);have h2:=tab_len h;rw [hL,D4] at h1;omega
  refine y4.perm (pt1 _ _ _) (y4.ventE ?_);refine zez hlp rfl rfl ?_;refine rn ?_;refine ⟨[(9,iv d.1),(10,iv d.2),(1,pZ b1),(7,pZ b7),(8,pZ b8)],.box bl 70 [zdq (zdb h)]:: .defs q:: .row vB.v 6 36 (((pre).map (zz6 h)).map zc4):: .row vI.v 1 3 (((pre).map Prod.fst).map zag):: .box b8 54 [.v vI.v]:: .box b7 44 [.v vB.v]:: .box b1 28 (y8 h):: .glob 0 117 x9:: .glob 3 148 x3:: .glob 5 276 x6:: .glob 6 279 y7:: .glob 2 197 u3:: [],eA,?_⟩;refine rn ?_;refine qv rfl rfl (y3 rfl rfl (y4.qt (y4.of_fun (ygn h la d.1 d.2)) ((pt8 _ _ _ _ _ _ _ _ _ _).trans (.cons _ ((pt8 _ _ _ _ _ _ _ _ _ _).trans (.cons _ ((pt8 _ _ _ _ _ _ _ _ _ _).trans (.cons _ ((pt8 _ _ _ _ _ _ _ _ _ _).trans (.cons _ (pt8 _ _ _ _ _ _ _ _ _ _))))))))))) ?_;refine rn ?_;refine z8 rfl (y6 rfl fun b11=>?_);refine rn ?_;refine zyp 7 (.box b11 36 (zc4 (zz6 h d))::lp .busy none:: .box bl 70 [zdq (zdb h)]:: .defs q:: .row vI.v 1 3 (((pre).map Prod.fst).map zag):: .box b8 54 [.v vI.v]:: .box b7 44 [.v vB.v]:: .box b1 28 (y8 h):: .glob 0 117 x9:: .glob 3 148 x3:: .glob 5 276 x6:: .glob 6 279 y7:: .glob 2 197 u3:: []) rfl ?_;refine rn ?_;refine mv rfl rfl (q8 rfl rfl) ?_;refine yxp (xs:=((pre.map (zz6 h)).map zc4)) rfl rfl rfl rfl rfl rfl (by simp only [oM,E6,F3];omega) (fun r hr=>by rw [D7.1 hr];rfl) ?_;refine rn ?_;refine mv rfl rfl (q8 rfl rfl) ?_;refine ypv ⟨(pt4 _ _ _ _ _ _),?_⟩;refine rn ?_;refine zfn fun s37=>?_;refine rn ?_;refine z8 rfl (j3 rfl rfl (by simp only [oM,E6,F3];omega) rfl (fun s41=>?_) (fun r hr=>by rw [D7.1 hr];rfl));refine zac s41 fun sv hsv=>?_;subst hsv;refine rn ?_;exact zi6 (pt2 _ _ _ _) ⟨_,_,.trans (.perm ((pt2 _ _ _ _).trans (.cons _ ((pt2 _ _ _ _).trans (.cons _ (.cons _ (pt1 _ _ _)))))) _) (.drop [_] _ _),(s37,sv),.inl ⟨rfl,trivial,by simp only [D9];rfl⟩⟩
 ·obtain ⟨_,v,w,rfl⟩:=hK;refine rn ?_;refine j5 3 rfl ?_;refine rn ?_;exact zio (.refl _) (.cons _ _ _ _ (.tmp _ _ rfl) (.cons _ _ _ _ (.tmp _ _ rfl) (.cons _ _ _ _ (.tmp _ _ rfl) .nil))) (.trans (.perm (.cons _ ((pt2 _ _ _ _).trans (.cons _ ((pt2 _ _ _ _).trans (.cons _ (pt2 _ _ _ _)))))) _) (.drop [_,_,_,_] _ _)) ⟨v,w,rfl,by rw [hc];rfl⟩
 obtain ⟨hc',_⟩:=hK;exact absurd hc' (by simp)
theorem yof (h:Hist) (la:Lim 4611686018427387904 h):y9 Tryz.prog 35 [.agg (y8 h)] (.glob 0 117 x9:: .glob 3 148 x3:: .glob 5 276 x6:: .glob 6 279 y7:: .glob 2 197 u3:: []) (fun r h'=>h'= .glob 0 117 x9:: .glob 3 148 x3:: .glob 5 276 x6:: .glob 6 279 y7:: .glob 2 197 u3:: []∧r= .tup [zyk ((zcx (zdb h)).map (zz6 h)),zcs ((zcx (zdb h)).map Prod.fst),iv (v6 h)]):=(yio h la).ventR (by rintro _ _ ⟨v,w,rfl,rfl⟩;exact ⟨_,_,(zba [] [_,_]).trans (zba [_] [_]),rfl,rfl⟩)
set_option maxHeartbeats 8000000 in
theorem ykl (h:Hist) (la:Lim 1000000 h):y9 Tryz.prog 90 [.agg (y8 h)] [] (fun r h'=>∃(n:NV) (o:SV×SV×SV) (E:List (SV×Ev)) (O:List (SV×H.Ord)) (M:List (SV×Mat)),E.map (·.2)=h.evs∧O.map (·.2)=h.ords∧M.map (·.2)=h.mats∧h'= .row n.vT.v 1 9 (h.ts.map zaq):: .row n.vS.v 1 9 (h.ss.map zaq):: .row n.vO.v 1 9 (h.os.map zaq):: .row n.vP.v 1 9 (h.ps.map zaq):: .row o.1.v 9 66 (E.map zuf):: .row o.2.1.v 2 99 (O.map zp6):: .row o.2.2.v 4 112 (M.map zsv)::(scR 139 E++(otR 3 O++mtR 3 M))∧r= .agg [.v n.vT.v,.v n.vS.v,.v n.vO.v,.v n.vP.v,.v o.1.v,.v o.2.1.v,.v o.2.2.v,zd3 h.wants]):=by
 refine z6 Tryz.func90 rfl rfl rfl ?_;refine rn ?_;refine z8 rfl (w7 rfl rfl rfl fun b1=>?_);refine z8 rfl (y6 rfl fun b2=>?_);refine rn0 ?_;refine zhj (fun _:SV×SV×SV×SV=>True) (fun x=>⟨[(1,pZ b1),(2,pZ b2)],.box b2 28 zbd:: .box b1 28 [.v x.1.v,.v x.2.1.v,.v x.2.2.1.v,.v x.2.2.2.v,zll h.evs,zb2 h.ords,zb3 h.mats,zd3 h.wants]:: .row x.1.v 1 9 (h.ts.map zaq):: .row x.2.1.v 1 9 (h.ss.map zaq):: .row x.2.2.1.v 1 9 (h.os.map zaq):: .row x.2.2.2.v 1 9 (h.ps.map zaq):: [],[]⟩) ?_ ?_
 ·refine zkf 13 rfl ?_;refine rn ?_;refine zog (zvm 1 9 (h.ts.map zaq)) rfl rfl rfl (ziy (y4.of_fun (zfs _ (by rw [oM];have:=la.ts;omega) (zna _)))) ?_;refine rn ?_;refine zog (zvm 1 9 (h.ss.map zaq)) rfl rfl rfl (ziy (y4.of_fun (zfs _ (by rw [oM];have:=la.ss;omega) (zna _)))) ?_;refine rn ?_;refine zog (zvm 1 9 (h.os.map zaq)) rfl rfl rfl (ziy (y4.of_fun (zfs _ (by rw [oM];have:=la.os;omega) (zna _)))) ?_;refine rn ?_;refine zog (zvm 1 9 (h.ps.map zaq)) rfl rfl rfl (ziy (y4.of_fun (zfs _ (by rw [oM];have:=la.ps;omega) (zna _)))) ?_;refine rn ?_;refine ypv ⟨.refl _,?_⟩;refine rn ?_;refine zfn fun s8=>?_;refine rn ?_;refine zfn fun s11=>?_;refine rn ?_;refine zfn fun s14=>?_;refine rn ?_;refine zfn fun s17=>?_;refine rn ?_;exact ⟨(s8,s11,s14,s17),trivial,w8 (zau ((pt4 _ _ _ _ _ _).trans (.cons _ ((pt4 _ _ _ _ _ _).trans (.cons _ ((pt3 _ _ _ _ _).trans (.cons _ ((pt2 _ _ _ _).trans (.cons _ (pt1 _ _ _)))))))))) (w6 (.cons _ _ _ rfl (.cons _ _ _ rfl (.nil))))⟩
 rintro ⟨s8,s11,s14,s17⟩ _;refine zhj (fun _:SV×SV×SV=>True) (fun x=>⟨[(1,pZ b1),(2,pZ b2)],.box b2 28 zbd:: .box b1 28 [.v s8.v,.v s11.v,.v s14.v,.v s17.v,.v x.1.v,.v x.2.1.v,.v x.2.2.v,zd3 h.wants]:: .row s8.v 1 9 (h.ts.map zaq):: .row s11.v 1 9 (h.ss.map zaq):: .row s14.v 1 9 (h.os.map zaq):: .row s17.v 1 9 (h.ps.map zaq):: .row x.1.v 9 66 (h.evs.map evR):: .row x.2.1.v 2 99 (h.ords.map zb7):: .row x.2.2.v 4 112 (h.mats.map zck):: [],[]⟩) ?_ ?_
 ·refine zkf 10 rfl ?_;refine rn ?_;refine zog (zvm 9 66 (h.evs.map evR)) rfl rfl rfl (ziy (y4.of_fun (yac _ (by rw [oM];have:=la.evs;omega) (yj8 _)))) ?_;refine rn ?_;refine zog (zvm 2 99 (h.ords.map zb7)) rfl rfl rfl (ziy (y4.of_fun (zwd _ (by rw [oM];have:=la.ords;omega) (ynh _)))) ?_;refine rn ?_;refine zog (zvm 4 112 (h.mats.map zck)) rfl rfl rfl (ziy (y4.of_fun (zwe _ (by rw [oM];have:=la.mats;omega) (yni _)))) ?_;refine rn ?_;refine ypv ⟨.refl _,?_⟩;refine rn ?_;refine zfn fun s24=>?_;refine rn ?_;refine zfn fun s27=>?_;refine rn ?_;refine zfn fun s30=>?_;refine rn ?_;exact ⟨(s24,s27,s30),trivial,w8 (zau ((pt3 _ _ _ _ _).trans (.cons _ ((pt3 _ _ _ _ _).trans (.cons _ ((pt3 _ _ _ _ _).trans (.cons _ ((pt3 _ _ _ _ _).trans (.cons _ ((pt3 _ _ _ _ _).trans (.cons _ ((pt3 _ _ _ _ _).trans (.cons _ ((pt2 _ _ _ _).trans (.cons _ (pt1 _ _ _)))))))))))))))) (w6 (.cons _ _ _ rfl (.cons _ _ _ rfl (.nil))))⟩
 rintro ⟨s24,s27,s30⟩ _
 refine rn ?_;refine u4 (fun x:Nat×List (SV×Ev)=>x.1≤h.evs.length∧x.2.map (·.2)=h.evs.take x.1) (fun x=>⟨[(37,iv x.1),(36,iv (h.evs.map evR).length),(1,pZ b1),(2,pZ b2)],.box b2 28 zbd:: .box b1 28 [.v s8.v,.v s11.v,.v s14.v,.v s17.v,.v s24.v,.v s27.v,.v s30.v,zd3 h.wants]:: .row s8.v 1 9 (h.ts.map zaq):: .row s11.v 1 9 (h.ss.map zaq):: .row s14.v 1 9 (h.os.map zaq):: .row s17.v 1 9 (h.ps.map zaq):: .row s24.v 9 66 (x.2.map zuf++(h.evs.drop x.1).map evR):: .row s27.v 2 99 (h.ords.map zb7):: .row s30.v 4 112 (h.mats.map zck)::scR 139 x.2,[]⟩) (fun x=>h.evs.length - x.1) (0,[]) ⟨by omega,rfl⟩
  (w6 (.cons _ _ _ rfl (.cons _ _ _ rfl (.cons _ _ _ rfl (.cons _ _ _ rfl (.nil)))))) ?_
 rintro ⟨k,x⟩ ⟨hk,hx⟩;simp only at hk hx;have hxl:=zqd hx hk;refine rn ?_;refine z7 rfl (fun hc38=>?_) (fun hc38=>?_)
 ·have hk2:k < h.evs.length:=by have q:=oT hc38;rw [oM] at q;omega
  obtain ⟨e,he⟩:∃e,e=h.evs[k]:=⟨_,rfl⟩;have hd:=A8 hk2;rw [←he] at hd;have hrow:(x.map zuf++(h.evs.drop k).map evR)[k]? =some (evR e):=zqf hxl hd;have hmem:e∈h.evs:=by rw [he];exact D0 hk2
  have hle:=la.evs;have hk3:k < (x.map zuf++(h.evs.drop k).map evR).length:=by rw [zqe hxl hk];exact hk2
  refine rn ?_;refine zkf 10 rfl ?_;refine mq rfl rfl qrA ?_;refine mq rfl rfl qrA ?_;refine mq rfl rfl qrA ?_;refine mq rfl rfl qrA ?_;refine mq rfl rfl qrA ?_;refine mq rfl rfl qrA ?_;refine mq rfl rfl (q9 rfl rfl hk3) ?_;refine mq rfl rfl qrA ?_;refine mq rfl rfl (zdp rfl hrow rfl) ?_;refine zog (zvm 3 139 (e.scan.map zav)) rfl rfl rfl (ziy (y4.of_fun (zt1 _ (by rw [oM];have:=(la.scans e hmem);omega) (yhn _)))) ?_;refine ypv ⟨.refl _,?_⟩;refine rn ?_;refine zfn fun s49=>?_;refine rn2 ?_;refine qq rfl rfl (q9 rfl rfl hk3) ?_;refine rn ?_;refine z8 rfl (zae rfl rfl rfl hrow rfl (A7 rfl) ?_);refine rn ?_;have hset:=zqc (f:=zuf) (g:=evR) (a:=(s49,e)) (r:=(evR e).take 8++ [.v s49.v]++(evR e).drop (8+1)) hxl hd rfl;have htl:scR 139 (x++ [(s49,e)])=scR 139 x++ [.row s49.v 3 139 (e.scan.map zav)]:=by simp [scR]
  exact ⟨(k+1,x++ [(s49,e)]),⟨by omega,zqb hx hk2 he⟩,by simp only [htl];exact w8 (zau (zd8 [_] _)) (by rw [←hset];exact (w6 (.cons _ _ _ rfl (.cons _ _ _ rfl (.cons _ _ _ rfl (.cons _ _ _ rfl (.nil))))))),by simp only;omega⟩
 obtain rfl:k=h.evs.length:=by
  have q:=oF hc38;rw [oM] at q;omega
 rw [C7] at hx;obtain ⟨E,hE⟩:∃E,E=x:=⟨_,rfl⟩;rw [←hE] at hx ⊢;have hxE:=hx;rw [E5,I1,F8]
 refine rn ?_;refine u4 (fun x:Nat×List (SV×H.Ord)=>x.1≤h.ords.length∧x.2.map (·.2)=h.ords.take x.1) (fun x=>⟨[(56,iv x.1),(55,iv (h.ords.map zb7).length),(1,pZ b1),(2,pZ b2)],.box b2 28 zbd:: .box b1 28 [.v s8.v,.v s11.v,.v s14.v,.v s17.v,.v s24.v,.v s27.v,.v s30.v,zd3 h.wants]:: .row s8.v 1 9 (h.ts.map zaq):: .row s11.v 1 9 (h.ss.map zaq):: .row s14.v 1 9 (h.os.map zaq):: .row s17.v 1 9 (h.ps.map zaq):: .row s24.v 9 66 (E.map zuf):: .row s27.v 2 99 (x.2.map zp6++(h.ords.drop x.1).map zb7):: .row s30.v 4 112 (h.mats.map zck)::(scR 139 E++otR 3 x.2),[]⟩) (fun x=>h.ords.length - x.1) (0,[]) ⟨by omega,rfl⟩
  (by simp only [otR,I1,F8];exact (w6 (.cons _ _ _ rfl (.cons _ _ _ rfl (.cons _ _ _ rfl (.cons _ _ _ rfl (.nil))))))) ?_
 rintro ⟨k,x⟩ ⟨hk,hx⟩;simp only at hk hx;have hxl:=zqd hx hk;refine rn ?_;refine z7 rfl (fun hc57=>?_) (fun hc57=>?_)
 ·have hk2:k < h.ords.length:=by have q:=oT hc57;rw [oM] at q;omega
  obtain ⟨e,he⟩:∃e,e=h.ords[k]:=⟨_,rfl⟩;have hd:=A8 hk2;rw [←he] at hd;have hrow:(x.map zp6++(h.ords.drop k).map zb7)[k]? =some (zb7 e):=zqf hxl hd;have hmem:e∈h.ords:=by rw [he];exact D0 hk2
  have hle:=la.ords;have hk3:k < (x.map zp6++(h.ords.drop k).map zb7).length:=by rw [zqe hxl hk];exact hk2
  refine rn ?_;refine zkf 10 rfl ?_;refine mq rfl rfl qrA ?_;refine mq rfl rfl qrA ?_;refine mq rfl rfl qrA ?_;refine mq rfl rfl qrA ?_;refine mq rfl rfl qrA ?_;refine mq rfl rfl qrA ?_;refine mq rfl rfl (q9 rfl rfl hk3) ?_;refine mq rfl rfl qrA ?_;refine mq rfl rfl (zdp rfl hrow rfl) ?_;refine zog (zvm 1 3 (e.ts.map zag)) rfl rfl rfl (ziy (y4.of_fun (zhe _ (by rw [oM];have:=(la.ordts e hmem);omega) (zja _)))) ?_;refine ypv ⟨.refl _,?_⟩;refine rn ?_;refine zfn fun s68=>?_;refine rn2 ?_;refine qq rfl rfl (q9 rfl rfl hk3) ?_;refine rn ?_;refine z8 rfl (zae rfl rfl rfl hrow rfl (A7 rfl) ?_);refine rn ?_;have hset:=zqc (f:=zp6) (g:=zb7) (a:=(s68,e)) (r:=(zb7 e).take 1++ [.v s68.v]++(zb7 e).drop (1+1)) hxl hd rfl;have htl:∀L:List Res,L++otR 3 (x++ [(s68,e)])=(L++otR 3 x)++ [.row s68.v 1 3 (e.ts.map zag)]:=by simp [otR]
  exact ⟨(k+1,x++ [(s68,e)]),⟨by omega,zqb hx hk2 he⟩,by simp only [htl];exact w8 (zau (zd8 [_] _)) (by rw [←hset];exact (w6 (.cons _ _ _ rfl (.cons _ _ _ rfl (.cons _ _ _ rfl (.cons _ _ _ rfl (.nil))))))),by simp only;omega⟩
 obtain rfl:k=h.ords.length:=by
  have q:=oF hc57;rw [oM] at q;omega
 rw [C7] at hx;obtain ⟨O,hO⟩:∃O,O=x:=⟨_,rfl⟩;rw [←hO] at hx ⊢;have hxO:=hx;rw [E5,I1,F8]
 refine rn ?_;refine u4 (fun x:Nat×List (SV×Mat)=>x.1≤h.mats.length∧x.2.map (·.2)=h.mats.take x.1) (fun x=>⟨[(75,iv x.1),(74,iv (h.mats.map zck).length),(1,pZ b1),(2,pZ b2)],.box b2 28 zbd:: .box b1 28 [.v s8.v,.v s11.v,.v s14.v,.v s17.v,.v s24.v,.v s27.v,.v s30.v,zd3 h.wants]:: .row s8.v 1 9 (h.ts.map zaq):: .row s11.v 1 9 (h.ss.map zaq):: .row s14.v 1 9 (h.os.map zaq):: .row s17.v 1 9 (h.ps.map zaq):: .row s24.v 9 66 (E.map zuf):: .row s27.v 2 99 (O.map zp6):: .row s30.v 4 112 (x.2.map zsv++(h.mats.drop x.1).map zck)::(scR 139 E++(otR 3 O++mtR 3 x.2)),[]⟩) (fun x=>h.mats.length - x.1) (0,[]) ⟨by omega,rfl⟩
  (by simp only [mtR,I1,F8];exact (w6 (.cons _ _ _ rfl (.cons _ _ _ rfl (.cons _ _ _ rfl (.cons _ _ _ rfl (.nil))))))) ?_
 rintro ⟨k,x⟩ ⟨hk,hx⟩;simp only at hk hx;have hxl:=zqd hx hk;refine rn ?_;refine z7 rfl (fun hc76=>?_) (fun hc76=>?_)
 ·have hk2:k < h.mats.length:=by have q:=oT hc76;rw [oM] at q;omega
  obtain ⟨e,he⟩:∃e,e=h.mats[k]:=⟨_,rfl⟩;have hd:=A8 hk2;rw [←he] at hd;have hrow:(x.map zsv++(h.mats.drop k).map zck)[k]? =some (zck e):=zqf hxl hd;have hmem:e∈h.mats:=by rw [he];exact D0 hk2
  have hle:=la.mats;have hk3:k < (x.map zsv++(h.mats.drop k).map zck).length:=by rw [zqe hxl hk];exact hk2
  refine rn ?_;refine zkf 10 rfl ?_;refine mq rfl rfl qrA ?_;refine mq rfl rfl qrA ?_;refine mq rfl rfl qrA ?_;refine mq rfl rfl qrA ?_;refine mq rfl rfl qrA ?_;refine mq rfl rfl qrA ?_;refine mq rfl rfl (q9 rfl rfl hk3) ?_;refine mq rfl rfl qrA ?_;refine mq rfl rfl (zdp rfl hrow rfl) ?_;refine zog (zvm 1 3 (e.ts.map zag)) rfl rfl rfl (ziy (y4.of_fun (zhe _ (by rw [oM];have:=(la.matts e hmem);omega) (zja _)))) ?_;refine ypv ⟨.refl _,?_⟩;refine rn ?_;refine zfn fun s87=>?_;refine rn2 ?_;refine qq rfl rfl (q9 rfl rfl hk3) ?_;refine rn ?_;refine z8 rfl (zae rfl rfl rfl hrow rfl (A7 rfl) ?_);refine rn ?_;have hset:=zqc (f:=zsv) (g:=zck) (a:=(s87,e)) (r:=(zck e).take 3++ [.v s87.v]++(zck e).drop (3+1)) hxl hd rfl;have htl:∀L L2:List Res,L++(L2++mtR 3 (x++ [(s87,e)]))=(L++(L2++mtR 3 x))++ [.row s87.v 1 3 (e.ts.map zag)]:=by simp [mtR]
  exact ⟨(k+1,x++ [(s87,e)]),⟨by omega,zqb hx hk2 he⟩,by simp only [htl];exact w8 (zau (zd8 [_] _)) (by rw [←hset];exact (w6 (.cons _ _ _ rfl (.cons _ _ _ rfl (.cons _ _ _ rfl (.cons _ _ _ rfl (.nil))))))),by simp only;omega⟩
 obtain rfl:k=h.mats.length:=by
  have q:=oF hc76;rw [oM] at q;omega
 rw [C7] at hx;obtain ⟨M,hM⟩:∃M,M=x:=⟨_,rfl⟩;rw [←hM] at hx ⊢;have hxM:=hx;rw [E5,I1,F8];refine rn ?_;exact zdn (.cons _ _ _ _ (.agg _ _ _ _ _ _ _ rfl inferInstance inferInstance inferInstance rfl) .nil) (.drop [_,_] _ _) ⟨⟨s8,s11,s14,s17⟩,⟨s24,s27,s30⟩,E,O,M,hxE,hxO,hxM,rfl,rfl⟩
theorem yvw (h:Hist) (la:Lim 1000000 h):y9 Tryz.prog 90 [.agg (y8 h)] [] (fun r h'=>h'= []∧r= .agg (y8 h)):=
 (ykl h la).ventR (by
  rintro _ _ ⟨n,o,E,O,M,hE,hO,hM,rfl,rfl⟩;exact ⟨_,_,zvf [] n o.1.v o.2.1.v o.2.2.v h E O M 9 66 99 112 139 3 _ hE hO hM (by simp) (by simp) (by simp) (by simp) (by simp) (by simp) (by simp) (fun r hr=>by simp [hr]) (fun r hr=>by simp [hr]) (fun r hr=>by simp [hr]),rfl,rfl⟩)
theorem yll (l:List Wan):∀r∈l.map zar,r.all AV.one=true:=by
 intro r hr;obtain ⟨x,_,rfl⟩:=H2.1 hr;rfl
theorem ywd (l:List Wan) (z:List AV):(l.map zar).take l.length++(List.replicate (l.map zar).length z).drop l.length=l.map zar:=by
 rw [List.drop_of_length_le (by simp),F8,M7 (by simp)]
theorem yau {l:List Wan} {s b:Int} (h:zbe (fun w:Wan=>w.s==s) 0 l < 0):(l++ [(⟨0,0⟩:Wan)]).set l.length ⟨s,b⟩=zfv l s b:=by
 rw [zfv,A6 h];simp
theorem yat {l:List Wan} {s b:Int} {k:Nat} (h:zbe (fun w:Wan=>w.s==s) 0 l=(k:Int)):l.set k ⟨s,b⟩=zfv l s b:=by
 rw [zfv,A0 (by omega),h];rfl
theorem ylh {l:List Wan} {s:Int} (h:¬zbe (fun w:Wan=>w.s==s) 0 l < 0):∃k:Nat,k < l.length∧zbe (fun w:Wan=>w.s==s) 0 l=(k:Int):=by
 obtain ⟨k,hk,e,_⟩:=znp (p:=fun w:Wan=>w.s==s) (l:=l) (i:=0) (by omega);exact ⟨k,hk,by rw [e];simp⟩
theorem zt6 {cs:List AV} (h:cs.all AV.one=true) {a:AV} (ha:a.one=true):(AV.agg (cs++ [a])).cellsOf=some (cs++ [a]):=by
 have e:(cs++ [a]).all AV.one=true:=by rw [List.all_append,h];simp [ha]
 show (match (cs++ [a]).all AV.one with|true=>some (cs++ [a])|false=>none)=_;rw [e]
theorem ydj (sv:SV) (l:List Wan) (fv:AV) (p:Wan→Bool) (G:List Res) (hp:∀a∈l,y4 Tryz.prog fv [.agg (zar a)] G (fun r h'=>h'=G∧r=bv (p a))) (hlen:l.length≤4611686018427387904):y9 Tryz.prog 102 [.v sv.v,fv] (.row sv.v 2 51 ((l).map zar)::G) (fun r h'=>h'= .row sv.v 2 51 ((l).map zar)::G∧r=iv (zbe p 0 l)):=by
 refine z6 Tryz.func102 rfl rfl rfl ?_
 refine rn ?_;refine u4 (fun k:Nat=>k≤l.length∧zbe p 0 l=zbe p k (l.drop k)) (fun k=>⟨[(8,iv k),(7,iv (l.map zar).length),(0,.v sv.v),(1,fv)],.row sv.v 2 51 ((l).map zar)::G,[]⟩) (fun k=>l.length - k) 0 ⟨G1 _,by simp⟩
  (w6 (.cons _ _ _ rfl (.cons _ _ _ rfl (.cons _ _ _ rfl (.cons _ _ _ rfl (.nil)))))) ?_
 rintro k ⟨hk,hnot⟩;refine rn ?_;refine z7 rfl (fun hc9=>?_) (fun hc9=>?_)
 ·have hk2:k < l.length:=by have q:=oT hc9;rw [oM] at q;omega
  have hrow:(l.map zar)[k]? =some (zar l[k]):=by simp [hk2]
  have hk3:k < (l.map zar).length:=by rw [oM];exact hk2
  have hd:=A8 hk2;have hq9:y4 Tryz.prog fv [.agg (zar l[k])] (.row sv.v 2 51 ((l).map zar)::G) (fun r h'=>h'= .row sv.v 2 51 ((l).map zar)::G∧r=bv (p l[k])):=y4.quiet (R:=fun x=>x=bv (p l[k])) (h2:= [.row sv.v 2 51 ((l).map zar)]) (E9 (l₁:= [_])) (hp l[k] (D0 hk2));refine k7 ?_;refine j8 ?_;refine x7 ?_;refine k8 ?_;refine x7 (y5 ?_);refine q1 ?_;refine q1 ?_;refine u1 (j8 ?_);refine x7 (y5 ?_);refine q1 ?_;refine q1 ?_;refine q1 ?_;refine qq rfl rfl (q9 rfl rfl hk3) ?_;refine qq rfl rfl (j9 rfl hrow rfl) ?_;refine qv rfl rfl (y3 rfl rfl hq9) ?_;refine rn ?_;refine z7 rfl (fun hc16=>?_) (fun hc16=>?_)
  ·refine rn ?_;exact u6 rfl (.refl _ _) ⟨rfl,by rw [hnot,hd,zbe,A6 hc16];rfl⟩
  refine rn ?_;exact ⟨k+1,⟨by omega,by rw [hnot,hd,zbe,A0 (by simp [hc16])]⟩,(w6 (.cons _ _ _ rfl (.cons _ _ _ rfl (.cons _ _ _ rfl (.cons _ _ _ rfl (.nil)))))),by omega⟩
 have hk3:k=l.length:=by
  have q:=oF hc9;rw [oM] at q;omega
 refine rn ?_;exact u6 rfl (.refl _ _) ⟨rfl,by rw [hnot,hk3,E5,zbe];rfl⟩
theorem yss (w:Wan) (s:Int) (b4:Nat):y9 Tryz.prog 127 [.agg (zar w),pZ b4] (.box b4 3 [iv s]:: []) (fun r h'=>h'= .box b4 3 [iv s]:: []∧r=bv (w.s==s)):=by
 refine z6 Tryz.func127 rfl rfl rfl ?_;refine rn ?_;refine z8 rfl (w7 rfl rfl rfl fun b2=>?_);refine rn ?_;refine rq 1 ?_;exact ⟨rfl,rfl⟩
theorem ydl (c0 c1 c2 c3 c4 c5 c6:AV) (ho: [c0,c1,c2,c3,c4,c5,c6].all AV.one=true) (l:List Wan) (hl:l.length≤1000000) (s bits:Int):y9 Tryz.prog 89 [.agg [c0,c1,c2,c3,c4,c5,c6,zd3 l],iv s,iv bits] [] (fun r h'=>∃v:SV,h'= .row v.v 2 51 ((zfv l s bits).map zar):: []∧r= .agg [c0,c1,c2,c3,c4,c5,c6,.v v.v]):=by
 refine z6 Tryz.func89 rfl rfl rfl ?_;have hone:(AV.agg [c0,c1,c2,c3,c4,c5,c6,zd3 l]).cellsOf=some [c0,c1,c2,c3,c4,c5,c6,zd3 l]:=zt6 (cs:= [c0,c1,c2,c3,c4,c5,c6]) ho rfl;have hone2:∀v:SV,(AV.agg [c0,c1,c2,c3,c4,c5,c6,.v v.v]).cellsOf=some [c0,c1,c2,c3,c4,c5,c6,.v v.v]:=fun v=>zt6 (cs:= [c0,c1,c2,c3,c4,c5,c6]) ho rfl;refine rn ?_;refine z8 rfl (w7 rfl hone rfl fun b3=>?_);refine z8 rfl (w7 rfl rfl rfl fun b4=>?_);refine z8 rfl (y6 rfl fun b6=>?_);refine u1 (j8 ?_);refine x7 (y5 ?_);refine q1 ?_;refine q1 ?_;refine q1 ?_;refine q1 ?_;refine q1 ?_;refine q1 ?_;refine qq rfl rfl (zai (c:=(((l.map zar).length+1:Nat):Int)) rfl rfl rfl (by rw [oM];omega)) ?_;refine z8 rfl (yhq rfl rfl rfl (by omega) (by rw [oM];omega) (hk:=fun b=>?_));refine zac (.slice (some ⟨b,0,none⟩) (l.map zar).length ((l.map zar).length+1)) fun sv hsv=>?_;rw [hsv];clear hsv;refine rn ?_;refine z8 rfl (zzx l.length rfl rfl (by simp) rfl (hk:= ?_) (yll l));rw [ywd];refine rn ?_;refine z8 rfl (q7 rfl rfl (y4.of_fun (ydj sv l _ (fun w:Wan=>w.s==s) _ (fun w _=>y4.qt (y4.of_acall (fs:= []) (cs:= [pZ b4]) (yss w s b4)) (pt1 _ _ _)) (by omega))) rfl ?_);rintro _ _ ⟨rfl,rfl⟩;refine rn0 ?_;refine zhj (fun z:SV×List Wan×Nat=>z.2.2 < z.2.1.length∧z.2.1.set z.2.2 ⟨s,bits⟩=zfv l s bits) (fun z=>⟨[(7,.v z.1.v),(8,iv z.2.2),(2,iv bits),(3,pZ b3),(4,pZ b4),(6,pZ b6)],.row z.1.v 2 51 ((z.2.1).map zar):: .box b6 28 zbd:: .box b4 3 [iv s]:: .box b3 28 [c0,c1,c2,c3,c4,c5,c6,zd3 l]:: [],[]⟩) ?_ ?_
 ·refine rn ?_;refine z7 rfl (fun hc25=>?_) (fun hc25=>?_)
  ·have hn:zbe (fun w:Wan=>w.s==s) 0 l < 0:=oT hc25;refine x7 (y5 ?_);refine q1 ?_;refine q1 ?_;refine q1 ?_;refine u1 (j8 ?_);refine y5 ?_;refine q1 ?_;refine qq rfl rfl (zal (out:= [iv 0,iv 0]) rfl (by rfl)) ?_;refine qv rfl rfl (q8 rfl rfl) ?_;refine z8 rfl (j3 rfl rfl (by simp only [oM,E6,F3];omega) rfl (fun s31=>?_) (fun r hr=>by rw [D7.1 hr];rfl));refine zac s31 fun sv2 hsv=>?_;subst hsv;refine rn ?_;first
   |exact ⟨(sv2,l++ [⟨0,0⟩],l.length),⟨by simp,yau hn⟩,by simp only [D9,oM];exact eA⟩
   |exact ⟨(sv,l,k),⟨hk,yat ek⟩,eA⟩
  have hn:¬zbe (fun w:Wan=>w.s==s) 0 l < 0:=oF hc25;obtain ⟨k,hk,ek⟩:=ylh hn;rw [ek];refine rn ?_;first
  |exact ⟨(sv2,l++ [⟨0,0⟩],l.length),⟨by simp,yau hn⟩,by simp only [D9,oM];exact eA⟩
  |exact ⟨(sv,l,k),⟨hk,yat ek⟩,eA⟩
 rintro ⟨sv,m,i⟩ ⟨hi,hm⟩;simp only at hi hm;have hk3:i < (m.map zar).length:=by rw [oM];exact hi
 have hrow:(m.map zar)[i]? =some (zar m[i]):=by simp [hi]
 refine x7 (y5 ?_);refine q1 ?_;refine q1 ?_;refine q1 ?_;refine q1 ?_;refine qq rfl rfl (zal (out:= [iv s,iv bits]) rfl (by rfl)) ?_;refine qq rfl rfl (q9 rfl rfl hk3) ?_;refine z8 rfl (zae rfl rfl rfl hrow rfl (A7 rfl) ?_);refine rn ?_;refine z8 rfl (za6 rfl rfl (hone2 sv) rfl (A7 rfl) ?_);refine rn ?_;exact zdn (.cons _ _ _ _ (.agg _ _ _ _ _ _ _ rfl inferInstance inferInstance inferInstance rfl) .nil) (.trans (.perm ((pt1 _ _ _).trans (.cons _ ((pt1 _ _ _).trans (.cons _ (pt1 _ _ _))))) _) (.drop [_,_,_] _ _)) ⟨sv,by rw [←hm,T4];rfl,rfl⟩
end Go.Proofs
