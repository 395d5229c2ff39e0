/- A history read as data. Conditions: none. -/
import Derived.Test.YtfmcbdjnmlcacaaGreatDoorWTeF
import Derived.Test.YtfmcbdjnmlcacaaGreatDoorTie
import Derived.OpenShut
import Derived.Lib.LaidTab
import Derived.Lib.LaidU8
import Derived.ProofKit
import Derived.LaidMore
import Derived.LaidSub
import Derived.LaidHandle
import Derived.Lay
import Derived.SevenTiedAt
import Derived.Stop.Joined
set_option maxHeartbeats 4000000
set_option linter.unusedSectionVars false
set_option linter.unusedSimpArgs false
set_option linter.unusedVariables false
set_option maxRecDepth 100000
namespace Go.Proofs
open Go Go.Ab Go.H
section
variable {K:Type} {enc:TypeId×Value→K} {w:World}
theorem zu3:zdp enc Tryz.prog w 3 (fun n:Int=> [iv n]) (fun _=>True):= .int Tryz.underlying3
theorem yu8:zdp enc Tryz.prog w 4 (fun b:Bool=> [bv b]) (fun _=>True):= .bool Tryz.underlying4
theorem yxf:zdp enc Tryz.prog w 9 zdi (fun _=>True):= .string Tryz.underlying9
theorem ywm:zdp enc Tryz.prog w 57 zy8 (fun _=>True):=
 .map (fun x:Int×Int×Unit=>⟨x.1,x.2.1⟩) (.struct Tryz.underlying57 rfl (tot:=2) (by kernel_rfl) (.cons zu3 (s:=1) (by kernel_rfl) (.cons zu3 (s:=1) (by kernel_rfl) (.nil 2)))) (fun _=>rfl) (fun _ _=>trivial)
theorem yq2:zdp enc Tryz.prog w 70 zaj (fun _=>True):=
 .map (fun x:Int×Ver×Unit=>⟨x.1,x.2.1⟩) (.struct Tryz.underlying70 rfl (tot:=3) (by kernel_rfl) (.cons zu3 (s:=1) (by kernel_rfl) (.cons ywm (s:=2) (by kernel_rfl) (.nil 3)))) (fun _=>rfl) (fun _ _=>trivial)
theorem zoq {n b b' c:Nat} (hb:b'=b) (hb0:0 < b) (hc:reachBytes / b≤c) (h:n * b'≤reachBytes):n≤c:=by subst hb;exact Nat.le_trans ((Nat.le_div_iff_mul_le hb0).2 h) hc
theorem yq6:zdp enc Tryz.prog w 58 (fun l:List Seen=> [zei l]) (fun l=>l.length≤5864062014805):=
 .map (fun l:List Seen=>l) (.slice Tryz.underlying58 yq2 (k:=3) (by kernel_rfl) (by decide) (by rw [show Tryz.prog.bytesOf 70=24 by kernel_rfl];decide)) (fun _=>rfl) (fun _ h=>zoq (b:=24) (by kernel_rfl) (by decide) (by decide) h.1)
theorem yre:zdp enc Tryz.prog w 29 (fun l:List Int=> [zaq l]) (fun l=>l.length≤17592186044416):=
 .map (fun l:List Int=>l) (.slice Tryz.underlying29 zu3 (k:=1) (by kernel_rfl) (by decide) (by rw [show Tryz.prog.bytesOf 3=8 by kernel_rfl];decide)) (fun _=>rfl) (fun _ h=>zoq (b:=8) (by kernel_rfl) (by decide) (by decide) h.1)
theorem yho:zdp enc Tryz.prog w 22 (fun l:List ByteArray=> [zdd l]) (fun l=>l.length≤8796093022208):=
 .map (fun l:List ByteArray=>l) (.slice Tryz.underlying22 yxf (k:=1) (by kernel_rfl) (by decide) (by rw [show Tryz.prog.bytesOf 9=16 by kernel_rfl];decide)) (fun _=>rfl) (fun _ h=>zoq (b:=16) (by kernel_rfl) (by decide) (by decide) h.1)
theorem rEv:zdp enc Tryz.prog w 60 evR (fun e=>e.scan.length≤5864062014805):=
 .map (fun x:Int×Int×Int×Int×Int×Ver×Int×List Seen×Unit=>⟨x.1,x.2.1,x.2.2.1,x.2.2.2.1,x.2.2.2.2.1,x.2.2.2.2.2.1,x.2.2.2.2.2.2.1,x.2.2.2.2.2.2.2.1⟩)
  (.struct Tryz.underlying60 rfl (tot:=9) (by kernel_rfl) (.cons zu3 (s:=1) (by kernel_rfl) (.cons zu3 (s:=1) (by kernel_rfl) (.cons zu3 (s:=1) (by kernel_rfl) (.cons zu3 (s:=1) (by kernel_rfl) (.cons zu3 (s:=1) (by kernel_rfl)
   (.cons ywm (s:=2) (by kernel_rfl) (.cons zu3 (s:=1) (by kernel_rfl) (.cons yq6 (s:=1) (by kernel_rfl) (.nil 9)))))))))) (fun _=>rfl) (fun _ h=>h.2.2.2.2.2.2.2.1)
theorem yxh:zdp enc Tryz.prog w 87 zef (fun e=>e.ts.length≤17592186044416):=
 .map (fun x:Int×List Int×Unit=>⟨x.1,x.2.1⟩) (.struct Tryz.underlying87 rfl (tot:=2) (by kernel_rfl) (.cons zu3 (s:=1) (by kernel_rfl) (.cons yre (s:=1) (by kernel_rfl) (.nil 2)))) (fun _=>rfl) (fun _ h=>h.2.1)
theorem yxi:zdp enc Tryz.prog w 109 zd8 (fun e=>e.ts.length≤17592186044416):=
 .map (fun x:Int×Int×Bool×List Int×Unit=>⟨x.1,x.2.1,x.2.2.1,x.2.2.2.1⟩) (.struct Tryz.underlying109 rfl (tot:=4) (by kernel_rfl) (.cons zu3 (s:=1) (by kernel_rfl) (.cons zu3 (s:=1) (by kernel_rfl) (.cons yu8 (s:=1) (by kernel_rfl) (.cons yre (s:=1) (by kernel_rfl) (.nil 4)))))) (fun _=>rfl) (fun _ h=>h.2.2.2.1)
theorem yxe:zdp enc Tryz.prog w 111 zfh (fun _=>True):=
 .map (fun x:Int×Int×Unit=>⟨x.1,x.2.1⟩) (.struct Tryz.underlying111 rfl (tot:=2) (by kernel_rfl) (.cons zu3 (s:=1) (by kernel_rfl) (.cons zu3 (s:=1) (by kernel_rfl) (.nil 2)))) (fun _=>rfl) (fun _ _=>trivial)
theorem yxj:zdp enc Tryz.prog w 23 (fun l:List Ev=> [zoc l]) (fun l=>l.length≤1599289640401∧∀e∈l,e.scan.length≤5864062014805):=
 .map (fun l:List Ev=>l) (.slice Tryz.underlying23 rEv (k:=9) (by kernel_rfl) (by decide) (by rw [show Tryz.prog.bytesOf 60=88 by kernel_rfl];decide)) (fun _=>rfl) (fun _ h=>⟨zoq (b:=88) (by kernel_rfl) (by decide) (by decide) h.1,h.2⟩)
theorem yu4:zdp enc Tryz.prog w 24 (fun l:List H.Ord=> [zz3 l]) (fun l=>l.length≤4398046511104∧∀e∈l,e.ts.length≤17592186044416):=
 .map (fun l:List H.Ord=>l) (.slice Tryz.underlying24 yxh (k:=2) (by kernel_rfl) (by decide) (by rw [show Tryz.prog.bytesOf 87=32 by kernel_rfl];decide)) (fun _=>rfl) (fun _ h=>⟨zoq (b:=32) (by kernel_rfl) (by decide) (by decide) h.1,h.2⟩)
theorem yu5:zdp enc Tryz.prog w 25 (fun l:List Mat=> [zvm l]) (fun l=>l.length≤2932031007402∧∀e∈l,e.ts.length≤17592186044416):=
 .map (fun l:List Mat=>l) (.slice Tryz.underlying25 yxi (k:=4) (by kernel_rfl) (by decide) (by rw [show Tryz.prog.bytesOf 109=48 by kernel_rfl];decide)) (fun _=>rfl) (fun _ h=>⟨zoq (b:=48) (by kernel_rfl) (by decide) (by decide) h.1,h.2⟩)
theorem yu1:zdp enc Tryz.prog w 26 (fun l:List Wan=> [ymc l]) (fun l=>l.length≤8796093022208):=
 .map (fun l:List Wan=>l) (.slice Tryz.underlying26 yxe (k:=2) (by kernel_rfl) (by decide) (by rw [show Tryz.prog.bytesOf 111=16 by kernel_rfl];decide)) (fun _=>rfl) (fun _ h=>zoq (b:=16) (by kernel_rfl) (by decide) (by decide) h.1)
theorem yu6:zdp enc Tryz.prog w 28 y9 Big:=
 .map (fun x:List ByteArray×List ByteArray×List ByteArray×List ByteArray×List Ev×List H.Ord×List Mat×List Wan×Unit=>⟨x.1,x.2.1,x.2.2.1,x.2.2.2.1,x.2.2.2.2.1,x.2.2.2.2.2.1,x.2.2.2.2.2.2.1,x.2.2.2.2.2.2.2.1⟩)
  (.struct Tryz.underlying28 rfl (tot:=8) (by kernel_rfl) (.cons yho (s:=1) (by kernel_rfl) (.cons yho (s:=1) (by kernel_rfl) (.cons yho (s:=1) (by kernel_rfl) (.cons yho (s:=1) (by kernel_rfl) (.cons yxj (s:=1) (by kernel_rfl)
   (.cons yu4 (s:=1) (by kernel_rfl) (.cons yu5 (s:=1) (by kernel_rfl) (.cons yu1 (s:=1) (by kernel_rfl) (.nil 8)))))))))) (fun _=>rfl)
  (fun x h=>by
   obtain ⟨h1,h2,h3,h4,⟨h5,h6⟩,⟨h7,h8⟩,⟨h9,hA⟩,hB,_⟩:=h
   exact ⟨⟨Nat.le_trans h1 (by decide),Nat.le_trans h2 (by decide),Nat.le_trans h3 (by decide),Nat.le_trans h4 (by decide),Nat.le_trans h5 (by decide),Nat.le_trans h7 (by decide),Nat.le_trans h9 (by decide),Nat.le_trans hB (by decide),fun e he=>Nat.le_trans (h6 e he) (by decide),fun e he=>Nat.le_trans (h8 e he) (by decide),fun e he=>Nat.le_trans (hA e he) (by decide)⟩,h1,h2,h3,h4,h7,h9,hB,h6,h8,hA⟩)
end
theorem ylp {α:Type} (s:Nat):∀(n:Nat) (cs:List α) (f:Nat→List α),cs.length=n * s→(∀i,i < n→(cs.drop (i * s)).take s=f i)→cs=(List.range n).flatMap f
 |0,cs,f,h,_=>by simp at h;subst h;rfl
 |n+1,cs,f,h,k=>by
  have h0:=k 0 (by omega)
  have ih:=ylp s n (cs.drop s) (fun i=>f (i+1)) (by rw [List.length_drop,h,Nat.add_mul];omega) fun i hi=>by
   have:=k (i+1) (by omega)
   rw [Nat.add_mul,Nat.one_mul,Nat.add_comm,←List.drop_drop] at this
   exact this
  rw [List.range_succ_eq_map,List.flatMap_cons,List.flatMap_map,←h0]
  simp only [Nat.zero_mul,List.drop_zero]
  have e:cs=cs.take s++cs.drop s:=(List.take_append_drop s cs).symm
  rw [ih] at e
  exact e
theorem zvz {P:Program} {w:World} {n:String} {g t:Nat} {d:DataW Unit} {vals:List Value} {T:TypeId} (hr:Lib.VarReads P w n d) (hg:P.globalNamed n=some g) (ht:(P.globals[g]?).map (·.type)=some t)
 (hv:∀fuel cs p,DataW.trod (fun _=>()) P w 0 (fun _=>true) false fuel t cs=some (d,p)→cs=vals):(Res.glob g T (vals.map .v)).holds w noX:=by
 obtain ⟨g',t',cs,fuel,p,h1,h2,h3,h4⟩:=hr
 obtain rfl:=Option.some.inj (hg.symm.trans h1)
 obtain rfl:=Option.some.inj (ht.symm.trans h2)
 have hcs:=hv _ _ _ h4
 unfold World.var? at h3
 rw [hg] at h3
 simp only [Option.bind_some] at h3
 split at h3
 ·rename_i c T0 fr hh
  cases h3
  refine ⟨fun h=>h,(Array.getElem?_eq_some_iff.1 hh).1,cs,T0,fr,hh,by rw [oM,←hcs];simp,fun j j1 j2=> ?_⟩
  rw [List.getElem_map]
  have:vals[j]'(by simpa using j1)=cs[j]:=by simp [←hcs]
  rw [this]
  exact .v _
 ·cases h3
theorem yvs {w:World} (h:Lib.VarReads Tryz.prog w "yardarm/history.limits" YtfmcbdjnmlcacaaGreatDoor.Rows.laid_yardarm_history_limits):(Res.glob 2 156 y3).holds w noX:=
 zvz (vals:= [300,60,300,60].map fun z=>Value.int .i64 z) h (by kernel_rfl) (show _=some 156 by kernel_rfl) fun fuel cs p hd=>
  Lib.cells_of_tab (zs:= [300,60,300,60]) Tryz.underlying156 Tryz.underlying3 (by kernel_rfl) (by kernel_rfl) hd
def zye:List Int:=(List.range 256).map zav
theorem zum:YtfmcbdjnmlcacaaGreatDoor.Rows.laid_unicode_utf8_first=Lib.tabData .u8 zye:=by kernel_rfl
theorem yvr {w:World} (h:Lib.VarReads Tryz.prog w "unicode/utf8.first" YtfmcbdjnmlcacaaGreatDoor.Rows.laid_unicode_utf8_first):(Res.glob 4 305 y4).holds w noX:=by
 have:=zvz (P:=Tryz.prog) (w:=w) (n:= "unicode/utf8.first") (g:=4) (t:=305) (d:=YtfmcbdjnmlcacaaGreatDoor.Rows.laid_unicode_utf8_first) (T:=305) (vals:=zye.map fun z=>Value.int .u8 z) h (by kernel_rfl) (by kernel_rfl) fun fuel cs p hd=>
  Lib.cells_of_tab (zs:=zye) Tryz.underlying305 Tryz.underlying5 (by kernel_rfl) (by kernel_rfl) (zum ▸ hd)
 simpa [y4,zye,List.map_map,Function.comp_def] using this
def yww (i:Nat):List Int:= [[128,160,128,144,128].getD i 0,[191,191,159,191,143].getD i 0]
theorem yfx:(YtfmcbdjnmlcacaaGreatDoor.Rows.laid_unicode_utf8_acceptRanges:DataW Unit)= .agg ((List.range 16).map fun i=> .agg ((yww i).map fun z=> .lit (.int .u8 z))):=by kernel_rfl
theorem ypu:y2=((List.range 16).flatMap fun i=>(yww i).map fun z=>Value.int .u8 z).map .v:=rfl
theorem yvq {w:World} (h:Lib.VarReads Tryz.prog w "unicode/utf8.acceptRanges" YtfmcbdjnmlcacaaGreatDoor.Rows.laid_unicode_utf8_acceptRanges):(Res.glob 5 308 y2).holds w noX:=by
 rw [ypu]
 refine zvz (T:=308) h (by kernel_rfl) (show _=some 308 by kernel_rfl) fun fuel cs p hd=> ?_
 rw [yfx] at hd
 have c132:Tryz.prog.cellsOf 307=2:=by kernel_rfl
 have c133:Tryz.prog.cellsOf 308=32:=by kernel_rfl
 have hlen:cs.length=16 * 2:=by
  obtain ⟨_,_,_,_,hl,_⟩:=DataW.trod_array Tryz.underlying308 hd
  rw [hl,c133]
 refine ylp 2 16 cs _ hlen fun i hi=> ?_
 obtain ⟨f',d,q,h1,h2⟩:=Lib.array_elem Tryz.underlying308 hd i hi
 simp only [List.getElem?_map,List.getElem?_range hi,Option.map_some,Option.some.injEq] at h1
 subst h1
 rw [c132] at h2
 exact Lib.ints_of_struct Tryz.underlying307 (fun j f hj=>by
  match j,hj with
  |0,hj=>simp at hj;subst hj;exact ⟨Tryz.underlying5,rfl,by kernel_rfl⟩
  |1,hj=>simp at hj;subst hj;exact ⟨Tryz.underlying5,rfl,by kernel_rfl⟩
  |j+2,hj=>simp at hj) (by rw [c132];rfl) h2
theorem yoy {w:World} (h0:(Res.glob 2 156 y3).holds w noX) (h1:(Res.glob 4 305 y4).holds w noX) (h2:(Res.glob 5 308 y2).holds w noX):
 HRel noX w [.glob 2 156 y3,.glob 4 305 y4,.glob 5 308 y2]:=by
 have hO:OO [.glob 2 156 y3,.glob 4 305 y4,.glob 5 308 y2] noX=noX:=by funext b;simp [OO,k9,noX,Res.own]
 refine ⟨by simp [k9,Res.own],fun b hb=>by simp [k9,Res.own] at hb,fun b hb=>hb.elim,fun r hr=> ?_⟩
 rw [hO]
 simp only [List.mem_cons,List.not_mem_nil,or_false] at hr
 rcases hr with rfl|rfl|rfl <;> assumption
theorem ywh:OO [.glob 2 156 y3,.glob 4 305 y4,.glob 5 308 y2] noX=noX:=by funext b;simp [OO,k9,noX,Res.own]
end Go.Proofs
set_option maxRecDepth 100000
namespace Go.Proofs.YtfmcbdjnmlcacaaGreatDoor
open Go Go.Ab Go.H Go.ChangeShapes Go.WideShapes Go.ChangeAt Go.RowKit
theorem own:ownKnob Tryz.prog.godebug=none:=by kernel_rfl
def zrg:List (String×DataW Unit):= [("unicode/utf8.acceptRanges",Rows.laid_unicode_utf8_acceptRanges),("yardarm/history.limits",Rows.laid_yardarm_history_limits),("yardarm/rules.asks",Rows.laid_yardarm_rules_asks),("unicode/utf8.first",Rows.laid_unicode_utf8_first)]
def zvu:List (String×DataW Unit):= [("unicode/utf8.acceptRanges",Rows.laid_unicode_utf8_acceptRanges),("yardarm/history.limits",Rows.laid_yardarm_history_limits),("unicode/utf8.first",Rows.laid_unicode_utf8_first)]
theorem zx5:(zrg.filter fun x=>x.2.handleName?.isNone)=zvu:=by kernel_rfl
theorem yiv {W:World} (h:laidMetH Tryz.prog zrg W):laidMet Tryz.prog zvu W:=by
 have:=(laidMetH_iff.1 h).1
 rw [zx5] at this
 exact this
theorem ydx {W:World} (h:laidMetH Tryz.prog zrg W):HRel noX W [.glob 2 156 y3,.glob 4 305 y4,.glob 5 308 y2]:=by
 have h:=yiv h
 exact yoy (yvs (Lib.laidMet.reads h (.tail _ (.head _)))) (yvr (Lib.laidMet.reads h (.tail _ (.tail _ (.head _))))) (yvq (Lib.laidMet.reads h (.head _)))
def yv9:List Value:= .nilFunc:: [300,307,308,309,310,311,312,313,314,315].map fun f=> .func (.func f) #[] #[]
noncomputable def wit0 (os:Os):World:={World.holding Tryz.prog os ⟨#[], #[],[]⟩ with heap:=(World.holding Tryz.prog os ⟨#[], #[],[]⟩).heap.modify 3 (Lay.setRow yv9)}
noncomputable def wit (os:Os):World:=(wit0 os).layVars Tryz.prog zvu
theorem yp9 (os:Os):(wit os).os=os:=World.layVars_os _ _ _
theorem yma (os:Os) (args:Array Value):laidMetH Tryz.prog zrg ((wit os).forCall (fun _ _=>0) ⟨#[],args,[]⟩).memory:=by
 refine laidMetH_of_parts3 (fuel:=8) ?_ (by kernel_rfl) (by kernel_rfl)
 rw [zx5]
 have h:laidMet Tryz.prog zvu (wit os):=laidMet_layVars (w0:=wit0 os) (zvu.map (·.1)) [] (by kernel_rfl) (by kernel_rfl) (by kernel_rfl) (by
  rw [show (zvu.filter fun x=> !(zvu.map (·.1)).contains x.1)= [] by kernel_rfl];exact LaidIn.none)
 exact h.of_heap (by simp [World.memory,World.forCall,Input.heap])
theorem yaa {W W':World} (hk:Keep [] W [] W'):RowKit.Below W.heap.size W {W' with tape:=W.tape}:=
 ⟨hk.env.1.1,rfl,hk.env.1.2,hk.size,fun k hk'=>(hk.same k hk' (by simp)).1⟩
theorem yiw {W W':World} (hk:Keep [] W [] W') (may:MemPlace→Prop):W.keptBut W' may:=by
 refine ⟨hk.env.1.1,hk.env.1.2,fun i hi=> ?_⟩
 rw [(hk.same i hi (by simp)).1]
 generalize W.heap[i]? =o
 cases o with
 |none=>rfl
 |some o=>cases o <;> first|rfl|exact ⟨rfl,rfl,rfl,fun _ _=>rfl⟩|exact .inr ⟨rfl,rfl⟩
section
variable {H:Type} {enc:TypeId×Value→H}
theorem ybi {W W':World} {v:Value} {d:DataW H} {ps:List MemPlace} (hk:Keep [] W [] W') (h:DataW.Trod enc Tryz.prog W 0 (fun _=>true) true 28 v d ps) (hlt:∀x∈ps,x.block < W.heap.size):
 DataW.Trod enc Tryz.prog W' 0 (fun b=>decide (b < W.heap.size)) true 28 v d ps:=
 DataW.Trod.of_heap (w:={W' with tape:=W.tape}) (w':=W') rfl (Below.trod (by kernel_rfl) (by kernel_rfl) (by decide+kernel) h (yaa hk) hlt)
theorem yi6 {W:World} {cs:Array Value} {d:DataW H} {ps:List MemPlace} (h:DataW.Trod enc Tryz.prog W 0 (fun _=>true) true 28 (.agg cs) d ps) (hw:∀n∈d.weights Tryz.prog 28,n≤reachBytes):
 ∃x,Big x∧Rel W noX (.agg (y9 x)) (.agg cs):=by
 obtain ⟨fuel,hf⟩:=h
 obtain ⟨x,hlim,hx⟩:=yu6 fuel _ _ hf hw
 exact ⟨x,hlim,.agg _ _ (by simpa [Value.cells] using hx.1) fun j h1 h2=>by simpa [Value.cells] using hx.2 j h1 (by simpa [Value.cells] using h2)⟩
theorem yoz {W:World} {cs:Array Value} {d:DataW H} {ps:List MemPlace} (h:DataW.Trod enc Tryz.prog W 0 (fun _=>true) true 28 (.agg cs) d ps) (hw:∀n∈d.weights Tryz.prog 28,n≤reachBytes):
 ∃x,Lim 4611686018427387904 x∧Rel W noX (.agg (y9 x)) (.agg cs):=by
 obtain ⟨x,hb,hr⟩:=yi6 h hw
 exact ⟨x,hb.lim,hr⟩
end
end Go.Proofs.YtfmcbdjnmlcacaaGreatDoor
namespace Go.Ab
open Go
class HasMapE (h:List Res) (r:Nat) (i:outParam Nat) (es:outParam (List (Value×AV))) (j st:outParam Nat):Prop where
 h:h[i]? =some (.mape r es j st)
instance HasMapE.head {r:Nat} {es:List (Value×AV)} {j st:Nat} {h:List Res}:HasMapE (.mape r es j st::h) r 0 es j st:=⟨rfl⟩
instance HasMapE.tail {r i:Nat} {es:List (Value×AV)} {j st:Nat} {x:Res} {h:List Res} [k:HasMapE h r i es j st]:HasMapE (x::h) r (i+1) es j st:=⟨by simpa using k.h⟩
def zl8 {K:Type} [DecidableEq K] (k:K) (z:AV) (es:List (K×AV)):List (K×AV):=match zdz k es with
 |some _=>es
 |none=>es++ [(k,z)]
theorem zs5 {K:Type} [DecidableEq K] (k:K) (z:AV):∀es:List (K×AV),zdz k es=none→zdz k (es++ [(k,z)])=some z
 | [],_=>by simp [zdz]
 |p::es,h=>by
  simp only [zdz,List.cons_append] at h ⊢
  split at h
  ·cases h
  ·rename_i hn;rw [if_neg hn];exact zs5 k z es h
theorem ydq {K:Type} [DecidableEq K] (k:K) (z:AV) (es:List (K×AV)):(zdz k (zl8 k z es)).getD z=(zdz k es).getD z:=by
 unfold zl8
 cases h:zdz k es with
 |some a=>simp [h]
 |none=>simp [zs5 k z es h]
section
variable {P:Program} {ro:Option Nat} {nt:Nat} {dst:Option Tmp} {ty:TypeId} {pos:String} {after:Array Edge} {guard:Option (Nat×Bool)} {x y z:Operand} {t:Fr} {h:List Res} {ds:List Nat} {next:St→Prop} {f:Operand→Option AV}
 {K:Type} [DecidableEq K] {enc:K→Value} {es:List (K×AV)} {kt et T:TypeId} {r i:Nat} {k:K} {av:AV}
theorem zvg {d:Tmp} {kv:AV} {zv:Value} {h':Res→List Res} (hlt:dok nt (some d)=true) (hx:ev t x=some (.v (.map (some r)))) (hy:ev t y=some kv) [hkv:KeyV kv (enc k)] [hm:HasMap h r i (zal enc es)] [hu:Und P T (.map kt et)] [hkt:KeyT P kt enc] [hz:ZerV P et zv]
 [hset:∀y,SetAt h i y (h' y)] (hk:∀(j st:Nat),(∀a,(zal enc (zl8 k (.v zv) es)).modify j (fun p=>(p.1,a))=zal enc (zpf k a es))→
  next ⟨(d,.tup [(zdz k es).getD (.v zv),.v (.int .i64 st)])::t,h' (.mape r (zal enc (zl8 k (.v zv) es)) j st),ds⟩):
 OE P ro nt ⟨some d,.mapEntry T x y,ty,pos,after,guard⟩ ⟨t,h,ds⟩ next:=by
 intro X a w Kc Q hs hK
 refine ⟨zap,?_⟩
 obtain ⟨ents,clock,h1,h2,h3,h4,h5⟩:=hs.heap.holds _ (List.mem_of_getElem? hm.h)
 have hks:=keys_of_holds h2 h3
 have hl':es.length=ents.toList.length:=by simpa [zal] using h2
 have hle:es.length=ents.size:=by simpa using hl'
 have hfind:=hkt.find w k ents.toList (es.map (·.1)) hks
 have hrun:∃ents' clock' j st v,(Instr.mapEntry T (a.eval x) (a.eval y)).run P w= .ok (.tuple #[v,.int .i64 (st:Nat)]) {w with heap:=w.heap.setIfInBounds r (.map ents' clock')}∧
  Rel w (OO h X) ((zdz k es).getD (.v zv)) v∧(∀a,(zal enc (zl8 k (.v zv) es)).modify j (fun p=>(p.1,a))=zal enc (zpf k a es))∧
  (zal enc (zl8 k (.v zv) es)).length=ents'.size∧(∀i (h1:i < (zal enc (zl8 k (.v zv) es)).length) (h2:i < ents'.size),(zal enc (zl8 k (.v zv) es))[i].1=ents'[i].key∧Rel w (OO h X) (zal enc (zl8 k (.v zv) es))[i].2 ents'[i].val)∧
  (∀i (h:i < ents'.size),ents'[i].born < clock')∧(∀i j (hi:i < ents'.size) (hj:j < ents'.size),i < j→ents'[i].born < ents'[j].born)∧∃h:j < ents'.size,ents'[j].born=st:=by
  rw [(hs.env.rel x _ hx).v_eq,hkv.h w _ _ (hs.env.rel y _ hy)]
  simp only [Instr.mapEntry,Sem.run_bind,run_underlying (h:=hu),Result.andThen_ok,MapKept.run_getObj_map h1,hkt.chk,hfind]
  rcases zlo k es ents.toList 0 hl' with ⟨g,b,c⟩|⟨j,g1,g2,g,b,c,d⟩
  ·rw [g]
   have he:zl8 k (.v zv) es=es++ [(k,.v zv)]:=by unfold zl8;rw [b]
   rw [he]
   refine ⟨ents.push {key:=enc k,val:=zv,born:=clock},clock+1,es.length,clock,zv,?_,by rw [b];exact .v _,fun a=> ?_,by simp [zal,hle],fun i a1 a2=> ?_,fun i a1=> ?_,fun i j a1 a2 a3=> ?_,by simp [hle],?_⟩
   ·simp only [Sem.run_bind,run_zeroValue hz.h,Result.andThen_ok,MapKept.run_setObj_map _ h1,Sem.run_pure,goInt]
   ·rw [c a]
    simp only [zal,List.map_append,List.map_cons,List.map_nil]
    have:es.length=(es.map fun p=>(enc p.1,p.2)).length:=by simp
    rw [this]
    have hmod:∀(l:List (Value×AV)) (p:Value×AV) (g:Value×AV→Value×AV),(l++ [p]).modify l.length g=l++ [g p]:=by
     intro l p g
     induction l with
     |nil=>rfl
     |cons q l ih=>simp [ih]
    rw [hmod]
   ·simp only [zal,List.map_append,List.map_cons,List.map_nil,List.getElem_append,Array.getElem_push]
    by_cases hi:i < ents.size
    ·have:i < (List.map (fun p:K×AV=>(enc p.1,p.2)) es).length:=by simp;omega
     simp only [hi,this,dif_pos]
     exact h3 i (by simpa [zal] using this) hi
    ·have h9:¬i < (List.map (fun p:K×AV=>(enc p.1,p.2)) es).length:=by simp;omega
     simp only [hi,h9,dif_neg,not_false_eq_true,List.getElem_singleton]
     exact ⟨trivial,.v _⟩
   ·rw [Array.getElem_push]
    split
    ·have:=h4 i (by assumption);omega
    ·simp
   ·simp only [Array.size_push] at a1 a2
    rw [Array.getElem_push,Array.getElem_push]
    split <;> split
    ·exact h5 i j _ _ a3
    ·have:=h4 i (by assumption);simpa using this
    ·omega
    ·omega
   ·simp [Array.getElem_push,hle]
  ·have hj:j < ents.size:=by simpa using g2
   have hkey:ents[j].key=enc k:=by
    have:=(h3 j (by simpa [zal] using g1) hj).1
    simp [zal] at this
    rw [←this,c]
   have he:zl8 k (.v zv) es=es:=by unfold zl8;rw [b]
   rw [g,he]
   have hgd:((ents[j]?).map (·.key)).getD (enc k)=enc k:=by
    rw [Array.getElem?_eq_getElem hj];simp [hkey]
   have hsame:(ents.modify j fun e=>{e with key:=enc k})=ents:=by
    apply Array.ext
    ·simp
    ·intro q q1 q2
     rw [Array.getElem_modify]
     split
     ·rename_i hjq;subst hjq
      have hk2:∀e:MapEntry,e.key=enc k→({e with key:=enc k}:MapEntry)=e:=fun e he=>by
       cases e;simp only at he;subst he;rfl
      exact hk2 _ hkey
     ·rfl
   refine ⟨ents,clock,j,ents[j].born,ents[j].val,?_,?_,fun a=> ?_,h2,h3,h4,h5,hj,rfl⟩
   ·simp only [Sem.run_bind,Nat.zero_add,hgd,zhj (P:=P) (kt:=kt),Result.andThen_ok,hsame,MapKept.run_setObj_map _ h1,Sem.run_pure,goInt]
    simp only [Array.getElem?_eq_getElem hj,Option.map_some,Option.getD_some]
    rfl
   ·rw [b]
    have:=(h3 j (by simpa [zal] using g1) hj).2
    simpa [zal] using this
   ·rw [d a]
    refine List.ext_getElem (by simp [zal]) fun q q1 q2=> ?_
    simp only [zal,List.getElem_modify,List.getElem_map,List.getElem_set]
    split
    ·rename_i hq;subst hq;rw [c]
    ·rfl
 obtain ⟨ents',clock',j,st,v,e,hv,hmod,e1,e2,e3,e4,e5,e6⟩:=hrun
 rw [zbk rfl]
 have e':(execOp a.eval (⟨some d,.mapEntry T x y,ty,pos,after,guard⟩:Oper)).run P w= .ok (.value (.tuple #[v,.int .i64 (st:Nat)])) {w with heap:=w.heap.setIfInBounds r (.map ents' clock')}:=run_v _ e
 rw [e']
 have hlt':r < w.heap.size:=(Array.getElem?_eq_some_iff.1 h1).1
 have hoth:∀b,b≠r→(w.heap.setIfInBounds r (.map ents' clock'))[b]? =w.heap[b]? :=fun b hb=>by rw [Array.getElem?_setIfInBounds_ne (Ne.symm hb)]
 have hrown:OO h X r:= .inl (zas.2 ⟨_,List.mem_of_getElem? hm.h,by simp [Res.own]⟩)
 have hkk:∀b,¬OO h X b→b < w.heap.size→(w.heap.setIfInBounds r (.map ents' clock'))[b]? =w.heap[b]? ∧¬OO h X b:=fun b hb hl=>⟨hoth b (fun q=>hb (q ▸ hrown)),hb⟩
 have hholds:(Res.mape r (zal enc (zl8 k (.v zv) es)) j st).holds {w with heap:=w.heap.setIfInBounds r (.map ents' clock')} (OO h X):=
  ⟨ents',clock',by simp [hlt'],e1,fun i a1 a2=>⟨(e2 i a1 a2).1,(e2 i a1 a2).2.keep (by simp) hkk⟩,e3,e4,e5,e6⟩
 have hh2:=hs.heap.set (w':={w with heap:=w.heap.setIfInBounds r (.map ents' clock')}) hm.h (y:= .mape r (zal enc (zl8 k (.v zv) es)) j st) rfl (by simp) (fun b hb hne=>hoth b (by simpa [Res.own] using hne)) hholds
 rw [(hset _).h] at hh2
 have hown:k9 (h' (.mape r (zal enc (zl8 k (.v zv) es)) j st))=k9 h:=by rw [←(hset _).h];exact zdr hm.h rfl
 have hkeep:Keep (k9 h) w (k9 (h' (.mape r (zal enc (zl8 k (.v zv) es)) j st))) {w with heap:=w.heap.setIfInBounds r (.map ents' clock')}:=⟨by simp,fun b hb ho=>⟨hoth b (fun q=>ho (q ▸ zas.2 ⟨_,List.mem_of_getElem? hm.h,by simp [Res.own]⟩)),by rw [hown];exact ho⟩,zjg.eq rfl rfl rfl (by first|exact Nat.le_refl _|exact Nat.le_succ _)⟩
 have hkoo:=fun b hb hl=>hkeep.oo (X:=X) b hb hl
 refine hK _ _ _ (hk j st hmod) (Sim.put (s:=⟨t,h' (.mape r (zal enc (zl8 k (.v zv) es)) j st),ds⟩) ⟨hh2,hs.size,hs.fr.keep hkeep.size (fun b hb hl=>hkoo b hb hl),hs.defs⟩ hlt (.tup _ _ rfl fun q q1 q2=> ?_)) hkeep
 match q,q1,q2 with
 |0,_,_=>exact hv.keep hkeep.size (fun b hb hl=>hkoo b hb hl)
 |1,_,_=>exact .v _
 |q+2,q1,_=>simp at q1;omega
theorem zq9 {j st:Nat} {es' es2:List (Value×AV)} {h':List Res} (hx:ev t x=some (.v (.map (some r)))) (hy:ev t y=some (.v (.int .i64 st))) (hz:ev t z=some av) [hm:HasMapE h r i es' j st] (he:es'.modify j (fun p=>(p.1,av))=es2)
 [hset:SetAt h i (.map r es2) h'] (hk:next ⟨t,h',ds⟩):OE P ro nt ⟨none,.entryStore T x y z,ty,pos,after,guard⟩ ⟨t,h,ds⟩ next:=by
 refine zg4 rfl rfl (fun X a w hs=> ?_) hk
 obtain ⟨ents,clock,h1,h2,h3,h4,h5,hj,h6⟩:=hs.heap.holds _ (List.mem_of_getElem? hm.h)
 have hrv:=hs.env.rel z _ hz
 subst he
 have hidx:ents.findIdx? (fun e=>((e.born:Nat):Int)==((st:Nat):Int))=some j:=by
  rw [Array.findIdx?_eq_some_iff_getElem]
  refine ⟨hj,by simp [h6],fun q hq=> ?_⟩
  have:=h5 q j (by omega) hj hq
  simp;omega
 obtain ⟨ents',hents⟩:∃e,e=ents.modify j (fun e=>{e with val:=a.eval z}):=⟨_,rfl⟩
 have hsz:ents'.size=ents.size:=by rw [hents];simp
 have hrun:(Instr.entryStore T (a.eval x) (a.eval y) (a.eval z)).run P w= .ok () {w with heap:=w.heap.setIfInBounds r (.map ents' clock)}:=by
  rw [(hs.env.rel x _ hx).v_eq,(hs.env.rel y _ hy).v_eq]
  simp only [Instr.entryStore,Sem.run_bind,MapKept.run_getObj_map h1,Result.andThen_ok,asInt,asIntOf,Sem.run_pure,hidx,MapKept.run_setObj_map _ h1,hents]
 have hlt:r < w.heap.size:=(Array.getElem?_eq_some_iff.1 h1).1
 have hoth:∀b,b≠r→(w.heap.setIfInBounds r (.map ents' clock))[b]? =w.heap[b]? :=fun b hb=>by rw [Array.getElem?_setIfInBounds_ne (Ne.symm hb)]
 have hrown:OO h X r:= .inl (zas.2 ⟨_,List.mem_of_getElem? hm.h,by simp [Res.own]⟩)
 have hkk:∀b,¬OO h X b→b < w.heap.size→(w.heap.setIfInBounds r (.map ents' clock))[b]? =w.heap[b]? ∧¬OO h X b:=fun b hb hl=>⟨hoth b (fun q=>hb (q ▸ hrown)),hb⟩
 have hmapholds:(Res.map r (es'.modify j (fun p=>(p.1,av)))).holds {w with heap:=w.heap.setIfInBounds r (.map ents' clock)} (OO h X):=by
  refine ⟨ents',clock,by simp [hlt],by simp [hsz,h2],fun i a1 a2=> ?_,fun i a1=> ?_,fun i j' a1 a2 a3=> ?_⟩
  ·have b1:i < es'.length:=by simpa using a1
   have b2:i < ents.size:=by omega
   have:=h3 i b1 b2
   subst hents
   rw [List.getElem_modify,Array.getElem_modify]
   split
   ·exact ⟨this.1,hrv.keep (by simp) hkk⟩
   ·exact ⟨this.1,this.2.keep (by simp) hkk⟩
  ·subst hents
   rw [Array.getElem_modify]
   have b2:i < ents.size:=by simpa using a1
   split <;> exact h4 i b2
  ·subst hents
   have b1:i < ents.size:=by simpa using a1
   have b2:j' < ents.size:=by simpa using a2
   rw [Array.getElem_modify,Array.getElem_modify]
   split <;> split <;> exact h5 i j' b1 b2 a3
 have hh2:=hs.heap.set (w':={w with heap:=w.heap.setIfInBounds r (.map ents' clock)}) hm.h (y:= .map r (es'.modify j (fun p=>(p.1,av)))) rfl (by simp) (fun b hb hne=>hoth b (by simpa [Res.own] using hne)) hmapholds
 rw [hset.h] at hh2
 have hown:k9 h'=k9 h:=by rw [←hset.h];exact zdr hm.h rfl
 have hkeep:Keep (k9 h) w (k9 h') {w with heap:=w.heap.setIfInBounds r (.map ents' clock)}:=⟨by simp,fun b hb ho=>⟨hoth b (fun q=>ho (q ▸ zas.2 ⟨_,List.mem_of_getElem? hm.h,by simp [Res.own]⟩)),by rw [hown];exact ho⟩,zjg.eq rfl rfl rfl (by first|exact Nat.le_refl _|exact Nat.le_succ _)⟩
 exact ⟨_,yb9 hrun,⟨hh2,hs.size,hs.fr.keep hkeep.size (fun b hb hl=>hkeep.oo b hb hl),hs.defs⟩,hkeep⟩
theorem zu8 {kv:AV} {zv:Value} {j st:Nat} (hx:f x=some (.v (.map (some r)))) (hy:f y=some kv) [hkv:KeyV kv (enc k)] [hm:HasMapE h r i (zal enc (zl8 k (.v zv) es)) j st] [hu:Und P T (.map kt et)] [hkt:KeyT P kt enc] [hz:ZerV P et zv]
 (hl:(zdz k es).getD (.v zv)=av):QR P h f ⟨dst,.lookup T x y false,ty,pos,after,guard⟩ av:=fun X ρ w hev=>by
 obtain ⟨ents,clock,h1,h2,h3,h4,h5,_⟩:=hev.heap.holds _ (List.mem_of_getElem? hm.h)
 have hks:=keys_of_holds h2 h3
 have hl':(zl8 k (.v zv) es).length=ents.toList.length:=by simpa [zal] using h2
 have hfind:=hkt.find w k ents.toList ((zl8 k (.v zv) es).map (·.1)) hks
 have key:=ydq k (.v zv) es
 rw [hl] at key
 have hrun:∃v,(Instr.lookup T (ρ x) (ρ y) false).run P w= .ok v w∧Rel w (OO h X) av v:=by
  rw [(hev.rel x _ hx).v_eq,hkv.h w _ _ (hev.rel y _ hy)]
  simp only [Instr.lookup,Sem.run_bind,run_underlying (h:=hu),Result.andThen_ok,MapKept.run_getObj_map h1,Sem.run_pure,hkt.chk,hfind]
  rcases zlo k (zl8 k (.v zv) es) ents.toList 0 hl' with ⟨a,b,c⟩|⟨j,g1,g2,a,b,c,d⟩
  ·rw [b] at key
   refine ⟨zv,?_,by rw [←key];exact .v _⟩
   rw [a];simp [run_zeroValue hz.h]
  ·rw [b] at key
   refine ⟨(ents[j]'(by simpa using g2)).val,?_,?_⟩
   ·rw [a];simp
   ·have:=(h3 j (by simpa [zal] using g1) (by simpa using g2)).2
    rw [←key];simpa [zal] using this
 obtain ⟨v,e,hr⟩:=hrun
 exact ⟨v,run_v _ e,hr⟩
end
def zdt (p:Int×Int×Int):Value:= .agg #[.int .i64 p.1,.int .i64 p.2.1,.int .i64 p.2.2]
class Chk3 (P:Program) (kt:TypeId):Prop where
 h:∀(e:Bool) (w:World) (a b c:Int),(Instr.checkKey e 10000 kt (.agg #[.int .i64 a,.int .i64 b,.int .i64 c])).run P w= .ok () w
instance KeyT.int3 {P:Program} {kt:TypeId} [he:EqInts P kt 3] [hc:Chk3 P kt] [hi:IsA P kt true]:KeyT P kt zdt where
 inj:=fun a b h=>by
  obtain ⟨a1,a2,a3⟩:=a;obtain ⟨b1,b2,b3⟩:=b
  simpa [zdt] using h
 stays:=fun a=>by simp [zdt,Instr.sameBits]
 chk:=fun e w k=>hc.h e w k.1 k.2.1 k.2.2
 find:=fun w k l ks h=>by
  obtain ⟨d,hd,hb⟩:=hi.h
  refine (congrArg (fun r=>r) (run_findKey_eq (P:=P) (w:=w) (k:=kt) (by rw [hd];cases d <;> simp [ywd] at hb ⊢) _ l)).trans ?_
  refine zhb (fun w a b=> ?_) k w l ks 0 h
  have:=zpm (P:=P) (T:=kt) w (xs:= [a.1,a.2.1,a.2.2]) (ys:= [b.1,b.2.1,b.2.2]) rfl rfl
  simp only [zdt]
  refine this.trans ?_;obtain ⟨a1,a2,a3⟩:=a;obtain ⟨b1,b2,b3⟩:=b
  congr 1
  by_cases h1:a1=b1 <;> by_cases h2:a2=b2 <;> by_cases h3:a3=b3 <;> simp [h1,h2,h3]
instance KeyV.int3 {a b c:Int}:KeyV (.agg [.v (.int .i64 a),.v (.int .i64 b),.v (.int .i64 c)]) (zdt (a,b,c)):=⟨fun w O u r=>by
 cases r with
 |agg _ cs hl hr=>
  simp at hl
  have h0:=(hr 0 (by simp) (by omega)).v_eq
  have h1:=(hr 1 (by simp) (by omega)).v_eq
  have h2:=(hr 2 (by simp) (by omega)).v_eq
  simp only [zdt]
  congr 1
  apply Array.ext
  ·simp [←hl]
  ·intro i hi hi2
   match i,hi,hi2 with
   |0,_,_=>exact h0
   |1,_,_=>exact h1
   |2,_,_=>exact h2
   |i+3,hi,hi2=>simp at hi2;omega⟩
class ZV (z:Value) (a:AV):Prop where
 h:∀w O u,Rel w O (.v z) u→Rel w O a u
instance ZV.v {z:Value}:ZV z (.v z):=⟨fun _ _ _ h=>h⟩
instance ZV.agg2 {a b:Value}:ZV (.agg #[a,b]) (.agg [.v a,.v b]):=⟨fun w O u h=>by
 rw [h.v_eq]
 refine .agg _ _ rfl fun j h1 h2=> ?_
 match j,h1,h2 with
 |0,_,_=>exact .v _
 |1,_,_=>exact .v _
 |j+2,h1,_=>simp at h1;omega⟩
theorem zg2 {P:Program} {h:List Res} {f:Operand→Option AV} {o:Oper} {a b:AV} (hw:∀w O v,Rel w O a v→Rel w O b v) (q:QR P h f o a):QR P h f o b:=fun X ρ w he=>
 let ⟨v,e,r⟩:=q X ρ w he;⟨v,e,hw _ _ _ r⟩
theorem zsz {P:Program} {h:List Res} {f:Operand→Option AV} {o:Oper} {a b:AV} (q:QR P h f o a) (e:a=b):QR P h f o b:=e ▸ q
section
variable {P:Program} {ro:Option Nat} {nt:Nat} {dst:Option Tmp} {ty:TypeId} {pos:String} {after:Array Edge} {guard:Option (Nat×Bool)} {x y z:Operand} {t:Fr} {h h':List Res} {ds:List Nat} {next:St→Prop} {f:Operand→Option AV}
 {K V:Type} [DecidableEq K] {enc:K→Value} {g:V→AV} {m:List (K×V)} {kt et T:TypeId} {r i:Nat} {k:K} {kv:AV}
theorem zmu {zv:Value} {d:V} [hz:ZV zv (g d)] {w:World} {O:Nat→Prop} {u:Value} (h:Rel w O ((zdz k (zbd g m)).getD (.v zv)) u):Rel w O (g ((za6 k m).getD d)) u:=by
 rw [zlg] at h
 cases hg:za6 k m with
 |some a=>rw [hg] at h;exact h
 |none=>rw [hg] at h;exact hz.h w O u h
theorem zbl (d:V) {zv:Value} (hx:f x=some (.v (.map (some r)))) (hy:f y=some kv) [hkv:KeyV kv (enc k)] [hm:HasMap h r i (zal enc (zbd g m))] [hu:Und P T (.map kt et)] [hkt:KeyT P kt enc] [hz:ZerV P et zv] [hd:ZV zv (g d)]:
 QR P h f ⟨dst,.lookup T x y false,ty,pos,after,guard⟩ (g ((za6 k m).getD d)):=
 zg2 (fun w O v hr=>zmu hr) (zsu hx hy rfl)
theorem zfm (d:V) {zv:Value} {b:Bool} (hx:f x=some (.v (.map (some r)))) (hy:f y=some kv) [hkv:KeyV kv (enc k)] [hm:HasMap h r i (zal enc (zbd g m))] [hu:Und P T (.map kt et)] [hkt:KeyT P kt enc] [hz:ZerV P et zv] [hd:ZV zv (g d)]
 (hb:(za6 k m).isSome=b):QR P h f ⟨dst,.lookup T x y true,ty,pos,after,guard⟩ (.tup [g ((za6 k m).getD d),.v (.bool b)]):=
 zg2 (fun w O v hr=>by
  cases hr with
  |tup _ cs hl hr=>
   refine .tup _ _ (by simpa using hl) fun j h1 h2=> ?_
   match j,h1,h2 with
   |0,_,h2=>exact zmu (hr 0 (by simp) h2)
   |1,_,h2=>exact hr 1 (by simp) h2
   |j+2,h1,_=>simp at h1;omega) (zzy hx hy rfl (b:=b) (by rw [zlg,Option.isSome_map];exact hb))
theorem ycx (d:V) {zv:Value} {j st:Nat} (hx:f x=some (.v (.map (some r)))) (hy:f y=some kv) [hkv:KeyV kv (enc k)] [hm:HasMapE h r i (zal enc (zl8 k (.v zv) (zbd g m))) j st] [hu:Und P T (.map kt et)] [hkt:KeyT P kt enc] [hz:ZerV P et zv] [hd:ZV zv (g d)]:
 QR P h f ⟨dst,.lookup T x y false,ty,pos,after,guard⟩ (g ((za6 k m).getD d)):=
 zg2 (fun w O v hr=>zmu hr) (zu8 hx hy rfl)
theorem zan {v:V} (hx:ev t x=some (.v (.map (some r)))) (hy:ev t y=some kv) (hz:ev t z=some (g v)) [hkv:KeyV kv (enc k)] [hm:HasMap h r i (zal enc (zbd g m))] [hu:Und P T (.map kt et)] [hkt:KeyT P kt enc]
 [hset:SetAt h i (.map r (zal enc (zbd g (zdy k v m)))) h'] (hk:next ⟨t,h',ds⟩):OE P ro nt ⟨none,.mapUpdate T x y z,ty,pos,after,guard⟩ ⟨t,h,ds⟩ next:=by
 have:SetAt h i (.map r (zal enc (zpf k (g v) (zbd g m)))) h':=by rw [znf];exact hset
 exact zly hx hy hz hk
theorem zle {d:Tmp} {zv:Value} {h':Res→List Res} (hlt:dok nt (some d)=true) (hx:ev t x=some (.v (.map (some r)))) (hy:ev t y=some kv) [hkv:KeyV kv (enc k)] [hm:HasMap h r i (zal enc (zbd g m))] [hu:Und P T (.map kt et)] [hkt:KeyT P kt enc] [hz:ZerV P et zv]
 [hset:∀y,SetAt h i y (h' y)] (hk:∀(j st:Nat),(∀v,(zal enc (zl8 k (.v zv) (zbd g m))).modify j (fun p=>(p.1,g v))=zal enc (zbd g (zdy k v m)))→
  next ⟨(d,.tup [(zdz k (zbd g m)).getD (.v zv),.v (.int .i64 st)])::t,h' (.mape r (zal enc (zl8 k (.v zv) (zbd g m))) j st),ds⟩):
 OE P ro nt ⟨some d,.mapEntry T x y,ty,pos,after,guard⟩ ⟨t,h,ds⟩ next:=
 zvg hlt hx hy fun j st hj=>hk j st fun v=>by rw [hj (g v),znf]
theorem zn1 {v:V} {j st:Nat} {es':List (Value×AV)} (hx:ev t x=some (.v (.map (some r)))) (hy:ev t y=some (.v (.int .i64 st))) (hz:ev t z=some (g v)) [hm:HasMapE h r i es' j st] (he:es'.modify j (fun p=>(p.1,g v))=zal enc (zbd g (zdy k v m)))
 [hset:SetAt h i (.map r (zal enc (zbd g (zdy k v m)))) h'] (hk:next ⟨t,h',ds⟩):OE P ro nt ⟨none,.entryStore T x y z,ty,pos,after,guard⟩ ⟨t,h,ds⟩ next:=
 zq9 hx hy hz he hk
theorem yxm {d:Tmp} {op:Op} {av:AV} (hq:QR P h (ev t) ⟨some d,op,ty,pos,after,guard⟩ av) (hk:next ⟨(d,av)::t,h,ds⟩) (hd:dok nt (some d)=true:=by rfl) (hn:zbx ⟨some d,op,ty,pos,after,guard⟩=true:=by rfl):
 OE P ro nt ⟨some d,op,ty,pos,after,guard⟩ ⟨t,h,ds⟩ next:=fun X a w K Q hs hK=>
 zg1 hq hn X a w K Q hs.env fun v w' hr hh hkp=>hK _ _ _ hk (Sim.put (s:=⟨t,h,ds⟩) ⟨hh,hs.size,hs.fr.keep hkp.size (fun b hb hl=>hkp.oo b hb hl),hs.defs⟩ hd hr) hkp
theorem zps {tys:List TypeId} (hx:f x=some (.v (.map (some r)))) [hm:HasMap h r i (zal enc (zbd g m))] [hu:Und P T (.map kt et)]:QR P h f ⟨dst,.call ⟨.builtin .len,[x].toArray,(T::tys).toArray⟩,ty,pos,after,guard⟩ (.v (.int .i64 m.length)):=fun X ρ w he=>by
 obtain ⟨ents,clock,h1,h2,_⟩:=he.heap.holds _ (List.mem_of_getElem? hm.h)
 refine ⟨.int .i64 m.length,?_,.v _⟩
 have hl:m.length=ents.size:=by simpa [zal,zbd] using h2
 simp only [execOp,resolve,List.map_toArray,List.map_cons,List.map_nil,(he.rel x _ hx).v_eq,Sem.run_bind,Sem.run_pure,Result.andThen_ok,invoke,builtin,Builtin.len_,List.getElem?_toArray,List.getElem?_cons_zero,run_underlying (h:=hu),MapKept.run_getObj_map h1,hl]
 rfl
end
def mem? (i:Nat) (l:List Nat):Bool:=l.any (Nat.beq i)
theorem mem?_iff {i:Nat} {l:List Nat}:mem? i l=true ↔ i∈l:=by
 rw [mem?,List.any_eq_true]
 constructor
 ·rintro ⟨x,hx,e⟩;rw [Nat.eq_of_beq_eq_true e];exact hx
 ·intro h;exact ⟨i,h,by simp⟩
def zxx:List Nat→Bool
 | []=>true
 |i::r=> !mem? i r && zxx r
theorem zs2:∀{l:List Nat},zxx l=true→l.Nodup
 | [],_=> .nil
 |i::r,h=>by
  simp only [zxx,Bool.and_eq_true,Bool.not_eq_true'] at h
  exact List.nodup_cons.2 ⟨fun hm=>(by rw [mem?_iff.2 hm] at h;cases h.1),zs2 h.2⟩
def zzc (l:List Oper) (n:Nat) (eff late:List Nat):Bool:=
 (late.all fun i=> !mem? i eff && Nat.blt i n && eff.all fun j=>(zue l i (zab l i)).any (Nat.beq j)) && zxx late &&
 Nat.ble n l.length &&
 ((List.range l.length).all fun i=>(zab l i).all fun j=>Nat.blt j i) &&
 ((List.range n).all fun i=>match l[i]? with
   |some o=>(match o.dst with
    |some d=>((List.range n).all fun j=>Nat.beq j i||match zao l j with
     |some d'=> !Nat.beq d d'
     |none=>true)
    |none=>mem? i eff) && (!mem? i eff||(match o.guard with
     |none=>true
     |some _=>false))
   |none=>false) &&
 ((List.range l.length).all fun t=>Nat.blt t n||(List.range t).all fun j=>(zue l t (zab l t)).any (Nat.beq j))
structure SoupD (l:List Oper) (n:Nat) (eff late:List Nat):Prop extends SoupT l n where
 lat:∀i∈late,i ∉ eff∧i < n∧∀j∈eff,j∈zue l i (zab l i)
 lnd:late.Nodup
 dst:∀i,i < n→∃o,l[i]? =some o∧(i ∉ eff→∃d,o.dst=some d)∧(i∈eff→o.guard=none)∧∀d,o.dst=some d→∀j,j < n→j≠i→∀d',zao l j=some d'→d≠d'
theorem zxi {l:List Oper} {n:Nat} {eff late:List Nat} (hc:zzc l n eff late=true):SoupD l n eff late:=by
 simp only [zzc,Bool.and_eq_true,List.all_eq_true,List.mem_range] at hc
 obtain ⟨⟨⟨⟨⟨h5,h6⟩,h1⟩,h2⟩,h3⟩,h4⟩:=hc
 refine ⟨⟨Nat.le_of_ble_eq_true h1,fun i hi j hj=>Nat.le_of_ble_eq_true (h2 i hi j hj),fun t ht htl j hj=> ?_⟩,fun i hi=> ?_,zs2 h6,fun i hi=> ?_⟩
 rotate_left
 ·obtain ⟨⟨g1,g2⟩,g3⟩:=h5 i hi
  refine ⟨fun hm=>(by rw [mem?_iff.2 hm] at g1;cases g1),Nat.le_of_ble_eq_true g2,fun j hj=> ?_⟩
  obtain ⟨x,hx,e⟩:=List.any_eq_true.1 (g3 j hj)
  rw [Nat.eq_of_beq_eq_true e];exact hx
 rotate_left
 ·have:=h4 t htl
  simp only [Bool.or_eq_true] at this
  rcases this with e|e
  ·exact absurd (Nat.le_of_ble_eq_true e) (by omega)
  ·have:=List.all_eq_true.1 e j (List.mem_range.2 hj)
   obtain ⟨x,hx,e2⟩:=List.any_eq_true.1 this
   rw [Nat.eq_of_beq_eq_true e2];exact hx
 ·have:=h3 i hi
  split at this
  ·rename_i o ho
   simp only [Bool.and_eq_true] at this
   obtain ⟨g1,g2⟩:=this
   refine ⟨o,ho,fun hne=> ?_,fun he=> ?_,fun d hd j hj hji d' hd'=> ?_⟩
   ·cases hd:o.dst with
    |some d=>exact ⟨d,rfl⟩
    |none=>simp only [hd] at g1;exact absurd (mem?_iff.1 g1) hne
   ·rw [mem?_iff.2 he] at g2
    simp only [Bool.not_true,Bool.false_or] at g2
    split at g2
    ·assumption
    ·cases g2
   ·simp only [hd] at g1
    have:=List.all_eq_true.1 g1 j (List.mem_range.2 hj)
    simp only [hd',Bool.or_eq_true,Bool.not_eq_true'] at this
    rcases this with e|e
    ·exact absurd (Nat.eq_of_beq_eq_true e) hji
    ·exact Nat.ne_of_beq_eq_false e
  ·cases this
def zi0 (ds:List Tmp) (f:Fr):Fr:=f.filter fun p=>ds.any (Nat.beq p.1)
def zud (ds:List Tmp) (f:Fr):Fr:=f.filter fun p=> !ds.any (Nat.beq p.1)
def stF (o:Oper) (av:AV) (f:Fr):Fr:=match o.dst with
 |some d=>(d,av)::f
 |none=>f
theorem zek {q:Nat→Bool}:∀{f:Fr} {d:Nat},q d=true→lk (f.filter fun p=>q p.1) d=lk f d
 | [],_,_=>rfl
 |(j,a)::f,d,hq=>by
  have ih:=zek (f:=f) hq
  simp only [List.filter_cons,lk]
  split
  ·simp only [lk,ih]
  ·rename_i hj
   have:Nat.beq j d=false:=by
    cases h:Nat.beq j d with
    |false=>rfl
    |true=>rw [Nat.eq_of_beq_eq_true h] at hj;exact absurd hq hj
   rw [this];exact ih
theorem zb2 {q:Nat→Bool}:∀{f:Fr} {d:Nat},q d=false→lk (f.filter fun p=>q p.1) d=none
 | [],_,_=>rfl
 |(j,a)::f,d,hq=>by
  have ih:=zb2 (f:=f) hq
  simp only [List.filter_cons]
  split
  ·rename_i hj
   simp only [lk]
   have:Nat.beq j d=false:=by
    cases h:Nat.beq j d with
    |false=>rfl
    |true=>rw [Nat.eq_of_beq_eq_true h] at hj;rw [hq] at hj;cases hj
   rw [this];exact ih
  ·exact ih
section
variable {P:Program} {ro:Option Nat} {nt:Nat} {l:List Oper} {eff:List Nat} {sd:Nat→List Tmp} {t0:Fr} {C:List Res→Prop}
def QJ (P:Program) (ro:Option Nat) (nt:Nat) (C:List Res→Prop) (l:List Oper) (sd:List Tmp) (t0:Fr) (o:Oper) (d:Tmp) (av:AV) (e:Fr):Prop:=
 o.dst=some d∧Nat.blt d nt=true∧((gdS l (lkS sd (zcx l o) e t0) o=some true∧∀h,C h→QV P ro h (evS sd (zcx l o) e t0) o av)∨(gdS l (lkS sd (zcx l o) e t0) o=some false∧av= .v undef))
def zd9 (P:Program) (ro:Option Nat) (nt:Nat) (C:List Res→Prop) (l:List Oper) (eff:List Nat) (sd:Nat→List Tmp) (t0:Fr):List Oper→Nat→Fr→(Fr→Prop)→Prop
 | [],_,e,K=>K e
 |o::rest,i,e,K=>(mem? i eff=true∧zd9 P ro nt C l eff sd t0 rest (i+1) e K)∨(mem? i eff=false∧∃d av,QJ P ro nt C l (sd i) t0 o d av e∧zd9 P ro nt C l eff sd t0 rest (i+1) ((d,av)::e) K)
theorem yix {i:Nat} {e:Fr} {K:Fr→Prop} (hk:K e):zd9 P ro nt C l eff sd t0 [] i e K:=hk
theorem je {o:Oper} {rest:List Oper} {i:Nat} {e:Fr} {K:Fr→Prop} (hi:mem? i eff=true) (hk:zd9 P ro nt C l eff sd t0 rest (i+1) e K):zd9 P ro nt C l eff sd t0 (o::rest) i e K:= .inl ⟨hi,hk⟩
theorem jq {d:Tmp} {op:Op} {ty:TypeId} {pos:String} {after:Array Edge} {g:Option (Nat×Bool)} {av:AV} {rest:List Oper} {i:Nat} {e:Fr} {K:Fr→Prop}
 (hg:gdS l (lkS (sd i) (zcx l ⟨some d,op,ty,pos,after,g⟩) e t0) ⟨some d,op,ty,pos,after,g⟩=some true)
 (hq:∀h,C h→QR P h (evS (sd i) (zcx l ⟨some d,op,ty,pos,after,g⟩) e t0) ⟨some d,op,ty,pos,after,g⟩ av) (hk:zd9 P ro nt C l eff sd t0 rest (i+1) ((d,av)::e) K)
 (hi:mem? i eff=false:=by rfl) (hd:Nat.blt d nt=true:=by rfl) (hn:zbx ⟨some d,op,ty,pos,after,g⟩=true:=by rfl):zd9 P ro nt C l eff sd t0 (⟨some d,op,ty,pos,after,g⟩::rest) i e K:=
 .inr ⟨hi,d,av,⟨rfl,hd,.inl ⟨hg,fun h hc=>zg1 (hq h hc) hn⟩⟩,hk⟩
theorem jv {d:Tmp} {op:Op} {ty:TypeId} {pos:String} {after:Array Edge} {g:Option (Nat×Bool)} {av:AV} {rest:List Oper} {i:Nat} {e:Fr} {K:Fr→Prop}
 (hg:gdS l (lkS (sd i) (zcx l ⟨some d,op,ty,pos,after,g⟩) e t0) ⟨some d,op,ty,pos,after,g⟩=some true)
 (hq:∀h,C h→QV P ro h (evS (sd i) (zcx l ⟨some d,op,ty,pos,after,g⟩) e t0) ⟨some d,op,ty,pos,after,g⟩ av) (hk:zd9 P ro nt C l eff sd t0 rest (i+1) ((d,av)::e) K)
 (hi:mem? i eff=false:=by rfl) (hd:Nat.blt d nt=true:=by rfl):zd9 P ro nt C l eff sd t0 (⟨some d,op,ty,pos,after,g⟩::rest) i e K:=
 .inr ⟨hi,d,av,⟨rfl,hd,.inl ⟨hg,hq⟩⟩,hk⟩
theorem yd2 {n:Nat} {ef la:List Nat} (hC:SoupD l n ef la) (hsk:∀i,i ∉ eff→i ∉ ef) {K:Fr→Prop}:∀{os:List Oper} {i:Nat} {e:Fr},i+os.length=n→os=(l.take n).drop i→(∀d a,lk e d=some a→∃j,j < i∧j ∉ eff∧zao l j=some d)→(∀j,j < i→j ∉ eff→∀d,zao l j=some d→lk e d≠none)→zd9 P ro nt C l eff sd t0 os i e K→
 ∃E,K E∧(∀d a,lk e d=some a→lk E d=some a)∧(∀d a,lk E d=some a→∃j,j < n∧j ∉ eff∧zao l j=some d)∧(∀j,j < n→j ∉ eff→∀d,zao l j=some d→lk E d≠none)∧
  ∀j o,i≤j→j < n→j ∉ eff→l[j]? =some o→∃d av e',lk E d=some av∧(∀d a,lk e' d=some a→lk E d=some a)∧QJ P ro nt C l (sd j) t0 o d av e'
 | [],i,e,hn,ho,he,hf,hk=>⟨e,hk,fun _ _ h=>h,fun d a h=>let ⟨j,h1,h2⟩:=he d a h;⟨j,by simp at hn;omega,h2⟩,fun j hj=>hf j (by simp at hn;omega),fun j o h1 h2=>by simp at hn;omega⟩
 |o::os,i,e,hn,ho,he,hf,hk=>by
  have hin:i < n:=by simp at hn;omega
  have hoi:l[i]? =some o:=by
   have:(l.take n)[i]? =some o:=by
    have:=congrArg List.head? ho
    rw [List.head?_cons,List.head?_drop] at this;exact this.symm
   rwa [List.getElem?_take_of_lt hin] at this
  have ho':os=(l.take n).drop (i+1):=by
   have:=congrArg List.tail ho
   rwa [List.tail_cons,List.tail_drop] at this
  rcases hk with ⟨hi,hk⟩|⟨hi,d,av,hq,hk⟩
  ·have hie:=mem?_iff.1 hi
   obtain ⟨E,h1,h2,h3,h4,h5⟩:=yd2 hC hsk (by simp at hn;omega) ho' (fun d a h=>let ⟨j,g1,g2⟩:=he d a h;⟨j,by omega,g2⟩) (fun j hj hje d hd=>by
    rcases Nat.lt_or_ge j i with h|h
    ·exact hf j h hje d hd
    ·have:j=i:=by omega
     subst this;exact absurd hie hje) hk
   refine ⟨E,h1,h2,h3,h4,fun j oj hj1 hj2 hje hoj=> ?_⟩
   rcases Nat.lt_or_ge i j with h|h
   ·exact h5 j oj h hj2 hje hoj
   ·have:j=i:=by omega
    subst this;exact absurd hie hje
  ·have hie:i ∉ eff:=fun h=>by rw [mem?_iff.2 h] at hi;cases hi
   obtain ⟨o2,g1,_,_,g4⟩:=hC.dst i hin
   have:o2=o:=Option.some.inj (g1.symm.trans hoi)
   subst this
   have hdd:zao l i=some d:=by simp [zao,hoi,hq.1]
   have hnew:lk e d=none:=by
    cases hl:lk e d with
    |none=>rfl
    |some a=>
     obtain ⟨j,k1,k2,k3⟩:=he d a hl
     exact absurd rfl (g4 d hq.1 j (by omega) (by omega) d k3)
   have hmono:∀d' a,lk e d'=some a→lk ((d,av)::e) d'=some a:=fun d' a h=>by
    simp only [lk]
    split
    ·rename_i hb
     rw [←Nat.eq_of_beq_eq_true hb,hnew] at h;cases h
    ·exact h
   obtain ⟨E,h1,h2,h3,h4,h5⟩:=yd2 hC hsk (by simp at hn;omega) ho' (fun d' a h=>by
    simp only [lk] at h
    split at h
    ·rename_i hb
     rw [←Nat.eq_of_beq_eq_true hb];exact ⟨i,by omega,hie,hdd⟩
    ·obtain ⟨j,k1,k2⟩:=he d' a h;exact ⟨j,by omega,k2⟩) (fun j hj hje d' hd'=>by
    simp only [lk]
    split
    ·simp
    ·rename_i hb
     rcases Nat.lt_or_ge j i with h|h
     ·exact hf j h hje d' hd'
     ·have:j=i:=by omega
      subst this
      rw [hdd] at hd';cases hd'
      simp at hb) hk
   refine ⟨E,h1,fun d' a h=>h2 d' a (hmono d' a h),h3,h4,fun j oj hj1 hj2 hje hoj=> ?_⟩
   rcases Nat.lt_or_ge i j with h|h
   ·exact h5 j oj h hj2 hje hoj
   ·have:j=i:=by omega
    subst this
    have:oj=o2:=Option.some.inj (hoj.symm.trans hoi)
    subst this
    exact ⟨d,av,e,h2 d av (by simp [lk]),fun d' a h=>h2 d' a (hmono d' a h),hq⟩
end
def zfo (P:Program) (ro:Option Nat) (nt:Nat) (he:List Res) (l:List Oper) (sd:Nat→List Tmp) (t0:Fr):List Nat→Fr→(Fr→Prop)→Prop
 | [],e,K=>K e
 |i::r,e,K=>∃o d av,l[i]? =some o∧QJ P ro nt (fun h=>h=he) l (sd i) t0 o d av e∧zfo P ro nt he l sd t0 r ((d,av)::e) K
section
variable {P:Program} {ro:Option Nat} {nt:Nat} {l:List Oper} {sd:Nat→List Tmp} {t0:Fr} {he:List Res}
theorem ln {e:Fr} {K:Fr→Prop} (hk:K e):zfo P ro nt he l sd t0 [] e K:=hk
theorem lq {i:Nat} {r:List Nat} {e:Fr} {K:Fr→Prop} {d:Tmp} {op:Op} {ty:TypeId} {pos:String} {after:Array Edge} {g:Option (Nat×Bool)} {av:AV} (ho:l[i]? =some ⟨some d,op,ty,pos,after,g⟩)
 (hg:gdS l (lkS (sd i) (zcx l ⟨some d,op,ty,pos,after,g⟩) e t0) ⟨some d,op,ty,pos,after,g⟩=some true)
 (hq:QR P he (evS (sd i) (zcx l ⟨some d,op,ty,pos,after,g⟩) e t0) ⟨some d,op,ty,pos,after,g⟩ av) (hk:zfo P ro nt he l sd t0 r ((d,av)::e) K)
 (hd:Nat.blt d nt=true:=by rfl) (hn:zbx ⟨some d,op,ty,pos,after,g⟩=true:=by rfl):zfo P ro nt he l sd t0 (i::r) e K:=
 ⟨_,d,av,ho,⟨rfl,hd,.inl ⟨hg,fun h hh=>by subst hh;exact zg1 hq hn⟩⟩,hk⟩
theorem yds {n:Nat} {ef la:List Nat} (hC:SoupD l n ef la) {K:Fr→Prop}:∀{r:List Nat} {e:Fr},(∀i∈r,i∈la)→r.Nodup→(∀i∈r,∀d,zao l i=some d→lk e d=none)→zfo P ro nt he l sd t0 r e K→
 ∃F,K F∧(∀d a,lk e d=some a→lk F d=some a)∧(∀d a,lk F d=some a→lk e d=some a∨∃i∈r,zao l i=some d)∧(∀i∈r,∀d,zao l i=some d→lk F d≠none)∧
  ∀i∈r,∀o,l[i]? =some o→∃d av e',lk F d=some av∧(∀d a,lk e' d=some a→lk F d=some a)∧QJ P ro nt (fun h=>h=he) l (sd i) t0 o d av e'
 | [],e,_,_,_,hk=>⟨e,hk,fun _ _ h=>h,fun _ _ h=> .inl h,fun i h=>(by cases h),fun i h=>(by cases h)⟩
 |i::r,e,hr,hnd,hdis,⟨o,d,av,ho,hq,hk⟩=>by
  obtain ⟨hir,hnd'⟩:=List.nodup_cons.1 hnd
  have hdd:zao l i=some d:=by simp [zao,ho,hq.1]
  have hnew:=hdis i (by simp) d hdd
  have hin:=(hC.lat i (hr i (by simp))).2.1
  have hmono:∀d' a,lk e d'=some a→lk ((d,av)::e) d'=some a:=fun d' a h=>by
   simp only [lk]
   split
   ·rename_i hb
    rw [←Nat.eq_of_beq_eq_true hb,hnew] at h;cases h
   ·exact h
  obtain ⟨F,h1,h2,h3,h4,h5⟩:=yds hC (r:=r) (fun j hj=>hr j (by simp [hj])) hnd' (fun j hj d' hd'=>by
   simp only [lk]
   split
   ·rename_i hb
    have:=Nat.eq_of_beq_eq_true hb
    subst this
    obtain ⟨oi,g1,_,_,g4⟩:=hC.dst i hin
    have:oi=o:=Option.some.inj (g1.symm.trans ho)
    subst this
    exact absurd rfl (g4 d hq.1 j (hC.lat j (hr j (by simp [hj]))).2.1 (fun e=>hir (e ▸ hj)) d hd')
   ·exact hdis j (by simp [hj]) d' hd') hk
  refine ⟨F,h1,fun d' a h=>h2 d' a (hmono d' a h),fun d' a h=> ?_,fun j hj d' hd'=> ?_,fun j hj oj hoj=> ?_⟩
  ·rcases h3 d' a h with h|⟨j,hj,h⟩
   ·simp only [lk] at h
    split at h
    ·rename_i hb
     exact .inr ⟨i,by simp,by rw [←Nat.eq_of_beq_eq_true hb];exact hdd⟩
    ·exact .inl h
   ·exact .inr ⟨j,by simp [hj],h⟩
  ·rcases List.mem_cons.1 hj with rfl|hj
   ·rw [hdd] at hd';cases hd'
    rw [h2 d av (by simp [lk])];simp
   ·exact h4 j hj d' hd'
  ·rcases List.mem_cons.1 hj with rfl|hj
   ·have:oj=o:=Option.some.inj (hoj.symm.trans ho)
    subst this
    exact ⟨d,av,e,h2 d av (by simp [lk]),fun d' a h=>h2 d' a (hmono d' a h),hq⟩
   ·exact h5 j hj oj hoj
end
structure InvJ (P:Program) (X:Nat→Prop) (nt:Nat) (h:List Res) (l:List Oper) (n:Nat) (eff late:List Nat) (t:Fr) (dsl:List Nat) (E:Fr) (J:List Nat→Fr→List Res→Prop) (w0:World) (L:List Nat) (ee:Fr) (he:List Res) (F:Fr) (listed:Array Bool) (a:Act) (w:World):Prop where
 size:listed.size=l.length
 closed:∀i,listed.getD i false=true→∀j∈zab l i,listed.getD j false=true
 tail:∀i,n≤i→listed.getD i false=false
 tsz:a.tmps.size=nt
 defs:a.defers=dsl.map zkk
 J:J L ee he
 heap:HRel X w he
 lst:∀i,i∈L ↔ i∈eff∧i < n∧listed.getD i false=true
 lvals:∀i d av,i∈late→zao l i=some d→lk F d=some av→listed.getD i false=true→∃v,a.tmps[d]? =some v∧Rel w (OO he X) av v
 vals:∀i d av,i < n→i ∉ eff++late→zao l i=some d→lk E d=some av→listed.getD i false=true→∃v,a.tmps[d]? =some v∧Rel w (OO he X) av v
 evals:∀d av,lk ee d=some av→∃v,a.tmps[d]? =some v∧Rel w (OO he X) av v
 edom:∀d,lk ee d≠none ↔ ∃i,i∈L∧zao l i=some d
 base:∀d av,(∀j,j < n→zao l j=some d→listed.getD j false=false)→lk t d=some av→∃v,a.tmps[d]? =some v∧Rel w (OO he X) av v
 keep:Keep (k9 h) w0 (k9 he) w
structure GoodF (P:Program) (ro:Option Nat) (nt:Nat) (Q:Exit→St→Prop) (l:List Oper) (n:Nat) (late:List Nat) (sd:Nat→List Tmp) (t:Fr) (dsl:List Nat) (E ee:Fr) (he:List Res) (F:Fr):Prop where
 fin:zch P ro nt l.toArray (l.drop n) Q ⟨F++t,he,dsl⟩
 up:∀d a,lk (E++ee) d=some a→lk F d=some a
 dn:∀d a,lk F d=some a→lk (E++ee) d=some a∨∃i∈late,zao l i=some d
 nn:∀i∈late,∀d,zao l i=some d→lk F d≠none
 facts:∀i∈late,∀o,l[i]? =some o→∃d av e',lk F d=some av∧(∀d a,lk e' d=some a→lk F d=some a)∧QJ P ro nt (fun h=>h=he) l (sd i) t o d av e'
theorem yb1 {l:List Oper} {n:Nat} {d:Nat} (hf:(zft l n).any (Nat.beq d)=false) {j:Nat} (hj:j < n) (hd:zao l j=some d):False:=by
 have:d∈zft l n:=by
  simp only [zft,List.mem_filterMap]
  simp only [zao] at hd
  cases hlj:l[j]? with
  |none=>simp [hlj] at hd
  |some oj=>
   simp only [hlj,Option.bind_some] at hd
   exact ⟨oj,List.mem_of_getElem? (i:=j) (by rw [List.getElem?_take_of_lt hj];exact hlj),hd⟩
 have:(zft l n).any (Nat.beq d)=true:=List.any_eq_true.2 ⟨d,this,by simp⟩
 rw [hf] at this;cases this
theorem zyw {P:Program} {ro:Option Nat} {nt rid:Nat} {Q:Exit→St→Prop} {l:List Oper} {t:Fr} {h:List Res} {dsl:List Nat} (n:Nat) (eff late:List Nat) (sd:Nat→List Tmp) (hS:∀i,i < n→∀d,(sd i).any (Nat.beq d)=false→∀j,j < n→zao l j=some d→i∈zue l j (zab l j)) (C:List Res→Prop) [hm:Mixed P] (hc:zzc l n eff late=true)
 (hk:zd9 P ro nt C l (eff++late) sd t (l.take n) 0 [] (fun E=>∃J:List Nat→Fr→List Res→Prop,J [] [] h∧(∀L ee he,J L ee he→C he)∧
  (∀L ee he,J L ee he→∀i o,i∈eff→i ∉ L→l[i]? =some o→(∀j,j∈zue l i (zab l i)→j∈eff→j∈L)→∀u,OE P ro nt o ⟨zi0 (zcx l o) E++(zi0 (zcx l o) ee++(zud (zft l n) t++u)),he,dsl⟩
   (fun s'=>∃av he',s'=⟨stF o av (zi0 (zcx l o) E++(zi0 (zcx l o) ee++(zud (zft l n) t++u))),he',dsl⟩∧J (i::L) (stF o av ee) he'))∧
  (∀L ee he,J L ee he→(∀i,i∈eff→i < n→i∈L)→zfo P ro nt he l sd t late (E++ee) (fun F=>zch P ro nt l.toArray (l.drop n) Q ⟨F++t,he,dsl⟩)))):aw P ro nt (.region rid l.toArray true) Q ⟨t,h,dsl⟩:=by
 intro X a0 w0 hs
 have hC:=zxi hc
 obtain ⟨E,⟨J,h0,hJC,hstep,hfin⟩,_,hE1,hE2,hfact⟩:=yd2 (os:=l.take n) (i:=0) (n:=n) (K:=fun E=>_) hC (fun i hi he=>hi (List.mem_append_left _ he)) (by have:=hC.le;simp;omega) rfl (fun d a h=>by simp [lk] at h) (fun j hj=>by omega) hk
 refine wpIn_region_any hm.h ?_
 have hsome_dst:∀j o,l[j]? =some o→zao l j=o.dst:=fun j o ho=>by simp [zao,ho]
 have hE1':∀d a,lk E d=some a→∃j,j < n∧j ∉ eff∧j ∉ late∧zao l j=some d:=fun d a h=>by
  obtain ⟨j,h1,h2,h3⟩:=hE1 d a h
  exact ⟨j,h1,fun he=>h2 (List.mem_append_left _ he),fun he=>h2 (List.mem_append_right _ he),h3⟩
 have main:∀(fuel:Nat) (U L:List Nat) (ee:Fr) (he:List Res) (F:Fr) (listed:Array Bool) (a:Act) (w:World),InvJ P X nt h l n eff late t dsl E J w0 L ee he F listed a w→((∀i,i∈eff→i < n→i∈L)→GoodF P ro nt Q l n late sd t dsl E ee he F)→(∀i,i < l.length→listed.getD i false=false→i∈U)→U.length≤fuel→
  wpAnyIn (FW ro) 0 P .any l.toArray (zua X nt ⟨t,h,dsl⟩ w0 Q) fuel listed a w:=by
  have done:∀(fuel:Nat) (U L:List Nat) (ee:Fr) (he:List Res) (F:Fr) (listed:Array Bool) (a:Act) (w:World),InvJ P X nt h l n eff late t dsl E J w0 L ee he F listed a w→((∀i,i∈eff→i < n→i∈L)→GoodF P ro nt Q l n late sd t dsl E ee he F)→(∀i,i < l.length→listed.getD i false=false→i∈U)→U.length≤fuel→
   (∀i,i < n→listed.getD i false=true)→wpAnyIn (FW ro) 0 P .any l.toArray (zua X nt ⟨t,h,dsl⟩ w0 Q) fuel listed a w:=by
   intro fuel U L ee he F listed a w hi hG hU hf hall
   have hg:=hG (fun i h1 h2=>(hi.lst i).2 ⟨h1,h2,hall i h2⟩)
   refine zw8 hC.toSoupT fuel U n listed a w (Nat.le_refl _) hC.le hi.size (fun j hj=>⟨fun hl=> ?_,fun hl=>hall j hl⟩) (fun i h1 h2=>hU i h2 (hi.tail i h1)) hf ?_
   ·rcases Nat.lt_or_ge j n with h|h
    ·exact h
    ·rw [hi.tail j h] at hl;cases hl
   ·have hsim:Sim X nt ⟨F++t,he,dsl⟩ a w:=by
     refine ⟨hi.heap,hi.tsz,fun d av hl=> ?_,hi.defs⟩
     have hl':lk (F++t) d=some av:=hl
     rw [j4] at hl'
     cases hF:lk F d with
     |some av'=>
      simp only [hF,Option.some.injEq] at hl';subst hl'
      rcases hg.dn d _ hF with hE|⟨j,g1,g2⟩
      ·rw [j4] at hE
       cases hE2:lk E d with
       |some av2=>
        simp only [hE2,Option.some.injEq] at hE;subst hE
        obtain ⟨j,g1,g2,g3⟩:=hE1 d _ hE2
        exact hi.vals j d _ g1 g2 g3 hE2 (hall j g1)
       |none=>simp only [hE2] at hE;exact hi.evals d _ hE
      ·exact hi.lvals j d _ g1 g2 hF (hall j (hC.lat j g1).2.1)
     |none=>
      simp only [hF] at hl'
      have hEe:lk (E++ee) d=none:=by
       cases hx:lk (E++ee) d with
       |none=>rfl
       |some y=>rw [hg.up d y hx] at hF;cases hF
      rw [j4] at hEe
      refine hi.base d av (fun j hj hd=> ?_) hl'
      exfalso
      by_cases hje:j∈eff
      ·have:=(hi.edom d).2 ⟨j,(hi.lst j).2 ⟨hje,hj,hall j hj⟩,hd⟩
       cases hE:lk E d with
       |some y=>simp [hE] at hEe
       |none=>simp only [hE] at hEe;exact this hEe
      ·by_cases hjl:j∈late
       ·exact hg.nn j hjl d hd hF
       ·refine hE2 j hj (fun hm=>(List.mem_append.1 hm).elim hje hjl) d hd ?_
        cases hE:lk E d with
        |some y=>simp [hE] at hEe
        |none=>rfl
    have:=hg.fin X a w hsim
    exact zb3 (s:=⟨t,h,dsl⟩) (s':=⟨F++t,he,dsl⟩) hi.keep this
  intro fuel
  induction fuel with
  |zero=>
   intro U L ee he F listed a w hi hG hU hf
   refine done 0 U L ee he F listed a w hi hG hU hf fun i hin=> ?_
   have hU0:U= []:=List.eq_nil_of_length_eq_zero (by omega)
   cases hl:listed.getD i false with
   |true=>rfl
   |false=>have:=hU i (by have:=hC.le;omega) hl;simp [hU0] at this
  |succ fuel ih=>
   intro U L ee he F listed a w hi hG hU hf
   by_cases hall:∀i,i < n→listed.getD i false=true
   ·exact done _ U L ee he F listed a w hi hG hU hf hall
   ·have hready:∀i,i∈Region.ready .any l.toArray listed→i < n∧listed.getD i false=false∧i < l.length∧∀j∈zab l i,listed.getD j false=true:=by
     intro i hir
     obtain ⟨h1,h2,h3⟩:=zh5.1 hir
     have hun:listed.getD i false=false:=by rw [zlj (by rw [hi.size];exact h2) false true];exact h1
     refine ⟨?_,hun,h2,h3⟩
     rcases Nat.lt_or_ge i n with h|h
     ·exact h
     ·exfalso
      apply hall
      intro j hj
      exact zcm hi.closed i _ h3 j (hC.tail i h h2 j (by omega))
    have hsome:∀m,(∃i,i < n∧i < m∧listed.getD i false=false)→Region.ready .any l.toArray listed≠ []:=by
     intro m
     induction m with
     |zero=>rintro ⟨i,_,h,_⟩;omega
     |succ m ihm=>
      rintro ⟨i,hin,him,hun⟩
      by_cases hp:∀j∈zab l i,listed.getD j false=true
      ·intro h0
       have hin':i < l.length:=by have:=hC.le;omega
       have:i∈Region.ready .any l.toArray listed:=zh5.2 ⟨by rw [zlj (by rw [hi.size];exact hin') true false];exact hun,hin',hp⟩
       rw [h0] at this;exact absurd this (by simp)
      ·have:∃j,j∈zab l i∧listed.getD j false=false:=by
        refine Classical.byContradiction fun hne=>hp fun j hj=> ?_
        cases hl:listed.getD j false with
        |true=>rfl
        |false=>exact absurd ⟨j,hj,hl⟩ hne
       obtain ⟨j,hj,hjun⟩:=this
       have:=hC.back i (by have:=hC.le;omega) j hj
       exact ihm ⟨j,by omega,by omega,hjun⟩
    refine ⟨fun h0=> ?_,fun i hir=> ?_⟩
    ·exfalso
     have:∃i,i < n∧listed.getD i false=false:=by
      refine Classical.byContradiction fun hne=>hall fun i hin=> ?_
      cases hl:listed.getD i false with
      |true=>rfl
      |false=>exact absurd ⟨i,hin,hl⟩ hne
     obtain ⟨i,hin,hun⟩:=this
     exact hsome (i+1) ⟨i,hin,by omega,hun⟩ h0
    ·obtain ⟨hin,hun,hil,hp⟩:=hready i hir
     obtain ⟨o,ho,hq1,hq2,hq3⟩:=hC.dst i hin
     have hU':∀k,k < l.length→(listed.setIfInBounds i true).getD k false=false→k∈U.erase i:=fun k hkl hk=>by
      have hki:i≠k:=fun e=>by subst e;rw [zck (by rw [hi.size];exact hil)] at hk;cases hk
      rw [getD_set_ne false hki] at hk
      exact (List.mem_erase_of_ne (fun h=>hki h.symm)).2 (hU k hkl hk)
     have hf':(U.erase i).length≤fuel:=by rw [List.length_erase_of_mem (hU i hil hun)];omega
     have hcl:∀k,(listed.setIfInBounds i true).getD k false=true→∀j∈zab l k,(listed.setIfInBounds i true).getD j false=true:=fun k hk j hj=>by
      by_cases hik:i=k
      ·subst hik;exact getD_set_true (hp j hj)
      ·rw [getD_set_ne false hik] at hk;exact getD_set_true (hi.closed k hk j hj)
     have hdo:=hsome_dst i o ho
     have hne:∀d j dj,o.dst=some d→j < n→j≠i→zao l j=some dj→d≠dj:=fun d j dj hd hj hji hdj=>hq3 d hd j hj hji dj hdj
     -- what is looked up
     have hsd:∀d,(zft l n).any (Nat.beq d)=false→∀j,j < n→zao l j≠some d:=fun d hf j hj hd=>by
      have:d∈zft l n:=by
       simp only [zft,List.mem_filterMap]
       simp only [zao] at hd
       cases hlj:l[j]? with
       |none=>simp [hlj] at hd
       |some oj=>
        simp only [hlj,Option.bind_some] at hd
        exact ⟨oj,List.mem_of_getElem? (i:=j) (by rw [List.getElem?_take_of_lt hj];exact hlj),hd⟩
      have:(zft l n).any (Nat.beq d)=true:=List.any_eq_true.2 ⟨d,this,by simp⟩
      simp_all
     have hpd:∀d,(zcx l o).any (Nat.beq d)=true→∃j,j∈zab l i∧zao l j=some d:=fun d hpd=>by
      obtain ⟨x,hx,e⟩:=List.any_eq_true.1 hpd
      have:=Nat.eq_of_beq_eq_true e
      subst this
      simp only [zcx,List.mem_filterMap] at hx
      obtain ⟨j',hj',hd'⟩:=hx
      exact ⟨j',by simp only [zab,ho];exact hj',hd'⟩
     have hlookE:∀d av,(zcx l o).any (Nat.beq d)=true→lk E d=some av→∃v,a.tmps[d]? =some v∧Rel w (OO he X) av v:=fun d av hpd' hl=>by
      obtain ⟨j,hj,hjd⟩:=hpd d hpd'
      obtain ⟨j',g1,g2,g3⟩:=hE1 d av hl
      have hji:=hC.back i hil j hj
      have:j'=j:=by
       refine Classical.byContradiction fun hne'=> ?_
       obtain ⟨oj,k1,_,_,k4⟩:=hC.dst j (by omega)
       exact k4 d (by rw [←hsome_dst j oj k1];exact hjd) j' g1 hne' d g3 rfl
      subst this
      exact hi.vals j' d av g1 g2 g3 hl (hp j' hj)
     have hbase:∀d av,(zft l n).any (Nat.beq d)=false→lk t d=some av→∃v,a.tmps[d]? =some v∧Rel w (OO he X) av v:=fun d av hf hl=>hi.base d av (fun j hj hd=>absurd hd (hsd d hf j hj)) hl
     obtain ⟨lw,hlw⟩:∃lw:Nat→Bool,lw=fun d=>(List.range n).any fun j=>listed.getD j false && (match zao l j with|some d2=>Nat.beq d2 d|none=>false):=⟨_,rfl⟩
     have hlwt:∀d j,j < n→zao l j=some d→listed.getD j false=true→lw d=true:=fun d j hj hd hl=>by
      rw [hlw];exact List.any_eq_true.2 ⟨j,List.mem_range.2 hj,by simp [hd,hl]⟩
     have hlwf:∀d,lw d=false→∀j,j < n→zao l j=some d→listed.getD j false=false:=fun d hf j hj hd=>by
      cases hl:listed.getD j false with
      |false=>rfl
      |true=>rw [hlwt d j hj hd hl] at hf;cases hf
     have hbase2:∀d av,lw d=false→lk t d=some av→∃v,a.tmps[d]? =some v∧Rel w (OO he X) av v:=fun d av hf hl=>hi.base d av (hlwf d hf) hl
     unfold wpOpIn
     simp only [List.getElem?_toArray,ho]
     by_cases hie:i∈eff
     ·have hg:=hq2 hie
      have hiL:i ∉ L:=fun h=>by have:=((hi.lst i).1 h).2.2;rw [hun] at this;cases this
      rw [if_pos (by simp [Region.wanted,hg])]
      -- all that is known,once more
      obtain ⟨T,hT⟩:∃T:Fr,T=(E.filter fun p=>(List.range n).any fun j=> !mem? j (eff++late) && listed.getD j false && (match zao l j with|some d=>Nat.beq d p.1|none=>false))++(ee++t.filter fun p=> !lw p.1):=⟨_,rfl⟩
      have hO2:=hstep L ee he hi.J i o hie hiL ho (fun j hj hje=>(hi.lst j).2 ⟨hje,(by
       have:=zcm hi.closed i _ hp j hj
       rcases Nat.lt_or_ge j n with h|h
       ·exact h
       ·rw [hi.tail j h] at this;cases this),zcm hi.closed i _ hp j hj⟩) T
      obtain ⟨G,hG⟩:∃G,G=zi0 (zcx l o) E++(zi0 (zcx l o) ee++(zud (zft l n) t++T)):=⟨_,rfl⟩
      rw [←hG] at hO2
      have hGr:zfv w (OO he X) G a.tmps:=fun d av hl=>by
       rw [hG,j4] at hl
       by_cases hpd':(zcx l o).any (Nat.beq d)=true
       ·rw [zi0,zek (q:=fun d=>(zcx l o).any (Nat.beq d)) hpd'] at hl
        cases hE:lk E d with
        |some av'=>simp only [hE,Option.some.injEq] at hl;subst hl;exact hlookE d _ hpd' hE
        |none=>
         simp only [hE] at hl
         rw [j4,zi0,zek (q:=fun d=>(zcx l o).any (Nat.beq d)) hpd'] at hl
         cases he':lk ee d with
         |some av'=>simp only [he',Option.some.injEq] at hl;subst hl;exact hi.evals d _ he'
         |none=>
          simp only [he'] at hl
          rw [j4] at hl
          by_cases hsd':(zft l n).any (Nat.beq d)=false
          ·rw [zud,zek (q:=fun d=> !(zft l n).any (Nat.beq d)) (by simp [hsd'])] at hl
           cases ht:lk t d with
           |some av'=>simp only [ht,Option.some.injEq] at hl;subst hl;exact hbase d _ hsd' ht
           |none=>
            simp only [ht] at hl
            rw [hT,j4,j4] at hl
            have h3:lk (t.filter fun p=> !lw p.1) d=none:=by
             by_cases hlq:lw d=true
             ·rw [zb2 (q:=fun d=> !lw d) (by simp [hlq])]
             ·rw [zek (q:=fun d=> !lw d) (by simp [hlq]),ht]
            rw [he',h3] at hl
            split at hl
            ·rename_i q
             by_cases hq:((List.range n).any fun j=> !mem? j (eff++late) && listed.getD j false && (match zao l j with|some d2=>Nat.beq d2 d|none=>false))=true
             ·rw [zek (q:=fun d=>(List.range n).any fun j=> !mem? j (eff++late) && listed.getD j false && (match zao l j with|some d2=>Nat.beq d2 d|none=>false)) hq,hE] at q;cases q
             ·rw [zb2 (q:=fun d=>(List.range n).any fun j=> !mem? j (eff++late) && listed.getD j false && (match zao l j with|some d2=>Nat.beq d2 d|none=>false)) (by simpa using hq)] at q;cases q
            ·cases hl
          ·rw [zud,zb2 (q:=fun d=> !(zft l n).any (Nat.beq d)) (by simpa using hsd')] at hl
           simp only at hl
           have h3:lk (t.filter fun p=> !lw p.1) d=none:=by
            obtain ⟨j,hj,hjd⟩:=hpd d hpd'
            have hji:=hC.back i hil j hj
            rw [zb2 (q:=fun d=> !lw d) (by simp [hlwt d j (by omega) hjd (hp j hj)])]
           rw [hT,j4,j4,he',h3] at hl
           split at hl
           ·rename_i q
            by_cases hq:((List.range n).any fun j=> !mem? j (eff++late) && listed.getD j false && (match zao l j with|some d2=>Nat.beq d2 d|none=>false))=true
            ·rw [zek (q:=fun d=>(List.range n).any fun j=> !mem? j (eff++late) && listed.getD j false && (match zao l j with|some d2=>Nat.beq d2 d|none=>false)) hq,hE] at q;cases q
            ·rw [zb2 (q:=fun d=>(List.range n).any fun j=> !mem? j (eff++late) && listed.getD j false && (match zao l j with|some d2=>Nat.beq d2 d|none=>false)) (by simpa using hq)] at q;cases q
           ·cases hl
       ·rw [zi0,zb2 (q:=fun d=>(zcx l o).any (Nat.beq d)) (Bool.eq_false_iff.2 hpd')] at hl
        simp only at hl
        rw [j4,zi0,zb2 (q:=fun d=>(zcx l o).any (Nat.beq d)) (Bool.eq_false_iff.2 hpd')] at hl
        simp only at hl
        have hrest:∀av,lk T d=some av→∃v,a.tmps[d]? =some v∧Rel w (OO he X) av v:=fun av hl=>by
         rw [hT,j4] at hl
         by_cases hq:((List.range n).any fun j=> !mem? j (eff++late) && listed.getD j false && (match zao l j with|some d2=>Nat.beq d2 d|none=>false))=true
         ·rw [zek (q:=fun d=>(List.range n).any fun j=> !mem? j (eff++late) && listed.getD j false && (match zao l j with|some d2=>Nat.beq d2 d|none=>false)) hq] at hl
          obtain ⟨j,hj,hq'⟩:=List.any_eq_true.1 hq
          simp only [Bool.and_eq_true,Bool.not_eq_true'] at hq'
          obtain ⟨⟨k1,k2⟩,k3⟩:=hq'
          have hje:j ∉ eff++late:=fun h=>by rw [mem?_iff.2 h] at k1;cases k1
          have hjd:zao l j=some d:=by
           split at k3
           ·rename_i d2 hd2;rw [hd2,Nat.eq_of_beq_eq_true k3]
           ·cases k3
          cases hE:lk E d with
          |some av'=>simp only [hE,Option.some.injEq] at hl;subst hl;exact hi.vals j d _ (List.mem_range.1 hj) hje hjd hE k2
          |none=>exact absurd hE (hE2 j (List.mem_range.1 hj) hje d hjd)
         ·rw [zb2 (q:=fun d=>(List.range n).any fun j=> !mem? j (eff++late) && listed.getD j false && (match zao l j with|some d2=>Nat.beq d2 d|none=>false)) (by simpa using hq)] at hl
          simp only at hl
          rw [j4] at hl
          cases he':lk ee d with
          |some av'=>simp only [he',Option.some.injEq] at hl;subst hl;exact hi.evals d _ he'
          |none=>
           simp only [he'] at hl
           cases hlq:lw d with
           |false=>
            rw [zek (q:=fun d=> !lw d) (by simp [hlq])] at hl
            exact hbase2 d _ hlq hl
           |true=>rw [zb2 (q:=fun d=> !lw d) (by simp [hlq])] at hl;cases hl
        rw [j4] at hl
        split at hl
        ·rename_i q
         cases hl
         by_cases hsd':(zft l n).any (Nat.beq d)=false
         ·rw [zud,zek (q:=fun d=> !(zft l n).any (Nat.beq d)) (by simp [hsd'])] at q
          exact hbase d _ hsd' q
         ·rw [zud,zb2 (q:=fun d=> !(zft l n).any (Nat.beq d)) (by simpa using hsd')] at q;cases q
        ·exact hrest _ hl
      refine hO2 X a w _ _ ⟨hi.heap,hi.tsz,hGr,hi.defs⟩ fun s' a' w' hs' hsim' hkp=> ?_
      obtain ⟨av,he',rfl,hJ'⟩:=hs'
      have hT':∀d av,(∀d',o.dst=some d'→d'≠d)→lk G d=some av→∃v,a'.tmps[d]? =some v∧Rel w' (OO he' X) av v:=fun d av' hnd hl=>by
       refine hsim'.fr d av' ?_
       show lk (stF o av G) d=_
       unfold stF
       split
       ·rename_i d' hd'
        simp only [lk]
        have:Nat.beq d' d=false:=by
         cases hb:Nat.beq d' d with
         |false=>rfl
         |true=>exact absurd (Nat.eq_of_beq_eq_true hb) (hnd d' hd')
        rw [this];exact hl
       ·exact hl
      have hGT:∀d av,lk T d=some av→(lk G d=some av)∨∃av',lk G d=some av':=fun d av hl=>by
       cases hg:lk G d with
       |some av'=>exact .inr ⟨av',rfl⟩
       |none=>
        exfalso
        rw [hG] at hg
        simp only [j4] at hg
        repeat' split at hg
        all_goals first|(rw [hl] at hg;cases hg)|cases hg
      have hedom':∀d,lk (stF o av ee) d≠none ↔ ∃k,k∈i::L∧zao l k=some d:=fun d=>by
       unfold stF
       constructor
       ·intro hx
        split at hx
        ·rename_i d' hd'
         simp only [lk] at hx
         split at hx
         ·rename_i hb
          have:=Nat.eq_of_beq_eq_true hb
          subst this
          exact ⟨i,by simp,by rw [hdo];exact hd'⟩
         ·obtain ⟨k,k1,k2⟩:=(hi.edom d).1 hx;exact ⟨k,by simp [k1],k2⟩
        ·obtain ⟨k,k1,k2⟩:=(hi.edom d).1 hx;exact ⟨k,by simp [k1],k2⟩
       ·rintro ⟨k,k1,k2⟩
        rcases List.mem_cons.1 k1 with rfl|k1
        ·rw [hdo] at k2;rw [k2];simp [lk]
        ·have:=(hi.edom d).2 ⟨k,k1,k2⟩
         split
         ·simp only [lk];split
          ·simp
          ·exact this
         ·exact this
      obtain ⟨F',hF'⟩:∃F',(∀k,k∈eff→k < n→k∈i::L)→GoodF P ro nt Q l n late sd t dsl E (stF o av ee) he' F':=by
       by_cases hA:∀k,k∈eff→k < n→k∈i::L
       ·obtain ⟨F',k1,k2,k3,k4,k5⟩:=yds hC (r:=late) (fun _ h=>h) hC.lnd (fun j hj d hd=>by
         rw [j4]
         obtain ⟨oj,g1,_,_,g4⟩:=hC.dst j (hC.lat j hj).2.1
         have hoj:oj.dst=some d:=by rw [←hsome_dst j oj g1];exact hd
         cases hx:lk E d with
         |some y=>
          obtain ⟨q,q1,q2,q3,q4⟩:=hE1' d y hx
          exact absurd rfl (g4 d hoj q q1 (fun e=>q3 (e ▸ hj)) d q4)
         |none=>
          simp only
          cases hy:lk (stF o av ee) d with
          |none=>rfl
          |some y=>
           obtain ⟨q,q1,q2⟩:=(hedom' d).1 (by rw [hy];simp)
           have hqe:q∈eff∧q < n:=(List.mem_cons.1 q1).elim (fun e=>e ▸ ⟨hie,hin⟩) (fun h=>let h:=(hi.lst q).1 h;⟨h.1,h.2.1⟩)
           exact absurd rfl (g4 d hoj q hqe.2 (fun e=>(hC.lat j hj).1 (e ▸ hqe.1)) d q2)) (hfin _ _ _ hJ' hA)
        exact ⟨F',fun _=>⟨k1,k2,k3,k4,k5⟩⟩
       ·exact ⟨[],fun h=>absurd h hA⟩
      refine ih (U.erase i) (i::L) (stF o av ee) he' F' _ _ _ ?_ hF' hU' hf'
      have hGE:∀j d,j < n→j ∉ eff++late→zao l j=some d→listed.getD j false=true→∀av,lk E d=some av→lk G d=some av:=fun j d hj hje hjd hlj av hl=>by
       have hed:lk ee d=none:=by
        cases hx:lk ee d with
        |none=>rfl
        |some y=>
         obtain ⟨k,hk1,hk2⟩:=(hi.edom d).1 (by rw [hx];simp)
         obtain ⟨hk3,hk4,_⟩:=(hi.lst k).1 hk1
         obtain ⟨oj,g1,_,_,g4⟩:=hC.dst j hj
         have hkj:k≠j:=fun e=>hje (List.mem_append_left _ (e ▸ hk3))
         exact absurd rfl (g4 d (by rw [←hsome_dst j oj g1];exact hjd) k hk4 hkj d hk2)
       have hsd':¬(zft l n).any (Nat.beq d)=false:=fun hf=>hsd d hf j hj hjd
       rw [hG,j4]
       by_cases hpd':(zcx l o).any (Nat.beq d)=true
       ·rw [zi0,zek (q:=fun d=>(zcx l o).any (Nat.beq d)) hpd',hl]
       ·rw [zi0,zb2 (q:=fun d=>(zcx l o).any (Nat.beq d)) (Bool.eq_false_iff.2 hpd')]
        simp only
        rw [j4,zi0,zb2 (q:=fun d=>(zcx l o).any (Nat.beq d)) (Bool.eq_false_iff.2 hpd')]
        simp only
        rw [j4,zud,zb2 (q:=fun d=> !(zft l n).any (Nat.beq d)) (by simpa using hsd')]
        simp only
        rw [hT,j4,zek (q:=fun d=>(List.range n).any fun j=> !mem? j (eff++late) && listed.getD j false && (match zao l j with|some d2=>Nat.beq d2 d|none=>false)) (by
         refine List.any_eq_true.2 ⟨j,List.mem_range.2 hj,?_⟩
         have:mem? j (eff++late)=false:=by
          cases hb:mem? j (eff++late) with
          |false=>rfl
          |true=>exact absurd (mem?_iff.1 hb) hje
         simp [this,hlj,hjd]),hl]
      have hGe:∀d av,lk ee d=some av→lk G d=some av:=fun d av hl=>by
       obtain ⟨k,hk1,hk2⟩:=(hi.edom d).1 (by rw [hl];simp)
       obtain ⟨hk3,hk4,_⟩:=(hi.lst k).1 hk1
       have hEd:lk E d=none:=by
        cases hx:lk E d with
        |none=>rfl
        |some y=>
         obtain ⟨j,g1,g2,g3⟩:=hE1 d y hx
         obtain ⟨ok,k1,_,_,k4⟩:=hC.dst k hk4
         have hkj:j≠k:=fun e=>g2 (List.mem_append_left _ (e ▸ hk3))
         exact absurd rfl (k4 d (by rw [←hsome_dst k ok k1];exact hk2) j g1 hkj d g3)
       have hsd':¬(zft l n).any (Nat.beq d)=false:=fun hf=>hsd d hf k hk4 hk2
       have hflt:lk (E.filter fun p=>(List.range n).any fun j=> !mem? j (eff++late) && listed.getD j false && (match zao l j with|some d=>Nat.beq d p.1|none=>false)) d=none:=by
        by_cases hq:((List.range n).any fun j=> !mem? j (eff++late) && listed.getD j false && (match zao l j with|some d2=>Nat.beq d2 d|none=>false))=true
        ·rw [zek (q:=fun d=>(List.range n).any fun j=> !mem? j (eff++late) && listed.getD j false && (match zao l j with|some d2=>Nat.beq d2 d|none=>false)) hq,hEd]
        ·rw [zb2 (q:=fun d=>(List.range n).any fun j=> !mem? j (eff++late) && listed.getD j false && (match zao l j with|some d2=>Nat.beq d2 d|none=>false)) (by simpa using hq)]
       rw [hG,j4]
       by_cases hpd':(zcx l o).any (Nat.beq d)=true
       ·rw [zi0,zek (q:=fun d=>(zcx l o).any (Nat.beq d)) hpd',hEd]
        simp only
        rw [j4,zi0,zek (q:=fun d=>(zcx l o).any (Nat.beq d)) hpd',hl]
       ·rw [zi0,zb2 (q:=fun d=>(zcx l o).any (Nat.beq d)) (Bool.eq_false_iff.2 hpd')]
        simp only
        rw [j4,zi0,zb2 (q:=fun d=>(zcx l o).any (Nat.beq d)) (Bool.eq_false_iff.2 hpd')]
        simp only
        rw [j4,zud,zb2 (q:=fun d=> !(zft l n).any (Nat.beq d)) (by simpa using hsd')]
        simp only
        rw [hT,j4,hflt]
        simp only
        rw [j4,hl]
      have hGt:∀d av,(∀j,j < n→zao l j=some d→listed.getD j false=false)→lk t d=some av→lk G d=some av:=fun d av hj hl=>by
       have hlq:lw d=false:=by
        cases hb:lw d with
        |false=>rfl
        |true=>
         rw [hlw] at hb
         obtain ⟨j,hj1,hq⟩:=List.any_eq_true.1 hb
         simp only [Bool.and_eq_true] at hq
         obtain ⟨k2,k3⟩:=hq
         have hjd:zao l j=some d:=by
          split at k3
          ·rename_i d2 hd2;rw [hd2,Nat.eq_of_beq_eq_true k3]
          ·cases k3
         rw [hj j (List.mem_range.1 hj1) hjd] at k2;cases k2
       have hpd0:(zcx l o).any (Nat.beq d)=false:=by
        cases hb:(zcx l o).any (Nat.beq d) with
        |false=>rfl
        |true=>
         obtain ⟨j,hj1,hjd⟩:=hpd d hb
         have hji:=hC.back i hil j hj1
         have:=hj j (by omega) hjd
         rw [hp j hj1] at this;cases this
       have hed:lk ee d=none:=by
        cases hx:lk ee d with
        |none=>rfl
        |some y=>
         obtain ⟨k,hk1,hk2⟩:=(hi.edom d).1 (by rw [hx];simp)
         obtain ⟨_,hk4,hk5⟩:=(hi.lst k).1 hk1
         have:=hj k hk4 hk2
         rw [hk5] at this;cases this
       have hflt:lk (E.filter fun p=>(List.range n).any fun j=> !mem? j (eff++late) && listed.getD j false && (match zao l j with|some d=>Nat.beq d p.1|none=>false)) d=none:=by
        refine zb2 (q:=fun d=>(List.range n).any fun j=> !mem? j (eff++late) && listed.getD j false && (match zao l j with|some d2=>Nat.beq d2 d|none=>false)) ?_
        cases hb:((List.range n).any fun j=> !mem? j (eff++late) && listed.getD j false && (match zao l j with|some d2=>Nat.beq d2 d|none=>false)) with
        |false=>rfl
        |true=>
         obtain ⟨j,hj1,hq⟩:=List.any_eq_true.1 hb
         simp only [Bool.and_eq_true] at hq
         obtain ⟨⟨_,k2⟩,k3⟩:=hq
         have hjd:zao l j=some d:=by
          split at k3
          ·rename_i d2 hd2;rw [hd2,Nat.eq_of_beq_eq_true k3]
          ·cases k3
         rw [hj j (List.mem_range.1 hj1) hjd] at k2;cases k2
       rw [hG,j4,zi0,zb2 (q:=fun d=>(zcx l o).any (Nat.beq d)) hpd0]
       simp only
       rw [j4,zi0,zb2 (q:=fun d=>(zcx l o).any (Nat.beq d)) hpd0]
       simp only
       rw [j4]
       have hlast:lk T d=some av:=by
        rw [hT,j4,hflt]
        simp only
        rw [j4,hed]
        simp only
        rw [zek (q:=fun d=> !lw d) (by simp [hlq]),hl]
       by_cases hsd':(zft l n).any (Nat.beq d)=false
       ·rw [zud,zek (q:=fun d=> !(zft l n).any (Nat.beq d)) (by simp [hsd']),hl]
       ·rw [zud,zb2 (q:=fun d=> !(zft l n).any (Nat.beq d)) (by simpa using hsd')]
        simp only
        exact hlast
      refine ⟨by simp [hi.size],hcl,fun k hk=>by rw [getD_set_ne false (by omega)];exact hi.tail k hk,hsim'.size,hsim'.defs,hJ',hsim'.heap,fun k=> ?_,fun k d av' hk hkd hFd hlk=> ?_,fun k d av' hk hke hkd hEd hlk=> ?_,fun d av' hl=> ?_,fun d=> ?_,fun d av' hj hl=> ?_,hi.keep.trans hkp⟩
      ·rw [List.mem_cons,hi.lst k]
       by_cases hki:k=i
       ·subst hki
        simp only [true_or,true_iff]
        exact ⟨hie,hin,zck (by rw [hi.size];exact hil)⟩
       ·rw [getD_set_ne false (Ne.symm hki)];simp [hki]
      ·exfalso
       have hki:i≠k:=fun e=>(hC.lat k hk).1 (e ▸ hie)
       rw [getD_set_ne false hki] at hlk
       have:=zcm hi.closed k _ (fun j hj=>hi.closed k hlk j hj) i ((hC.lat k hk).2.2 i hie)
       rw [hun] at this;cases this
      ·have hki:i≠k:=fun e=>hke (List.mem_append_left _ (e ▸ hie))
       rw [getD_set_ne false hki] at hlk
       exact hT' d av' (fun d' hd' e=>by subst e;exact hne d' k d' hd' hk (Ne.symm hki) hkd rfl) (hGE k d hk hke hkd hlk av' hEd)
      ·unfold stF at hl
       split at hl
       ·rename_i d' hd'
        simp only [lk] at hl
        split at hl
        ·rename_i hb
         have:=Nat.eq_of_beq_eq_true hb
         subst this
         cases hl
         refine hsim'.fr d' av ?_
         show lk (stF o av G) d'=_
         unfold stF;rw [hd'];simp [lk]
        ·rename_i hb
         exact hT' d av' (fun d2 hd2 e=>by rw [hd'] at hd2;cases hd2;subst e;simp at hb) (hGe d av' hl)
       ·rename_i hd'
        exact hT' d av' (fun d2 hd2=>by rw [hd'] at hd2;cases hd2) (hGe d av' hl)
      ·exact hedom' d
      ·have hj':∀j,j < n→zao l j=some d→listed.getD j false=false:=fun j hjn hjd=>by
        by_cases hij:i=j
        ·subst hij;exact hun
        ·have:=hj j hjn hjd;rwa [getD_set_ne false hij] at this
       exact hT' d av' (fun d' hd' e=>by
        subst e
        have:=hj i hin (by rw [hdo];exact hd')
        rw [zck (by rw [hi.size];exact hil)] at this;cases this) (hGt d av' hj' hl)
     ·have hgood:i∈late→GoodF P ro nt Q l n late sd t dsl E ee he F:=fun hil'=>hG fun k h1 h2=>(hi.lst k).2 ⟨h1,h2,zcm hi.closed i _ hp k ((hC.lat i hil').2.2 k h1)⟩
      obtain ⟨d,av,e',hown,hlookP,hqd,hdn,hq⟩:∃d av e',((i∈late∧lk F d=some av)∨(i ∉ late∧lk E d=some av))∧(∀d' a',(zcx l o).any (Nat.beq d')=true→lk e' d'=some a'→∃v,a.tmps[d']? =some v∧Rel w (OO he X) a' v)∧QJ P ro nt (fun h=>h=he) l (sd i) t o d av e':=by
       by_cases hil':i∈late
       ·obtain ⟨d,av,e',k1,k2,k3⟩:=(hgood hil').facts i hil' o ho
        refine ⟨d,av,e',.inl ⟨hil',k1⟩,fun d' a' hpd' hl=> ?_,k3⟩
        have hF:=k2 d' a' hl
        rcases (hgood hil').dn d' a' hF with hE|⟨j,g1,g2⟩
        ·rw [j4] at hE
         cases hE2':lk E d' with
         |some av2=>simp only [hE2',Option.some.injEq] at hE;subst hE;exact hlookE d' _ hpd' hE2'
         |none=>simp only [hE2'] at hE;exact hi.evals d' _ hE
        ·obtain ⟨j',hj',hjd'⟩:=hpd d' hpd'
         have hji:=hC.back i hil j' hj'
         have:j=j':=by
          refine Classical.byContradiction fun hne'=> ?_
          obtain ⟨oj,q1,_,_,q4⟩:=hC.dst j' (by omega)
          exact q4 d' (by rw [←hsome_dst j' oj q1];exact hjd') j (hC.lat j g1).2.1 hne' d' g2 rfl
         subst this
         exact hi.lvals j d' _ g1 g2 hF (hp j hj')
       ·obtain ⟨d,av,e',hEd,hmono,hqd,hdn,hq⟩:=hfact i o (Nat.zero_le _) hin (fun hm=>(List.mem_append.1 hm).elim hie hil') ho
        exact ⟨d,av,e',.inr ⟨hil',hEd⟩,fun d' a' hpd' hl=>hlookE d' a' hpd' (hmono d' a' hl),hqd,hdn,hq.imp (fun h=>⟨h.1,fun h' e=>by subst e;exact h.2 _ (hJC L ee _ hi.J)⟩) id⟩
      have hlook:∀d' av',lkS (sd i) (zcx l o) e' t d'=some av'→∃v,a.tmps[d']? =some v∧Rel w (OO he X) av' v:=fun d' av' hl=>by
       unfold lkS at hl
       split at hl
       ·rename_i hpd';exact hlookP d' av' hpd' hl
       ·split at hl
        ·cases hl
        ·rename_i hsd'
         refine hi.base d' av' (fun j hj hd=> ?_) hl
         have hcj:=hS i hin d' hsd' j hj hd
         cases hlj:listed.getD j false with
         |false=>rfl
         |true=>
          have:=zcm hi.closed j _ (fun k hk=>hi.closed j hlj k hk) i hcj
          rw [hun] at this;cases this
      have henv:Env X he (evS (sd i) (zcx l o) e' t) a.eval w:=by
       refine ⟨hi.heap,fun x av' hx=> ?_⟩
       cases x with
       |tmp d'=>
        obtain ⟨v,e,r⟩:=hlook d' av' hx
        have:a.eval (.tmp d')=v:=by simp [Act.eval,Array.getD_eq_getD_getElem?,e]
        rw [this];exact r
       |const x=>cases hx;exact .v x
       |global g=>cases hx;exact .v _
       |func f=>cases hx;exact .fn _ _ _ _ _ rfl rfl (fun j h=>absurd h (Nat.not_lt_zero j)) (fun j h=>absurd h (Nat.not_lt_zero j))
      have hguard:∀b,gdS l (lkS (sd i) (zcx l o) e' t) o=some b→Region.wanted o (yielded l.toArray a.tmps)=b:=fun b hg=>by
       unfold gdS at hg
       unfold Region.wanted
       split at hg
       ·rename_i h0;rw [h0];simpa using hg
       ·rename_i j want h0
        rw [h0]
        simp only
        split at hg
        ·rename_i d2 hd2
         have hd':((l.toArray)[j]?).bind (·.dst)=some d2:=by simpa [zao] using hd2
         split at hg
         ·rename_i c hcc
          obtain ⟨v,e,r⟩:=hlook _ _ hcc
          rw [r.v_eq] at e
          simp only [Option.some.injEq] at hg
          subst hg
          simp only [yielded,hd',Option.bind_some,e]
          cases c <;> cases want <;> rfl
         ·rename_i c hcc
          obtain ⟨v,e,r⟩:=hlook _ _ hcc
          rw [r.v_eq] at e
          simp only [Option.some.injEq] at hg
          subst hg
          simp only [yielded,hd',Option.bind_some,e]
          cases want <;> rfl
         ·cases hg
        ·cases hg
      have hdni:d < nt:=Nat.le_of_ble_eq_true hdn
      have hdi:zao l i=some d:=by rw [hdo];exact hqd
      have hput:∀v d',d≠d'→(a.put (some d) v).tmps[d']? =a.tmps[d']? :=fun v d' hdd=>by simp [Act.put,hdd]
      have hgo:∀v w',Rel w' (OO he X) av v→HRel X w' he→Keep (k9 he) w (k9 he) w'→wpAnyIn (FW ro) 0 P .any l.toArray (zua X nt ⟨t,h,dsl⟩ w0 Q) fuel (listed.setIfInBounds i true) (a.put o.dst v) w':=fun v w' hr hh hkp=>by
       rw [hqd]
       refine ih (U.erase i) L ee he F _ _ _ ?_ hG hU' hf'
       have hkk:=fun b (hb:¬OO he X b) hl=>hkp.oo (X:=X) b hb hl
       refine ⟨by simp [hi.size],hcl,fun k hk=>by rw [getD_set_ne false (by omega)];exact hi.tail k hk,by simp [Act.put,hi.tsz],hi.defs,hi.J,hh,fun k=> ?_,fun k dk avk hk hkd hFk hlk=> ?_,fun k dk avk hk hke hkd hEk hlk=> ?_,fun dk avk hl=> ?_,hi.edom,fun dk avk hj hl=> ?_,hi.keep.trans hkp⟩
       ·rw [hi.lst k]
        by_cases hki:k=i
        ·subst hki;simp [hie]
        ·rw [getD_set_ne false (Ne.symm hki)]
       ·by_cases hki:i=k
        ·subst hki
         have:dk=d:=by rw [hdi] at hkd;exact (Option.some.inj hkd).symm
         subst this
         have:avk=av:=hown.elim (fun h=>Option.some.inj (hFk.symm.trans h.2)) (fun h=>absurd hk h.1)
         subst this
         exact ⟨v,by simp [Act.put,hi.tsz,hdni],hr⟩
        ·rw [getD_set_ne false hki] at hlk
         obtain ⟨u,e,r⟩:=hi.lvals k dk avk hk hkd hFk hlk
         exact ⟨u,by rw [hput v dk (hne d k dk hqd (hC.lat k hk).2.1 (Ne.symm hki) hkd)];exact e,r.keep hkp.size hkk⟩
       ·by_cases hki:i=k
        ·subst hki
         have:dk=d:=by rw [hdi] at hkd;exact (Option.some.inj hkd).symm
         subst this
         have:avk=av:=hown.elim (fun h=>absurd (List.mem_append_right _ h.1) hke) (fun h=>Option.some.inj (hEk.symm.trans h.2))
         subst this
         exact ⟨v,by simp [Act.put,hi.tsz,hdni],hr⟩
        ·rw [getD_set_ne false hki] at hlk
         obtain ⟨u,e,r⟩:=hi.vals k dk avk hk hke hkd hEk hlk
         exact ⟨u,by rw [hput v dk (hne d k dk hqd hk (Ne.symm hki) hkd)];exact e,r.keep hkp.size hkk⟩
       ·obtain ⟨u,e,r⟩:=hi.evals dk avk hl
        obtain ⟨k,k1,k2⟩:=(hi.edom dk).1 (by rw [hl];simp)
        obtain ⟨k3,k4,_⟩:=(hi.lst k).1 k1
        exact ⟨u,by rw [hput v dk (hne d k dk hqd k4 (fun e=>hie (e ▸ k3)) k2)];exact e,r.keep hkp.size hkk⟩
       ·have hj':∀j,j < n→zao l j=some dk→listed.getD j false=false:=fun j hjn hjd=>by
         by_cases hij:i=j
         ·subst hij;exact hun
         ·have:=hj j hjn hjd;rwa [getD_set_ne false hij] at this
        obtain ⟨u,e,r⟩:=hi.base dk avk hj' hl
        exact ⟨u,by rw [hput v dk (fun e=>by
         have:=hj i hin (by rw [←e];exact hdi)
         rw [zck (by rw [hi.size];exact hil)] at this;cases this)];exact e,r.keep hkp.size hkk⟩
      rcases hq with ⟨hg,hq⟩|⟨hg,rfl⟩
      ·rw [if_pos (hguard _ hg)]
       exact hq he rfl X a w _ _ henv fun v w' hr hh hkp=>hgo v w' hr hh hkp
      ·rw [if_neg (by rw [hguard _ hg];simp)]
       exact ⟨zap,hgo _ _ (.v _) hi.heap (.refl _ _)⟩
 have hrep:∀i,(Array.replicate l.length false).getD i false=false:=zx6 l.length
 have hsz:l.toArray.size=l.length:=by simp
 obtain ⟨F0,hF0⟩:∃F0,(∀k,k∈eff→k < n→k∈([]:List Nat))→GoodF P ro nt Q l n late sd t dsl E [] h F0:=by
  by_cases hA:∀k,k∈eff→k < n→k∈([]:List Nat)
  ·obtain ⟨F',k1,k2,k3,k4,k5⟩:=yds hC (r:=late) (fun _ h=>h) hC.lnd (fun j hj d hd=>by
    rw [j4]
    obtain ⟨oj,g1,_,_,g4⟩:=hC.dst j (hC.lat j hj).2.1
    have hoj:oj.dst=some d:=by rw [←hsome_dst j oj g1];exact hd
    cases hx:lk E d with
    |some y=>
     obtain ⟨q,q1,q2,q3,q4⟩:=hE1' d y hx
     exact absurd rfl (g4 d hoj q q1 (fun e=>q3 (e ▸ hj)) d q4)
    |none=>rfl) (hfin _ _ _ h0 hA)
   exact ⟨F',fun _=>⟨k1,k2,k3,k4,k5⟩⟩
  ·exact ⟨[],fun h=>absurd h hA⟩
 refine main l.toArray.size (List.range l.length) [] [] h F0 _ a0 {w0 with drawn:=w0.drawn+1} ⟨by simp,fun i hi=> ?_,fun i _=> ?_,hs.size,hs.defs,h0,?_,fun i=> ?_,fun i d av _ _ _ hl=> ?_,fun i d av _ _ _ _ hl=> ?_,fun d av hl=>by simp [lk] at hl,fun d=>by simp [lk],fun d av _ hl=> ?_,⟨Nat.le_refl _,fun b _ h=>⟨rfl,h⟩,zjg.eq rfl rfl rfl (by first|exact Nat.le_refl _|exact Nat.le_succ _)⟩⟩
  hF0 (fun i hi _=>List.mem_range.2 hi) (by simp)
 ·rw [hsz,hrep i] at hi;cases hi
 ·rw [hsz];exact hrep i
 ·exact hs.heap.grow (Nat.le_refl _) fun _ _=>rfl
 ·rw [hsz,hrep i];simp
 ·rw [hsz,hrep i] at hl;cases hl
 ·rw [hsz,hrep i] at hl;cases hl
 ·obtain ⟨v,e,r⟩:=hs.fr d av hl
  exact ⟨v,e,Rel.keep (w:=w0) (O:=OO h X) (Nat.le_refl _) (fun b hb _=>⟨rfl,hb⟩) r⟩
theorem yj3 {P:Program} {ro:Option Nat} {nt rid:Nat} {Q:Exit→St→Prop} {l:List Oper} {t:Fr} {h:List Res} {dsl:List Nat} (n:Nat) (eff late:List Nat) (C:List Res→Prop) [hm:Mixed P] (hc:zzc l n eff late=true)
 (hk:zd9 P ro nt C l (eff++late) (fun _=>zft l n) t (l.take n) 0 [] (fun E=>∃J:List Nat→Fr→List Res→Prop,J [] [] h∧(∀L ee he,J L ee he→C he)∧
  (∀L ee he,J L ee he→∀i o,i∈eff→i ∉ L→l[i]? =some o→(∀j,j∈zue l i (zab l i)→j∈eff→j∈L)→∀u,OE P ro nt o ⟨zi0 (zcx l o) E++(zi0 (zcx l o) ee++(zud (zft l n) t++u)),he,dsl⟩
   (fun s'=>∃av he',s'=⟨stF o av (zi0 (zcx l o) E++(zi0 (zcx l o) ee++(zud (zft l n) t++u))),he',dsl⟩∧J (i::L) (stF o av ee) he'))∧
  (∀L ee he,J L ee he→(∀i,i∈eff→i < n→i∈L)→zfo P ro nt he l (fun _=>zft l n) t late (E++ee) (fun F=>zch P ro nt l.toArray (l.drop n) Q ⟨F++t,he,dsl⟩)))):aw P ro nt (.region rid l.toArray true) Q ⟨t,h,dsl⟩:=
 zyw n eff late (fun _=>zft l n) (fun i hi d hf j hj hd=>(yb1 hf hj hd).elim) C hc hk
def zol (l:List Oper) (n:Nat):List Nat→Bool
 | []=>true
 | [i]=>Nat.blt i n
 |i::j::r=>Nat.blt i n && ((zue l j (zab l j)).any (Nat.beq i) && zol l n (j::r))
section
variable {P:Program} {ro:Option Nat} {nt:Nat} {l:List Oper} {dsl:List Nat}
def jch (P:Program) (ro:Option Nat) (nt:Nat) (C:List Res→Prop) (l:List Oper) (dsl:List Nat) (E tt:Fr):List Nat→Fr→List Res→(Fr→List Res→Prop)→Prop
 | [],ee,he,K=>K ee he
 |i::r,ee,he,K=>∃o,l[i]? =some o∧∀u,OE P ro nt o ⟨zi0 (zcx l o) E++(zi0 (zcx l o) ee++(tt++u)),he,dsl⟩
   (fun s'=>∃av he',s'=⟨stF o av (zi0 (zcx l o) E++(zi0 (zcx l o) ee++(tt++u))),he',dsl⟩∧C he'∧jch P ro nt C l dsl E tt r (stF o av ee) he' K)
theorem jcn {C:List Res→Prop} {E tt ee:Fr} {he:List Res} {K:Fr→List Res→Prop} (hk:K ee he):jch P ro nt C l dsl E tt [] ee he K:=hk
theorem jce {C:List Res→Prop} {E tt ee:Fr} {he:List Res} {K:Fr→List Res→Prop} {i:Nat} {r:List Nat} {o:Oper} (ho:l[i]? =some o)
 (hk:∀u,OE P ro nt o ⟨zi0 (zcx l o) E++(zi0 (zcx l o) ee++(tt++u)),he,dsl⟩
  (fun s'=>∃av he',s'=⟨stF o av (zi0 (zcx l o) E++(zi0 (zcx l o) ee++(tt++u))),he',dsl⟩∧C he'∧jch P ro nt C l dsl E tt r (stF o av ee) he' K)):jch P ro nt C l dsl E tt (i::r) ee he K:=⟨o,ho,hk⟩
theorem zrs {n:Nat}:∀{eff:List Nat},zol l n eff=true→∀k,(hk:k+1 < eff.length)→eff[k]∈zue l eff[k+1] (zab l eff[k+1])
 | [],_,k,hk=>by simp at hk
 | [i],_,k,hk=>by simp at hk
 |i::j::r,h,k,hk=>by
  simp only [zol,Bool.and_eq_true] at h
  cases k with
  |zero=>
   obtain ⟨x,hx,e⟩:=List.any_eq_true.1 h.2.1
   simp only [List.getElem_cons_zero,List.getElem_cons_succ,Nat.zero_add]
   rw [Nat.eq_of_beq_eq_true e];exact hx
  |succ k=>exact zrs (eff:=j::r) h.2.2 k (by simpa using hk)
end
theorem yfk {P:Program} {ro:Option Nat} {nt rid:Nat} {Q:Exit→St→Prop} {l:List Oper} {t:Fr} {h:List Res} {dsl:List Nat} (n:Nat) (eff late:List Nat) (sd:Nat→List Tmp) (hS:∀i,i < n→∀d,(sd i).any (Nat.beq d)=false→∀j,j < n→zao l j=some d→i∈zue l j (zab l j)) (C:List Res→Prop) [hm:Mixed P] (hc:zzc l n eff late=true) (hch:zol l n eff=true) (h0:C h)
 (hk:zd9 P ro nt C l (eff++late) sd t (l.take n) 0 [] (fun E=>jch P ro nt C l dsl E (zud (zft l n) t) eff [] h (fun ee he=>zfo P ro nt he l sd t late (E++ee) (fun F=>zch P ro nt l.toArray (l.drop n) Q ⟨F++t,he,dsl⟩)))):aw P ro nt (.region rid l.toArray true) Q ⟨t,h,dsl⟩:=by
 have hmono:∀(os:List Oper) (i:Nat) (e:Fr) (K K':Fr→Prop),(∀e,K e→K' e)→zd9 P ro nt C l (eff++late) sd t os i e K→zd9 P ro nt C l (eff++late) sd t os i e K':=by
  intro os
  induction os with
  |nil=>intro i e K K' h hk;exact h _ hk
  |cons o os ih=>
   intro i e K K' h hk
   rcases hk with ⟨h1,h2⟩|⟨h1,d,av,h2,h3⟩
   ·exact .inl ⟨h1,ih _ _ _ _ h h2⟩
   ·exact .inr ⟨h1,d,av,h2,ih _ _ _ _ h h3⟩
 have hnd:∀(L:List Nat),zol l n L=true→(∀i,i < l.length→∀j∈zab l i,j < i)→L.Pairwise (· < ·)∧∀i∈L,i < n:=by
  intro L
  induction L with
  |nil=>intro _ _;exact ⟨.nil,fun i h=>by cases h⟩
  |cons i L ih=>
   intro hL hb
   cases L with
   |nil=>exact ⟨by simp,fun j hj=>by simp only [List.mem_singleton] at hj;subst hj;exact Nat.le_of_ble_eq_true hL⟩
   |cons j L=>
    have hL':=hL
    simp only [zol,Bool.and_eq_true] at hL
    obtain ⟨h1,h2⟩:=ih hL.2.2 hb
    have hjn:j < n:=h2 j (by simp)
    have hij:i < j:=by
     have hcl:=zrs hL' 0 (by simp)
     have hlt:∀(k:Nat) (S:List Nat) (b:Nat),(∀x∈S,x < b)→∀x∈zue l k S,x < b:=by
      intro k
      induction k with
      |zero=>intro S b hS x hx;exact hS x hx
      |succ k ihk=>
       intro S b hS x hx
       unfold zue at hx
       refine ihk _ b (fun y hy=> ?_) x hx
       split at hy
       ·rename_i hany
        rcases List.mem_append.1 hy with hy|hy
        ·exact hS y hy
        ·obtain ⟨z,hz,e⟩:=List.any_eq_true.1 hany
         have hzb:=hS z hz
         rw [←Nat.eq_of_beq_eq_true e] at hzb
         by_cases hkl:k < l.length
         ·have:=hb k hkl y hy;omega
         ·simp only [zab,List.getElem?_eq_none (Nat.le_of_not_lt hkl)] at hy;cases hy
       ·exact hS y hy
     simp only [List.getElem_cons_zero,List.getElem_cons_succ,Nat.zero_add] at hcl
     by_cases hjl:j < l.length
     ·exact hlt j _ j (hb j hjl) i hcl
     ·have:zab l j= []:=by simp only [zab,List.getElem?_eq_none (Nat.le_of_not_lt hjl)]
      rw [this] at hcl
      have:=hlt j [] 0 (fun x hx=>by cases hx) i hcl;omega
    refine ⟨List.pairwise_cons.2 ⟨fun x hx=> ?_,h1⟩,fun x hx=> ?_⟩
    ·rcases List.mem_cons.1 hx with rfl|hx
     ·exact hij
     ·have:=(List.pairwise_cons.1 h1).1 x hx;omega
    ·rcases List.mem_cons.1 hx with rfl|hx
     ·exact Nat.le_of_ble_eq_true hL.1
     ·exact h2 x hx
 obtain ⟨hlt,hin⟩:=hnd eff hch (zxi hc).back
 refine zyw n eff late sd hS C hc (hmono _ _ _ _ _ (fun E hE=> ?_) hk)
 refine ⟨fun L ee he=>C he∧∃k,L=(eff.take k).reverse∧jch P ro nt C l dsl E (zud (zft l n) t) (eff.drop k) ee he (fun ee he=>zfo P ro nt he l sd t late (E++ee) (fun F=>zch P ro nt l.toArray (l.drop n) Q ⟨F++t,he,dsl⟩)),⟨h0,0,by simp,by simpa using hE⟩,fun L ee he h=>h.1,?_,?_⟩
 ·rintro L ee he ⟨hCe,k,rfl,hj⟩ i o hie hiL hio hpre u
  obtain ⟨m,hm',rfl⟩:=List.getElem_of_mem hie
  have hkm:k≤m:=Classical.byContradiction fun h=>hiL (by rw [List.mem_reverse,List.mem_take_iff_getElem];exact ⟨m,by omega,rfl⟩)
  have hmk:m=k:=by
   rcases Nat.eq_or_lt_of_le hkm with h|h
   ·exact h.symm
   ·exfalso
    obtain ⟨m,rfl⟩:∃m',m=m'+1:=⟨m - 1,by omega⟩
    have hcl:=zrs hch m hm'
    have:=hpre _ hcl (List.getElem_mem _)
    rw [List.mem_reverse,List.mem_take_iff_getElem] at this
    obtain ⟨q,hq,e⟩:=this
    have hq':q < m:=by omega
    have:=List.pairwise_iff_getElem.1 hlt q m (by omega) (by omega) hq'
    omega
  subst hmk
  rw [List.drop_eq_getElem_cons hm'] at hj
  obtain ⟨o',ho',hoe⟩:=hj
  obtain rfl:o'=o:=Option.some.inj (ho'.symm.trans hio)
  intro X a w K Q' hs hK
  refine hoe u X a w K Q' hs fun s' a' w' hn hs' hk'=> ?_
  obtain ⟨av,he',e,hC',hj'⟩:=hn
  exact hK s' a' w' ⟨av,he',e,hC',m+1,by rw [List.take_succ_eq_append_getElem hm',List.reverse_append];rfl,hj'⟩ hs' hk'
 ·rintro L ee he ⟨hCe,k,rfl,hj⟩ hall
  have:eff.length≤k:=Classical.byContradiction fun h=>by
   have hk':k < eff.length:=by omega
   have:=hall eff[k] (List.getElem_mem _) (hin _ (List.getElem_mem _))
   rw [List.mem_reverse,List.mem_take_iff_getElem] at this
   obtain ⟨q,hq,e⟩:=this
   have:=List.pairwise_iff_getElem.1 hlt q k (by omega) hk' (by omega)
   omega
  rw [List.drop_eq_nil_of_le this] at hj
  exact hj
theorem zf4 {P:Program} {ro:Option Nat} {nt rid:Nat} {Q:Exit→St→Prop} {l:List Oper} {t:Fr} {h:List Res} {dsl:List Nat} (n:Nat) (eff late:List Nat) (C:List Res→Prop) [hm:Mixed P] (hc:zzc l n eff late=true) (hch:zol l n eff=true) (h0:C h)
 (hk:zd9 P ro nt C l (eff++late) (fun _=>zft l n) t (l.take n) 0 [] (fun E=>jch P ro nt C l dsl E (zud (zft l n) t) eff [] h (fun ee he=>zfo P ro nt he l (fun _=>zft l n) t late (E++ee) (fun F=>zch P ro nt l.toArray (l.drop n) Q ⟨F++t,he,dsl⟩)))):aw P ro nt (.region rid l.toArray true) Q ⟨t,h,dsl⟩:=
 yfk n eff late (fun _=>zft l n) (fun i hi d hf j hj hd=>(yb1 hf hj hd).elim) C hc hch h0 hk
end Go.Ab
set_option maxRecDepth 10000
namespace Go.Proofs
open Go Go.Ab
attribute [local irreducible] QR QV OE zch aw zc6 zdc zbg zb8 thn zfa zd9 jch zfo
open Go.H
instance:Chk2 Tryz.prog 326:=⟨fun e w a b=>by kernel_rfl⟩
instance:Chk3 Tryz.prog 328:=⟨fun e w a b c=>by kernel_rfl⟩
abbrev mpv (r:Nat):AV:= .v (.map (some r))
abbrev nmp:AV:= .v (.map none)
abbrev ybg (v:Ver):AV:= .agg (zy8 v)
instance:ZV (.agg #[.int .i64 0,.int .i64 0]) (ybg ⟨0,0⟩):=ZV.agg2
abbrev zcd (h:Hist):List AV:=y9 h++ [nmp,nmp,nmp,nmp,nmp]
abbrev yin (h:Hist) (r1 r2 r3 r4 r5:Nat):List AV:=y9 h++ [mpv r1,mpv r2,mpv r3,mpv r4,mpv r5]
abbrev zdg (bl:Nat) (h:Hist) (p:List Ev) (r1 r2 r3 r4 r5:Nat) (W:List Res):List Res:= .box bl 252 (yin h r1 r2 r3 r4 r5):: .map r1 (zal intK (zbd bv (ygg p))):: .map r2 (zal intK (zbd bv (yf6 p)))::
 .map r3 (zal za1 (zbd iv (zy2 p))):: .map r4 (zal za1 (zbd ybg (yiu p))):: .map r5 (zal zdt (zbd bv (yf4 p)))::W
def zbu:Option Nat→AV
 |some i=> .tup [iv i,bv true]
 |none=> .tup [iv 0,bv false]
theorem zl7 {full:Bool} (l:List Int) (fv:AV) (p:Int→Bool) (G:List Res) (hp:∀a∈l,y1 Tryz.prog fv [iv a] G (fun r h'=>h'=G∧r=bv (p a))) (hlen:l.length≤4611686018427387904):y7 Tryz.prog 102 [.list full 1 (l.map zai),fv] G (fun r h'=>h'=G∧r=iv (zbq p 0 l)):=by
 refine z6 Tryz.func102 rfl rfl rfl ?_
 refine rn ?_;refine k7 (fun k:Nat=>k≤l.length∧zbq p 0 l=zbq p k (l.drop k)) (fun k=>⟨[(8,iv k),(7,iv (l.map zai).length),(0,.list full 1 (l.map zai)),(1,fv)],G,[]⟩) (fun k=>l.length - k) 0 ⟨Nat.zero_le _,by simp⟩
  (v1 (.cons _ _ _ rfl (.cons _ _ _ rfl (.cons _ _ _ rfl (.cons _ _ _ rfl (.nil)))))) ?_
 rintro k ⟨hk,hnot⟩
 refine rn ?_;refine z7 rfl (fun hc9=> ?_) (fun hc9=> ?_)
 ·have hk2:k < l.length:=by simpa using hc9
  have hrow:(l.map zai)[k]? =some (zai l[k]):=by simp [hk2]
  have hd:=List.drop_eq_getElem_cons hk2
  refine rn ?_;refine qv rfl rfl (y0 rfl rfl (hp l[k] (by simp))) ?_
  refine rn ?_;refine z7 rfl (fun hc16=> ?_) (fun hc16=> ?_)
  ·refine rn ?_;exact j6 rfl (.refl _ _) ⟨rfl,by rw [hnot,hd,zbq,if_pos hc16];rfl⟩
  ·refine rn ?_;exact ⟨k+1,⟨by omega,by rw [hnot,hd,zbq,if_neg (by simp [hc16])]⟩,(v1 (.cons _ _ _ rfl (.cons _ _ _ rfl (.cons _ _ _ rfl (.cons _ _ _ rfl (.nil)))))),by omega⟩
 ·have hk3:k=l.length:=by
   have:l.length≤k:=by simpa using hc9
   omega
  refine rn ?_;exact j6 rfl (.refl _ _) ⟨rfl,by rw [hnot,hk3,List.drop_length,zbq];rfl⟩
theorem zig {full:Bool} (l:List Int) (fv:AV) (p:Int→Bool) (G:List Res) (hp:∀a∈l,y1 Tryz.prog fv [iv a] G (fun r h'=>h'=G∧r=bv (p a))) (hlen:l.length≤4611686018427387904):y7 Tryz.prog 227 [.list full 1 (l.map zai),fv] G (fun r h'=>h'=G∧r=bv (l.any p)):=by
 refine z6 Tryz.func227 rfl rfl rfl ?_
 refine rn ?_;refine qv rfl rfl (y0 rfl rfl (y1.of_fun (zl7 l _ p G hp hlen))) ?_
 refine rn ?_;exact j6 rfl (.refl _ _) ⟨rfl,by simp only [←zeq p l 0];rfl⟩
theorem yfv (a:Int) (fv:AV) (v:Bool) (b:Nat) (G:List Res) (hp:y1 Tryz.prog fv [iv a] G (fun r h'=>h'=G∧r=bv v)):y7 Tryz.prog 228 [iv a,pZ b] (.box b 142 [fv]::G) (fun r h'=>h'= .box b 142 [fv]::G∧r=bv (!v)):=by
 refine z6 Tryz.func228 rfl rfl rfl ?_
 refine rn ?_;refine qv rfl rfl (y0 rfl rfl (y1.quiet (R:=fun x=>x=bv v) (h2:= [_]) (List.perm_append_comm (l₁:= [_])) hp)) ?_
 refine rn ?_;exact j6 rfl (.refl _ _) ⟨rfl,rfl⟩
theorem ytq {full:Bool} (l:List Int) (fv:AV) (p:Int→Bool) (G:List Res) (hone:fv.cellsOf=some [fv]) (hp:∀a∈l,y1 Tryz.prog fv [iv a] G (fun r h'=>h'=G∧r=bv (p a))) (hlen:l.length≤4611686018427387904):y7 Tryz.prog 189 [.list full 1 (l.map zai),fv] G (fun r h'=>h'=G∧r=bv (l.all p)):=by
 refine z6 Tryz.func189 rfl rfl rfl ?_
 refine rn ?_;refine z8 rfl (w8 rfl hone rfl fun b3=> ?_)
 refine rn ?_;refine qv rfl rfl (y0 rfl rfl (y1.of_fun (zig l _ (fun a=> !p a) (.box b3 142 [fv]::G) (fun a ha=>y1.of_acall (fs:= []) (cs:= [pZ b3]) (yfv a fv (p a) b3 G (hp a ha))) hlen))) ?_
 refine rn ?_;exact j6 rfl (.drop1 _ _ _) ⟨rfl,by simp only [←zjw p l];rfl⟩
theorem zvy {full:Bool} (l:List Ev) (fv:AV) (p:Ev→Bool) (G:List Res) (hp:∀a∈l,y1 Tryz.prog fv [.agg (evR a)] G (fun r h'=>h'=G∧r=bv (p a))) (hlen:l.length≤4611686018427387904):y7 Tryz.prog 268 [.list full 9 (l.map evR),fv] G (fun r h'=>h'=G∧r=iv (zbq p 0 l)):=by
 refine z6 Tryz.func268 rfl rfl rfl ?_
 refine rn ?_;refine k7 (fun k:Nat=>k≤l.length∧zbq p 0 l=zbq p k (l.drop k)) (fun k=>⟨[(8,iv k),(7,iv (l.map evR).length),(0,.list full 9 (l.map evR)),(1,fv)],G,[]⟩) (fun k=>l.length - k) 0 ⟨Nat.zero_le _,by simp⟩
  (v1 (.cons _ _ _ rfl (.cons _ _ _ rfl (.cons _ _ _ rfl (.cons _ _ _ rfl (.nil)))))) ?_
 rintro k ⟨hk,hnot⟩
 refine rn ?_;refine z7 rfl (fun hc9=> ?_) (fun hc9=> ?_)
 ·have hk2:k < l.length:=by simpa using hc9
  have hrow:(l.map evR)[k]? =some (evR l[k]):=by simp [hk2]
  have hd:=List.drop_eq_getElem_cons hk2
  refine rn ?_;refine qv rfl rfl (y0 rfl rfl (hp l[k] (by simp))) ?_
  refine rn ?_;refine z7 rfl (fun hc16=> ?_) (fun hc16=> ?_)
  ·refine rn ?_;exact j6 rfl (.refl _ _) ⟨rfl,by rw [hnot,hd,zbq,if_pos hc16];rfl⟩
  ·refine rn ?_;exact ⟨k+1,⟨by omega,by rw [hnot,hd,zbq,if_neg (by simp [hc16])]⟩,(v1 (.cons _ _ _ rfl (.cons _ _ _ rfl (.cons _ _ _ rfl (.cons _ _ _ rfl (.nil)))))),by omega⟩
 ·have hk3:k=l.length:=by
   have:l.length≤k:=by simpa using hc9
   omega
  refine rn ?_;exact j6 rfl (.refl _ _) ⟨rfl,by rw [hnot,hk3,List.drop_length,zbq];rfl⟩
theorem zje {full:Bool} (l:List Ev) (fv:AV) (p:Ev→Bool) (G:List Res) (hp:∀a∈l,y1 Tryz.prog fv [.agg (evR a)] G (fun r h'=>h'=G∧r=bv (p a))) (hlen:l.length≤4611686018427387904):y7 Tryz.prog 229 [.list full 9 (l.map evR),fv] G (fun r h'=>h'=G∧r=bv (l.any p)):=by
 refine z6 Tryz.func229 rfl rfl rfl ?_
 refine rn ?_;refine qv rfl rfl (y0 rfl rfl (y1.of_fun (zvy l _ p G hp hlen))) ?_
 refine rn ?_;exact j6 rfl (.refl _ _) ⟨rfl,by simp only [←zeq p l 0];rfl⟩
theorem yj6 (a:Ev) (fv:AV) (v:Bool) (b:Nat) (G:List Res) (hp:y1 Tryz.prog fv [.agg (evR a)] G (fun r h'=>h'=G∧r=bv v)):y7 Tryz.prog 230 [.agg (evR a),pZ b] (.box b 233 [fv]::G) (fun r h'=>h'= .box b 233 [fv]::G∧r=bv (!v)):=by
 refine z6 Tryz.func230 rfl rfl rfl ?_
 refine rn ?_;refine z8 rfl (w8 rfl rfl rfl fun b2=> ?_)
 refine rn ?_;refine qv rfl rfl (y0 rfl rfl (y1.quiet (R:=fun x=>x=bv v) (h2:= [_,_]) (List.perm_append_comm (l₁:= [_,_])) hp)) ?_
 refine rn ?_;exact j6 rfl (.drop1 _ _ _) ⟨rfl,rfl⟩
theorem ywb {full:Bool} (l:List Ev) (fv:AV) (p:Ev→Bool) (G:List Res) (hone:fv.cellsOf=some [fv]) (hp:∀a∈l,y1 Tryz.prog fv [.agg (evR a)] G (fun r h'=>h'=G∧r=bv (p a))) (hlen:l.length≤4611686018427387904):y7 Tryz.prog 192 [.list full 9 (l.map evR),fv] G (fun r h'=>h'=G∧r=bv (l.all p)):=by
 refine z6 Tryz.func192 rfl rfl rfl ?_
 refine rn ?_;refine z8 rfl (w8 rfl hone rfl fun b3=> ?_)
 refine rn ?_;refine qv rfl rfl (y0 rfl rfl (y1.of_fun (zje l _ (fun a=> !p a) (.box b3 233 [fv]::G) (fun a ha=>y1.of_acall (fs:= []) (cs:= [pZ b3]) (yj6 a fv (p a) b3 G (hp a ha))) hlen))) ?_
 refine rn ?_;exact j6 rfl (.drop1 _ _ _) ⟨rfl,by simp only [←zjw p l];rfl⟩
theorem zl5 {full:Bool} (l:List Ord) (fv:AV) (p:Ord→Bool) (G:List Res) (hp:∀a∈l,y1 Tryz.prog fv [.agg (zef a)] G (fun r h'=>h'=G∧r=bv (p a))) (hlen:l.length≤4611686018427387904):y7 Tryz.prog 206 [.list full 2 (l.map zef),fv] G (fun r h'=>h'=G∧r=iv (zbq p 0 l)):=by
 refine z6 Tryz.func206 rfl rfl rfl ?_
 refine rn ?_;refine k7 (fun k:Nat=>k≤l.length∧zbq p 0 l=zbq p k (l.drop k)) (fun k=>⟨[(8,iv k),(7,iv (l.map zef).length),(0,.list full 2 (l.map zef)),(1,fv)],G,[]⟩) (fun k=>l.length - k) 0 ⟨Nat.zero_le _,by simp⟩
  (v1 (.cons _ _ _ rfl (.cons _ _ _ rfl (.cons _ _ _ rfl (.cons _ _ _ rfl (.nil)))))) ?_
 rintro k ⟨hk,hnot⟩
 refine rn ?_;refine z7 rfl (fun hc9=> ?_) (fun hc9=> ?_)
 ·have hk2:k < l.length:=by simpa using hc9
  have hrow:(l.map zef)[k]? =some (zef l[k]):=by simp [hk2]
  have hd:=List.drop_eq_getElem_cons hk2
  refine rn ?_;refine qv rfl rfl (y0 rfl rfl (hp l[k] (by simp))) ?_
  refine rn ?_;refine z7 rfl (fun hc16=> ?_) (fun hc16=> ?_)
  ·refine rn ?_;exact j6 rfl (.refl _ _) ⟨rfl,by rw [hnot,hd,zbq,if_pos hc16];rfl⟩
  ·refine rn ?_;exact ⟨k+1,⟨by omega,by rw [hnot,hd,zbq,if_neg (by simp [hc16])]⟩,(v1 (.cons _ _ _ rfl (.cons _ _ _ rfl (.cons _ _ _ rfl (.cons _ _ _ rfl (.nil)))))),by omega⟩
 ·have hk3:k=l.length:=by
   have:l.length≤k:=by simpa using hc9
   omega
  refine rn ?_;exact j6 rfl (.refl _ _) ⟨rfl,by rw [hnot,hk3,List.drop_length,zbq];rfl⟩
theorem zfr {full:Bool} (l:List Ord) (fv:AV) (p:Ord→Bool) (G:List Res) (hp:∀a∈l,y1 Tryz.prog fv [.agg (zef a)] G (fun r h'=>h'=G∧r=bv (p a))) (hlen:l.length≤4611686018427387904):y7 Tryz.prog 242 [.list full 2 (l.map zef),fv] G (fun r h'=>h'=G∧r=bv (l.any p)):=by
 refine z6 Tryz.func242 rfl rfl rfl ?_
 refine rn ?_;refine qv rfl rfl (y0 rfl rfl (y1.of_fun (zl5 l _ p G hp hlen))) ?_
 refine rn ?_;exact j6 rfl (.refl _ _) ⟨rfl,by simp only [←zeq p l 0];rfl⟩
theorem yft (a:Ord) (fv:AV) (v:Bool) (b:Nat) (G:List Res) (hp:y1 Tryz.prog fv [.agg (zef a)] G (fun r h'=>h'=G∧r=bv v)):y7 Tryz.prog 243 [.agg (zef a),pZ b] (.box b 235 [fv]::G) (fun r h'=>h'= .box b 235 [fv]::G∧r=bv (!v)):=by
 refine z6 Tryz.func243 rfl rfl rfl ?_
 refine rn ?_;refine z8 rfl (w8 rfl rfl rfl fun b2=> ?_)
 refine rn ?_;refine qv rfl rfl (y0 rfl rfl (y1.quiet (R:=fun x=>x=bv v) (h2:= [_,_]) (List.perm_append_comm (l₁:= [_,_])) hp)) ?_
 refine rn ?_;exact j6 rfl (.drop1 _ _ _) ⟨rfl,rfl⟩
theorem yto {full:Bool} (l:List Ord) (fv:AV) (p:Ord→Bool) (G:List Res) (hone:fv.cellsOf=some [fv]) (hp:∀a∈l,y1 Tryz.prog fv [.agg (zef a)] G (fun r h'=>h'=G∧r=bv (p a))) (hlen:l.length≤4611686018427387904):y7 Tryz.prog 195 [.list full 2 (l.map zef),fv] G (fun r h'=>h'=G∧r=bv (l.all p)):=by
 refine z6 Tryz.func195 rfl rfl rfl ?_
 refine rn ?_;refine z8 rfl (w8 rfl hone rfl fun b3=> ?_)
 refine rn ?_;refine qv rfl rfl (y0 rfl rfl (y1.of_fun (zfr l _ (fun a=> !p a) (.box b3 235 [fv]::G) (fun a ha=>y1.of_acall (fs:= []) (cs:= [pZ b3]) (yft a fv (p a) b3 G (hp a ha))) hlen))) ?_
 refine rn ?_;exact j6 rfl (.drop1 _ _ _) ⟨rfl,by simp only [←zjw p l];rfl⟩
theorem zl6 {full:Bool} (l:List Mat) (fv:AV) (p:Mat→Bool) (G:List Res) (hp:∀a∈l,y1 Tryz.prog fv [.agg (zd8 a)] G (fun r h'=>h'=G∧r=bv (p a))) (hlen:l.length≤4611686018427387904):y7 Tryz.prog 205 [.list full 4 (l.map zd8),fv] G (fun r h'=>h'=G∧r=iv (zbq p 0 l)):=by
 refine z6 Tryz.func205 rfl rfl rfl ?_
 refine rn ?_;refine k7 (fun k:Nat=>k≤l.length∧zbq p 0 l=zbq p k (l.drop k)) (fun k=>⟨[(8,iv k),(7,iv (l.map zd8).length),(0,.list full 4 (l.map zd8)),(1,fv)],G,[]⟩) (fun k=>l.length - k) 0 ⟨Nat.zero_le _,by simp⟩
  (v1 (.cons _ _ _ rfl (.cons _ _ _ rfl (.cons _ _ _ rfl (.cons _ _ _ rfl (.nil)))))) ?_
 rintro k ⟨hk,hnot⟩
 refine rn ?_;refine z7 rfl (fun hc9=> ?_) (fun hc9=> ?_)
 ·have hk2:k < l.length:=by simpa using hc9
  have hrow:(l.map zd8)[k]? =some (zd8 l[k]):=by simp [hk2]
  have hd:=List.drop_eq_getElem_cons hk2
  refine rn ?_;refine qv rfl rfl (y0 rfl rfl (hp l[k] (by simp))) ?_
  refine rn ?_;refine z7 rfl (fun hc16=> ?_) (fun hc16=> ?_)
  ·refine rn ?_;exact j6 rfl (.refl _ _) ⟨rfl,by rw [hnot,hd,zbq,if_pos hc16];rfl⟩
  ·refine rn ?_;exact ⟨k+1,⟨by omega,by rw [hnot,hd,zbq,if_neg (by simp [hc16])]⟩,(v1 (.cons _ _ _ rfl (.cons _ _ _ rfl (.cons _ _ _ rfl (.cons _ _ _ rfl (.nil)))))),by omega⟩
 ·have hk3:k=l.length:=by
   have:l.length≤k:=by simpa using hc9
   omega
  refine rn ?_;exact j6 rfl (.refl _ _) ⟨rfl,by rw [hnot,hk3,List.drop_length,zbq];rfl⟩
theorem zif {full:Bool} (l:List Mat) (fv:AV) (p:Mat→Bool) (G:List Res) (hp:∀a∈l,y1 Tryz.prog fv [.agg (zd8 a)] G (fun r h'=>h'=G∧r=bv (p a))) (hlen:l.length≤4611686018427387904):y7 Tryz.prog 244 [.list full 4 (l.map zd8),fv] G (fun r h'=>h'=G∧r=bv (l.any p)):=by
 refine z6 Tryz.func244 rfl rfl rfl ?_
 refine rn ?_;refine qv rfl rfl (y0 rfl rfl (y1.of_fun (zl6 l _ p G hp hlen))) ?_
 refine rn ?_;exact j6 rfl (.refl _ _) ⟨rfl,by simp only [←zeq p l 0];rfl⟩
theorem yfu (a:Mat) (fv:AV) (v:Bool) (b:Nat) (G:List Res) (hp:y1 Tryz.prog fv [.agg (zd8 a)] G (fun r h'=>h'=G∧r=bv v)):y7 Tryz.prog 245 [.agg (zd8 a),pZ b] (.box b 193 [fv]::G) (fun r h'=>h'= .box b 193 [fv]::G∧r=bv (!v)):=by
 refine z6 Tryz.func245 rfl rfl rfl ?_
 refine rn ?_;refine z8 rfl (w8 rfl rfl rfl fun b2=> ?_)
 refine rn ?_;refine qv rfl rfl (y0 rfl rfl (y1.quiet (R:=fun x=>x=bv v) (h2:= [_,_]) (List.perm_append_comm (l₁:= [_,_])) hp)) ?_
 refine rn ?_;exact j6 rfl (.drop1 _ _ _) ⟨rfl,rfl⟩
theorem ytp {full:Bool} (l:List Mat) (fv:AV) (p:Mat→Bool) (G:List Res) (hone:fv.cellsOf=some [fv]) (hp:∀a∈l,y1 Tryz.prog fv [.agg (zd8 a)] G (fun r h'=>h'=G∧r=bv (p a))) (hlen:l.length≤4611686018427387904):y7 Tryz.prog 197 [.list full 4 (l.map zd8),fv] G (fun r h'=>h'=G∧r=bv (l.all p)):=by
 refine z6 Tryz.func197 rfl rfl rfl ?_
 refine rn ?_;refine z8 rfl (w8 rfl hone rfl fun b3=> ?_)
 refine rn ?_;refine qv rfl rfl (y0 rfl rfl (y1.of_fun (zif l _ (fun a=> !p a) (.box b3 193 [fv]::G) (fun a ha=>y1.of_acall (fs:= []) (cs:= [pZ b3]) (yfu a fv (p a) b3 G (hp a ha))) hlen))) ?_
 refine rn ?_;exact j6 rfl (.drop1 _ _ _) ⟨rfl,by simp only [←zjw p l];rfl⟩
theorem ztc {full:Bool} (l:List Wan) (fv:AV) (p:Wan→Bool) (G:List Res) (hp:∀a∈l,y1 Tryz.prog fv [.agg (zfh a)] G (fun r h'=>h'=G∧r=bv (p a))) (hlen:l.length≤4611686018427387904):y7 Tryz.prog 272 [.list full 2 (l.map zfh),fv] G (fun r h'=>h'=G∧r=iv (zbq p 0 l)):=by
 refine z6 Tryz.func272 rfl rfl rfl ?_
 refine rn ?_;refine k7 (fun k:Nat=>k≤l.length∧zbq p 0 l=zbq p k (l.drop k)) (fun k=>⟨[(8,iv k),(7,iv (l.map zfh).length),(0,.list full 2 (l.map zfh)),(1,fv)],G,[]⟩) (fun k=>l.length - k) 0 ⟨Nat.zero_le _,by simp⟩
  (v1 (.cons _ _ _ rfl (.cons _ _ _ rfl (.cons _ _ _ rfl (.cons _ _ _ rfl (.nil)))))) ?_
 rintro k ⟨hk,hnot⟩
 refine rn ?_;refine z7 rfl (fun hc9=> ?_) (fun hc9=> ?_)
 ·have hk2:k < l.length:=by simpa using hc9
  have hrow:(l.map zfh)[k]? =some (zfh l[k]):=by simp [hk2]
  have hd:=List.drop_eq_getElem_cons hk2
  refine rn ?_;refine qv rfl rfl (y0 rfl rfl (hp l[k] (by simp))) ?_
  refine rn ?_;refine z7 rfl (fun hc16=> ?_) (fun hc16=> ?_)
  ·refine rn ?_;exact j6 rfl (.refl _ _) ⟨rfl,by rw [hnot,hd,zbq,if_pos hc16];rfl⟩
  ·refine rn ?_;exact ⟨k+1,⟨by omega,by rw [hnot,hd,zbq,if_neg (by simp [hc16])]⟩,(v1 (.cons _ _ _ rfl (.cons _ _ _ rfl (.cons _ _ _ rfl (.cons _ _ _ rfl (.nil)))))),by omega⟩
 ·have hk3:k=l.length:=by
   have:l.length≤k:=by simpa using hc9
   omega
  refine rn ?_;exact j6 rfl (.refl _ _) ⟨rfl,by rw [hnot,hk3,List.drop_length,zbq];rfl⟩
theorem zie {full:Bool} (l:List Wan) (fv:AV) (p:Wan→Bool) (G:List Res) (hp:∀a∈l,y1 Tryz.prog fv [.agg (zfh a)] G (fun r h'=>h'=G∧r=bv (p a))) (hlen:l.length≤4611686018427387904):y7 Tryz.prog 246 [.list full 2 (l.map zfh),fv] G (fun r h'=>h'=G∧r=bv (l.any p)):=by
 refine z6 Tryz.func246 rfl rfl rfl ?_
 refine rn ?_;refine qv rfl rfl (y0 rfl rfl (y1.of_fun (ztc l _ p G hp hlen))) ?_
 refine rn ?_;exact j6 rfl (.refl _ _) ⟨rfl,by simp only [←zeq p l 0];rfl⟩
theorem yfs (a:Wan) (fv:AV) (v:Bool) (b:Nat) (G:List Res) (hp:y1 Tryz.prog fv [.agg (zfh a)] G (fun r h'=>h'=G∧r=bv v)):y7 Tryz.prog 247 [.agg (zfh a),pZ b] (.box b 238 [fv]::G) (fun r h'=>h'= .box b 238 [fv]::G∧r=bv (!v)):=by
 refine z6 Tryz.func247 rfl rfl rfl ?_
 refine rn ?_;refine z8 rfl (w8 rfl rfl rfl fun b2=> ?_)
 refine rn ?_;refine qv rfl rfl (y0 rfl rfl (y1.quiet (R:=fun x=>x=bv v) (h2:= [_,_]) (List.perm_append_comm (l₁:= [_,_])) hp)) ?_
 refine rn ?_;exact j6 rfl (.drop1 _ _ _) ⟨rfl,rfl⟩
theorem ytn {full:Bool} (l:List Wan) (fv:AV) (p:Wan→Bool) (G:List Res) (hone:fv.cellsOf=some [fv]) (hp:∀a∈l,y1 Tryz.prog fv [.agg (zfh a)] G (fun r h'=>h'=G∧r=bv (p a))) (hlen:l.length≤4611686018427387904):y7 Tryz.prog 199 [.list full 2 (l.map zfh),fv] G (fun r h'=>h'=G∧r=bv (l.all p)):=by
 refine z6 Tryz.func199 rfl rfl rfl ?_
 refine rn ?_;refine z8 rfl (w8 rfl hone rfl fun b3=> ?_)
 refine rn ?_;refine qv rfl rfl (y0 rfl rfl (y1.of_fun (zie l _ (fun a=> !p a) (.box b3 238 [fv]::G) (fun a ha=>y1.of_acall (fs:= []) (cs:= [pZ b3]) (yfs a fv (p a) b3 G (hp a ha))) hlen))) ?_
 refine rn ?_;exact j6 rfl (.drop1 _ _ _) ⟨rfl,by simp only [←zjw p l];rfl⟩
theorem zrl {full:Bool} (l:List Seen) (fv:AV) (p:Seen→Bool) (G:List Res) (hp:∀a∈l,y1 Tryz.prog fv [.agg (zaj a)] G (fun r h'=>h'=G∧r=bv (p a))) (hlen:l.length≤4611686018427387904):y7 Tryz.prog 282 [.list full 3 (l.map zaj),fv] G (fun r h'=>h'=G∧r=iv (zbq p 0 l)):=by
 refine z6 Tryz.func282 rfl rfl rfl ?_
 refine rn ?_;refine k7 (fun k:Nat=>k≤l.length∧zbq p 0 l=zbq p k (l.drop k)) (fun k=>⟨[(8,iv k),(7,iv (l.map zaj).length),(0,.list full 3 (l.map zaj)),(1,fv)],G,[]⟩) (fun k=>l.length - k) 0 ⟨Nat.zero_le _,by simp⟩
  (v1 (.cons _ _ _ rfl (.cons _ _ _ rfl (.cons _ _ _ rfl (.cons _ _ _ rfl (.nil)))))) ?_
 rintro k ⟨hk,hnot⟩
 refine rn ?_;refine z7 rfl (fun hc9=> ?_) (fun hc9=> ?_)
 ·have hk2:k < l.length:=by simpa using hc9
  have hrow:(l.map zaj)[k]? =some (zaj l[k]):=by simp [hk2]
  have hd:=List.drop_eq_getElem_cons hk2
  refine rn ?_;refine qv rfl rfl (y0 rfl rfl (hp l[k] (by simp))) ?_
  refine rn ?_;refine z7 rfl (fun hc16=> ?_) (fun hc16=> ?_)
  ·refine rn ?_;exact j6 rfl (.refl _ _) ⟨rfl,by rw [hnot,hd,zbq,if_pos hc16];rfl⟩
  ·refine rn ?_;exact ⟨k+1,⟨by omega,by rw [hnot,hd,zbq,if_neg (by simp [hc16])]⟩,(v1 (.cons _ _ _ rfl (.cons _ _ _ rfl (.cons _ _ _ rfl (.cons _ _ _ rfl (.nil)))))),by omega⟩
 ·have hk3:k=l.length:=by
   have:l.length≤k:=by simpa using hc9
   omega
  refine rn ?_;exact j6 rfl (.refl _ _) ⟨rfl,by rw [hnot,hk3,List.drop_length,zbq];rfl⟩
theorem ze2 {full:Bool} (l:List Seen) (fv:AV) (p:Seen→Bool) (G:List Res) (hp:∀a∈l,y1 Tryz.prog fv [.agg (zaj a)] G (fun r h'=>h'=G∧r=bv (p a))) (hlen:l.length≤4611686018427387904):y7 Tryz.prog 269 [.list full 3 (l.map zaj),fv] G (fun r h'=>h'=G∧r=bv (l.any p)):=by
 refine z6 Tryz.func269 rfl rfl rfl ?_
 refine rn ?_;refine qv rfl rfl (y0 rfl rfl (y1.of_fun (zrl l _ p G hp hlen))) ?_
 refine rn ?_;exact j6 rfl (.refl _ _) ⟨rfl,by simp only [←zeq p l 0];rfl⟩
theorem yao (a:Seen) (fv:AV) (v:Bool) (b:Nat) (G:List Res) (hp:y1 Tryz.prog fv [.agg (zaj a)] G (fun r h'=>h'=G∧r=bv v)):y7 Tryz.prog 270 [.agg (zaj a),pZ b] (.box b 275 [fv]::G) (fun r h'=>h'= .box b 275 [fv]::G∧r=bv (!v)):=by
 refine z6 Tryz.func270 rfl rfl rfl ?_
 refine rn ?_;refine z8 rfl (w8 rfl rfl rfl fun b2=> ?_)
 refine rn ?_;refine qv rfl rfl (y0 rfl rfl (y1.quiet (R:=fun x=>x=bv v) (h2:= [_,_]) (List.perm_append_comm (l₁:= [_,_])) hp)) ?_
 refine rn ?_;exact j6 rfl (.drop1 _ _ _) ⟨rfl,rfl⟩
theorem ypr {full:Bool} (l:List Seen) (fv:AV) (p:Seen→Bool) (G:List Res) (hone:fv.cellsOf=some [fv]) (hp:∀a∈l,y1 Tryz.prog fv [.agg (zaj a)] G (fun r h'=>h'=G∧r=bv (p a))) (hlen:l.length≤4611686018427387904):y7 Tryz.prog 238 [.list full 3 (l.map zaj),fv] G (fun r h'=>h'=G∧r=bv (l.all p)):=by
 refine z6 Tryz.func238 rfl rfl rfl ?_
 refine rn ?_;refine z8 rfl (w8 rfl hone rfl fun b3=> ?_)
 refine rn ?_;refine qv rfl rfl (y0 rfl rfl (y1.of_fun (ze2 l _ (fun a=> !p a) (.box b3 275 [fv]::G) (fun a ha=>y1.of_acall (fs:= []) (cs:= [pZ b3]) (yao a fv (p a) b3 G (hp a ha))) hlen))) ?_
 refine rn ?_;exact j6 rfl (.drop1 _ _ _) ⟨rfl,by simp only [←zjw p l];rfl⟩
theorem yq7 (e:Ev):y7 Tryz.prog 321 [.agg (evR e)] [] (fun r h'=>h'= []∧r=zei (u6 e)):=by
 refine z6 Tryz.func321 rfl rfl rfl ?_
 refine rn ?_;refine z8 rfl (w8 rfl rfl rfl fun b1=> ?_)
 refine rn ?_;refine z7 rfl (fun hc5=> ?_) (fun hc5=> ?_)
 ·refine rn ?_;refine qv rfl rfl (q6 rfl rfl) ?_
  refine rn ?_;exact j6 rfl (.trans (.drop [_] _ _) (.le Sb.unfull.le)) ⟨rfl,by rw [u6,if_pos (by simpa using hc5)];rfl⟩
 ·refine rn ?_;refine rq 1 ?_
  exact ⟨rfl,by rw [u6,if_neg (by simpa using hc5)];rfl⟩
theorem ynn (e:Ev) (bl bp:Nat) (h:Hist) (p:List Ev) (r1 r2 r3 r4 r5:Nat):y7 Tryz.prog 317 [.agg (evR e),pZ bp] (zdg bl h p r1 r2 r3 r4 r5 [.box bp 247 [pZ bl]]) (fun r h'=>h'=(zdg bl h p r1 r2 r3 r4 r5 [.box bp 247 [pZ bl]])∧r=bv (zbf 1 e p)):=by
 refine z6 Tryz.func317 rfl rfl rfl ?_
 refine rn ?_;refine z8 rfl (w8 rfl rfl rfl fun b2=> ?_)
 refine rn ?_;refine u4 10 rfl ?_
 refine dq rfl rfl qrA ?_;refine dq rfl rfl qrA ?_;refine dq rfl rfl qrA ?_;refine dq rfl rfl qrA ?_;refine dq rfl rfl qrA ?_;refine dq rfl rfl qrA ?_;refine dq rfl rfl (zbl (enc:=intK) (k:=e.t) false rfl rfl) ?_
 refine rn ?_;refine rq 1 ?_
 exact ⟨rfl,congrArg bv (by rw [yj2];simp only [zbf];cases zhm p e.t <;> rfl)⟩
theorem yu7 (e:Ev) (bl bp:Nat) (h:Hist) (p:List Ev) (r1 r2 r3 r4 r5:Nat):y7 Tryz.prog 318 [.agg (evR e),pZ bp] (zdg bl h p r1 r2 r3 r4 r5 [.box bp 247 [pZ bl]]) (fun r h'=>h'=(zdg bl h p r1 r2 r3 r4 r5 [.box bp 247 [pZ bl]])∧r=bv (zbf 2 e p)):=by
 refine z6 Tryz.func318 rfl rfl rfl ?_
 refine rn ?_;refine z8 rfl (w8 rfl rfl rfl fun b2=> ?_)
 refine rn ?_;refine u4 6 rfl ?_
 refine rn2 ?_;refine qq rfl rfl (zbl (enc:=intK) (k:=e.t) false rfl rfl) ?_
 refine rn ?_;refine rq 1 ?_
 exact ⟨rfl,congrArg bv (by rw [yh2];simp only [zbf];cases zo4 p e.t <;> rfl)⟩
theorem ynm (e:Ev) (bl bp:Nat) (h:Hist) (p:List Ev) (r1 r2 r3 r4 r5:Nat) (hl:p.length≤1000000):y7 Tryz.prog 319 [.agg (evR e),pZ bp] (zdg bl h p r1 r2 r3 r4 r5 [.box bp 247 [pZ bl]]) (fun r h'=>h'=(zdg bl h p r1 r2 r3 r4 r5 [.box bp 247 [pZ bl]])∧r=bv (zbf 3 e p)):=by
 refine z6 Tryz.func319 rfl rfl rfl ?_
 have hw:=zhs p e.t e.o
 refine rn ?_;refine z8 rfl (w8 rfl rfl rfl fun b2=> ?_)
 refine rn ?_;refine u4 18 rfl ?_
 refine rn ?_;refine zcv (fun hg1_3=> ?_) (fun hg1_3=> ?_)
 ·refine dq rfl rfl qrA ?_;refine dq rfl rfl qrA ?_;refine dq rfl rfl qrA ?_;refine dq rfl rfl qrA ?_;refine dq rfl rfl qrA ?_;refine dq rfl rfl qrA ?_;refine dq rfl rfl qrA ?_;refine dq rfl rfl qrA ?_;refine dq rfl rfl qrA ?_;refine dq rfl rfl qrA ?_;refine dq rfl rfl qrA ?_;refine dq rfl rfl (j7 (out:= [iv e.t,iv e.o]) rfl (by rfl)) ?_
  refine dq rfl rfl (zbl (enc:=za1) (k:=(e.t,e.o)) 0 rfl rfl) ?_
  refine dq rfl rfl (zc1 rfl rfl rfl (by rw [zmi];omega)) ?_
  refine rn ?_;refine rq 1 ?_
  exact ⟨rfl,congrArg bv (by simp only [zbf];rw [←zmi];simp_all [bne])⟩
 ·refine rn ?_;refine rq 1 ?_
  exact ⟨rfl,congrArg bv (by simp only [zbf];rw [←zmi];simp_all [bne])⟩
theorem zzv (s:Seen) (bl bp:Nat) (h:Hist) (p:List Ev) (r1 r2 r3 r4 r5:Nat):y7 Tryz.prog 322 [.agg (zaj s),pZ bp] (zdg bl h p r1 r2 r3 r4 r5 [.box bp 247 [pZ bl]]) (fun r h'=>h'=(zdg bl h p r1 r2 r3 r4 r5 [.box bp 247 [pZ bl]])∧r=bv (decide (s.v.k > 0) && !zfi p s.o s.v)):=by
 refine z6 Tryz.func322 rfl rfl rfl ?_
 refine rn ?_;refine z8 rfl (w8 rfl rfl rfl fun b2=> ?_)
 refine rn ?_;refine u4 14 rfl ?_
 refine rn ?_;refine zcv (fun hg1_4=> ?_) (fun hg1_4=> ?_)
 ·refine dq rfl rfl qrA ?_;refine dq rfl rfl qrA ?_;refine dq rfl rfl qrA ?_;refine dq rfl rfl qrA ?_;refine dq rfl rfl qrA ?_;refine dq rfl rfl qrA ?_;refine dq rfl rfl qrA ?_;refine dq rfl rfl qrA ?_;refine dq rfl rfl (j7 (out:= [iv s.o,iv s.v.t,iv s.v.k]) rfl (by rfl)) ?_
  refine rn2 ?_;refine qq rfl rfl (zbl (enc:=zdt) (k:=(s.o,s.v.t,s.v.k)) false rfl rfl) ?_
  refine rn ?_;refine rq 1 ?_
  exact ⟨rfl,congrArg bv (by first|(rw [zw7];cases zfi p s.o s.v <;> simp_all;done)|(simp_all;done)|(simp_all <;> (intros;omega)))⟩
 ·refine rn ?_;refine rq 1 ?_
  exact ⟨rfl,congrArg bv (by first|(rw [zw7];cases zfi p s.o s.v <;> simp_all;done)|(simp_all;done)|(simp_all <;> (intros;omega)))⟩
theorem ycr (e:Ev) (bl bp:Nat) (h:Hist) (p:List Ev) (r1 r2 r3 r4 r5:Nat) (hl:e.scan.length≤4611686018427387904):y7 Tryz.prog 320 [.agg (evR e),pZ bp] (zdg bl h p r1 r2 r3 r4 r5 [.box bp 247 [pZ bl]]) (fun r h'=>h'=(zdg bl h p r1 r2 r3 r4 r5 [.box bp 247 [pZ bl]])∧r=bv (zbf 4 e p)):=by
 refine z6 Tryz.func320 rfl rfl rfl ?_
 refine rn ?_;refine z8 rfl (w8 rfl rfl rfl fun b2=> ?_)
 refine rn ?_;refine qv rfl rfl (y0 rfl rfl (v8 (yq7 _) (Sbs.refl _))) ?_
 refine rn ?_;refine qv rfl rfl (y0 rfl rfl (y1.quiet (R:=fun r=>r=bv _) (h2:= [_]) (List.perm_append_comm (l₁:= [_])) (y1.of_fun (ze2 (u6 e) _ _ (zdg bl h p r1 r2 r3 r4 r5 [.box bp 247 [pZ bl]]) (fun s _=>y1.of_acall (fs:= []) (cs:= [pZ bp]) (zzv s bl bp h p r1 r2 r3 r4 r5)) (zk7 hl))))) ?_
 refine rn ?_;refine rq 1 ?_
 exact ⟨rfl,rfl⟩
theorem yq9 (s:Seen) (e:Ev) (be:Nat) (bl bp:Nat) (h:Hist) (p:List Ev) (r1 r2 r3 r4 r5:Nat):y7 Tryz.prog 324 [.agg (zaj s),pZ bp,pZ be] (.box be 60 (evR e)::(zdg bl h p r1 r2 r3 r4 r5 [.box bp 247 [pZ bl]])) (fun r h'=>h'=(.box be 60 (evR e)::(zdg bl h p r1 r2 r3 r4 r5 [.box bp 247 [pZ bl]]))∧r=bv (match zvt p e.t s.o with|some v=>v !=s.v|none=>false)):=by
 refine z6 Tryz.func324 rfl rfl rfl ?_
 refine rn ?_;refine z8 rfl (w8 rfl rfl rfl fun b3=> ?_)
 refine rn0 ?_;refine w9 ?_;refine zf4 15 [13,14] [] (fun he=>he= .box b3 70 (zaj s)::(.box be 60 (evR e)::(zdg bl h p r1 r2 r3 r4 r5 [.box bp 247 [pZ bl]]))∨∃b c,he= .box b 57 c:: .box b3 70 (zaj s)::(.box be 60 (evR e)::(zdg bl h p r1 r2 r3 r4 r5 [.box bp 247 [pZ bl]]))) rfl rfl (.inl rfl) ?_
 refine jq rfl (fun he hC=>by rcases hC with rfl|⟨b,c,rfl⟩ <;> exact qrA) ?_
 refine jq rfl (fun he hC=>by rcases hC with rfl|⟨b,c,rfl⟩ <;> exact qrA) ?_
 refine jq rfl (fun he hC=>by rcases hC with rfl|⟨b,c,rfl⟩ <;> exact qrA) ?_
 refine jq rfl (fun he hC=>by rcases hC with rfl|⟨b,c,rfl⟩ <;> exact qrA) ?_
 refine jq rfl (fun he hC=>by rcases hC with rfl|⟨b,c,rfl⟩ <;> exact qrA) ?_
 refine jq rfl (fun he hC=>by rcases hC with rfl|⟨b,c,rfl⟩ <;> exact qrA) ?_
 refine jq rfl (fun he hC=>by rcases hC with rfl|⟨b,c,rfl⟩ <;> exact qrA) ?_
 refine jq rfl (fun he hC=>by rcases hC with rfl|⟨b,c,rfl⟩ <;> exact qrA) ?_
 refine jq rfl (fun he hC=>by rcases hC with rfl|⟨b,c,rfl⟩ <;> exact (by exact j7 (out:= [iv e.t,iv s.o]) rfl (by rfl))) ?_
 refine jq rfl (fun he hC=>by rcases hC with rfl|⟨b,c,rfl⟩ <;> exact (by exact zfm (enc:=za1) (k:=(e.t,s.o)) (⟨0,0⟩:Ver) rfl rfl rfl)) ?_
 refine jq rfl (fun he hC=>by rcases hC with rfl|⟨b,c,rfl⟩ <;> exact qrA) ?_
 refine jq rfl (fun he hC=>by rcases hC with rfl|⟨b,c,rfl⟩ <;> exact qrA) ?_
 refine jq rfl (fun he hC=>by rcases hC with rfl|⟨b,c,rfl⟩ <;> exact qrA) ?_
 refine je rfl ?_;refine je rfl ?_;refine yix ?_;refine jce rfl fun u=> ?_
 refine y5 rfl fun b5=>⟨_,_,rfl,.inr ⟨_,_,rfl⟩,?_⟩
 refine jce rfl fun u=> ?_
 refine j5 rfl rfl rfl ⟨.any,_,rfl,.inr ⟨_,_,rfl⟩,?_⟩
 refine jcn ?_;refine ln ?_;refine rn ?_;refine w7 (fun hg2_1=> ?_) (fun hg2_1=> ?_)
 ·refine rn ?_;refine rq 2 ?_
  exact ⟨rfl,congrArg bv (by rw [zmw] at hg2_1;(try rw [zmw]);cases hv:zvt p e.t s.o <;> simp_all [zy8,bne,ybe])⟩
 ·refine rn ?_;refine rq 2 ?_
  exact ⟨rfl,congrArg bv (by rw [zmw] at hg2_1;(try rw [zmw]);cases hv:zvt p e.t s.o <;> simp_all [zy8,bne,ybe])⟩
theorem yu3 (e:Ev) (bl bp:Nat) (h:Hist) (p:List Ev) (r1 r2 r3 r4 r5:Nat) (hl:e.scan.length≤4611686018427387904):y7 Tryz.prog 323 [.agg (evR e),pZ bp] (zdg bl h p r1 r2 r3 r4 r5 [.box bp 247 [pZ bl]]) (fun r h'=>h'=(zdg bl h p r1 r2 r3 r4 r5 [.box bp 247 [pZ bl]])∧r=bv (zbf 5 e p)):=by
 refine z6 Tryz.func323 rfl rfl rfl ?_
 refine rn ?_;refine z8 rfl (w8 rfl rfl rfl fun b2=> ?_)
 refine rn ?_;refine qv rfl rfl (y0 rfl rfl (v8 (yq7 _) (Sbs.refl _))) ?_
 refine rn ?_;refine qv rfl rfl (y0 rfl rfl (y1.of_fun (ze2 (u6 e) _ _ (.box b2 60 (evR e)::(zdg bl h p r1 r2 r3 r4 r5 [.box bp 247 [pZ bl]])) (fun s _=>y1.of_acall (fs:= []) (cs:= [pZ bp,pZ b2]) (yq9 s e b2 bl bp h p r1 r2 r3 r4 r5)) (zk7 hl)))) ?_
 refine rn ?_;refine rq 1 ?_
 exact ⟨rfl,rfl⟩
theorem yq8 (e:Ev) (hl:e.scan.length≤4611686018427387904):y7 Tryz.prog 325 [.agg (evR e)] [] (fun r h'=>h'= []∧r=bv (zbf 6 e [])):=by
 refine z6 Tryz.func325 rfl rfl rfl ?_
 refine rn ?_;refine z8 rfl (w8 rfl rfl rfl fun b1=> ?_)
 refine rn ?_;refine zkx ?_;refine rn ?_;refine z8 rfl (zaw (enc:=intK) rfl fun b6=> ?_)
 refine rn ?_;refine zbn e.scan.length (fun k=>((e.scan.take k).map Seen.o).Nodup) (fun k=>⟨[(10,iv k),(1,pZ b1),(3,.v (.map (some b6))),(8,zei e.scan),(9,iv (e.scan.map zaj).length)],[.map b6 (zal intK (zbd bv (zxz (e.scan.take k)))),.box b1 60 (evR e)],[]⟩) (by simp) es ?_
 intro k lk nk
 refine rn ?_;refine z7 rfl (fun hc11=> ?_) (fun hc11=> ?_)
 ·have hk:=zay hc11
  have rk:=zae (f:=zaj) hk
  refine rn ?_;refine z8 rfl (y5 rfl fun b5=> ?_)
  first|refine z8 rfl (j5 rfl rfl rfl ?_)|refine z8 rfl (zak rfl rfl rfl rfl (Nat.le_of_ble_eq_true rfl) ?_)
  refine u3 (zag ?_)
  refine w9 ?_;refine w9 (y6 ?_)
  refine q1 ?_;refine q1 ?_;refine q1 ?_;refine qq rfl rfl (zbl (enc:=intK) (k:=e.scan[k].o) false rfl rfl) ?_
  refine rn ?_;refine z7 rfl (fun hc17=> ?_) (fun hc17=> ?_)
  ·refine zhi ?_;refine zjj ?_;refine zli rfl ?_;refine zjj ?_;refine zjj ?_;refine zey ?_;refine zag ?_;refine w9 (y6 ?_)
   refine q1 ?_;refine qq rfl rfl (zps (enc:=intK) rfl) ?_
   refine rn ?_;refine ⟨fun l h=>(by cases h),?_⟩
   first|(refine rq 3 ?_;exact ⟨rfl,congrArg bv (yko hk nk (by simpa using hc17))⟩)|(refine rq 2 ?_;exact ⟨rfl,congrArg bv (ykp nk)⟩)
  ·have hx:=yr3 (by simpa using hc17)
   refine rn ?_;refine z8 rfl (zan (g:=bv) (enc:=intK) (k:=e.scan[k].o) (v:=true) rfl rfl rfl ?_)
   refine rn ?_;exact ⟨hk,yid hk nk hx,by rw [ydi hk];exact eA⟩
 ·have qk:=zaz hc11 lk
  subst qk
  refine zhi ?_;refine zjj ?_;refine zjj ?_;refine zey ?_;refine zag ?_;refine w9 (y6 ?_)
  refine q1 ?_;refine qq rfl rfl (zps (enc:=intK) rfl) ?_
  refine rn ?_;refine ⟨fun l h=>(by cases h),?_⟩
  first|(refine rq 3 ?_;exact ⟨rfl,congrArg bv (yko hk nk (by simpa using hc17))⟩)|(refine rq 2 ?_;exact ⟨rfl,congrArg bv (ykp nk)⟩)
end Go.Proofs
namespace Go.Ab
open Go
def isM (i:Nat):Bool:=Nat.blt i 10
def mkE (L:List Nat) (ρ:Nat→Nat):Fr:=(L.filter isM).map fun i=>(i+6,.v (.map (some (ρ i))))
def mkH (L:List Nat) (ρ:Nat→Nat):List Res:=(L.filter isM).map fun i=> .map (ρ i) []
def cel (L:List Nat) (ρ:Nat→Nat) (s m:Nat):AV:=if s∈L then .v (.map (some (ρ m))) else .v (.map none)
def zt4 (L:List Nat) (ρ:Nat→Nat):List AV:= [cel L ρ 12 5,cel L ρ 15 6,cel L ρ 18 7,cel L ρ 21 8,.v (.map none)]
def eff5:List Nat:= [5,6,7,8,9,12,15,18,21]
def J5 (bl:Nat) (T:TypeId) (c0:List AV) (R:List Res) (L:List Nat) (ee:Fr) (he:List Res):Prop:=
 L.Nodup∧(∀i∈L,i∈eff5)∧((12∈L→5∈L)∧(15∈L→6∈L)∧(18∈L→7∈L)∧(21∈L→8∈L))∧∃ρ,ee=mkE L ρ∧he=mkH L ρ++ .box bl T (c0++zt4 L ρ)::R
theorem J5.start {bl:Nat} {T:TypeId} {c0:List AV} {R:List Res}:J5 bl T c0 R [] [] (.box bl T (c0++ [.v (.map none),.v (.map none),.v (.map none),.v (.map none),.v (.map none)])::R):=
 ⟨.nil,fun i h=>by simp at h,⟨fun h=>by simp at h,fun h=>by simp at h,fun h=>by simp at h,fun h=>by simp at h⟩,fun _=>0,rfl,by simp [mkH,zt4,cel]⟩
theorem yic {L:List Nat} {ρ ρ':Nat→Nat} (h:∀i∈L,ρ i=ρ' i):mkE L ρ=mkE L ρ'∧mkH L ρ=mkH L ρ':=
 ⟨List.map_congr_left fun i hi=>by rw [h i (List.mem_filter.1 hi).1],List.map_congr_left fun i hi=>by rw [h i (List.mem_filter.1 hi).1]⟩
theorem J5.make {bl:Nat} {T:TypeId} {c0:List AV} {R:List Res} {L:List Nat} {ee:Fr} {he:List Res} {i:Nat} (h:J5 bl T c0 R L ee he) (hi:i ∉ L) (hm:isM i=true) (hie:i∈eff5) (r:Nat):J5 bl T c0 R (i::L) ((i+6,.v (.map (some r)))::ee) (.map r []::he):=by
 obtain ⟨h1,h2,⟨p1,p2,p3,p4⟩,ρ,rfl,rfl⟩:=h
 have hlt:i < 10:=Nat.le_of_ble_eq_true hm
 have hne:∀j∈L,ρ j=(fun j=>if j=i then r else ρ j) j:=fun j hj=>by
  have:j≠i:=fun e=>hi (e ▸ hj)
  simp [this]
 obtain ⟨e1,e2⟩:=yic hne
 refine ⟨List.nodup_cons.2 ⟨hi,h1⟩,fun j hj=>(List.mem_cons.1 hj).elim (fun e=>e ▸ hie) (h2 j),⟨?_,?_,?_,?_⟩,fun j=>if j=i then r else ρ j,?_,?_⟩
 iterate 4 (· intro hx;rcases List.mem_cons.1 hx with e|hx;omega;first|exact List.mem_cons_of_mem _ (p1 hx)|exact List.mem_cons_of_mem _ (p2 hx)|exact List.mem_cons_of_mem _ (p3 hx)|exact List.mem_cons_of_mem _ (p4 hx))
 ·rw [e1];simp [mkE,List.filter_cons,hm]
 ·have hc:∀s m,10≤s→(s∈L→m∈L)→cel L ρ s m=cel (i::L) (fun j=>if j=i then r else ρ j) s m:=fun s m hs hsm=>by
   unfold cel
   by_cases hx:s∈L
   ·rw [if_pos hx,if_pos (List.mem_cons_of_mem _ hx),←hne m (hsm hx)]
   ·rw [if_neg hx,if_neg (fun q=>(List.mem_cons.1 q).elim (by omega) hx)]
  rw [e2]
  have:zt4 L ρ=zt4 (i::L) (fun j=>if j=i then r else ρ j):=by
   unfold zt4
   rw [hc 12 5 (by omega) p1,hc 15 6 (by omega) p2,hc 18 7 (by omega) p3,hc 21 8 (by omega) p4]
  rw [this];simp [mkH,List.filter_cons,hm]
theorem zjp {ρ:Nat→Nat} {m:Nat} (hm:isM m=true):∀{L:List Nat},m∈L→lk (mkE L ρ) (m+6)=some (.v (.map (some (ρ m))))
 | [],h=>by simp at h
 |j::L,h=>by
  unfold mkE
  rw [List.filter_cons]
  by_cases hj:isM j=true
  ·rw [if_pos hj,List.map_cons,lk]
   by_cases e:j=m
   ·subst e;simp
   ·have:Nat.beq (j+6) (m+6)=false:=by
     cases hb:Nat.beq (j+6) (m+6) with
     |false=>rfl
     |true=>have:=Nat.eq_of_beq_eq_true hb;omega
    rw [this]
    exact zjp hm ((List.mem_cons.1 h).resolve_left (fun q=>e q.symm))
  ·rw [if_neg hj]
   refine zjp hm ((List.mem_cons.1 h).resolve_left (fun q=>hj (q ▸ hm)))
theorem zmr {ρ:Nat→Nat} {d:Nat} (hd:d < 6):∀{L:List Nat},lk (mkE L ρ) d=none
 | []=>rfl
 |j::L=>by
  unfold mkE
  rw [List.filter_cons]
  split
  ·rw [List.map_cons,lk]
   have:Nat.beq (j+6) d=false:=by
    cases hb:Nat.beq (j+6) d with
    |false=>rfl
    |true=>have:=Nat.eq_of_beq_eq_true hb;omega
   rw [this];exact zmr hd
  ·exact zmr hd
theorem yr9 {E ee t:Fr} {d:Nat} {a:AV} (h1:lk E d=none) (h2:lk ee d=none) (h3:lk t d=some a):lk ((E++ee)++t) d=some a:=by
 rw [j4,j4,h1];simp only;rw [h2];exact h3
theorem yvk {E ee t:Fr} {d:Nat} {a:AV} (h1:lk E d=none) (h2:lk ee d=some a):lk ((E++ee)++t) d=some a:=by
 rw [j4,j4,h1];simp only;rw [h2]
theorem yio {A ee B:Fr} {ds:List Tmp} {d:Nat} {a:AV} (h1:lk A d=none) (h2:ds.any (Nat.beq d)=true) (h3:lk ee d=some a):lk (A++(zi0 ds ee++B)) d=some a:=by
 rw [j4,h1]
 simp only
 rw [j4,zi0,zek (q:=fun d=>ds.any (Nat.beq d)) h2,h3]
section
variable {bl:Nat} {T:TypeId} {c0:List AV} {R:List Res} {L:List Nat} {ρ:Nat→Nat}
theorem yt9:HasBox (mkH L ρ++ .box bl T (c0++zt4 L ρ)::R) bl (mkH L ρ).length T (c0++zt4 L ρ):=⟨by simp⟩
theorem yt2 (x:Res):SetAt (mkH L ρ++ .box bl T (c0++zt4 L ρ)::R) (mkH L ρ).length x (mkH L ρ++x::R):=⟨by simp⟩
theorem J5.put {s m:Nat} {cs':List AV} (h:J5 bl T c0 R L (mkE L ρ) (mkH L ρ++ .box bl T (c0++zt4 L ρ)::R)) (hs:s ∉ L) (hse:s∈eff5) (hsm:isM s=false) (hmL:(s,m)∈ [(12,5),(15,6),(18,7),(21,8)]) (hm:m∈L)
 (hc:cs'=c0++(zt4 L ρ).set ((m - 5)) (.v (.map (some (ρ m))))):J5 bl T c0 R (s::L) (mkE L ρ) (mkH L ρ++ .box bl T cs'::R):=by
 obtain ⟨h1,h2,⟨p1,p2,p3,p4⟩,_⟩:=h
 refine ⟨List.nodup_cons.2 ⟨hs,h1⟩,fun j hj=>(List.mem_cons.1 hj).elim (fun e=>e ▸ hse) (h2 j),⟨fun q=> ?_,fun q=> ?_,fun q=> ?_,fun q=> ?_⟩,ρ,?_,?_⟩
 iterate 4 (· rcases List.mem_cons.1 q with e|q;(subst e;simp at hmL;subst hmL;exact List.mem_cons_of_mem _ hm);first|exact List.mem_cons_of_mem _ (p1 q)|exact List.mem_cons_of_mem _ (p2 q)|exact List.mem_cons_of_mem _ (p3 q)|exact List.mem_cons_of_mem _ (p4 q))
 ·simp [mkE,List.filter_cons,hsm]
 ·have e1:mkH (s::L) ρ=mkH L ρ:=by simp [mkH,List.filter_cons,hsm]
  rw [e1,hc]
  have:(zt4 L ρ).set (m - 5) (.v (.map (some (ρ m))))=zt4 (s::L) ρ:=by
   simp only [List.mem_cons,Prod.mk.injEq,List.not_mem_nil,or_false] at hmL
   rcases hmL with ⟨rfl,rfl⟩|⟨rfl,rfl⟩|⟨rfl,rfl⟩|⟨rfl,rfl⟩ <;> simp [zt4,cel]
  rw [this]
theorem J5.last (h:J5 bl T c0 R L (mkE L ρ) (mkH L ρ++ .box bl T (c0++zt4 L ρ)::R)) (ha:∀i,i∈eff5→i∈L):
 (mkH L ρ++ .box bl T (c0++zt4 L ρ)::R).Perm (.box bl T (c0++ [.v (.map (some (ρ 5))),.v (.map (some (ρ 6))),.v (.map (some (ρ 7))),.v (.map (some (ρ 8))),.v (.map none)]):: .map (ρ 5) []:: .map (ρ 6) []:: .map (ρ 7) []:: .map (ρ 8) []:: .map (ρ 9) []::R):=by
 have hp:(L.filter isM).Perm [5,6,7,8,9]:=by
  rw [List.perm_ext_iff_of_nodup (h.1.filter _) (by decide)]
  intro a
  rw [List.mem_filter]
  constructor
  ·rintro ⟨q1,q2⟩
   have:=h.2.1 a q1
   have q3:a < 10:=Nat.le_of_ble_eq_true q2
   simp [eff5] at this ⊢;omega
  ·intro q
   have:a∈eff5:=by simp [eff5] at q ⊢;omega
   refine ⟨ha a this,?_⟩
   simp at q;rcases q with rfl|rfl|rfl|rfl|rfl <;> rfl
 have hcs:zt4 L ρ= [.v (.map (some (ρ 5))),.v (.map (some (ρ 6))),.v (.map (some (ρ 7))),.v (.map (some (ρ 8))),.v (.map none)]:=by
  simp [zt4,cel,ha 12 (by simp [eff5]),ha 15 (by simp [eff5]),ha 18 (by simp [eff5]),ha 21 (by simp [eff5])]
 rw [hcs]
 have:=hp.map (fun i=>Res.map (ρ i) [])
 exact (this.append_right _).trans (List.perm_middle (l₁:= [Res.map (ρ 5) [],Res.map (ρ 6) [],Res.map (ρ 7) [],Res.map (ρ 8) [],Res.map (ρ 9) []]))
end
end Go.Ab
set_option maxRecDepth 10000
namespace Go.Proofs
open Go Go.Ab
attribute [local irreducible] QR QV OE zch aw zc6 zdc zbg zb8 thn zfa zd9 jch zfo
open Go.H
theorem yhs (h:Hist) (la:h.evs.length≤1000000) (y:AV) (bl b1:Nat) (w:Nat→Ev→Bool) (I F:Nat→List Res) (hy:∀k (hk:k < h.evs.length) r1 r2 r3 r4 r5,y1 Tryz.prog y [iv k,.agg (evR h.evs[k])] (zdg bl h (h.evs.take k) r1 r2 r3 r4 r5 (.box b1 247 [pZ bl]::I k)) (fun r h'=>r=bv (!w k h.evs[k])∧h'=zdg bl h (h.evs.take k) r1 r2 r3 r4 r5 (.box b1 247 [pZ bl]::bif w k h.evs[k] then F k else I (k+1)))):y7 Tryz.prog 343 [y,pZ b1] (.box bl 252 (zcd h):: .box b1 247 [pZ bl]::I 0) (fun r h'=>h'=match zdj w 0 h.evs with|some k=>F k|none=>I h.evs.length):=by
 refine z6 Tryz.func343 rfl rfl rfl ?_
 refine w9 ?_;refine yj3 22 eff5 [] (fun he=>HasB he b1 247 [pZ bl]) rfl ?_
 refine jq rfl (fun he hC=>by haveI:=hC;exact qrA) ?_
 refine jq rfl (fun he hC=>by haveI:=hC;exact qrA) ?_
 refine jq rfl (fun he hC=>by haveI:=hC;exact qrA) ?_
 refine jq rfl (fun he hC=>by haveI:=hC;exact qrA) ?_
 refine jq rfl (fun he hC=>by haveI:=hC;exact qrA) ?_
 refine je rfl ?_;refine je rfl ?_;refine je rfl ?_;refine je rfl ?_;refine je rfl ?_;refine jq rfl (fun he hC=>by haveI:=hC;exact qrA) ?_
 refine jq rfl (fun he hC=>by haveI:=hC;exact qrA) ?_
 refine je rfl ?_;refine jq rfl (fun he hC=>by haveI:=hC;exact qrA) ?_
 refine jq rfl (fun he hC=>by haveI:=hC;exact qrA) ?_
 refine je rfl ?_;refine jq rfl (fun he hC=>by haveI:=hC;exact qrA) ?_
 refine jq rfl (fun he hC=>by haveI:=hC;exact qrA) ?_
 refine je rfl ?_;refine jq rfl (fun he hC=>by haveI:=hC;exact qrA) ?_
 refine jq rfl (fun he hC=>by haveI:=hC;exact qrA) ?_
 refine je rfl ?_;refine yix ?_;refine ⟨J5 bl 252 (y9 h) (.box b1 247 [pZ bl]::I 0),.start,fun L ee he hJ=> ?_,fun L ee he hJ i o hie hiL ho hpre u=> ?_,fun L ee he hJ hall=> ?_⟩
 ·obtain ⟨_,_,_,ρ,_,rfl⟩:=hJ
  exact ⟨.inl (by simp)⟩
 ·simp only [eff5,List.mem_cons,List.not_mem_nil,or_false] at hie
  rcases hie with rfl|rfl|rfl|rfl|rfl|rfl|rfl|rfl|rfl
  ·obtain rfl:=Option.some.inj ho
   exact zaw (enc:=intK) rfl fun r=>⟨_,_,rfl,hJ.make hiL rfl (by decide) r⟩
  ·obtain rfl:=Option.some.inj ho
   exact zaw (enc:=intK) rfl fun r=>⟨_,_,rfl,hJ.make hiL rfl (by decide) r⟩
  ·obtain rfl:=Option.some.inj ho
   exact zaw (enc:=intK) rfl fun r=>⟨_,_,rfl,hJ.make hiL rfl (by decide) r⟩
  ·obtain rfl:=Option.some.inj ho
   exact zaw (enc:=intK) rfl fun r=>⟨_,_,rfl,hJ.make hiL rfl (by decide) r⟩
  ·obtain rfl:=Option.some.inj ho
   exact zaw (enc:=intK) rfl fun r=>⟨_,_,rfl,hJ.make hiL rfl (by decide) r⟩
  ·obtain rfl:=Option.some.inj ho
   have hJ2:=hJ
   obtain ⟨_,_,_,ρ,rfl,rfl⟩:=hJ2
   have hm:5∈L:=hpre 5 (mem?_iff.1 rfl) (by decide)
   haveI:=yt9 (bl:=bl) (T:=252) (c0:=y9 h) (R:=(.box b1 247 [pZ bl]::I 0)) (L:=L) (ρ:=ρ)
   haveI:=fun x=>yt2 (bl:=bl) (T:=252) (c0:=y9 h) (R:=(.box b1 247 [pZ bl]::I 0)) (L:=L) (ρ:=ρ) x
   exact zak (b:=bl) (off:=8) (n:=1) rfl (yio rfl rfl (zjp rfl hm)) rfl rfl (Nat.le_of_ble_eq_true rfl) ⟨.any,_,rfl,hJ.put hiL (by decide) rfl (by decide) hm rfl⟩
  ·obtain rfl:=Option.some.inj ho
   have hJ2:=hJ
   obtain ⟨_,_,_,ρ,rfl,rfl⟩:=hJ2
   have hm:6∈L:=hpre 6 (mem?_iff.1 rfl) (by decide)
   haveI:=yt9 (bl:=bl) (T:=252) (c0:=y9 h) (R:=(.box b1 247 [pZ bl]::I 0)) (L:=L) (ρ:=ρ)
   haveI:=fun x=>yt2 (bl:=bl) (T:=252) (c0:=y9 h) (R:=(.box b1 247 [pZ bl]::I 0)) (L:=L) (ρ:=ρ) x
   exact zak (b:=bl) (off:=9) (n:=1) rfl (yio rfl rfl (zjp rfl hm)) rfl rfl (Nat.le_of_ble_eq_true rfl) ⟨.any,_,rfl,hJ.put hiL (by decide) rfl (by decide) hm rfl⟩
  ·obtain rfl:=Option.some.inj ho
   have hJ2:=hJ
   obtain ⟨_,_,_,ρ,rfl,rfl⟩:=hJ2
   have hm:7∈L:=hpre 7 (mem?_iff.1 rfl) (by decide)
   haveI:=yt9 (bl:=bl) (T:=252) (c0:=y9 h) (R:=(.box b1 247 [pZ bl]::I 0)) (L:=L) (ρ:=ρ)
   haveI:=fun x=>yt2 (bl:=bl) (T:=252) (c0:=y9 h) (R:=(.box b1 247 [pZ bl]::I 0)) (L:=L) (ρ:=ρ) x
   exact zak (b:=bl) (off:=10) (n:=1) rfl (yio rfl rfl (zjp rfl hm)) rfl rfl (Nat.le_of_ble_eq_true rfl) ⟨.any,_,rfl,hJ.put hiL (by decide) rfl (by decide) hm rfl⟩
  ·obtain rfl:=Option.some.inj ho
   have hJ2:=hJ
   obtain ⟨_,_,_,ρ,rfl,rfl⟩:=hJ2
   have hm:8∈L:=hpre 8 (mem?_iff.1 rfl) (by decide)
   haveI:=yt9 (bl:=bl) (T:=252) (c0:=y9 h) (R:=(.box b1 247 [pZ bl]::I 0)) (L:=L) (ρ:=ρ)
   haveI:=fun x=>yt2 (bl:=bl) (T:=252) (c0:=y9 h) (R:=(.box b1 247 [pZ bl]::I 0)) (L:=L) (ρ:=ρ) x
   exact zak (b:=bl) (off:=11) (n:=1) rfl (yio rfl rfl (zjp rfl hm)) rfl rfl (Nat.le_of_ble_eq_true rfl) ⟨.any,_,rfl,hJ.put hiL (by decide) rfl (by decide) hm rfl⟩
 have hJ2:=hJ
 obtain ⟨_,_,_,ρ,rfl,rfl⟩:=hJ2
 have hal:∀i,i∈eff5→i∈L:=fun i hi=>hall i hi (by simp [eff5] at hi;omega)
 refine ln ?_;refine zix (s':=⟨[(0,y),(1,pZ b1),(10,pZ bl),(15,mpv (ρ 9))],.box bl 252 (y9 h++ [mpv (ρ 5),mpv (ρ 6),mpv (ρ 7),mpv (ρ 8),nmp]):: .map (ρ 5) []:: .map (ρ 6) []:: .map (ρ 7) []:: .map (ρ 8) []:: .map (ρ 9) []::(.box b1 247 [pZ bl]::I 0),[]⟩) (v6 (zbb (hJ.last hal)) (v1 (.cons _ _ _ (yr9 rfl (zmr (by decide)) rfl) (.cons _ _ _ (yr9 rfl (zmr (by decide)) rfl) (.cons _ _ _ rfl (.cons _ _ _ (yvk rfl (zjp (m:=9) rfl (hal 9 (by decide)))) .nil)))))) ?_
 generalize ρ 5=r1
 generalize ρ 6=r2
 generalize ρ 7=r3
 generalize ρ 8=r4
 generalize ρ 9=r5
 refine rn ?_;refine zbn h.evs.length (fun k=>zdj w 0 h.evs=zdj w k (h.evs.drop k)) (fun k=>⟨[(32,iv k),(0,y),(1,pZ b1),(30,zoc h.evs),(31,iv (h.evs.map evR).length)],(zdg bl h (h.evs.take k) r1 r2 r3 r4 r5 (.box b1 247 [pZ bl]::I k)),[]⟩) (by simp) es ?_
 intro k lk zk
 have hwl:=fun e:Ev=>zhs (h.evs.take k) e.t e.o
 have hle:(h.evs.take k).length≤h.evs.length:=by simp;omega
 refine rn ?_;refine z7 rfl (fun hc33=> ?_) (fun hc33=> ?_)
 ·have hk:=zay hc33
  have rk:=zae (f:=evR) hk
  refine rn ?_;refine z8 rfl (y5 rfl fun b4=> ?_)
  refine rn ?_;refine z8 rfl (v2 rfl rfl (y1.fr1 (hy k hk r1 r2 r3 r4 r5)) rfl ?_)
  rintro _ _ ⟨_,rfl,rfl,rfl⟩
  refine rn ?_;refine z7 rfl (fun hc41=> ?_) (fun hc41=> ?_)
  ·have hw:w k h.evs[k]=true:=by simpa using hc41
   rw [hw]
   refine rn ?_;exact zej .nil (.drop [_,_,_,_,_,_,_,_] _ _) (by rw [zh0 hk zk hw])
  ·have hw:w k h.evs[k]=false:=by simpa using hc41
   rw [hw]
   refine rn ?_;refine z7 rfl (fun hc44=> ?_) (fun hc44=> ?_)
   ·refine u4 6 rfl ?_
    refine rn ?_;refine z8 rfl (zan (g:=bv) (enc:=intK) (k:=h.evs[k].t) (v:=true) rfl rfl rfl ?_)
    refine rn ?_;have et:=List.take_succ_eq_append_getElem hk
    exact ⟨hk,zd3 hk zk hw,by rw [et];simp only [zdg,zik,zh7,zht,zib,zhw,kTO,kOV];first|(rw [if_pos (by simp_all),if_neg (by simp_all),if_neg (by simp_all),if_neg (by simp_all),if_neg (by simp_all)];exact eA)|(rw [if_neg (by simp_all),if_pos (by simp_all),if_neg (by simp_all),if_neg (by simp_all),if_neg (by simp_all)];exact eA)|(rw [if_neg (by simp_all),if_neg (by simp_all),if_pos (by simp_all),if_pos (by simp_all),if_pos (by simp_all)];exact eA)|(rw [if_neg (by simp_all),if_neg (by simp_all),if_neg (by simp_all),if_neg (by simp_all),if_neg (by simp_all)];exact eA)⟩
   ·refine rn ?_;refine z7 rfl (fun hc52=> ?_) (fun hc52=> ?_)
    ·refine rn ?_;refine z7 rfl (fun hc52=> ?_) (fun hc52=> ?_)
     ·refine u4 6 rfl ?_
      refine rn ?_;refine z8 rfl (zan (g:=bv) (enc:=intK) (k:=h.evs[k].t) (v:=true) rfl rfl rfl ?_)
      refine rn ?_;have et:=List.take_succ_eq_append_getElem hk
      exact ⟨hk,zd3 hk zk hw,by rw [et];simp only [zdg,zik,zh7,zht,zib,zhw,kTO,kOV];first|(rw [if_pos (by simp_all),if_neg (by simp_all),if_neg (by simp_all),if_neg (by simp_all),if_neg (by simp_all)];exact eA)|(rw [if_neg (by simp_all),if_pos (by simp_all),if_neg (by simp_all),if_neg (by simp_all),if_neg (by simp_all)];exact eA)|(rw [if_neg (by simp_all),if_neg (by simp_all),if_pos (by simp_all),if_pos (by simp_all),if_pos (by simp_all)];exact eA)|(rw [if_neg (by simp_all),if_neg (by simp_all),if_neg (by simp_all),if_neg (by simp_all),if_neg (by simp_all)];exact eA)⟩
     ·first|cases hc52|exact absurd hc52 (by decide)|(exfalso;simp_all;done)
    ·refine rn ?_;refine z7 rfl (fun hc52=> ?_) (fun hc52=> ?_)
     ·refine u4 6 rfl ?_
      refine rn ?_;refine z8 rfl (zan (g:=bv) (enc:=intK) (k:=h.evs[k].t) (v:=true) rfl rfl rfl ?_)
      refine rn ?_;have et:=List.take_succ_eq_append_getElem hk
      exact ⟨hk,zd3 hk zk hw,by rw [et];simp only [zdg,zik,zh7,zht,zib,zhw,kTO,kOV];first|(rw [if_pos (by simp_all),if_neg (by simp_all),if_neg (by simp_all),if_neg (by simp_all),if_neg (by simp_all)];exact eA)|(rw [if_neg (by simp_all),if_pos (by simp_all),if_neg (by simp_all),if_neg (by simp_all),if_neg (by simp_all)];exact eA)|(rw [if_neg (by simp_all),if_neg (by simp_all),if_pos (by simp_all),if_pos (by simp_all),if_pos (by simp_all)];exact eA)|(rw [if_neg (by simp_all),if_neg (by simp_all),if_neg (by simp_all),if_neg (by simp_all),if_neg (by simp_all)];exact eA)⟩
     ·refine rn ?_;refine z7 rfl (fun hc61=> ?_) (fun hc61=> ?_)
      ·refine w9 (y6 ?_)
       refine q1 ?_;refine q1 ?_;refine q1 ?_;refine q1 ?_;refine qq rfl rfl (j7 (out:= [iv h.evs[k].t,iv h.evs[k].o]) rfl (by rfl)) ?_
       refine z8 rfl (y5 rfl fun b5=> ?_)
       refine rn0 ?_;refine w9 ?_;refine zf4 9 [7] [8] (fun he=>he= .box b5 326 [iv h.evs[k].t,iv h.evs[k].o]:: .box b4 60 (evR h.evs[k]):: .box bl 252 (yin h r1 r2 r3 r4 r5):: .map r1 (zal intK (zbd bv (ygg (h.evs.take k)))):: .map r2 (zal intK (zbd bv (yf6 (h.evs.take k)))):: .map r3 (zal za1 (zbd iv (zy2 (h.evs.take k)))):: .map r4 (zal za1 (zbd ybg (yiu (h.evs.take k)))):: .map r5 (zal zdt (zbd bv (yf4 (h.evs.take k)))):: .box b1 247 [pZ bl]::I (k+1)∨∃j st,he= .box b5 326 [iv h.evs[k].t,iv h.evs[k].o]:: .box b4 60 (evR h.evs[k]):: .box bl 252 (yin h r1 r2 r3 r4 r5):: .map r1 (zal intK (zbd bv (ygg (h.evs.take k)))):: .map r2 (zal intK (zbd bv (yf6 (h.evs.take k)))):: .mape r3 (zal za1 (zl8 (h.evs[k].t,h.evs[k].o) (iv 0) (zbd iv (zy2 (h.evs.take k))))) j st:: .map r4 (zal za1 (zbd ybg (yiu (h.evs.take k)))):: .map r5 (zal zdt (zbd bv (yf4 (h.evs.take k)))):: .box b1 247 [pZ bl]::I (k+1)) rfl rfl (.inl rfl) ?_
       refine jq rfl (fun he hC=>by rcases hC with rfl|⟨j,st,rfl⟩ <;> exact qrA) ?_
       refine jq rfl (fun he hC=>by rcases hC with rfl|⟨j,st,rfl⟩ <;> exact qrA) ?_
       refine jq rfl (fun he hC=>by rcases hC with rfl|⟨j,st,rfl⟩ <;> exact qrA) ?_
       refine jq rfl (fun he hC=>by rcases hC with rfl|⟨j,st,rfl⟩ <;> exact qrA) ?_
       refine jq rfl (fun he hC=>by rcases hC with rfl|⟨j,st,rfl⟩ <;> exact qrA) ?_
       refine jq rfl (fun he hC=>by rcases hC with rfl|⟨j,st,rfl⟩ <;> exact (by first|exact zbl (enc:=za1) (k:=(h.evs[k].t,h.evs[k].o)) (0:Int) rfl rfl|exact ycx (enc:=za1) (k:=(h.evs[k].t,h.evs[k].o)) (0:Int) rfl rfl)) ?_
       refine jq rfl (fun he hC=>by rcases hC with rfl|⟨j,st,rfl⟩ <;> exact (by exact zc1 rfl rfl rfl (by rw [zmi];have:=zhs (h.evs.take k) h.evs[k].t h.evs[k].o;omega))) ?_
       refine je rfl ?_;refine je rfl ?_;refine yix ?_;refine jce rfl fun u=> ?_
       refine zle (enc:=za1) (k:=(h.evs[k].t,h.evs[k].o)) rfl rfl rfl fun j st hj=>⟨_,_,rfl,.inr ⟨_,_,rfl⟩,?_⟩
       refine jcn ?_;refine lq rfl rfl (by exact qrA) ?_
       refine ln ?_;refine z8 rfl (zn1 (g:=iv) (enc:=za1) (k:=(h.evs[k].t,h.evs[k].o)) (v:=((za6 (h.evs[k].t,h.evs[k].o) (zy2 (h.evs.take k))).getD 0+1)) rfl rfl rfl (hj _) ?_)
       refine rn0 ?_;refine zf4 19 [16,17,18] [] (fun he=>∃x:Res,he= .box b5 326 [iv h.evs[k].t,iv h.evs[k].o]:: .box b4 60 (evR h.evs[k]):: .box bl 252 (yin h r1 r2 r3 r4 r5):: .map r1 (zal intK (zbd bv (ygg (h.evs.take k)))):: .map r2 (zal intK (zbd bv (yf6 (h.evs.take k)))):: .map r3 (zal za1 (zbd iv (zdy (h.evs[k].t,h.evs[k].o) ((za6 (h.evs[k].t,h.evs[k].o) (zy2 (h.evs.take k))).getD 0+1) (zy2 (h.evs.take k)))))::x:: .map r5 (zal zdt (zbd bv (yf4 (h.evs.take k)))):: .box b1 247 [pZ bl]::I (k+1)) rfl rfl ⟨_,rfl⟩ ?_
       refine jq rfl (fun he hC=>by obtain ⟨x,rfl⟩:=hC <;> exact qrA) ?_
       refine jq rfl (fun he hC=>by obtain ⟨x,rfl⟩:=hC <;> exact qrA) ?_
       refine jq rfl (fun he hC=>by obtain ⟨x,rfl⟩:=hC <;> exact qrA) ?_
       refine jq rfl (fun he hC=>by obtain ⟨x,rfl⟩:=hC <;> exact qrA) ?_
       refine jq rfl (fun he hC=>by obtain ⟨x,rfl⟩:=hC <;> exact qrA) ?_
       refine jq rfl (fun he hC=>by obtain ⟨x,rfl⟩:=hC <;> exact qrA) ?_
       refine jq rfl (fun he hC=>by obtain ⟨x,rfl⟩:=hC <;> exact qrA) ?_
       refine jq rfl (fun he hC=>by obtain ⟨x,rfl⟩:=hC <;> exact qrA) ?_
       refine jq rfl (fun he hC=>by obtain ⟨x,rfl⟩:=hC <;> exact qrA) ?_
       refine jq rfl (fun he hC=>by obtain ⟨x,rfl⟩:=hC <;> exact qrA) ?_
       refine jq rfl (fun he hC=>by obtain ⟨x,rfl⟩:=hC <;> exact qrA) ?_
       refine jq rfl (fun he hC=>by obtain ⟨x,rfl⟩:=hC <;> exact qrA) ?_
       refine jq rfl (fun he hC=>by obtain ⟨x,rfl⟩:=hC <;> exact qrA) ?_
       refine jq (av:= .agg [iv h.evs[k].o,iv h.evs[k].v.t,iv h.evs[k].v.k]) rfl (fun he hC=>by obtain ⟨x,rfl⟩:=hC <;> exact (by exact j7 (out:= [iv (h.evs[k]'hk).o,iv (h.evs[k]'hk).v.t,iv (h.evs[k]'hk).v.k]) rfl (by rfl))) ?_
       refine jq rfl (fun he hC=>by obtain ⟨x,rfl⟩:=hC <;> exact qrA) ?_
       refine jq rfl (fun he hC=>by obtain ⟨x,rfl⟩:=hC <;> exact qrA) ?_
       refine je rfl ?_;refine je rfl ?_;refine je rfl ?_;refine yix ?_;refine jce rfl fun u=> ?_
       refine zle (enc:=za1) (k:=(h.evs[k].t,h.evs[k].o)) rfl rfl rfl fun j st hj=>⟨_,_,rfl,⟨_,rfl⟩,?_⟩
       refine jce rfl fun u=> ?_
       refine yxm qrA ⟨_,_,rfl,⟨_,rfl⟩,?_⟩
       refine jce rfl fun u=> ?_
       refine zn1 (g:=ybg) (enc:=za1) (k:=(h.evs[k].t,h.evs[k].o)) (v:=h.evs[k].v) rfl rfl rfl (hj _) ⟨.any,_,rfl,⟨_,rfl⟩,?_⟩
       refine jcn ?_;refine ln ?_;refine z8 rfl (zle (enc:=zdt) (k:=(h.evs[k].o,h.evs[k].v.t,h.evs[k].v.k)) rfl rfl rfl fun j2 st2 hj2=> ?_)
       refine rn ?_;refine z8 rfl (zn1 (g:=bv) (enc:=zdt) (k:=(h.evs[k].o,h.evs[k].v.t,h.evs[k].v.k)) (v:=true) rfl rfl rfl (hj2 _) ?_)
       refine rn ?_;have et:=List.take_succ_eq_append_getElem hk
       exact ⟨hk,zd3 hk zk hw,by rw [et];simp only [zdg,zik,zh7,zht,zib,zhw,kTO,kOV];first|(rw [if_pos (by simp_all),if_neg (by simp_all),if_neg (by simp_all),if_neg (by simp_all),if_neg (by simp_all)];exact eA)|(rw [if_neg (by simp_all),if_pos (by simp_all),if_neg (by simp_all),if_neg (by simp_all),if_neg (by simp_all)];exact eA)|(rw [if_neg (by simp_all),if_neg (by simp_all),if_pos (by simp_all),if_pos (by simp_all),if_pos (by simp_all)];exact eA)|(rw [if_neg (by simp_all),if_neg (by simp_all),if_neg (by simp_all),if_neg (by simp_all),if_neg (by simp_all)];exact eA)⟩
      ·refine rn ?_;have et:=List.take_succ_eq_append_getElem hk
       exact ⟨hk,zd3 hk zk hw,by rw [et];simp only [zdg,zik,zh7,zht,zib,zhw,kTO,kOV];first|(rw [if_pos (by simp_all),if_neg (by simp_all),if_neg (by simp_all),if_neg (by simp_all),if_neg (by simp_all)];exact eA)|(rw [if_neg (by simp_all),if_pos (by simp_all),if_neg (by simp_all),if_neg (by simp_all),if_neg (by simp_all)];exact eA)|(rw [if_neg (by simp_all),if_neg (by simp_all),if_pos (by simp_all),if_pos (by simp_all),if_pos (by simp_all)];exact eA)|(rw [if_neg (by simp_all),if_neg (by simp_all),if_neg (by simp_all),if_neg (by simp_all),if_neg (by simp_all)];exact eA)⟩
 ·have qk:=zaz hc33 lk
  refine rn ?_;exact zd4 .nil (.drop [_,_,_,_,_,_,_] _ _) (by rw [zj9 qk zk,qk])
end Go.Proofs
namespace Go.Ab
open Go
theorem ztk {P:Program} {l:Nat} {pend:Option Code} {fn:FuncId} {nt:Nat} {t:Fr} {ps:List Tmp} {asn body:Code} {dd:Nat} {args:List AV} {h:List Res} {R:AV→List Res→Prop} (hps:Nat.beq ps.length args.length=true) (hpn:(ps.all fun p=>Nat.blt p nt)=true)
 (hb:aw P (some l) nt asn (thn (fun s=>∃t' h2,Ent nt s ⟨t',.loop l .ready pend fn nt t ps.toArray asn body dd::h2,[]⟩∧aw P (some l) nt body (ylw l pend fn nt t ps.toArray asn body dd R) ⟨t',.loop l .busy pend fn nt t ps.toArray asn body dd::h2,[]⟩) (fun _ _=>False))
  ⟨zql ps args t,.loop l .ready pend fn nt t ps.toArray asn body dd::h,[]⟩):y1 P (yv l) args (.loop l .ready pend fn nt t ps.toArray asn body dd::h) R:=by
 intro X w v vs hh hv ha
 rw [hv.v_eq]
 obtain ⟨tmps,hl,hsz,hfr⟩:=zh9 hh
 have hlen:ps.length=vs.length:=by rw [Nat.eq_of_beq_eq_true hps];exact ha.length
 have hrun:(zom (.func (.yield l) #[] #[]) vs.toArray).run P w= .ok (.round l fn ((ps.zip vs).foldl (fun tmps (x:Tmp×Value)=>tmps.setIfInBounds x.1 x.2) tmps) asn body) w:=by
  simp only [zom,Deferred.ofValue,Sem.run_bind,Sem.run_pure,Result.andThen_ok,invoke,Instr.yield,zds hl]
  simp only [Array.append_eq_append,Array.empty_append,List.size_toArray]
  rw [if_neg (by omega)]
  simp only [Sem.run_pure]
  congr 2
  rw [←Array.foldl_toList]
  simp
 rw [hrun]
 have hpn':∀p∈ps,p < tmps.size:=fun p hp=>by have:=List.all_eq_true.1 hpn p hp;rw [hsz];exact Nat.le_of_ble_eq_true this
 obtain ⟨z1,z2⟩:=zug hpn' ha hfr
 refine roundIn_of_wpIn (F:=FW none) trivial ?_
 refine wpIn_mono (hb X {tmps:=(ps.zip vs).foldl (fun tmps (x:Tmp×Value)=>tmps.setIfInBounds x.1 x.2) tmps,defers:= []} w ⟨hh,by rw [z2,hsz],z1,rfl⟩) ?_
 rintro e a1 w1 ⟨s1,q1,r1,k1⟩
 cases e with
 |normal=>
  obtain ⟨t',h2,hent,hbody⟩:=q1
  have r1':=hent.2 X a1 w1 r1
  have k1':Keep (k9 (.loop l .ready pend fn nt t ps.toArray asn body dd::h)) w (k9 (.loop l .ready pend fn nt t ps.toArray asn body dd::h2)) w1:=⟨k1.size,fun b hb ho=>⟨(k1.same b hb ho).1,fun hm=>(k1.same b hb ho).2 (hent.1 b hm)⟩,k1.env⟩
  obtain ⟨tmps1,hl1,hsz1,hfr1⟩:=zh9 r1'.heap
  obtain ⟨w2,g1,g2,g3,g4,g5⟩:=zmt (P:=P) (st':= .busy) (pend':=pend) r1'.heap hl1
  refine ⟨w2,?_,?_⟩
  ·simp only [Instr.beginRound,Sem.run_bind,zds hl1,Result.andThen_ok,g1,Sem.run_pure]
  ·have hsim:Sim X nt ⟨t',.loop l .busy pend fn nt t ps.toArray asn body dd::h2,[]⟩ a1 w2:=⟨g2,r1'.size,r1'.fr.keep g3.size g4,r1'.defs⟩
   refine wpIn_mono (hbody X a1 w2 hsim) ?_
   rintro e2 a3 w3 ⟨s3,⟨h1,hp,hR⟩,r3,k3⟩
   have hh3:=r3.heap.perm hp
   obtain ⟨tmps3,hl3,hsz3,hfr3⟩:=zh9 hh3
   have fin:∀(jump:Option Code),(∀b:Bool,b=jump.isNone→R (.v (.bool b)) (.loop l (if jump.isNone then .ready else .done) jump fn nt t ps.toArray asn body dd::h1))→
    ∃v w',(Instr.endRound l jump).run P w3= .ok v w'∧zos X w (.loop l .ready pend fn nt t ps.toArray asn body dd::h) R (.returned v) w':=by
    intro jump hRj
    obtain ⟨w4,f1,f2,f3,f4,f5⟩:=zmt (P:=P) (st':=if jump.isNone then .ready else .done) (pend':=jump) hh3 hl3
    refine ⟨.bool jump.isNone,w4,?_,.bool jump.isNone,.v (.bool jump.isNone),_,rfl,hRj _ rfl,.v _,f2,?_⟩
    ·simp only [Instr.endRound,Sem.run_bind,zds hl3,Result.andThen_ok,f1,Sem.run_pure]
    ·exact (k1'.trans g3).trans ((k3.perm_right hp).trans f3)
   cases e2 with
   |normal=>exact fin none fun b hb=>by subst hb;exact hR
   |ret=>exact fin (some .ret) fun b hb=>by subst hb;exact hR
   |exit id=>exact fin (some (.exit id)) fun b hb=>by subst hb;exact hR
   |goto g=>exact hR.elim
   |panic ch=>exact hR.elim
   |outgrown=>exact hR.elim
 |exit id=>exact q1.elim
 |goto g=>exact q1.elim
 |ret=>exact q1.elim
 |panic ch=>exact q1.elim
 |outgrown=>exact q1.elim
theorem zdn {P:Program} {l:Nat} {pend:Option Code} {fn:FuncId} {nt:Nat} {t:Fr} {ps:List Tmp} {asn body:Code} {dd:Nat} {args:List AV} {h:List Res} {R:AV→List Res→Prop} {lp:LP} (hlp:lp=fun st pend=> .loop l st pend fn nt t ps.toArray asn body dd)
 (hps:Nat.beq ps.length args.length=true) (hpn:(ps.all fun p=>Nat.blt p nt)=true)
 (hb:aw P (some l) nt asn (thn (fun s=>∃t' h2,Ent nt s ⟨t',lp .ready pend::h2,[]⟩∧aw P (some l) nt body (zt8 lp pend R) ⟨t',lp .busy pend::h2,[]⟩) (fun _ _=>False))
  ⟨zql ps args t,lp .ready pend::h,[]⟩):y1 P (yv l) args (lp .ready pend::h) R:=by
 subst hlp
 exact ztk hps hpn hb
end Go.Ab
set_option maxRecDepth 10000
namespace Go.Proofs
open Go Go.Ab
attribute [local irreducible] QR QV OE zch aw zc6 zdc zbg zb8 thn zfa zd9 jch zfo
open Go.H
theorem ynl (bl:Nat) (W:List Res):y7 Tryz.prog 341 [pZ bl] W (fun r h'=>∃b1,h'= .box b1 247 [pZ bl]::W∧r= .fn (.func 343) [] [pZ b1]):=by
 refine z6 Tryz.func341 rfl rfl rfl ?_
 refine rn ?_;refine z8 rfl (w8 rfl rfl rfl fun b1=> ?_)
 refine rn ?_;exact j6 rfl (.refl _ _) ⟨_,rfl,rfl⟩
theorem rAt (h:Hist) (la:h.evs.length≤1000000) (bl:Nat) (fv:AV) (hone:fv.cellsOf=some [fv]) (W:List Res) (w:Nat→Ev→Bool) (hp:∀k (hk:k < h.evs.length) r1 r2 r3 r4 r5,y1 Tryz.prog fv [.agg (evR h.evs[k])] (zdg bl h (h.evs.take k) r1 r2 r3 r4 r5 W) (fun r h'=>h'=zdg bl h (h.evs.take k) r1 r2 r3 r4 r5 W∧r=bv (w k h.evs[k]))):y7 Tryz.prog 316 [pZ bl,fv] (.box bl 252 (zcd h)::W) (fun r h'=>h'=W∧r=zbu (zdj w 0 h.evs)):=by
 refine z6 Tryz.func316 rfl rfl rfl ?_
 refine rn ?_;refine z8 rfl (w8 rfl hone rfl fun b3=> ?_)
 refine z8 rfl (y5 rfl fun b4=> ?_)
 refine z8 rfl (y5 rfl fun b5=> ?_)
 refine rn ?_;refine z8 rfl (v2 rfl rfl (y1.of_fun (ynl bl _)) rfl ?_)
 rintro _ _ ⟨b1,rfl,rfl⟩
 refine rn ?_;refine zmh (fun pend h''=>(pend=none∧zdj w 0 h.evs=none∧h''= .box b5 4 [bv false]:: .box b4 3 [iv 0]:: .box b3 233 [fv]::W)∨(pend=some .ret∧∃k:Nat,zdj w 0 h.evs=some k∧h''= .box b5 4 [bv true]:: .box b4 3 [iv (k:Nat)]:: .box b3 233 [fv]::W)) rfl (fun fn l q lp hlp=> ?_) (fun q h'' hK=> ?_) (fun q h'' c hK=> ?_)
 ·suffices hy:∀k (hk:k < h.evs.length) r1 r2 r3 r4 r5,y1 Tryz.prog (yv l) [iv k,.agg (evR h.evs[k])] (zdg bl h (h.evs.take k) r1 r2 r3 r4 r5 (.box b1 247 [pZ bl]::(fun _=>lp .ready none:: .defs q:: .box b5 4 [bv false]:: .box b4 3 [iv 0]:: .box b3 233 [fv]::W) k)) (fun r h'=>r=bv (!w k h.evs[k])∧h'=zdg bl h (h.evs.take k) r1 r2 r3 r4 r5 (.box b1 247 [pZ bl]::bif w k h.evs[k] then (fun k=>lp .done (some .ret):: .defs q:: .box b5 4 [bv true]:: .box b4 3 [iv (k:Nat)]:: .box b3 233 [fv]::W) k else (fun _=>lp .ready none:: .defs q:: .box b5 4 [bv false]:: .box b4 3 [iv 0]:: .box b3 233 [fv]::W) (k+1))) by
   refine y7.mono (y7.perm ((pt6 _ _ _ _ _ _ _ _).trans (.cons _ (pt2 _ _ _ _))) (yhs h la (yv l) bl b1 w (fun _=>lp .ready none:: .defs q:: .box b5 4 [bv false]:: .box b4 3 [iv 0]:: .box b3 233 [fv]::W) (fun k=>lp .done (some .ret):: .defs q:: .box b5 4 [bv true]:: .box b4 3 [iv (k:Nat)]:: .box b3 233 [fv]::W) hy)) ?_
   rintro _ _ rfl
   cases hr:zdj w 0 h.evs with
   |none=>exact ⟨none,.ready,_,.refl _,by simp,.inl ⟨rfl,rfl,rfl⟩⟩
   |some k=>exact ⟨_,_,_,.refl _,by simp,.inr ⟨rfl,k,rfl,rfl⟩⟩
  intro k hk r1 r2 r3 r4 r5
  refine y1.perm (pt7 _ _ _ _ _ _ _ _ _) (y1.permR ?_)
  refine zdn hlp rfl rfl ?_
  refine rn ?_;refine z8 rfl (y5 rfl fun b7=> ?_)
  refine rn ?_;refine ⟨[(6,iv k),(7,pZ b7),(3,pZ b3),(4,pZ b4),(5,pZ b5)],.box b7 60 (evR h.evs[k])::zdg bl h (h.evs.take k) r1 r2 r3 r4 r5 (.box b1 247 [pZ bl]:: .defs q:: .box b5 4 [bv false]:: .box b4 3 [iv 0]:: .box b3 233 [fv]::W),v6 (zbb (pt1 _ _ _)) es,?_⟩
  refine rn ?_;refine qv rfl rfl (y0 rfl rfl (y1.qt (h2:= [_,_,_,_,_,_,_]) (hp k hk r1 r2 r3 r4 r5) (List.Perm.trans (.cons _ (.cons _ ((pt6 _ _ _ _ _ _ _ _).trans (.cons _ ((pt6 _ _ _ _ _ _ _ _).trans (.cons _ ((pt6 _ _ _ _ _ _ _ _).trans (.cons _ ((pt6 _ _ _ _ _ _ _ _).trans (.cons _ (pt6 _ _ _ _ _ _ _ _))))))))))) (zdm [_,_,_,_,_,_,_] _)))) ?_
  refine rn ?_;refine z7 rfl (fun hc14=> ?_) (fun hc14=> ?_)
  ·have hw:w k h.evs[k]=true:=by simpa using hc14
   refine zf3 (s':=⟨[(6,iv k),(4,pZ b4),(5,pZ b5)],lp .busy none::zdg bl h (h.evs.take k) r1 r2 r3 r4 r5 (.box b1 247 [pZ bl]:: .defs q:: .box b5 4 [bv false]:: .box b4 3 [iv 0]:: .box b3 233 [fv]::W),[]⟩) (eD 1) ?_
   refine rn ?_;exact zq3 (.refl _) ⟨_,((pt1 _ _ _).trans (.cons _ ((pt1 _ _ _).trans (.cons _ ((pt1 _ _ _).trans (.cons _ ((pt1 _ _ _).trans (.cons _ ((pt1 _ _ _).trans (.cons _ ((pt1 _ _ _).trans (.cons _ (pt1 _ _ _))))))))))))),by rw [hw];rfl,by rw [hw];rfl⟩
  ·have hw:w k h.evs[k]=false:=by simpa using hc14
   refine zf3 (s':=⟨[(6,iv k),(4,pZ b4),(5,pZ b5)],lp .busy none::zdg bl h (h.evs.take k) r1 r2 r3 r4 r5 (.box b1 247 [pZ bl]:: .defs q:: .box b5 4 [bv false]:: .box b4 3 [iv 0]:: .box b3 233 [fv]::W),[]⟩) (eD 1) ?_
   refine rn ?_;exact zdf (.refl _) ⟨_,((pt1 _ _ _).trans (.cons _ ((pt1 _ _ _).trans (.cons _ ((pt1 _ _ _).trans (.cons _ ((pt1 _ _ _).trans (.cons _ ((pt1 _ _ _).trans (.cons _ ((pt1 _ _ _).trans (.cons _ (pt1 _ _ _))))))))))))),by rw [hw];rfl,by rw [hw];rfl⟩
 ·obtain ⟨_,hr,rfl⟩|⟨hc,_⟩:=hK
  rotate_left
  ·cases hc
  refine rn ?_;exact zh3 (.refl _) (.cons _ _ _ _ (.one _ _ _ _ _ _ _ rfl inferInstance inferInstance rfl) (.cons _ _ _ _ (.one _ _ _ _ _ _ _ rfl inferInstance inferInstance rfl) .nil)) (.drop [_,_,_] _ _) ⟨rfl,by rw [hr];rfl⟩
 ·obtain ⟨hc,_⟩|⟨hc,k,hr,rfl⟩:=hK
  ·cases hc
  obtain rfl:c= .ret:=by simpa using hc
  refine rn ?_;exact zh3 (.refl _) (.cons _ _ _ _ (.one _ _ _ _ _ _ _ rfl inferInstance inferInstance rfl) (.cons _ _ _ _ (.one _ _ _ _ _ _ _ rfl inferInstance inferInstance rfl) .nil)) (.drop [_,_,_] _ _) ⟨rfl,by rw [hr];rfl⟩
theorem zd6 (o:Option Nat):∃i b,zbu o= .tup [iv i,bv b]:=by
 cases o with
 |none=>exact ⟨_,_,rfl⟩
 |some i=>exact ⟨_,_,rfl⟩
theorem yrh (h:Hist) (la:Lim 3000 h) (bl:Nat) (G:List Res):y7 Tryz.prog 300 [pZ bl] (.box bl 252 (zcd h)::G) (fun r h'=>h'=G∧r=zbu (zct h 1)):=by
 refine z6 Tryz.func300 rfl rfl rfl ?_
 refine rn ?_;refine z8 rfl (w8 rfl rfl rfl fun b1=> ?_)
 refine rn ?_;refine z8 rfl (v2 rfl rfl (y1.perm (pt1 _ _ _) (y1.of_fun (rAt h (Nat.le_trans la.evs (by decide)) bl (.fn (.func 317) [] [pZ b1]) rfl (.box b1 247 [pZ bl]::G) (fun k e=>zbf 1 e (h.evs.take k)) (fun k hk r1 r2 r3 r4 r5=>y1.qt (h2:=G) (y1.of_acall (fs:= []) (cs:= [pZ b1]) (ynn _ bl b1 h _ r1 r2 r3 r4 r5)) (.refl _))))) rfl ?_)
 rintro _ _ ⟨rfl,rfl⟩
 obtain ⟨pi,pb,hpv⟩:∃i b,zbu (zdj (fun k e=>zbf 1 e (h.evs.take k)) 0 h.evs)= .tup [iv i,bv b]:=zd6 _
 rw [hpv]
 refine rn ?_;refine rq 1 ?_
 exact ⟨rfl,hpv.symm⟩
theorem yxk (h:Hist) (la:Lim 3000 h) (bl:Nat) (G:List Res):y7 Tryz.prog 307 [pZ bl] (.box bl 252 (zcd h)::G) (fun r h'=>h'=G∧r=zbu (zct h 2)):=by
 refine z6 Tryz.func307 rfl rfl rfl ?_
 refine rn ?_;refine z8 rfl (w8 rfl rfl rfl fun b1=> ?_)
 refine rn ?_;refine z8 rfl (v2 rfl rfl (y1.perm (pt1 _ _ _) (y1.of_fun (rAt h (Nat.le_trans la.evs (by decide)) bl (.fn (.func 318) [] [pZ b1]) rfl (.box b1 247 [pZ bl]::G) (fun k e=>zbf 2 e (h.evs.take k)) (fun k hk r1 r2 r3 r4 r5=>y1.qt (h2:=G) (y1.of_acall (fs:= []) (cs:= [pZ b1]) (yu7 _ bl b1 h _ r1 r2 r3 r4 r5)) (.refl _))))) rfl ?_)
 rintro _ _ ⟨rfl,rfl⟩
 obtain ⟨pi,pb,hpv⟩:∃i b,zbu (zdj (fun k e=>zbf 2 e (h.evs.take k)) 0 h.evs)= .tup [iv i,bv b]:=zd6 _
 rw [hpv]
 refine rn ?_;refine rq 1 ?_
 exact ⟨rfl,hpv.symm⟩
theorem yrg (h:Hist) (la:Lim 3000 h) (bl:Nat) (G:List Res):y7 Tryz.prog 308 [pZ bl] (.box bl 252 (zcd h)::G) (fun r h'=>h'=G∧r=zbu (zct h 3)):=by
 refine z6 Tryz.func308 rfl rfl rfl ?_
 refine rn ?_;refine z8 rfl (w8 rfl rfl rfl fun b1=> ?_)
 refine rn ?_;refine z8 rfl (v2 rfl rfl (y1.perm (pt1 _ _ _) (y1.of_fun (rAt h (Nat.le_trans la.evs (by decide)) bl (.fn (.func 319) [] [pZ b1]) rfl (.box b1 247 [pZ bl]::G) (fun k e=>zbf 3 e (h.evs.take k)) (fun k hk r1 r2 r3 r4 r5=>y1.qt (h2:=G) (y1.of_acall (fs:= []) (cs:= [pZ b1]) (ynm _ bl b1 h _ r1 r2 r3 r4 r5 (by have:=la.evs;simp;omega))) (.refl _))))) rfl ?_)
 rintro _ _ ⟨rfl,rfl⟩
 obtain ⟨pi,pb,hpv⟩:∃i b,zbu (zdj (fun k e=>zbf 3 e (h.evs.take k)) 0 h.evs)= .tup [iv i,bv b]:=zd6 _
 rw [hpv]
 refine rn ?_;refine rq 1 ?_
 exact ⟨rfl,hpv.symm⟩
theorem yhn (h:Hist) (la:Lim 3000 h) (bl:Nat) (G:List Res):y7 Tryz.prog 309 [pZ bl] (.box bl 252 (zcd h)::G) (fun r h'=>h'=G∧r=zbu (zct h 4)):=by
 refine z6 Tryz.func309 rfl rfl rfl ?_
 refine rn ?_;refine z8 rfl (w8 rfl rfl rfl fun b1=> ?_)
 refine rn ?_;refine z8 rfl (v2 rfl rfl (y1.perm (pt1 _ _ _) (y1.of_fun (rAt h (Nat.le_trans la.evs (by decide)) bl (.fn (.func 320) [] [pZ b1]) rfl (.box b1 247 [pZ bl]::G) (fun k e=>zbf 4 e (h.evs.take k)) (fun k hk r1 r2 r3 r4 r5=>y1.qt (h2:=G) (y1.of_acall (fs:= []) (cs:= [pZ b1]) (ycr _ bl b1 h _ r1 r2 r3 r4 r5 (Nat.le_trans (la.scans _ (List.getElem_mem hk)) (by decide)))) (.refl _))))) rfl ?_)
 rintro _ _ ⟨rfl,rfl⟩
 obtain ⟨pi,pb,hpv⟩:∃i b,zbu (zdj (fun k e=>zbf 4 e (h.evs.take k)) 0 h.evs)= .tup [iv i,bv b]:=zd6 _
 rw [hpv]
 refine rn ?_;refine rq 1 ?_
 exact ⟨rfl,hpv.symm⟩
theorem yxg (h:Hist) (la:Lim 3000 h) (bl:Nat) (G:List Res):y7 Tryz.prog 310 [pZ bl] (.box bl 252 (zcd h)::G) (fun r h'=>h'=G∧r=zbu (zct h 5)):=by
 refine z6 Tryz.func310 rfl rfl rfl ?_
 refine rn ?_;refine z8 rfl (w8 rfl rfl rfl fun b1=> ?_)
 refine rn ?_;refine z8 rfl (v2 rfl rfl (y1.perm (pt1 _ _ _) (y1.of_fun (rAt h (Nat.le_trans la.evs (by decide)) bl (.fn (.func 323) [] [pZ b1]) rfl (.box b1 247 [pZ bl]::G) (fun k e=>zbf 5 e (h.evs.take k)) (fun k hk r1 r2 r3 r4 r5=>y1.qt (h2:=G) (y1.of_acall (fs:= []) (cs:= [pZ b1]) (yu3 _ bl b1 h _ r1 r2 r3 r4 r5 (Nat.le_trans (la.scans _ (List.getElem_mem hk)) (by decide)))) (.refl _))))) rfl ?_)
 rintro _ _ ⟨rfl,rfl⟩
 obtain ⟨pi,pb,hpv⟩:∃i b,zbu (zdj (fun k e=>zbf 5 e (h.evs.take k)) 0 h.evs)= .tup [iv i,bv b]:=zd6 _
 rw [hpv]
 refine rn ?_;refine rq 1 ?_
 exact ⟨rfl,hpv.symm⟩
theorem yu2 (h:Hist) (la:Lim 3000 h) (bl:Nat) (G:List Res):y7 Tryz.prog 311 [pZ bl] (.box bl 252 (zcd h)::G) (fun r h'=>h'=G∧r=zbu (zct h 6)):=by
 refine z6 Tryz.func311 rfl rfl rfl ?_
 refine rn ?_;refine z8 rfl (v2 rfl rfl (id (y1.of_fun (rAt h (Nat.le_trans la.evs (by decide)) bl (.fn (.func 325) [] []) rfl (G) (fun k e=>zbf 6 e (h.evs.take k)) (fun k hk r1 r2 r3 r4 r5=>y1.pure (R:=fun r=>r=bv _) (y1.of_acall (fs:= []) (cs:= []) (yq8 _ (Nat.le_trans (la.scans _ (List.getElem_mem hk)) (by decide)))))))) rfl ?_)
 rintro _ _ ⟨rfl,rfl⟩
 obtain ⟨pi,pb,hpv⟩:∃i b,zbu (zdj (fun k e=>zbf 6 e (h.evs.take k)) 0 h.evs)= .tup [iv i,bv b]:=zd6 _
 rw [hpv]
 refine rn ?_;refine rq 0 ?_
 exact ⟨rfl,hpv.symm⟩
end Go.Proofs
